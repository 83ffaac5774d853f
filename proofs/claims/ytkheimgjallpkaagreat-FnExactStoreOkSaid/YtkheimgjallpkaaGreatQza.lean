/-
  The plain laws: what the pure functions come to, and the statements. Conditions: none.
-/
import Derived.Test.YtkheimgjallpkaaGreatPm
import Derived.Test.YtkheimgjallpkaaGreatQ5
set_option linter.unusedVariables false
set_option linter.unusedSimpArgs false
namespace Go.Proofs.YtkheimgjallpkaaGreat
open Go Sl

theorem inRange_eq (n a b : Int) : impl_inRange n a b = some (decide (a ≤ n ∧ n ≤ b)) := by
  unfold impl_inRange
  by_cases h : n ≥ a <;> simp [h]
theorem l1In_eq (n a b : Int) : spec_l1In n a b = some (decide (a ≤ n ∧ n ≤ b)) := by
  unfold spec_l1In
  by_cases h : n ≥ a <;> simp [h]
theorem Need_eq (q : Int) : impl_Need q = spec_Need q := by
  unfold impl_Need spec_Need
  rw [inRange_eq, l1In_eq]
  simp only [Option.bind_some]
  by_cases h : 0 ≤ q ∧ q ≤ 1000
  · simp only [h, decide_true, Bool.not_true, Bool.false_eq_true, if_false, and_self]
    rw [wrap_ok (n := q + 50) (by omega) (by omega), wrap_ok (n := q + 50 - 1) (by omega) (by omega), wrap_ok (n := q + 49) (by omega) (by omega), show q + 50 - 1 = q + 49 by omega]
  · simp [h]
/-! ### SpaceOk -/
/-- what a quota needs -/
def needV (q : Int) : Int := if 0 ≤ q ∧ q ≤ 1000 then 2 + 2 * ((q + 49) / 50) else 0
theorem needV_range (q : Int) : 0 ≤ needV q ∧ needV q ≤ 42 := by
  unfold needV; split <;> omega
theorem spec_Need_eq (q : Int) : spec_Need q = some (needV q) := by
  unfold spec_Need needV
  rw [l1In_eq]
  simp only [Option.bind_some]
  by_cases h : 0 ≤ q ∧ q ≤ 1000
  · have w1 : IntKind.i64.wrap (q + 49) = q + 49 := wrap_ok (by omega) (by omega)
    have t1 : Int.tdiv (q + 49) 50 = (q + 49) / 50 := Int.tdiv_eq_ediv_of_nonneg (by omega)
    have w2 : IntKind.i64.wrap ((q + 49) / 50) = (q + 49) / 50 := wrap_ok (by omega) (by omega)
    have w3 : IntKind.i64.wrap (2 * ((q + 49) / 50)) = 2 * ((q + 49) / 50) := wrap_ok (by omega) (by omega)
    have w4 : IntKind.i64.wrap (2 + 2 * ((q + 49) / 50)) = 2 + 2 * ((q + 49) / 50) := wrap_ok (by omega) (by omega)
    simp only [w1, t1, w2, w3, w4, h]
    rfl
  · simp [h]
theorem impl_Need_eq (q : Int) : impl_Need q = some (needV q) := by rw [Need_eq, spec_Need_eq]
theorem isTenant_eq (n : Int) : impl_isTenant n = some (decide (1 ≤ n ∧ n ≤ 99)) := by
  unfold impl_isTenant; rw [inRange_eq]; rfl
theorem shares_sum (l : List Share) (h : l.length ≤ 1048576) : 0 ≤ (l.map fun x => needV x.Quota).sum ∧ (l.map fun x => needV x.Quota).sum ≤ 42 * l.length := by
  clear h
  induction l with
  | nil => simp
  | cons x l ih => have := needV_range x.Quota; simp only [List.map_cons, List.sum_cons, List.length_cons]; omega
theorem spec_l19All_eq (s : Shares) (h : s.List.length ≤ 1048576) : spec_l19All s = some ((s.List.map fun x => needV x.Quota).sum + if s.List.length > 0 then 4 else 0) := by
  unfold spec_l19All
  rw [sum_loop (ρ := Int) s.List (fun x => spec_Need x.Quota) (fun x => needV x.Quota) (fun x _ => spec_Need_eq _) (fun x _ => by have := needV_range x.Quota; omega) h 0 (by omega) (by omega)]
  have := shares_sum s.List h
  simp only [bindC_go, Int.zero_add]
  by_cases h0 : ((s.List.length : Nat) : Int) > 0
  · rw [if_pos (by simpa using h0), wrap_ok (by omega) (by omega), if_pos (by omega)]; rfl
  · rw [if_neg (by simpa using h0), if_neg (by omega)]; simp
theorem impl_needOf_eq (s : Shares) (h : s.List.length ≤ 1048576) : impl_needOf s = some (4 + (s.List.map fun x => needV x.Quota).sum) := by
  unfold impl_needOf
  rw [sum_loop (ρ := Int) s.List (fun x => impl_Need x.Quota) (fun x => needV x.Quota) (fun x _ => impl_Need_eq _) (fun x _ => by have := needV_range x.Quota; omega) h 4 (by omega) (by omega)]
  rfl
theorem impl_SharesOk_spec (s : Shares) (h : s.List.length ≤ 1048576) : impl_SharesOk s = spec_SharesOk s := by
  unfold spec_SharesOk impl_SharesOk
  simp only [l1In_eq, inRange_eq, isTenant_eq, Option.bind_some, spec_l19All_eq s h, impl_needOf_eq s h, ge_iff_le]
  by_cases h0 : 0 ≤ s.Size ∧ s.Size ≤ 1000
  · by_cases h4 : ((s.List.length : Nat) : Int) > 4
    · simp [h0, h4]
    · simp only [h0, h4, and_self, decide_true, decide_false, Bool.not_true, Bool.false_eq_true, if_false, Option.bind_some]
      congr 1
      funext _
      by_cases hz : s.List.length = 0
      · have : s.List = [] := List.eq_nil_of_length_eq_zero hz
        simp [this, h0.1]
      · have hz' : ¬ ((s.List.length : Nat) : Int) = 0 := by omega
        simp only [hz', decide_false, Bool.false_eq_true, if_false, Option.bind_some, show s.List.length > 0 by omega, if_true]
        rw [Int.add_comm]
  · simp [h0]
def wgt_KeySlot (x : KeySlot) : Nat := x.Key.length + 0
theorem sz_KeySlot (x : KeySlot) (left : Int) (h1 : 0 ≤ left) (h2 : left ≤ 1048576) (h : Dec.ok x) : laws_szKeySlot x left = some (szV left (wgt_KeySlot x)) := by
  unfold laws_szKeySlot
  show _ = some (szV left (x.Key.length + 0))
  refine sz_str h1 h2 (h.2) fun hle0 hw0 => ?_
  simp only [hw0]
  have g1_0 : 0 ≤ left - ((x.Key.length : Nat) : Int) := by omega
  have g2_0 : left - ((x.Key.length : Nat) : Int) ≤ 1048576 := by omega
  exact sz_end g1_0
theorem eq_KeySlot (a b : KeySlot) : laws_eqKeySlot a b = some (decide (a = b)) := by
  have he : (a = b) ↔ (a.Tenant = b.Tenant ∧ a.Key = b.Key ∧ True) := ⟨fun e => by subst e; simp, fun h => by cases a; cases b; simp_all⟩
  rw [decide_eq_decide.2 he]
  unfold laws_eqKeySlot
  refine eq_step fun _ => ?_
  refine eq_step fun _ => ?_
  exact eq_end
theorem sz_KeySlotS (a : List KeySlot) (left : Int) (h1 : 0 ≤ left) (h2 : left ≤ 1048576) (h : okl a) : laws_szKeySlotS a left = some (szV left (wS wgt_KeySlot a)) := by
  unfold laws_szKeySlotS
  exact szS_of a laws_szKeySlot wgt_KeySlot (fun x hx left h1 h2 => sz_KeySlot x left h1 h2 (h.2 x hx)) h.1 left h1 h2
theorem to_KeySlotS (a : List KeySlot) (h : a.length ≤ 1048576) : laws_toKeySlotS a = some a := by
  unfold laws_toKeySlotS
  rw [mkLen_ok (by omega) (by omega)]
  simp only [Option.bind_some]
  rw [to_loop a _ laws_toKeySlot (fun x _ => rfl) (by omega)]
  rfl
theorem eq_KeySlotS (a b : List KeySlot) (h : a.length ≤ 4611686018427387904) : laws_eqKeySlotS a b = some (decide (a = b)) :=
  eqS_of a b laws_eqKeySlot (fun x y _ _ => eq_KeySlot x y) h
def wgt_KeyDev (x : KeyDev) : Nat := x.Master.length + (wS wgt_KeySlot x.Slots + 0)
theorem sz_KeyDev (x : KeyDev) (left : Int) (h1 : 0 ≤ left) (h2 : left ≤ 1048576) (h : Dec.ok x) : laws_szKeyDev x left = some (szV left (wgt_KeyDev x)) := by
  unfold laws_szKeyDev
  show _ = some (szV left (x.Master.length + (wS wgt_KeySlot x.Slots + 0)))
  refine sz_str h1 h2 (h.1) fun hle0 hw0 => ?_
  simp only [hw0]
  have g1_0 : 0 ≤ left - ((x.Master.length : Nat) : Int) := by omega
  have g2_0 : left - ((x.Master.length : Nat) : Int) ≤ 1048576 := by omega
  rw [sz_KeySlotS x.Slots _ g1_0 g2_0 (h.2.1)]
  refine sz_call g1_0 fun hle1 => ?_
  have g1_1 : 0 ≤ left - ((x.Master.length : Nat) : Int) - ((wS wgt_KeySlot x.Slots : Nat) : Int) := by omega
  have g2_1 : left - ((x.Master.length : Nat) : Int) - ((wS wgt_KeySlot x.Slots : Nat) : Int) ≤ 1048576 := by omega
  exact sz_end g1_1
def bnd_KeyDev (x : KeyDev) : Prop := x.Slots.length ≤ 4611686018427387904
theorem to_KeyDev (x : KeyDev) (h : wgt_KeyDev x ≤ 1048576) : laws_toKeyDev x = some x := by
  unfold laws_toKeyDev
  have h0 : x.Master.length + (wS wgt_KeySlot x.Slots + 0) ≤ 1048576 := h
  simp only [to_KeySlotS x.Slots (wS_len (w := wgt_KeySlot) (l := x.Slots) (by omega)), Option.bind_some]
theorem bnd_of_KeyDev (x : KeyDev) (h : wgt_KeyDev x ≤ 1048576) : bnd_KeyDev x := by
  have h0 : x.Master.length + (wS wgt_KeySlot x.Slots + 0) ≤ 1048576 := h
  exact Nat.le_trans (wS_len (w := wgt_KeySlot) (n := 1048576) (by omega)) (by decide)
theorem eq_KeyDev (a b : KeyDev) (h : bnd_KeyDev a) : laws_eqKeyDev a b = some (decide (a = b)) := by
  have he : (a = b) ↔ (a.Master = b.Master ∧ a.Slots = b.Slots ∧ a.Wiped = b.Wiped ∧ True) := ⟨fun e => by subst e; simp, fun h => by cases a; cases b; simp_all⟩
  rw [decide_eq_decide.2 he]
  unfold laws_eqKeyDev
  refine eq_step fun _ => ?_
  rw [eq_KeySlotS a.Slots b.Slots h]
  refine eq_call fun _ => ?_
  refine eq_step fun _ => ?_
  exact eq_end
theorem eq_Share (a b : Share) : laws_eqShare a b = some (decide (a = b)) := by
  have he : (a = b) ↔ (a.Tenant = b.Tenant ∧ a.Quota = b.Quota ∧ True) := ⟨fun e => by subst e; simp, fun h => by cases a; cases b; simp_all⟩
  rw [decide_eq_decide.2 he]
  unfold laws_eqShare
  refine eq_step fun _ => ?_
  refine eq_step fun _ => ?_
  exact eq_end
theorem sz_ShareS (a : List Share) (left : Int) (h1 : 0 ≤ left) (h2 : left ≤ 1048576) (h : okl a) : laws_szShareS a left = some (szV left a.length) := by
  unfold laws_szShareS
  exact sz_len h1 h2 h.1
theorem to_ShareS (a : List Share) (h : a.length ≤ 1048576) : laws_toShareS a = some a := by
  unfold laws_toShareS
  rw [mkLen_ok (by omega) (by omega)]
  simp only [Option.bind_some]
  rw [to_loop a _ laws_toShare (fun x _ => rfl) (by omega)]
  rfl
theorem eq_ShareS (a b : List Share) (h : a.length ≤ 4611686018427387904) : laws_eqShareS a b = some (decide (a = b)) :=
  eqS_of a b laws_eqShare (fun x y _ _ => eq_Share x y) h
def wgt_Shares (x : Shares) : Nat := x.List.length + 0
theorem sz_Shares (x : Shares) (left : Int) (h1 : 0 ≤ left) (h2 : left ≤ 1048576) (h : Dec.ok x) : laws_szShares x left = some (szV left (wgt_Shares x)) := by
  unfold laws_szShares
  show _ = some (szV left (x.List.length + 0))
  rw [sz_ShareS x.List _ h1 h2 (h.2)]
  refine sz_call h1 fun hle0 => ?_
  have g1_0 : 0 ≤ left - ((x.List.length : Nat) : Int) := by omega
  have g2_0 : left - ((x.List.length : Nat) : Int) ≤ 1048576 := by omega
  exact sz_end g1_0
def bnd_Shares (x : Shares) : Prop := x.List.length ≤ 4611686018427387904
theorem to_Shares (x : Shares) (h : wgt_Shares x ≤ 1048576) : laws_toShares x = some x := by
  unfold laws_toShares
  have h0 : x.List.length + 0 ≤ 1048576 := h
  simp only [to_ShareS x.List (by omega), Option.bind_some]
theorem bnd_of_Shares (x : Shares) (h : wgt_Shares x ≤ 1048576) : bnd_Shares x := by
  have h0 : x.List.length + 0 ≤ 1048576 := h
  exact (show x.List.length ≤ 4611686018427387904 by omega)
theorem eq_Shares (a b : Shares) (h : bnd_Shares a) : laws_eqShares a b = some (decide (a = b)) := by
  have he : (a = b) ↔ (a.Size = b.Size ∧ a.List = b.List ∧ True) := ⟨fun e => by subst e; simp, fun h => by cases a; cases b; simp_all⟩
  rw [decide_eq_decide.2 he]
  unfold laws_eqShares
  refine eq_step fun _ => ?_
  rw [eq_ShareS a.List b.List h]
  refine eq_call fun _ => ?_
  exact eq_end
def wgt_Ent (x : Ent) : Nat := x.Key.length + (x.Val.length + 0)
theorem sz_Ent (x : Ent) (left : Int) (h1 : 0 ≤ left) (h2 : left ≤ 1048576) (h : Dec.ok x) : laws_szEnt x left = some (szV left (wgt_Ent x)) := by
  unfold laws_szEnt
  show _ = some (szV left (x.Key.length + (x.Val.length + 0)))
  refine sz_str h1 h2 (h.1) fun hle0 hw0 => ?_
  simp only [hw0]
  have g1_0 : 0 ≤ left - ((x.Key.length : Nat) : Int) := by omega
  have g2_0 : left - ((x.Key.length : Nat) : Int) ≤ 1048576 := by omega
  refine sz_str g1_0 g2_0 (h.2.2.2) fun hle1 hw1 => ?_
  simp only [hw1]
  have g1_1 : 0 ≤ left - ((x.Key.length : Nat) : Int) - ((x.Val.length : Nat) : Int) := by omega
  have g2_1 : left - ((x.Key.length : Nat) : Int) - ((x.Val.length : Nat) : Int) ≤ 1048576 := by omega
  exact sz_end g1_1
theorem eq_Ent (a b : Ent) : laws_eqEnt a b = some (decide (a = b)) := by
  have he : (a = b) ↔ (a.Key = b.Key ∧ a.Seq = b.Seq ∧ a.Del = b.Del ∧ a.Val = b.Val ∧ True) := ⟨fun e => by subst e; simp, fun h => by cases a; cases b; simp_all⟩
  rw [decide_eq_decide.2 he]
  unfold laws_eqEnt
  refine eq_step fun _ => ?_
  refine eq_step fun _ => ?_
  refine eq_step fun _ => ?_
  refine eq_step fun _ => ?_
  exact eq_end
theorem sz_EntS (a : List Ent) (left : Int) (h1 : 0 ≤ left) (h2 : left ≤ 1048576) (h : okl a) : laws_szEntS a left = some (szV left (wS wgt_Ent a)) := by
  unfold laws_szEntS
  exact szS_of a laws_szEnt wgt_Ent (fun x hx left h1 h2 => sz_Ent x left h1 h2 (h.2 x hx)) h.1 left h1 h2
theorem to_EntS (a : List Ent) (h : a.length ≤ 1048576) : laws_toEntS a = some a := by
  unfold laws_toEntS
  rw [mkLen_ok (by omega) (by omega)]
  simp only [Option.bind_some]
  rw [to_loop a _ laws_toEnt (fun x _ => rfl) (by omega)]
  rfl
theorem eq_EntS (a b : List Ent) (h : a.length ≤ 4611686018427387904) : laws_eqEntS a b = some (decide (a = b)) :=
  eqS_of a b laws_eqEnt (fun x y _ _ => eq_Ent x y) h
theorem sz_EntSS (a : List (List Ent)) (left : Int) (h1 : 0 ≤ left) (h2 : left ≤ 1048576) (h : okl a) : laws_szEntSS a left = some (szV left (wS (fun l => wS wgt_Ent l) a)) := by
  unfold laws_szEntSS
  exact szS_of a laws_szEntS (fun l => wS wgt_Ent l) (fun x hx left h1 h2 => sz_EntS x left h1 h2 (h.2 x hx)) h.1 left h1 h2
theorem to_EntSS (a : List (List Ent)) (h : wS (fun l => wS wgt_Ent l) a ≤ 1048576) : laws_toEntSS a = some a := by
  have hl := wS_len h
  unfold laws_toEntSS
  rw [mkLen_ok (by omega) (by omega)]
  simp only [Option.bind_some]
  rw [to_loop a _ laws_toEntS (fun x hx => (to_EntS x (wS_len (wS_mem h hx)))) (by omega)]
  rfl
theorem eq_EntSS (a b : List (List Ent)) (h : a.length ≤ 4611686018427387904 ∧ ∀ y ∈ a, y.length ≤ 4611686018427387904) : laws_eqEntSS a b = some (decide (a = b)) :=
  eqS_of a b laws_eqEntS (fun x y hx _ => eq_EntS x y (h.2 x hx)) h.1
theorem sz_IntS (a : List Int) (left : Int) (h1 : 0 ≤ left) (h2 : left ≤ 1048576) (h : okl a) : laws_szIntS a left = some (szV left a.length) := by
  unfold laws_szIntS
  exact sz_len h1 h2 h.1
theorem to_IntS (a : List Int) (h : a.length ≤ 1048576) : laws_toIntS a = some a := by
  have := fun z => to_loop a z (fun x => some x) (fun _ _ => rfl) (by omega)
  simp only [Option.bind_some] at this
  unfold laws_toIntS
  rw [mkLen_ok (by omega) (by omega)]
  simp only [Option.bind_some]
  rw [this]
  rfl
theorem eq_IntS (a b : List Int) (h : a.length ≤ 4611686018427387904) : laws_eqIntS a b = some (decide (a = b)) := by
  have := eqS_of a b (fun x y => some (decide (x = y))) (fun _ _ _ _ => rfl) h
  simp only [Option.bind_some] at this
  exact this
def wgt_Eng (x : Eng) : Nat := wS wgt_Ent x.Mem + (wS (fun l => wS wgt_Ent l) x.Tables + (x.Snaps.length + 0))
theorem sz_Eng (x : Eng) (left : Int) (h1 : 0 ≤ left) (h2 : left ≤ 1048576) (h : Dec.ok x) : laws_szEng x left = some (szV left (wgt_Eng x)) := by
  unfold laws_szEng
  show _ = some (szV left (wS wgt_Ent x.Mem + (wS (fun l => wS wgt_Ent l) x.Tables + (x.Snaps.length + 0))))
  rw [sz_EntS x.Mem _ h1 h2 (h.1)]
  refine sz_call h1 fun hle0 => ?_
  have g1_0 : 0 ≤ left - ((wS wgt_Ent x.Mem : Nat) : Int) := by omega
  have g2_0 : left - ((wS wgt_Ent x.Mem : Nat) : Int) ≤ 1048576 := by omega
  rw [sz_EntSS x.Tables _ g1_0 g2_0 (h.2.1)]
  refine sz_call g1_0 fun hle1 => ?_
  have g1_1 : 0 ≤ left - ((wS wgt_Ent x.Mem : Nat) : Int) - ((wS (fun l => wS wgt_Ent l) x.Tables : Nat) : Int) := by omega
  have g2_1 : left - ((wS wgt_Ent x.Mem : Nat) : Int) - ((wS (fun l => wS wgt_Ent l) x.Tables : Nat) : Int) ≤ 1048576 := by omega
  rw [sz_IntS x.Snaps _ g1_1 g2_1 (h.2.2.2)]
  refine sz_call g1_1 fun hle2 => ?_
  have g1_2 : 0 ≤ left - ((wS wgt_Ent x.Mem : Nat) : Int) - ((wS (fun l => wS wgt_Ent l) x.Tables : Nat) : Int) - ((x.Snaps.length : Nat) : Int) := by omega
  have g2_2 : left - ((wS wgt_Ent x.Mem : Nat) : Int) - ((wS (fun l => wS wgt_Ent l) x.Tables : Nat) : Int) - ((x.Snaps.length : Nat) : Int) ≤ 1048576 := by omega
  exact sz_end g1_2
def bnd_Eng (x : Eng) : Prop := x.Mem.length ≤ 4611686018427387904 ∧ (x.Tables.length ≤ 4611686018427387904 ∧ ∀ y ∈ x.Tables, y.length ≤ 4611686018427387904) ∧ x.Snaps.length ≤ 4611686018427387904
theorem to_Eng (x : Eng) (h : wgt_Eng x ≤ 1048576) : laws_toEng x = some x := by
  unfold laws_toEng
  have h0 : wS wgt_Ent x.Mem + (wS (fun l => wS wgt_Ent l) x.Tables + (x.Snaps.length + 0)) ≤ 1048576 := h
  simp only [to_EntS x.Mem (wS_len (w := wgt_Ent) (l := x.Mem) (by omega)), to_EntSS x.Tables (by omega), to_IntS x.Snaps (by omega), Option.bind_some]
theorem bnd_of_Eng (x : Eng) (h : wgt_Eng x ≤ 1048576) : bnd_Eng x := by
  have h0 : wS wgt_Ent x.Mem + (wS (fun l => wS wgt_Ent l) x.Tables + (x.Snaps.length + 0)) ≤ 1048576 := h
  exact ⟨Nat.le_trans (wS_len (w := wgt_Ent) (n := 1048576) (by omega)) (by decide), ⟨Nat.le_trans (wS_len (w := (fun l => wS wgt_Ent l)) (l := x.Tables) (n := 1048576) (by omega)) (by decide), fun y hy => Nat.le_trans (wS_len (wS_mem (w := (fun l => wS wgt_Ent l)) (l := x.Tables) (n := 1048576) (by omega) hy)) (by decide)⟩, (show x.Snaps.length ≤ 4611686018427387904 by omega)⟩
theorem eq_Eng (a b : Eng) (h : bnd_Eng a) : laws_eqEng a b = some (decide (a = b)) := by
  have he : (a = b) ↔ (a.Mem = b.Mem ∧ a.Tables = b.Tables ∧ a.Seq = b.Seq ∧ a.Snaps = b.Snaps ∧ True) := ⟨fun e => by subst e; simp, fun h => by cases a; cases b; simp_all⟩
  rw [decide_eq_decide.2 he]
  unfold laws_eqEng
  rw [eq_EntS a.Mem b.Mem h.1]
  refine eq_call fun _ => ?_
  rw [eq_EntSS a.Tables b.Tables h.2.1]
  refine eq_call fun _ => ?_
  refine eq_step fun _ => ?_
  rw [eq_IntS a.Snaps b.Snaps h.2.2]
  refine eq_call fun _ => ?_
  exact eq_end
def wgt_STen (x : STen) : Nat := wgt_Eng x.Eng + 0
theorem sz_STen (x : STen) (left : Int) (h1 : 0 ≤ left) (h2 : left ≤ 1048576) (h : Dec.ok x) : laws_szSTen x left = some (szV left (wgt_STen x)) := by
  unfold laws_szSTen
  show _ = some (szV left (wgt_Eng x.Eng + 0))
  rw [sz_Eng x.Eng _ h1 h2 (⟨h.2.2.2.1, h.2.2.2.2.1, h.2.2.2.2.2.1, h.2.2.2.2.2.2⟩)]
  refine sz_call h1 fun hle0 => ?_
  have g1_0 : 0 ≤ left - ((wgt_Eng x.Eng : Nat) : Int) := by omega
  have g2_0 : left - ((wgt_Eng x.Eng : Nat) : Int) ≤ 1048576 := by omega
  exact sz_end g1_0
def bnd_STen (x : STen) : Prop := bnd_Eng x.Eng
theorem to_STen (x : STen) (h : wgt_STen x ≤ 1048576) : laws_toSTen x = some x := by
  unfold laws_toSTen
  have h0 : wgt_Eng x.Eng + 0 ≤ 1048576 := h
  simp only [to_Eng x.Eng (by omega), Option.bind_some]
theorem bnd_of_STen (x : STen) (h : wgt_STen x ≤ 1048576) : bnd_STen x := by
  have h0 : wgt_Eng x.Eng + 0 ≤ 1048576 := h
  exact bnd_of_Eng x.Eng (by omega)
theorem eq_STen (a b : STen) (h : bnd_STen a) : laws_eqSTen a b = some (decide (a = b)) := by
  have he : (a = b) ↔ (a.Id = b.Id ∧ a.Epoch = b.Epoch ∧ a.Base = b.Base ∧ a.Eng = b.Eng ∧ True) := ⟨fun e => by subst e; simp, fun h => by cases a; cases b; simp_all⟩
  rw [decide_eq_decide.2 he]
  unfold laws_eqSTen
  refine eq_step fun _ => ?_
  refine eq_step fun _ => ?_
  refine eq_step fun _ => ?_
  rw [eq_Eng a.Eng b.Eng h]
  refine eq_call fun _ => ?_
  exact eq_end
def wgt_LogRow (x : LogRow) : Nat := x.Text.length + 0
theorem sz_LogRow (x : LogRow) (left : Int) (h1 : 0 ≤ left) (h2 : left ≤ 1048576) (h : Dec.ok x) : laws_szLogRow x left = some (szV left (wgt_LogRow x)) := by
  unfold laws_szLogRow
  show _ = some (szV left (x.Text.length + 0))
  refine sz_str h1 h2 (h.2.2.2.1) fun hle0 hw0 => ?_
  simp only [hw0]
  have g1_0 : 0 ≤ left - ((x.Text.length : Nat) : Int) := by omega
  have g2_0 : left - ((x.Text.length : Nat) : Int) ≤ 1048576 := by omega
  exact sz_end g1_0
theorem eq_LogRow (a b : LogRow) : laws_eqLogRow a b = some (decide (a = b)) := by
  have he : (a = b) ↔ (a.Tenant = b.Tenant ∧ a.Boot = b.Boot ∧ a.Seq = b.Seq ∧ a.Text = b.Text ∧ a.Synced = b.Synced ∧ True) := ⟨fun e => by subst e; simp, fun h => by cases a; cases b; simp_all⟩
  rw [decide_eq_decide.2 he]
  unfold laws_eqLogRow
  refine eq_step fun _ => ?_
  refine eq_step fun _ => ?_
  refine eq_step fun _ => ?_
  refine eq_step fun _ => ?_
  refine eq_step fun _ => ?_
  exact eq_end
theorem sz_STenS (a : List STen) (left : Int) (h1 : 0 ≤ left) (h2 : left ≤ 1048576) (h : okl a) : laws_szSTenS a left = some (szV left (wS wgt_STen a)) := by
  unfold laws_szSTenS
  exact szS_of a laws_szSTen wgt_STen (fun x hx left h1 h2 => sz_STen x left h1 h2 (h.2 x hx)) h.1 left h1 h2
theorem to_STenS (a : List STen) (h : wS wgt_STen a ≤ 1048576) : laws_toSTenS a = some a := by
  have hl := wS_len h
  unfold laws_toSTenS
  rw [mkLen_ok (by omega) (by omega)]
  simp only [Option.bind_some]
  rw [to_loop a _ laws_toSTen (fun x hx => (to_STen x (wS_mem h hx))) (by omega)]
  rfl
theorem eq_STenS (a b : List STen) (h : a.length ≤ 4611686018427387904 ∧ ∀ y ∈ a, bnd_STen y) : laws_eqSTenS a b = some (decide (a = b)) :=
  eqS_of a b laws_eqSTen (fun x y hx _ => eq_STen x y (h.2 x hx)) h.1
theorem sz_LogRowS (a : List LogRow) (left : Int) (h1 : 0 ≤ left) (h2 : left ≤ 1048576) (h : okl a) : laws_szLogRowS a left = some (szV left (wS wgt_LogRow a)) := by
  unfold laws_szLogRowS
  exact szS_of a laws_szLogRow wgt_LogRow (fun x hx left h1 h2 => sz_LogRow x left h1 h2 (h.2 x hx)) h.1 left h1 h2
theorem to_LogRowS (a : List LogRow) (h : a.length ≤ 1048576) : laws_toLogRowS a = some a := by
  unfold laws_toLogRowS
  rw [mkLen_ok (by omega) (by omega)]
  simp only [Option.bind_some]
  rw [to_loop a _ laws_toLogRow (fun x _ => rfl) (by omega)]
  rfl
theorem eq_LogRowS (a b : List LogRow) (h : a.length ≤ 4611686018427387904) : laws_eqLogRowS a b = some (decide (a = b)) :=
  eqS_of a b laws_eqLogRow (fun x y _ _ => eq_LogRow x y) h
def wgt_Store (x : Store) : Nat := x.Secret.length + (wgt_KeyDev x.Keys + (wgt_Shares x.Shares + (wS wgt_STen x.Tens + (wS wgt_LogRow x.Rows + (wS wgt_LogRow x.Hist + 0)))))
theorem sz_Store (x : Store) (left : Int) (h1 : 0 ≤ left) (h2 : left ≤ 1048576) (h : Dec.ok x) : laws_szStore x left = some (szV left (wgt_Store x)) := by
  unfold laws_szStore
  show _ = some (szV left (x.Secret.length + (wgt_KeyDev x.Keys + (wgt_Shares x.Shares + (wS wgt_STen x.Tens + (wS wgt_LogRow x.Rows + (wS wgt_LogRow x.Hist + 0)))))))
  refine sz_str h1 h2 (h.1) fun hle0 hw0 => ?_
  simp only [hw0]
  have g1_0 : 0 ≤ left - ((x.Secret.length : Nat) : Int) := by omega
  have g2_0 : left - ((x.Secret.length : Nat) : Int) ≤ 1048576 := by omega
  rw [sz_KeyDev x.Keys _ g1_0 g2_0 (⟨h.2.1, h.2.2.1, h.2.2.2.1⟩)]
  refine sz_call g1_0 fun hle1 => ?_
  have g1_1 : 0 ≤ left - ((x.Secret.length : Nat) : Int) - ((wgt_KeyDev x.Keys : Nat) : Int) := by omega
  have g2_1 : left - ((x.Secret.length : Nat) : Int) - ((wgt_KeyDev x.Keys : Nat) : Int) ≤ 1048576 := by omega
  rw [sz_Shares x.Shares _ g1_1 g2_1 (⟨h.2.2.2.2.1, h.2.2.2.2.2.1⟩)]
  refine sz_call g1_1 fun hle2 => ?_
  have g1_2 : 0 ≤ left - ((x.Secret.length : Nat) : Int) - ((wgt_KeyDev x.Keys : Nat) : Int) - ((wgt_Shares x.Shares : Nat) : Int) := by omega
  have g2_2 : left - ((x.Secret.length : Nat) : Int) - ((wgt_KeyDev x.Keys : Nat) : Int) - ((wgt_Shares x.Shares : Nat) : Int) ≤ 1048576 := by omega
  rw [sz_STenS x.Tens _ g1_2 g2_2 (h.2.2.2.2.2.2.1)]
  refine sz_call g1_2 fun hle3 => ?_
  have g1_3 : 0 ≤ left - ((x.Secret.length : Nat) : Int) - ((wgt_KeyDev x.Keys : Nat) : Int) - ((wgt_Shares x.Shares : Nat) : Int) - ((wS wgt_STen x.Tens : Nat) : Int) := by omega
  have g2_3 : left - ((x.Secret.length : Nat) : Int) - ((wgt_KeyDev x.Keys : Nat) : Int) - ((wgt_Shares x.Shares : Nat) : Int) - ((wS wgt_STen x.Tens : Nat) : Int) ≤ 1048576 := by omega
  rw [sz_LogRowS x.Rows _ g1_3 g2_3 (h.2.2.2.2.2.2.2.1)]
  refine sz_call g1_3 fun hle4 => ?_
  have g1_4 : 0 ≤ left - ((x.Secret.length : Nat) : Int) - ((wgt_KeyDev x.Keys : Nat) : Int) - ((wgt_Shares x.Shares : Nat) : Int) - ((wS wgt_STen x.Tens : Nat) : Int) - ((wS wgt_LogRow x.Rows : Nat) : Int) := by omega
  have g2_4 : left - ((x.Secret.length : Nat) : Int) - ((wgt_KeyDev x.Keys : Nat) : Int) - ((wgt_Shares x.Shares : Nat) : Int) - ((wS wgt_STen x.Tens : Nat) : Int) - ((wS wgt_LogRow x.Rows : Nat) : Int) ≤ 1048576 := by omega
  rw [sz_LogRowS x.Hist _ g1_4 g2_4 (h.2.2.2.2.2.2.2.2.1)]
  refine sz_call g1_4 fun hle5 => ?_
  have g1_5 : 0 ≤ left - ((x.Secret.length : Nat) : Int) - ((wgt_KeyDev x.Keys : Nat) : Int) - ((wgt_Shares x.Shares : Nat) : Int) - ((wS wgt_STen x.Tens : Nat) : Int) - ((wS wgt_LogRow x.Rows : Nat) : Int) - ((wS wgt_LogRow x.Hist : Nat) : Int) := by omega
  have g2_5 : left - ((x.Secret.length : Nat) : Int) - ((wgt_KeyDev x.Keys : Nat) : Int) - ((wgt_Shares x.Shares : Nat) : Int) - ((wS wgt_STen x.Tens : Nat) : Int) - ((wS wgt_LogRow x.Rows : Nat) : Int) - ((wS wgt_LogRow x.Hist : Nat) : Int) ≤ 1048576 := by omega
  exact sz_end g1_5
def bnd_Store (x : Store) : Prop := bnd_KeyDev x.Keys ∧ bnd_Shares x.Shares ∧ (x.Tens.length ≤ 4611686018427387904 ∧ ∀ y ∈ x.Tens, bnd_STen y) ∧ x.Rows.length ≤ 4611686018427387904 ∧ x.Hist.length ≤ 4611686018427387904
theorem to_Store (x : Store) (h : wgt_Store x ≤ 1048576) : laws_toStore x = some x := by
  unfold laws_toStore
  have h0 : x.Secret.length + (wgt_KeyDev x.Keys + (wgt_Shares x.Shares + (wS wgt_STen x.Tens + (wS wgt_LogRow x.Rows + (wS wgt_LogRow x.Hist + 0))))) ≤ 1048576 := h
  simp only [to_KeyDev x.Keys (by omega), to_Shares x.Shares (by omega), to_STenS x.Tens (by omega), to_LogRowS x.Rows (wS_len (w := wgt_LogRow) (l := x.Rows) (by omega)), to_LogRowS x.Hist (wS_len (w := wgt_LogRow) (l := x.Hist) (by omega)), Option.bind_some]
theorem bnd_of_Store (x : Store) (h : wgt_Store x ≤ 1048576) : bnd_Store x := by
  have h0 : x.Secret.length + (wgt_KeyDev x.Keys + (wgt_Shares x.Shares + (wS wgt_STen x.Tens + (wS wgt_LogRow x.Rows + (wS wgt_LogRow x.Hist + 0))))) ≤ 1048576 := h
  exact ⟨bnd_of_KeyDev x.Keys (by omega), bnd_of_Shares x.Shares (by omega), ⟨Nat.le_trans (wS_len (w := wgt_STen) (l := x.Tens) (n := 1048576) (by omega)) (by decide), fun y hy => bnd_of_STen y (wS_mem (w := wgt_STen) (l := x.Tens) (n := 1048576) (by omega) hy)⟩, Nat.le_trans (wS_len (w := wgt_LogRow) (n := 1048576) (by omega)) (by decide), Nat.le_trans (wS_len (w := wgt_LogRow) (n := 1048576) (by omega)) (by decide)⟩
theorem eq_Store (a b : Store) (h : bnd_Store a) : laws_eqStore a b = some (decide (a = b)) := by
  have he : (a = b) ↔ (a.Secret = b.Secret ∧ a.Keys = b.Keys ∧ a.Shares = b.Shares ∧ a.Tens = b.Tens ∧ a.Rows = b.Rows ∧ a.Hist = b.Hist ∧ a.Boot = b.Boot ∧ True) := ⟨fun e => by subst e; simp, fun h => by cases a; cases b; simp_all⟩
  rw [decide_eq_decide.2 he]
  unfold laws_eqStore
  refine eq_step fun _ => ?_
  rw [eq_KeyDev a.Keys b.Keys h.1]
  refine eq_call fun _ => ?_
  rw [eq_Shares a.Shares b.Shares h.2.1]
  refine eq_call fun _ => ?_
  rw [eq_STenS a.Tens b.Tens h.2.2.1]
  refine eq_call fun _ => ?_
  rw [eq_LogRowS a.Rows b.Rows h.2.2.2.1]
  refine eq_call fun _ => ?_
  rw [eq_LogRowS a.Hist b.Hist h.2.2.2.2]
  refine eq_call fun _ => ?_
  refine eq_step fun _ => ?_
  exact eq_end
theorem sLt_compl : ∀ a b : List UInt8, (sLt b a || decide (b = a)) = !sLt a b
  | [], [] => rfl
  | [], b :: y => by simp [sLt, Op.bytesLess]
  | a :: x, [] => by simp [sLt, Op.bytesLess]
  | a :: x, b :: y => by
    have ih := sLt_compl x y
    simp only [sLt] at ih
    simp only [sLt, Op.bytesLess]
    by_cases h1 : a < b
    · have h2 : ¬ b < a := fun h => absurd (UInt8.lt_trans h1 h) (UInt8.lt_irrefl _)
      have h3 : ¬ b = a := fun h => by subst h; exact UInt8.lt_irrefl _ h1
      simp [h1, h2, h3]
    · by_cases h2 : b < a
      · have h3 : ¬ a = b := fun h => by subst h; exact UInt8.lt_irrefl _ h2
        simp [h1, h2, h3]
      · have h3 : a = b := by
          rw [UInt8.lt_iff_toNat_lt] at h1 h2
          apply UInt8.toNat_inj.1
          omega
        subst h3
        simp only [h1, decide_false, Bool.false_or, beq_self_eq_true, Bool.true_and, List.cons.injEq, true_and]
        exact ih
theorem all_loop {body : Int → Option (Ctl Int (Ctl Unit Bool))} (pass : Nat → Bool) (n : Nat) (h : ∀ k, k < n → body (k : Int) = some (if pass k = true then .go ((k : Int) + 1) else .done (.done false))) (hn : body (n : Int) = some (.done (.go ()))) :
    loopO body 0 = some (if (List.range n).all pass = true then .go () else .done false) := by
  have key : ∀ d k, k + d = n → loopO body (k : Int) = some (if ((List.range n).drop k).all pass = true then .go () else .done false) := by
    intro d
    induction d with
    | zero =>
      intro k hk
      obtain rfl : k = n := by omega
      rw [loopO_eq, hn, List.drop_of_length_le (by simp)]
      rfl
    | succ d ih =>
      intro k hk
      have hd : (List.range n).drop k = k :: (List.range n).drop (k + 1) := by rw [List.drop_eq_getElem_cons (by simp; omega)]; simp
      rw [loopO_eq, h k (by omega), hd, List.all_cons]
      cases hp : pass k with
      | true =>
        have := ih (k + 1) (by omega)
        rw [show ((k + 1 : Nat) : Int) = (k : Int) + 1 by omega] at this
        simpa using this
      | false => simp
  have := key n 0 (by omega)
  simpa using this
theorem cmpI_eq (x y : Int) : cmp_Compare_26527 x y = some (if x < y then -1 else if x > y then 1 else 0) := by
  unfold cmp_Compare_26527 cmp_isNaN_26527
  by_cases h1 : x < y <;> by_cases h2 : x > y <;> simp [h1, h2]
theorem cmpS_eq (x y : List UInt8) : cmp_Compare_83645 x y = some (if sLt x y = true then -1 else if (!(sLt x y || decide (x = y))) = true then 1 else 0) := by
  unfold cmp_Compare_83645 cmp_isNaN_83645
  simp only [decide_true, Bool.not_true, Option.bind_some, Bool.false_eq_true, if_false]
  split
  · rfl
  · split <;> rfl
theorem sLt_trans : ∀ {a b c : List UInt8}, sLt a b = true → sLt b c = true → sLt a c = true
  | [], [], _, h, _ => by simp [sLt, Op.bytesLess] at h
  | [], _ :: _, [], _, h => by simp [sLt, Op.bytesLess] at h
  | [], _ :: _, _ :: _, _, _ => rfl
  | _ :: _, [], _, h, _ => by simp [sLt, Op.bytesLess] at h
  | _ :: _, _ :: _, [], _, h => by simp [sLt, Op.bytesLess] at h
  | x :: a, y :: b, z :: c, h1, h2 => by
    simp only [sLt, Op.bytesLess, Bool.or_eq_true, decide_eq_true_eq, Bool.and_eq_true, beq_iff_eq] at h1 h2 ⊢
    rcases h1 with h1 | ⟨rfl, h1⟩
    · rcases h2 with h2 | ⟨rfl, _⟩
      · exact .inl (UInt8.lt_trans h1 h2)
      · exact .inl h1
    · rcases h2 with h2 | ⟨rfl, h2⟩
      · exact .inl h2
      · exact .inr ⟨rfl, sLt_trans h1 h2⟩
theorem sLt_irrefl (a : List UInt8) : sLt a a = false := by
  have := sLt_compl a a
  simpa using this
/-- an entry as required -/
def entV (e : Ent) : Bool := decide (1 ≤ (e.Key.length : Int) ∧ (e.Key.length : Int) ≤ 10) && (decide (0 ≤ e.Seq ∧ e.Seq ≤ 1000000) && (decide ((e.Val.length : Int) ≤ 16) && (!e.Del || decide (e.Val = []))))
/-- one entry ahead of another -/
def entLt (a b : Ent) : Bool := sLt a.Key b.Key || (decide (a.Key = b.Key) && decide (a.Seq > b.Seq))
/-- the entry at a place, and the one ahead of it -/
def entP (l : List Ent) (k : Nat) : Bool := match l[k]? with
  | some e => entV e && (match k with | 0 => true | j + 1 => match l[j]? with | some d => entLt d e | none => true)
  | none => true
theorem entP_at (l : List Ent) (k : Nat) (h : k < l.length) : entP l k = (entV l[k] && (if h0 : 0 < k then entLt (l[k - 1]'(by omega)) l[k] else true)) := by
  unfold entP
  rw [List.getElem?_eq_getElem h]
  cases k with
  | zero => rfl
  | succ j =>
    simp only [Nat.zero_lt_succ, dif_pos, Nat.add_sub_cancel]
    rw [List.getElem?_eq_getElem (by omega)]
/-- entries in order -/
def entsV (l : List Ent) : Bool := (List.range l.length).all (entP l)
theorem spec_l9Ent_eq (e : Ent) : spec_l9Ent e = some (entV e) := by
  unfold spec_l9Ent spec_l7Op entV
  simp only [l1In_eq, Option.bind_some]
  by_cases h1 : 1 ≤ (e.Key.length : Int) ∧ (e.Key.length : Int) ≤ 10 <;> by_cases h2 : 0 ≤ e.Seq ∧ e.Seq ≤ 1000000 <;> by_cases h3 : (e.Val.length : Int) ≤ 16 <;> cases h4 : e.Del <;>
    simp only [h1, h2, h3, and_self, decide_true, decide_false, if_true, if_false, Option.bind_some, Bool.true_and, Bool.false_and, Bool.not_true, Bool.not_false, Bool.false_eq_true, Bool.true_or, Bool.false_or, Bool.and_true, Bool.and_false] <;> cases decide (e.Val = []) <;> rfl
theorem entOk_eq (e : Ent) : impl_entOk e = some (entV e) := by
  unfold impl_entOk impl_isKey impl_isNumber impl_isVal entV
  simp only [inRange_eq, Option.bind_some]
  by_cases h1 : 1 ≤ (e.Key.length : Int) ∧ (e.Key.length : Int) ≤ 10 <;> by_cases h2 : 0 ≤ e.Seq ∧ e.Seq ≤ 1000000 <;> by_cases h3 : (e.Val.length : Int) ≤ 16 <;> cases h4 : e.Del <;>
    simp only [h1, h2, h3, and_self, decide_true, decide_false, if_true, if_false, Option.bind_some, Bool.true_and, Bool.false_and, Bool.not_true, Bool.not_false, Bool.false_eq_true, Bool.true_or, Bool.false_or, Bool.and_true, Bool.and_false, Bool.not_not] <;> cases decide (e.Val = []) <;> rfl
theorem spec_l9Ahead_eq (a b : Ent) : spec_l9Ahead a b = some (entLt a b) := by
  unfold spec_l9Ahead entLt
  cases sLt a.Key b.Key <;> by_cases h : a.Key = b.Key <;> simp [h]
theorem cmpOr_eq (x y : Int) : cmp_Or_26527 [x, y] = some (if x ≠ 0 then x else y) := by
  unfold cmp_Or_26527
  by_cases hx : x = 0
  · by_cases hy : y = 0
    · rw [loopO_count (fun k => (k : Int)) 2 (r := Ctl.go ()) ?h0]
      case h0 => rfl
      · simp [hx, hy]
      · intro k hk
        have : k = 0 ∨ k = 1 := by omega
        rcases this with rfl | rfl
        · simp [idx, hx]; rfl
        · simp [idx, hy]; rfl
      · rfl
    · rw [loopO_eq]
      simp only [idx, hx]
      simp
      rw [loopO_eq]
      have : IntKind.i64.wrap 1 = 1 := by decide
      simp [this, hy]
  · rw [loopO_eq]
    simp [idx, hx]
theorem compareEnts_eq (a b : Ent) : ∃ r, impl_compareEnts a b = some r ∧ decide (r ≥ 0) = !entLt a b := by
  unfold impl_compareEnts entLt
  rw [cmpS_eq, cmpI_eq]
  simp only [Option.bind_some, cmpOr_eq]
  refine ⟨_, rfl, ?_⟩
  by_cases c : sLt a.Key b.Key = true
  · simp [c]
  · have c' : sLt a.Key b.Key = false := by simpa using c
    rw [if_neg c, c']
    by_cases c2 : a.Key = b.Key
    · rw [decide_eq_true c2]
      by_cases c3 : b.Seq < a.Seq
      · simp [c3]
      · by_cases c4 : b.Seq > a.Seq <;> simp [c3, c4]
    · rw [decide_eq_false c2]
      rfl
theorem all_loop' {body : Int → Option (Ctl Int (Ctl Unit Bool))} (pass : Nat → Bool) (n : Nat) (h : ∀ k, k < n → body (k : Int) = some (if pass k = true then .go ((k : Int) + 1) else .done (.done false))) (hn : body (n : Int) = some (.done (.go ()))) :
    bindC (loopO body 0) (fun (_ : Unit) => some true) = some ((List.range n).all pass) := by
  rw [all_loop pass n h hn]
  cases (List.range n).all pass <;> rfl
theorem spec_l9Ents_eq (l : List Ent) (h : l.length ≤ 1048576) : spec_l9Ents l = some (entsV l) := by
  unfold spec_l9Ents entsV
  refine all_loop' (entP l) l.length ?_ (by simp)
  intro k hk
  simp only [idx_nat l k hk, Option.bind_some, spec_l9Ent_eq]
  rw [if_pos (by simpa using hk), wrap_ok (n := (k : Int) + 1) (by omega) (by omega), entP_at l k hk]
  cases hf : entV l[k] with
  | false => simp
  | true =>
    by_cases h0 : 0 < k
    · have hw : IntKind.i64.wrap ((k : Int) - 1) = ((k - 1 : Nat) : Int) := by rw [wrap_ok (by omega) (by omega)]; omega
      rw [dif_pos h0, if_neg (by simp), if_pos (by simp; omega)]
      simp only [hw, idx_nat l (k - 1) (by omega), Option.bind_some, spec_l9Ahead_eq]
      cases entLt (l[k - 1]'(by omega)) l[k] <;> simp
    · have hk0 : k = 0 := by omega
      subst hk0
      simp
theorem impl_inOrder_eq (l : List Ent) (h : l.length ≤ 1048576) : impl_inOrder l = some (entsV l) := by
  unfold impl_inOrder entsV
  refine all_loop' (entP l) l.length ?_ (by simp)
  intro k hk
  simp only [idx_nat l k hk, Option.bind_some, entOk_eq]
  rw [if_pos (by simpa using hk), wrap_ok (n := (k : Int) + 1) (by omega) (by omega), entP_at l k hk]
  cases hf : entV l[k] with
  | false => simp
  | true =>
    by_cases h0 : 0 < k
    · have hw : IntKind.i64.wrap ((k : Int) - 1) = ((k - 1 : Nat) : Int) := by rw [wrap_ok (by omega) (by omega)]; omega
      obtain ⟨c, hc, hc2⟩ := compareEnts_eq (l[k - 1]'(by omega)) l[k]
      rw [dif_pos h0, if_neg (by simp), if_pos (by simp; omega)]
      simp only [hw, idx_nat l (k - 1) (by omega), Option.bind_some, hc, hc2]
      cases entLt (l[k - 1]'(by omega)) l[k] <;> simp
    · have hk0 : k = 0 := by omega
      subst hk0
      simp
/-- of two entries in order: the key is less, or the same and newer -/
theorem ents_lt {l : List Ent} (hv : entsV l = true) : ∀ (j : Nat) (hj : j < l.length) (i : Nat) (hi : i < j), sLt (l[i]'(by omega)).Key l[j].Key = true ∨ ((l[i]'(by omega)).Key = l[j].Key ∧ (l[i]'(by omega)).Seq > l[j].Seq) := by
  intro j
  induction j with
  | zero => intro _ i hi; omega
  | succ j ih =>
    intro hj i hi
    have hp : entLt (l[j]'(by omega)) l[j + 1] = true := by
      unfold entsV at hv
      rw [List.all_eq_true] at hv
      have := hv (j + 1) (by simp; omega)
      rw [entP_at l (j + 1) hj, dif_pos (by omega), Bool.and_eq_true] at this
      exact this.2
    unfold entLt at hp
    simp only [Bool.or_eq_true, Bool.and_eq_true, decide_eq_true_eq] at hp
    by_cases e : i = j
    · subst e; exact hp
    · rcases ih (by omega) i (by omega) with h1 | ⟨h1, h2⟩
      · rcases hp with h3 | ⟨h3, _⟩
        · exact .inl (sLt_trans h1 h3)
        · rw [← h3]; exact .inl h1
      · rcases hp with h3 | ⟨h3, h4⟩
        · rw [h1]; exact .inl h3
        · exact .inr ⟨h1.trans h3, by omega⟩
/-- the least and the greatest number -/
def rangeV (l : List Ent) : Int × Int := l.foldl (fun s e => (goMin s.1 e.Seq, goMax s.2 e.Seq)) (1000001, -1)
theorem rangeV_take (l : List Ent) (k : Nat) (h : k < l.length) : rangeV (l.take (k + 1)) = (goMin (rangeV (l.take k)).1 l[k].Seq, goMax (rangeV (l.take k)).2 l[k].Seq) := by
  unfold rangeV
  rw [show l.take (k + 1) = l.take k ++ [l[k]] by rw [List.take_add_one, List.getElem?_eq_getElem h]; rfl, List.foldl_append]
  rfl
theorem impl_seqRange_eq (l : List Ent) (h : l.length ≤ 1048576) : impl_seqRange l = some (rangeV l) := by
  unfold impl_seqRange
  rw [loopO_count (fun k => ((rangeV (l.take k)).1, (rangeV (l.take k)).2, (k : Int))) l.length (r := Ctl.go (rangeV l)) ?h0]
  case h0 => rfl
  · rfl
  · intro k hk
    simp only [idx_nat l k hk, Option.bind_some, rangeV_take l k hk]
    rw [if_pos (by simpa using hk), wrap_ok (n := (k : Int) + 1) (by omega) (by omega)]
    rfl
  · simp
theorem spec_l20Bounds_eq (l : List Ent) (h : l.length ≤ 1048576) : spec_l20Bounds l = some (rangeV l) := by
  unfold spec_l20Bounds
  rw [loopO_count (fun k => ((rangeV (l.take k)).1, (rangeV (l.take k)).2, (k : Int))) l.length (r := Ctl.go (rangeV l)) ?h0]
  case h0 => rfl
  · rfl
  · intro k hk
    simp only [idx_nat l k hk, Option.bind_some, rangeV_take l k hk]
    rw [if_pos (by simpa using hk), wrap_ok (n := (k : Int) + 1) (by omega) (by omega)]
    unfold goMin goMax
    by_cases c1 : l[k].Seq < (rangeV (l.take k)).1 <;> by_cases c2 : l[k].Seq > (rangeV (l.take k)).2 <;> simp [c1, c2]
  · simp
/-- at most so many entries, in order -/
def memV (l : List Ent) : Bool := decide (l.length ≤ 60) && entsV l
theorem spec_MemOk_eq (l : List Ent) (h : l.length ≤ 1048576) : spec_MemOk l = some (memV l) := by
  unfold spec_MemOk memV
  simp only [spec_l9Ents_eq l h, Option.bind_some]
  by_cases c : l.length ≤ 60
  · simp [c]; omega
  · simp [c]; omega
theorem impl_MemOk_eq (l : List Ent) (h : l.length ≤ 1048576) : impl_MemOk l = some (memV l) := by
  unfold impl_MemOk memV
  simp only [impl_inOrder_eq l h, Option.bind_some]
  by_cases c : l.length ≤ 60
  · simp [c]; omega
  · simp [c]; omega
/-- tables below a number, each below the one ahead of it -/
def tabsV (seq : Int) : Int → List (List Ent) → Bool
  | _, [] => true
  | low, t :: r => (decide (t ≠ []) && (entsV t && (decide ((rangeV t).2 < low) && decide ((rangeV t).2 ≤ seq)))) && tabsV seq (rangeV t).1 r
/-- snapshots in order -/
def snapP (seq : Int) (l : List Int) (k : Nat) : Bool := match l[k]? with
  | some s => decide (0 ≤ s ∧ s ≤ seq) && (match k with | 0 => true | j + 1 => match l[j]? with | some d => decide (d < s) | none => true)
  | none => true
theorem snapP_at (seq : Int) (l : List Int) (k : Nat) (h : k < l.length) : snapP seq l k = (decide (0 ≤ l[k] ∧ l[k] ≤ seq) && (if h0 : 0 < k then decide (l[k - 1]'(by omega) < l[k]) else true)) := by
  unfold snapP
  rw [List.getElem?_eq_getElem h]
  cases k with
  | zero => rfl
  | succ j =>
    simp only [Nat.zero_lt_succ, dif_pos, Nat.add_sub_cancel]
    rw [List.getElem?_eq_getElem (by omega)]
def snapsV (seq : Int) (l : List Int) : Bool := (List.range l.length).all (snapP seq l)
def totalV (l : List (List Ent)) : Nat := (l.map List.length).sum
/-- an engine as required -/
def engV (e : Eng) : Bool := (decide (0 ≤ e.Seq ∧ e.Seq ≤ 1000000) && (decide (e.Snaps.length ≤ 4) && (decide (e.Tables.length ≤ 6) && (decide (totalV e.Tables + e.Mem.length ≤ 400) && (memV e.Mem && (decide ((rangeV e.Mem).2 ≤ e.Seq) && tabsV e.Seq (rangeV e.Mem).1 e.Tables)))))) && snapsV e.Seq e.Snaps
theorem total_take (l : List (List Ent)) (k : Nat) (h : k < l.length) : totalV (l.take (k + 1)) = totalV (l.take k) + l[k].length := by
  unfold totalV
  rw [show l.take (k + 1) = l.take k ++ [l[k]] by rw [List.take_add_one, List.getElem?_eq_getElem h]; rfl, List.map_append, List.sum_append]
  simp
theorem total_le (l : List (List Ent)) (k : Nat) : totalV (l.take k) ≤ totalV l := by
  unfold totalV
  conv => rhs; rw [← List.take_append_drop k l]
  rw [List.map_append, List.sum_append]
  omega
theorem impl_totalOf_eq (l : List (List Ent)) (h : l.length ≤ 1048576) (ht : totalV l ≤ 1048576) : impl_totalOf l = some (totalV l : Int) := by
  unfold impl_totalOf
  rw [loopO_count (fun k => ((totalV (l.take k) : Int), (k : Int))) l.length (r := Ctl.go (totalV l : Int)) ?h0]
  case h0 => rfl
  · rfl
  · intro k hk
    have h1 := total_take l k hk
    have h2 := total_le l (k + 1)
    simp only [idx_nat l k hk, Option.bind_some, h1]
    rw [if_pos (by simpa using hk), wrap_ok (n := (k : Int) + 1) (by omega) (by omega), wrap_ok (by omega) (by omega)]
    rfl
  · simp
theorem impl_tablesOk_eq (e : Eng) (h1 : e.Mem.length ≤ 1048576) (h2 : e.Tables.length ≤ 1048576) (h3 : totalV e.Tables ≤ 1048576) :
    impl_tablesOk e = some (decide (e.Tables.length ≤ 6) && (decide (totalV e.Tables + e.Mem.length ≤ 400) && (memV e.Mem && (decide ((rangeV e.Mem).2 ≤ e.Seq) && tabsV e.Seq (rangeV e.Mem).1 e.Tables)))) := by
  have hlen : ∀ t ∈ e.Tables, t.length ≤ 1048576 := fun t ht => Nat.le_trans (sum_mem List.length ht) h3
  unfold impl_tablesOk
  rw [impl_totalOf_eq _ h2 h3]
  simp only [impl_MemOk_eq _ h1, impl_seqRange_eq _ h1, Option.bind_some]
  by_cases c1 : e.Tables.length ≤ 6
  · rw [decide_eq_true c1, decide_eq_false (by omega : ¬ ((e.Tables.length : Nat) : Int) > 6), wrap_ok (by omega) (by omega)]
    by_cases c2 : totalV e.Tables + e.Mem.length ≤ 400
    · rw [decide_eq_true c2, decide_eq_false (by omega : ¬ ((totalV e.Tables : Int) + ((e.Mem.length : Nat) : Int) > 400))]
      cases c3 : memV e.Mem with
      | false => simp
      | true =>
        by_cases c4 : (rangeV e.Mem).2 ≤ e.Seq
        · rw [decide_eq_true c4, decide_eq_false (by omega : ¬ (rangeV e.Mem).2 > e.Seq)]
          simp only [Bool.false_eq_true, if_false, Option.bind_some, Bool.not_true, Bool.true_and]
          rw [loopO_is (fun k s => s.2 = (k : Int) ∧ tabsV e.Seq (rangeV e.Mem).1 e.Tables = tabsV e.Seq s.1 (e.Tables.drop k)) e.Tables.length (bif tabsV e.Seq (rangeV e.Mem).1 e.Tables then Ctl.go () else Ctl.done false) ?h0 ?h1 ?h2]
          case h0 => exact ⟨rfl, rfl⟩
          · cases tabsV e.Seq (rangeV e.Mem).1 e.Tables <;> rfl
          · rintro k ⟨low, i⟩ hk ⟨rfl, he⟩
            have hd : e.Tables.drop k = e.Tables[k] :: e.Tables.drop (k + 1) := List.drop_eq_getElem_cons hk
            have hkl := hlen _ (List.getElem_mem hk)
            rw [he, hd]
            simp only [tabsV, idx_nat e.Tables k hk, Option.bind_some, impl_seqRange_eq _ hkl, impl_inOrder_eq _ hkl]
            rw [if_pos (by simpa using hk), wrap_ok (n := (k : Int) + 1) (by omega) (by omega)]
            by_cases d1 : e.Tables[k] = []
            · right; simp [d1]
            · have d1' : ¬ ((e.Tables[k].length : Nat) : Int) = 0 := by have := List.length_pos_iff.2 d1; omega
              rw [decide_eq_false d1', decide_eq_true d1]
              cases d2 : entsV e.Tables[k] with
              | false => right; simp
              | true =>
                by_cases d3 : (rangeV e.Tables[k]).2 < low
                · by_cases d4 : (rangeV e.Tables[k]).2 ≤ e.Seq
                  · left
                    refine ⟨((rangeV e.Tables[k]).1, (k : Int) + 1), ?_, by simp, ?_⟩
                    · simp [show ¬ low ≤ (rangeV e.Tables[k]).2 by omega, show ¬ e.Seq < (rangeV e.Tables[k]).2 by omega]
                    · simp [d3, d4]
                  · right; simp [d4, show ¬ low ≤ (rangeV e.Tables[k]).2 by omega, show e.Seq < (rangeV e.Tables[k]).2 by omega]
                · right; simp [d3, show low ≤ (rangeV e.Tables[k]).2 by omega]
          · rintro ⟨low, i⟩ ⟨rfl, he⟩
            rw [he, List.drop_length]
            simp [tabsV]
        · rw [decide_eq_false c4, decide_eq_true (by omega : (rangeV e.Mem).2 > e.Seq)]
          simp
    · rw [decide_eq_false c2, decide_eq_true (by omega : (totalV e.Tables : Int) + ((e.Mem.length : Nat) : Int) > 400)]
      simp
  · rw [decide_eq_false c1, decide_eq_true (by omega : ((e.Tables.length : Nat) : Int) > 6)]
    rfl
theorem impl_EngOk_eq (e : Eng) (h1 : e.Mem.length ≤ 1048576) (h2 : e.Tables.length ≤ 1048576) (h3 : totalV e.Tables ≤ 1048576) (h4 : e.Snaps.length ≤ 1048576) : impl_EngOk e = some (engV e) := by
  unfold impl_EngOk impl_isNumber engV
  simp only [impl_tablesOk_eq e h1 h2 h3, inRange_eq, Option.bind_some]
  by_cases c1 : 0 ≤ e.Seq ∧ e.Seq ≤ 1000000
  · rw [decide_eq_true c1]
    by_cases c2 : e.Snaps.length ≤ 4
    · rw [decide_eq_true c2, decide_eq_false (by omega : ¬ ((e.Snaps.length : Nat) : Int) > 4)]
      simp only [Bool.not_true, Bool.false_eq_true, if_false, Option.bind_some, Bool.true_and]
      generalize (decide (e.Tables.length ≤ 6) && (decide (totalV e.Tables + e.Mem.length ≤ 400) && (memV e.Mem && (decide ((rangeV e.Mem).2 ≤ e.Seq) && tabsV e.Seq (rangeV e.Mem).1 e.Tables)))) = q
      cases q with
      | false => rfl
      | true =>
        simp only [Bool.not_true, Bool.false_eq_true, if_false, Bool.true_and]
        unfold snapsV
        refine all_loop' (snapP e.Seq e.Snaps) e.Snaps.length ?_ (by simp)
        intro k hk
        simp only [idx_nat e.Snaps k hk, Option.bind_some]
        rw [if_pos (by simpa using hk), wrap_ok (n := (k : Int) + 1) (by omega) (by omega), snapP_at e.Seq e.Snaps k hk]
        by_cases d1 : 0 ≤ e.Snaps[k] ∧ e.Snaps[k] ≤ e.Seq
        · rw [decide_eq_true d1]
          by_cases h0 : 0 < k
          · have hw : IntKind.i64.wrap ((k : Int) - 1) = ((k - 1 : Nat) : Int) := by rw [wrap_ok (by omega) (by omega)]; omega
            rw [dif_pos h0, if_neg (by simp), if_pos (by simp; omega)]
            simp only [hw, idx_nat e.Snaps (k - 1) (by omega), Option.bind_some]
            by_cases d2 : e.Snaps[k - 1]'(by omega) < e.Snaps[k]
            · simp [d2, show ¬ e.Snaps[k] ≤ e.Snaps[k - 1]'(by omega) by omega]
            · simp [d2, show e.Snaps[k] ≤ e.Snaps[k - 1]'(by omega) by omega]
          · obtain rfl : k = 0 := by omega
            simp
        · rw [decide_eq_false d1]
          simp
    · rw [decide_eq_false c2, decide_eq_true (by omega : ((e.Snaps.length : Nat) : Int) > 4)]
      simp
  · rw [decide_eq_false c1]
    simp
theorem spec_EngOk_eq (e : Eng) (h1 : e.Mem.length ≤ 1048576) (h2 : e.Tables.length ≤ 1048576) (h3 : totalV e.Tables ≤ 1048576) (h4 : e.Snaps.length ≤ 1048576) : spec_EngOk e = some (engV e) := by
  have hlen : ∀ t ∈ e.Tables, t.length ≤ 1048576 := fun t ht => Nat.le_trans (sum_mem List.length ht) h3
  unfold spec_EngOk engV
  simp only [spec_MemOk_eq _ h1, l1In_eq, spec_l20Bounds_eq _ h1, Option.bind_some]
  cases c3 : memV e.Mem with
  | false => simp
  | true =>
    by_cases c1 : e.Tables.length ≤ 6
    · rw [decide_eq_true c1, decide_eq_false (by omega : ¬ ((e.Tables.length : Nat) : Int) > 6)]
      by_cases c5 : 0 ≤ e.Seq ∧ e.Seq ≤ 1000000
      · rw [decide_eq_true c5]
        by_cases c6 : e.Snaps.length ≤ 4
        · rw [decide_eq_true c6, decide_eq_false (by omega : ¬ ((e.Snaps.length : Nat) : Int) > 4)]
          by_cases c4 : (rangeV e.Mem).2 ≤ e.Seq
          · rw [decide_eq_true c4, decide_eq_false (by omega : ¬ (rangeV e.Mem).2 > e.Seq)]
            simp only [Bool.not_true, Bool.false_eq_true, if_false, Option.bind_some, Bool.true_and]
            have hL := loopO_is (ρ := Ctl Int Bool) (s0 := ((rangeV e.Mem).1, ((e.Mem.length : Nat) : Int), (0 : Int))) (body := fun (S18 : Int × Int × Int) => if (decide (S18.2.2 < ((e.Tables.length : Nat) : Int))) = true then ((idx e.Tables S18.2.2).bind fun E23 =>
                (spec_l20Bounds E23).bind fun R26 =>
                (if (decide (((E23.length : Nat) : Int) = (0 : Int))) = true then (some true)
                else ((spec_l9Ents E23).bind fun R32 =>
                if (!R32) = true then (some true)
                else (if (decide (R26.2 ≥ S18.1)) = true then (some true)
                else (some (decide (R26.2 > e.Seq)))))).bind (fun (T29 : Bool) =>
                if T29 = true then (some (.done (.done false)))
                else (some (.go (R26.1, IntKind.i64.wrap (S18.2.1 + ((E23.length : Nat) : Int)), IntKind.i64.wrap (S18.2.2 + (1 : Int)))))))
                else (some (.done (.go S18.2.1))))
              (fun k s => s.2.2 = (k : Int) ∧ s.2.1 = (totalV (e.Tables.take k) : Int) + e.Mem.length ∧ tabsV e.Seq (rangeV e.Mem).1 e.Tables = tabsV e.Seq s.1 (e.Tables.drop k)) e.Tables.length
              (bif tabsV e.Seq (rangeV e.Mem).1 e.Tables then Ctl.go ((totalV e.Tables : Int) + e.Mem.length) else Ctl.done false) ⟨rfl, by simp [totalV], rfl⟩ (by
                rintro k ⟨low, tot, i⟩ hk ⟨h5, h6, he⟩
                simp only at h5 h6 he
                subst h5 h6
                have hd : e.Tables.drop k = e.Tables[k] :: e.Tables.drop (k + 1) := List.drop_eq_getElem_cons hk
                have hkl := hlen _ (List.getElem_mem hk)
                have t1 := total_take e.Tables k hk
                have t2 := total_le e.Tables (k + 1)
                rw [he, hd]
                simp only [tabsV, idx_nat e.Tables k hk, Option.bind_some, spec_l20Bounds_eq _ hkl, spec_l9Ents_eq _ hkl]
                rw [if_pos (by simpa using hk), wrap_ok (n := (k : Int) + 1) (by omega) (by omega), wrap_ok (n := (totalV (e.Tables.take k) : Int) + e.Mem.length + ((e.Tables[k].length : Nat) : Int)) (by omega) (by omega)]
                by_cases d1 : e.Tables[k] = []
                · right; simp [d1]
                · have d1' : ¬ ((e.Tables[k].length : Nat) : Int) = 0 := by have := List.length_pos_iff.2 d1; omega
                  rw [decide_eq_false d1', decide_eq_true d1]
                  cases d2 : entsV e.Tables[k] with
                  | false => right; simp
                  | true =>
                    by_cases d3 : (rangeV e.Tables[k]).2 < low
                    · by_cases d4 : (rangeV e.Tables[k]).2 ≤ e.Seq
                      · left
                        refine ⟨((rangeV e.Tables[k]).1, (totalV (e.Tables.take k) : Int) + e.Mem.length + ((e.Tables[k].length : Nat) : Int), (k : Int) + 1), ?_, by simp, by simp only [t1]; omega, ?_⟩
                        · simp [show ¬ low ≤ (rangeV e.Tables[k]).2 by omega, show ¬ e.Seq < (rangeV e.Tables[k]).2 by omega]
                        · simp [d3, d4]
                      · right; simp [d4, show ¬ low ≤ (rangeV e.Tables[k]).2 by omega, show e.Seq < (rangeV e.Tables[k]).2 by omega]
                    · right; simp [d3, show low ≤ (rangeV e.Tables[k]).2 by omega]) (by
                rintro ⟨low, tot, i⟩ ⟨h5, h6, he⟩
                simp only at h5 h6 he
                subst h5 h6
                rw [he, List.drop_length]
                simp [tabsV])
            rw [hL]
            cases tabsV e.Seq (rangeV e.Mem).1 e.Tables with
            | false => simp
            | true =>
              simp only [if_true, bindC_go, Bool.and_true]
              rw [all_loop (snapP e.Seq e.Snaps) e.Snaps.length ?hp ?hq]
              case hq => simp
              case hp =>
                intro k hk
                simp only [idx_nat e.Snaps k hk, Option.bind_some]
                rw [if_pos (by simpa using hk), wrap_ok (n := (k : Int) + 1) (by omega) (by omega), snapP_at e.Seq e.Snaps k hk]
                by_cases d1 : 0 ≤ e.Snaps[k] ∧ e.Snaps[k] ≤ e.Seq
                · rw [decide_eq_true d1]
                  by_cases h0 : 0 < k
                  · have hw : IntKind.i64.wrap ((k : Int) - 1) = ((k - 1 : Nat) : Int) := by rw [wrap_ok (by omega) (by omega)]; omega
                    rw [dif_pos h0, if_neg (by simp), if_pos (by simp; omega)]
                    simp only [hw, idx_nat e.Snaps (k - 1) (by omega), Option.bind_some]
                    by_cases d2 : e.Snaps[k - 1]'(by omega) < e.Snaps[k]
                    · simp [d2, show ¬ e.Snaps[k] ≤ e.Snaps[k - 1]'(by omega) by omega]
                    · simp [d2, show e.Snaps[k] ≤ e.Snaps[k - 1]'(by omega) by omega]
                  · obtain rfl : k = 0 := by omega
                    simp
                · rw [decide_eq_false d1]
                  simp
              have hS' : (List.range e.Snaps.length).all (snapP e.Seq e.Snaps) = snapsV e.Seq e.Snaps := rfl
              rw [hS']
              have hc : decide ((totalV e.Tables : Int) + ((e.Mem.length : Nat) : Int) ≤ 400) = decide (totalV e.Tables + e.Mem.length ≤ 400) := decide_eq_decide.2 (by omega)
              cases snapsV e.Seq e.Snaps with
              | false => simp
              | true => simp only [if_true, cond_true, bindC_go, hc, Bool.true_and, Bool.and_true]
          · rw [decide_eq_false c4, decide_eq_true (by omega : (rangeV e.Mem).2 > e.Seq)]
            simp
        · rw [decide_eq_false c6, decide_eq_true (by omega : ((e.Snaps.length : Nat) : Int) > 4)]
          simp
      · rw [decide_eq_false c5]
        simp
    · rw [decide_eq_false c1, decide_eq_true (by omega : ((e.Tables.length : Nat) : Int) > 6)]
      simp
theorem totalV_le (l : List (List Ent)) (n : Nat) (h : wS (fun t => wS wgt_Ent t) l ≤ n) : totalV l ≤ n := by
  have key : ∀ l : List (List Ent), totalV l ≤ (l.map fun t => wS wgt_Ent t).sum := by
    intro l
    induction l with
    | nil => exact Nat.le_refl _
    | cons t r ih =>
      have h2 : t.length ≤ wS wgt_Ent t := Nat.le_add_right _ _
      unfold totalV at ih ⊢
      simp only [List.map_cons, List.sum_cons]
      omega
  have := key l
  have h' : l.length + (l.map fun t => wS wgt_Ent t).sum ≤ n := h
  omega
theorem eng_lens (e : Eng) (h : wgt_Eng e ≤ 1048576) : e.Mem.length ≤ 1048576 ∧ e.Tables.length ≤ 1048576 ∧ totalV e.Tables ≤ 1048576 ∧ e.Snaps.length ≤ 1048576 := by
  have h0 : wS wgt_Ent e.Mem + (wS (fun t => wS wgt_Ent t) e.Tables + (e.Snaps.length + 0)) ≤ 1048576 := h
  exact ⟨wS_len (w := wgt_Ent) (by omega), wS_len (w := fun t => wS wgt_Ent t) (by omega), totalV_le _ _ (by omega), by omega⟩
theorem cloneEnts_eq (s : List Ent) (h : s.length ≤ 1048576) : slices_Clone_94167 s = some s := by
  unfold slices_Clone_94167
  rw [app_ok (by simp; omega) (by simp; omega)]
  rfl
theorem cloneInts_eq (s : List Int) (h : s.length ≤ 1048576) : slices_Clone_88240 s = some s := by
  unfold slices_Clone_88240
  rw [app_ok (by simp; omega) (by simp; omega)]
  rfl
theorem impl_copyEng_eq (e : Eng) (h1 : e.Mem.length ≤ 1048576) (h2 : e.Tables.length ≤ 1048576) (h3 : ∀ t ∈ e.Tables, t.length ≤ 1048576) (h4 : e.Snaps.length ≤ 1048576) : impl_copyEng e = some e := by
  unfold impl_copyEng
  simp only [cloneEnts_eq _ h1, cloneInts_eq _ h4, Option.bind_some]
  rw [loopO_count (fun k => ((k : Int), e.Tables.take k)) e.Tables.length (r := Ctl.go e.Tables) ?h0]
  case h0 => rfl
  · rfl
  · intro k hk
    have ht : e.Tables.take (k + 1) = e.Tables.take k ++ [e.Tables[k]] := by rw [List.take_add_one, List.getElem?_eq_getElem hk]; rfl
    simp only [idx_nat e.Tables k hk, Option.bind_some, cloneEnts_eq _ (h3 _ (List.getElem_mem hk))]
    rw [if_pos (by simpa using hk), wrap_ok (n := (k : Int) + 1) (by omega) (by omega), app_ok (by simp; omega) (by simp; omega), ht]
    rfl
  · simp
theorem spec_l20Copy_eq (e : Eng) (h1 : e.Mem.length ≤ 1048576) (h2 : e.Tables.length ≤ 1048576) (h3 : ∀ t ∈ e.Tables, t.length ≤ 1048576) (h4 : e.Snaps.length ≤ 1048576) : spec_l20Copy e = some e := by
  have happ : ∀ t : List Ent, t.length ≤ 1048576 → app 48 ([] : List Ent) t = some t := fun t ht => by rw [app_ok (by simp; omega) (by simp; omega)]; rfl
  unfold spec_l20Copy
  rw [happ _ h1, app_ok (l := ([] : List Int)) (k := e.Snaps) (by simp; omega) (by simp; omega)]
  simp only [Option.bind_some]
  rw [loopO_count (fun k => ((k : Int), e.Tables.take k)) e.Tables.length (r := Ctl.go e.Tables) ?h0]
  case h0 => rfl
  · rfl
  · intro k hk
    have ht : e.Tables.take (k + 1) = e.Tables.take k ++ [e.Tables[k]] := by rw [List.take_add_one, List.getElem?_eq_getElem hk]; rfl
    simp only [idx_nat e.Tables k hk, Option.bind_some, happ _ (h3 _ (List.getElem_mem hk))]
    rw [if_pos (by simpa using hk), wrap_ok (n := (k : Int) + 1) (by omega) (by omega), app_ok (by simp; omega) (by simp; omega), ht]
    rfl
  · simp
theorem snaps_at {seq : Int} {l : List Int} (hv : snapsV seq l = true) (k : Nat) (hk : k < l.length) : (0 ≤ l[k] ∧ l[k] ≤ seq) ∧ (0 < k → l[k - 1]'(by omega) < l[k]) := by
  unfold snapsV at hv
  rw [List.all_eq_true] at hv
  have := hv k (by simpa using hk)
  rw [snapP_at seq l k hk, Bool.and_eq_true] at this
  refine ⟨of_decide_eq_true this.1, fun h0 => ?_⟩
  have h2 := this.2
  rw [dif_pos h0] at h2
  exact of_decide_eq_true h2
theorem piece_nat {α : Type} (l : List α) (a b : Nat) (lo hi : Int) (h1 : lo = (a : Int)) (h2 : hi = (b : Int)) (h3 : a ≤ b) (h4 : b ≤ l.length) : piece l lo hi = some ((l.drop a).take (b - a)) := by
  subst h1 h2
  unfold piece
  rw [if_pos ⟨by omega, by omega, by omega⟩, Int.toNat_natCast, Int.toNat_natCast]
theorem filter_take {α : Type} (p : α → Bool) (l : List α) (k : Nat) (h : k < l.length) : (l.take (k + 1)).filter p = (l.take k).filter p ++ if p l[k] = true then [l[k]] else [] := by
  rw [show l.take (k + 1) = l.take k ++ [l[k]] by rw [List.take_add_one, List.getElem?_eq_getElem h]; rfl, List.filter_append]
  congr 1
  by_cases c : p l[k] = true
  · rw [if_pos c, List.filter_cons_of_pos c]; rfl
  · rw [if_neg c, List.filter_cons_of_neg c]; rfl
theorem filter_len {α : Type} (p : α → Bool) (l : List α) (k : Nat) : ((l.take k).filter p).length ≤ k := Nat.le_trans (List.length_filter_le _ _) (by simp; omega)
/-- the reservation at a place, and the one ahead of it -/
def shareP (l : List Share) (k : Nat) : Bool := match l[k]? with
  | some x => decide (1 ≤ x.Tenant ∧ x.Tenant ≤ 99) && (decide (0 ≤ x.Quota ∧ x.Quota ≤ 1000) && (match k with | 0 => true | j + 1 => match l[j]? with | some d => decide (d.Tenant < x.Tenant) | none => true))
  | none => true
theorem shareP_at (l : List Share) (k : Nat) (h : k < l.length) : shareP l k = (decide (1 ≤ l[k].Tenant ∧ l[k].Tenant ≤ 99) && (decide (0 ≤ l[k].Quota ∧ l[k].Quota ≤ 1000) && (if h0 : 0 < k then decide ((l[k - 1]'(by omega)).Tenant < l[k].Tenant) else true))) := by
  unfold shareP
  rw [List.getElem?_eq_getElem h]
  cases k with
  | zero => rfl
  | succ j =>
    simp only [Nat.zero_lt_succ, dif_pos, Nat.add_sub_cancel]
    rw [List.getElem?_eq_getElem (by omega)]
/-- what all reservations need -/
def allNeed (s : Shares) : Int := (s.List.map fun x => needV x.Quota).sum + if s.List.length > 0 then 4 else 0
/-- reservations as required -/
def sharesV (s : Shares) : Bool := decide (0 ≤ s.Size ∧ s.Size ≤ 1000) && (decide (s.List.length ≤ 4) && ((List.range s.List.length).all (shareP s.List) && decide (allNeed s ≤ s.Size)))
theorem spec_SharesOk_eq (s : Shares) (h : s.List.length ≤ 1048576) : spec_SharesOk s = some (sharesV s) := by
  unfold spec_SharesOk sharesV
  simp only [l1In_eq, Option.bind_some, spec_l19All_eq s h]
  by_cases h0 : 0 ≤ s.Size ∧ s.Size ≤ 1000
  · by_cases h4 : s.List.length ≤ 4
    · rw [decide_eq_true h0, decide_eq_true h4, decide_eq_false (by omega : ¬ ((s.List.length : Nat) : Int) > 4)]
      simp only [Bool.not_true, Bool.false_eq_true, if_false, Option.bind_some, Bool.true_and]
      rw [all_loop (shareP s.List) s.List.length ?hp ?hq]
      case hq => simp
      case hp =>
        intro k hk
        simp only [idx_nat s.List k hk, Option.bind_some]
        rw [if_pos (by simpa using hk), wrap_ok (n := (k : Int) + 1) (by omega) (by omega), shareP_at s.List k hk]
        by_cases d1 : 1 ≤ s.List[k].Tenant ∧ s.List[k].Tenant ≤ 99
        · by_cases d2 : 0 ≤ s.List[k].Quota ∧ s.List[k].Quota ≤ 1000
          · rw [decide_eq_true d1, decide_eq_true d2]
            by_cases hk0 : 0 < k
            · have hw : IntKind.i64.wrap ((k : Int) - 1) = ((k - 1 : Nat) : Int) := by rw [wrap_ok (by omega) (by omega)]; omega
              rw [dif_pos hk0, if_neg (by simp), if_neg (by simp), if_pos (by simp; omega)]
              simp only [hw, idx_nat s.List (k - 1) (by omega), Option.bind_some]
              by_cases d3 : (s.List[k - 1]'(by omega)).Tenant < s.List[k].Tenant
              · simp [d3, show ¬ s.List[k].Tenant ≤ (s.List[k - 1]'(by omega)).Tenant by omega]
              · simp [d3, show s.List[k].Tenant ≤ (s.List[k - 1]'(by omega)).Tenant by omega]
            · obtain rfl : k = 0 := by omega
              simp
          · rw [decide_eq_true d1, decide_eq_false d2]
            simp
        · rw [decide_eq_false d1]
          simp
      cases (List.range s.List.length).all (shareP s.List) with
      | false => rfl
      | true => rfl
    · rw [decide_eq_true h0, decide_eq_false h4, decide_eq_true (by omega : ((s.List.length : Nat) : Int) > 4)]
      rfl
  · rw [decide_eq_false h0]
    rfl
theorem half_eq {a : Int} (h0 : 0 ≤ a) (h1 : a ≤ 4611686018427387904) : IntKind.i64.wrap (ishr .u64 (IntKind.u64.wrap (IntKind.i64.wrap a)) (1 : Int)) = a / 2 := by
  have hu : IntKind.u64.wrap a = a := by simp [IntKind.wrap, IntKind.bits, IntKind.signed]; omega
  have hs : ishr .u64 a (1 : Int) = a / 2 := by
    unfold ishr
    show a.fdiv (2 ^ 1) = a / 2
    rw [Int.fdiv_eq_ediv_of_nonneg a (by decide)]
    rfl
  rw [wrap_ok (n := a) (by omega) (by omega), hu, hs, wrap_ok (by omega) (by omega)]
/-- a search by halves: the place where it ends -/
theorem bisect {α ρ : Type} (x : List α) (cf : α → Option Int) (c : α → Int) (hcf : ∀ e ∈ x, cf e = some (c e)) (hx : x.length ≤ 1048576) :
    ∃ j, j ≤ x.length ∧ loopO (ρ := Ctl Int ρ) (fun (S2 : Int × Int) => if (decide (S2.1 < S2.2)) = true then ((idx x (IntKind.i64.wrap (ishr .u64 (IntKind.u64.wrap (IntKind.i64.wrap (S2.1 + S2.2))) (1 : Int)))).bind fun E7 =>
  (cf E7).bind fun R9 =>
  bindC (if (decide (R9 < (0 : Int))) = true then (some (.go (IntKind.i64.wrap (IntKind.i64.wrap (ishr .u64 (IntKind.u64.wrap (IntKind.i64.wrap (S2.1 + S2.2))) (1 : Int)) + (1 : Int)), S2.2)))
  else (some (.go (S2.1, IntKind.i64.wrap (ishr .u64 (IntKind.u64.wrap (IntKind.i64.wrap (S2.1 + S2.2))) (1 : Int))))))
  (fun (T12 : Int × Int) => some (.go (T12.1, T12.2))))
  else (some (.done (.go S2.1)))) ((0 : Int), ((x.length : Nat) : Int)) = some (.go (j : Int)) ∧ (∀ i (hi : i < x.length), i + 1 = j → c x[i] < 0) ∧ (∀ hj : j < x.length, 0 ≤ c x[j]) := by
  obtain ⟨r, hr, j, rfl, h1, h2, h3⟩ := loopO_total (ρ := Ctl Int ρ) (s0 := ((0 : Int), ((x.length : Nat) : Int))) (body := fun (S2 : Int × Int) => if (decide (S2.1 < S2.2)) = true then ((idx x (IntKind.i64.wrap (ishr .u64 (IntKind.u64.wrap (IntKind.i64.wrap (S2.1 + S2.2))) (1 : Int)))).bind fun E7 =>
  (cf E7).bind fun R9 =>
  bindC (if (decide (R9 < (0 : Int))) = true then (some (.go (IntKind.i64.wrap (IntKind.i64.wrap (ishr .u64 (IntKind.u64.wrap (IntKind.i64.wrap (S2.1 + S2.2))) (1 : Int)) + (1 : Int)), S2.2)))
  else (some (.go (S2.1, IntKind.i64.wrap (ishr .u64 (IntKind.u64.wrap (IntKind.i64.wrap (S2.1 + S2.2))) (1 : Int))))))
  (fun (T12 : Int × Int) => some (.go (T12.1, T12.2))))
  else (some (.done (.go S2.1))))
    (fun k s => ∃ a b : Nat, s = ((a : Int), (b : Int)) ∧ a ≤ b ∧ b ≤ x.length ∧ b - a + k ≤ x.length ∧ (∀ i (hi : i < x.length), i + 1 = a → c x[i] < 0) ∧ (∀ hj : b < x.length, 0 ≤ c x[b])) x.length
    (fun r => ∃ j : Nat, r = .go (j : Int) ∧ j ≤ x.length ∧ (∀ i (hi : i < x.length), i + 1 = j → c x[i] < 0) ∧ (∀ hj : j < x.length, 0 ≤ c x[j]))
    ⟨0, x.length, rfl, Nat.zero_le _, Nat.le_refl _, by omega, fun i hi h => by omega, fun h => by omega⟩ (by
      rintro k s hk ⟨a, b, rfl, hab, hb, hd, h1, h2⟩
      by_cases hlt : a < b
      · left
        have hm : ((a : Int) + (b : Int)) / 2 = (((a + b) / 2 : Nat) : Int) := by omega
        have hmx : (a + b) / 2 < x.length := by omega
        simp only [half_eq (a := (a : Int) + (b : Int)) (by omega) (by omega), hm, idx_nat x _ hmx, Option.bind_some, hcf _ (List.getElem_mem hmx)]
        rw [if_pos (by simpa using hlt)]
        by_cases hc : c x[(a + b) / 2] < 0
        · rw [if_pos (by simpa using hc), wrap_ok (by omega) (by omega)]
          refine ⟨_, rfl, (a + b) / 2 + 1, b, rfl, by omega, hb, by omega, fun i hi h => ?_, h2⟩
          obtain rfl : i = (a + b) / 2 := by omega
          exact hc
        · rw [if_neg (by simpa using hc)]
          exact ⟨_, rfl, a, (a + b) / 2, rfl, by omega, by omega, by omega, h1, fun _ => by omega⟩
      · right
        obtain rfl : a = b := by omega
        exact ⟨.go (a : Int), by simp, a, rfl, hb, h1, h2⟩) (by
      rintro s ⟨a, b, rfl, hab, hb, hd, h1, h2⟩
      obtain rfl : a = b := by omega
      exact ⟨.go (a : Int), by simp, a, rfl, hb, h1, h2⟩)
  exact ⟨j, h1, hr, h2, h3⟩
theorem entLt_trans {a b c : Ent} (h1 : entLt a b = true) (h2 : entLt b c = true) : entLt a c = true := by
  unfold entLt at h1 h2 ⊢
  simp only [Bool.or_eq_true, Bool.and_eq_true, decide_eq_true_eq] at h1 h2 ⊢
  rcases h1 with h1 | ⟨h1, h3⟩
  · rcases h2 with h2 | ⟨h2, _⟩
    · exact .inl (sLt_trans h1 h2)
    · rw [← h2]; exact .inl h1
  · rcases h2 with h2 | ⟨h2, h4⟩
    · rw [h1]; exact .inl h2
    · exact .inr ⟨h1.trans h2, by omega⟩
theorem entLt_total {a b : Ent} (h : ¬ (a.Key = b.Key ∧ a.Seq = b.Seq)) (h2 : entLt a b = false) : entLt b a = true := by
  unfold entLt at h2 ⊢
  simp only [Bool.or_eq_false_iff, Bool.and_eq_false_iff, decide_eq_false_iff_not] at h2
  simp only [Bool.or_eq_true, Bool.and_eq_true, decide_eq_true_eq]
  have hc := sLt_compl a.Key b.Key
  rw [h2.1] at hc
  simp only [Bool.not_false] at hc
  by_cases hk : a.Key = b.Key
  · right
    refine ⟨hk.symm, ?_⟩
    rcases h2.2 with h3 | h3
    · exact absurd hk h3
    · have : ¬ a.Seq = b.Seq := fun e => h ⟨hk, e⟩
      omega
  · left
    have h5 : decide (b.Key = a.Key) = false := decide_eq_false fun e => hk e.symm
    rw [h5, Bool.or_false] at hc
    exact hc
theorem compareEnts_sign (a b : Ent) : ∃ r, impl_compareEnts a b = some r ∧ decide (r < 0) = entLt a b ∧ (r = 0 ↔ (a.Key = b.Key ∧ a.Seq = b.Seq)) := by
  unfold impl_compareEnts entLt
  rw [cmpS_eq, cmpI_eq]
  simp only [Option.bind_some, cmpOr_eq]
  refine ⟨_, rfl, ?_⟩
  by_cases c : sLt a.Key b.Key = true
  · have hne : ¬ a.Key = b.Key := fun e => by rw [e, sLt_irrefl] at c; cases c
    simp [c, hne]
  · have c' : sLt a.Key b.Key = false := by simpa using c
    rw [if_neg c, c']
    by_cases c2 : a.Key = b.Key
    · rw [decide_eq_true c2]
      by_cases c3 : b.Seq < a.Seq
      · have : ¬ a.Seq = b.Seq := by omega
        simp [c2, c3, this]
      · by_cases c4 : b.Seq > a.Seq
        · have : ¬ a.Seq = b.Seq := by omega
          simp [c2, c3, c4, this]
        · have : a.Seq = b.Seq := by omega
          simp [c2, this]
    · rw [decide_eq_false c2]
      simp [c2]
/-- entries with one more at a place -/
def insE (l : List Ent) (e : Ent) (j : Nat) : List Ent := l.take j ++ (e :: l.drop j)
theorem insE_mem {l : List Ent} {e x : Ent} {j : Nat} : x ∈ insE l e j ↔ x = e ∨ x ∈ l := by
  unfold insE
  rw [List.mem_append, List.mem_cons]
  conv => rhs; rw [← List.take_append_drop j l, List.mem_append]
  constructor
  · rintro (h | h | h)
    · exact .inr (.inl h)
    · exact .inl h
    · exact .inr (.inr h)
  · rintro (h | h | h)
    · exact .inr (.inl h)
    · exact .inl h
    · exact .inr (.inr h)
theorem insE_len (l : List Ent) (e : Ent) (j : Nat) (h : j ≤ l.length) : (insE l e j).length = l.length + 1 := by
  unfold insE; simp; omega
def ordE (l : List Ent) : Prop := l.Pairwise fun a b => entLt a b = true
theorem ordE_ins {l : List Ent} {e : Ent} {j : Nat} (hl : ordE l) (h1 : ∀ i (hi : i < l.length), i < j → entLt l[i] e = true) (h2 : ∀ i (hi : i < l.length), j ≤ i → entLt e l[i] = true) : ordE (insE l e j) := by
  unfold ordE insE at *
  have hl2 := hl
  rw [← List.take_append_drop j l, List.pairwise_append] at hl2
  have m1 : ∀ x ∈ l.take j, entLt x e = true := by
    intro x hx
    obtain ⟨i, hi, rfl⟩ := List.getElem_of_mem hx
    rw [List.getElem_take]
    exact h1 i _ (by simp at hi; omega)
  have m2 : ∀ x ∈ l.drop j, entLt e x = true := by
    intro x hx
    obtain ⟨i, hi, rfl⟩ := List.getElem_of_mem hx
    rw [List.getElem_drop]
    exact h2 _ _ (by omega)
  rw [List.pairwise_append, List.pairwise_cons]
  refine ⟨hl2.1, ⟨m2, hl2.2.1⟩, fun x hx y hy => ?_⟩
  rcases List.mem_cons.1 hy with rfl | hy
  · exact m1 x hx
  · exact hl2.2.2 x hx y hy
theorem entsV_iff (l : List Ent) : entsV l = true ↔ (∀ x ∈ l, entV x = true) ∧ ordE l := by
  constructor
  · intro h
    refine ⟨fun x hx => ?_, ?_⟩
    · obtain ⟨k, hk, rfl⟩ := List.getElem_of_mem hx
      unfold entsV at h
      rw [List.all_eq_true] at h
      have := h k (by simpa using hk)
      rw [entP_at l k hk, Bool.and_eq_true] at this
      exact this.1
    · unfold ordE
      rw [List.pairwise_iff_getElem]
      intro i j hi hj hij
      unfold entLt
      simp only [Bool.or_eq_true, Bool.and_eq_true, decide_eq_true_eq]
      exact ents_lt h j hj i hij
  · rintro ⟨h1, h2⟩
    unfold ordE at h2
    rw [List.pairwise_iff_getElem] at h2
    unfold entsV
    rw [List.all_eq_true]
    intro k hk
    have hk' : k < l.length := by simpa using hk
    rw [entP_at l k hk', h1 _ (List.getElem_mem hk')]
    by_cases h0 : 0 < k
    · rw [dif_pos h0, h2 (k - 1) k (by omega) hk' (by omega)]
      rfl
    · rw [dif_neg h0]
      rfl
def putF (l : List Ent) (f : Ent) (j k : Nat) : Bool × Int × List Ent := bif Nat.ble k j then (false, (k : Int), l.take k) else (true, (k : Int), l.take j ++ (f :: (l.drop j).take (k - j)))
theorem putF_le (l : List Ent) (f : Ent) (j k : Nat) (h : k ≤ j) : putF l f j k = (false, (k : Int), l.take k) := by
  unfold putF
  rw [Nat.ble_eq_true_of_le h]
  rfl
theorem putF_gt (l : List Ent) (f : Ent) (j k : Nat) (h : j < k) : putF l f j k = (true, (k : Int), l.take j ++ (f :: (l.drop j).take (k - j))) := by
  unfold putF
  have : Nat.ble k j = false := by
    cases hb : Nat.ble k j
    · rfl
    · exact absurd (Nat.le_of_ble_eq_true hb) (by omega)
  rw [this]
  rfl
theorem spec_l9Put_at (l : List Ent) (f : Ent) (j : Nat) (hl : l.length ≤ 1048576) (hj : j ≤ l.length) (h1 : ∀ i (hi : i < l.length), i < j → entLt f l[i] = false) (h2 : ∀ hi : j < l.length, entLt f l[j] = true) :
    spec_l9Put l f = some (insE l f j) := by
  unfold spec_l9Put
  rw [loopO_count (putF l f j) l.length (r := Ctl.go ((putF l f j l.length).1, (putF l f j l.length).2.2)) ?h0]
  case h0 => rw [putF_le _ _ _ _ (Nat.zero_le _)]; rfl
  · by_cases hjl : j = l.length
    · subst hjl
      rw [putF_le _ _ _ _ (Nat.le_refl _)]
      simp only [bindC_go, Bool.not_false, if_true]
      rw [app_ok (by simp; omega) (by simp; omega)]
      simp [insE]
    · rw [putF_gt _ _ _ _ (by omega)]
      simp only [bindC_go, Bool.not_true, Bool.false_eq_true, if_false]
      unfold insE
      rw [List.take_of_length_le (l := l.drop j) (by simp)]
  · intro k hk
    have hw := wrap_ok (n := (k : Int) + 1) (by omega) (by omega)
    rcases Nat.lt_trichotomy k j with hkj | hkj | hkj
    · have ht : l.take (k + 1) = l.take k ++ [l[k]] := by rw [List.take_add_one, List.getElem?_eq_getElem hk]; rfl
      rw [putF_le _ _ _ _ (by omega), putF_le _ _ _ _ (by omega)]
      simp only [idx_nat l k hk, Option.bind_some, Bool.not_false, if_true, hw, spec_l9Ahead_eq, h1 k hk hkj, Bool.false_eq_true, if_false, bindC_go]
      rw [if_pos (by simpa using hk), app_ok (by simp; omega) (by simp; omega), ht]
      rfl
    · subst hkj
      rw [putF_le _ _ _ _ (Nat.le_refl _), putF_gt _ _ _ _ (by omega)]
      simp only [idx_nat l k hk, Option.bind_some, Bool.not_false, if_true, hw, spec_l9Ahead_eq, h2 hk]
      rw [if_pos (by simpa using hk), app_ok (by simp; omega) (by simp; omega)]
      simp only [Option.bind_some, bindC_go]
      rw [app_ok (by simp; omega) (by simp; omega)]
      have : (l.drop k).take (k + 1 - k) = [l[k]] := by
        rw [List.drop_eq_getElem_cons hk, show k + 1 - k = 1 by omega]; rfl
      rw [this]
      simp
    · rw [putF_gt _ _ _ _ (by omega), putF_gt _ _ _ _ (by omega)]
      simp only [idx_nat l k hk, Option.bind_some, Bool.not_true, Bool.false_eq_true, if_false, hw, bindC_go]
      rw [if_pos (by simpa using hk), app_ok (by simp; omega) (by simp; omega)]
      have hkd : k - j < (l.drop j).length := by simp; omega
      have ht : (l.drop j).take (k + 1 - j) = (l.drop j).take (k - j) ++ [l[k]] := by
        rw [show k + 1 - j = (k - j) + 1 by omega, List.take_add_one, List.getElem?_eq_getElem hkd, List.getElem_drop]
        congr 2
        simp only [Option.toList_some]
        congr 2
        omega
      rw [ht]
      simp
  · have hi : (putF l f j l.length).2.1 = (l.length : Int) := by unfold putF; cases Nat.ble l.length j <;> rfl
    rw [hi, if_neg (by simp)]
theorem insEnts_eq (l : List Ent) (x : Ent) (j : Nat) (hj : j ≤ l.length) (h : l.length ≤ 1048576) : slices_Insert_94167 l (j : Int) [x] = some (insE l x j) := by
  unfold slices_Insert_94167 ins insE
  rw [if_pos ⟨by omega, by omega, by simp; omega, by simp; omega⟩, Int.toNat_natCast]
  rfl
theorem put_both (l : List Ent) (e : Ent) (hl : ordE l) (h : l.length ≤ 1048576) (hne : ∀ x ∈ l, ¬ (x.Key = e.Key ∧ x.Seq = e.Seq)) :
    ∃ j, j ≤ l.length ∧ impl_put l e = some (insE l e j, true) ∧ spec_l9Put l e = some (insE l e j) ∧ ordE (insE l e j) := by
  have hcf : ∀ x ∈ l, impl_compareEnts x e = some ((impl_compareEnts x e).getD 0) := by
    intro x _
    obtain ⟨r, hr, _⟩ := compareEnts_sign x e
    rw [hr]; rfl
  have hsg : ∀ x : Ent, (((impl_compareEnts x e).getD 0 < 0) ↔ entLt x e = true) ∧ ((impl_compareEnts x e).getD 0 = 0 ↔ (x.Key = e.Key ∧ x.Seq = e.Seq)) := by
    intro x
    obtain ⟨r, hr, h1, h2⟩ := compareEnts_sign x e
    rw [hr]
    refine ⟨?_, h2⟩
    show r < 0 ↔ _
    rw [← h1]; simp
  obtain ⟨j, hj, hb, h1, h2⟩ := bisect (ρ := Int × Bool) l (fun x => impl_compareEnts x e) (fun x => (impl_compareEnts x e).getD 0) hcf h
  have hp : ∀ a b (ha : a < l.length) (hb : b < l.length), a < b → entLt l[a] l[b] = true := by
    unfold ordE at hl
    rw [List.pairwise_iff_getElem] at hl
    exact fun a b ha hb hab => hl a b ha hb hab
  have a1 : ∀ i (hi : i < l.length), i < j → entLt l[i] e = true := by
    intro i hi hij
    have h3 := ((hsg _).1.1 (h1 (j - 1) (by omega) (by omega)))
    by_cases e1 : i = j - 1
    · subst e1; exact h3
    · exact entLt_trans (hp i (j - 1) hi (by omega) (by omega)) h3
  have a2 : ∀ i (hi : i < l.length), j ≤ i → entLt e l[i] = true := by
    intro i hi hij
    have hjl : j < l.length := by omega
    have h3 := h2 hjl
    have h4 : entLt e l[j] = true := by
      refine entLt_total (hne _ (List.getElem_mem hjl)) ?_
      cases hc : entLt l[j] e with
      | false => rfl
      | true => have := (hsg _).1.2 hc; omega
    by_cases e1 : j = i
    · subst e1; exact h4
    · exact entLt_trans h4 (hp j i hjl hi (by omega))
  have asym : ∀ a b : Ent, entLt a b = true → entLt b a = false := by
    intro a b hab
    cases hc : entLt b a with
    | false => rfl
    | true =>
      have := entLt_trans hab hc
      unfold entLt at this
      rw [sLt_irrefl] at this
      simp at this
  refine ⟨j, hj, ?_, spec_l9Put_at l e j h hj (fun i hi hij => asym _ _ (a1 i hi hij)) (fun hi => a2 j hi (Nat.le_refl _)), ordE_ins hl a1 a2⟩
  unfold impl_put slices_BinarySearchFunc_39542_at_impl_compareEnts
  rw [hb]
  simp only [bindC_go]
  have hfound : (if (decide ((j : Int) < ((l.length : Nat) : Int))) = true then ((idx l (j : Int)).bind fun E18 => (impl_compareEnts E18 e).bind fun R20 => some (decide (R20 = (0 : Int)))) else (some false)) = some false := by
    by_cases hjl : j < l.length
    · rw [if_pos (by simpa using hjl), idx_nat l j hjl]
      obtain ⟨r, hr, _, hr2⟩ := compareEnts_sign l[j] e
      simp only [Option.bind_some, hr]
      rw [decide_eq_false fun h0 => hne _ (List.getElem_mem hjl) (hr2.1 h0)]
    · rw [if_neg (by simpa using hjl)]
  rw [hfound]
  simp only [Option.bind_some, Bool.false_eq_true, if_false, insEnts_eq l e j hj h]
/-- an op as required -/
def opV (o : Op) : Bool := decide (1 ≤ (o.Key.length : Int) ∧ (o.Key.length : Int) ≤ 10) && (decide ((o.Val.length : Int) ≤ 16) && (!o.Del || decide (o.Val = [])))
theorem spec_l7Op_eq (o : Op) : spec_l7Op o = some (opV o) := by
  unfold spec_l7Op opV
  simp only [l1In_eq, Option.bind_some]
  by_cases h1 : 1 ≤ (o.Key.length : Int) ∧ (o.Key.length : Int) ≤ 10 <;> by_cases h3 : (o.Val.length : Int) ≤ 16 <;> cases h4 : o.Del <;>
    simp only [h1, h3, and_self, decide_true, decide_false, if_true, if_false, Option.bind_some, Bool.true_and, Bool.false_and, Bool.not_true, Bool.not_false, Bool.false_eq_true, Bool.true_or, Bool.false_or, Bool.and_true, Bool.and_false]
theorem impl_opOk_eq (o : Op) : ((impl_isKey o.Key).bind fun R11 => if (!R11) = true then (some true) else ((impl_isVal o.Del o.Val).bind fun R15 => some (!R15))) = some (!opV o) := by
  unfold impl_isKey impl_isVal opV
  simp only [inRange_eq, Option.bind_some]
  by_cases h1 : 1 ≤ (o.Key.length : Int) ∧ (o.Key.length : Int) ≤ 10 <;> by_cases h3 : (o.Val.length : Int) ≤ 16 <;> cases h4 : o.Del <;>
    simp only [h1, h3, and_self, decide_true, decide_false, if_true, if_false, Option.bind_some, Bool.true_and, Bool.false_and, Bool.not_true, Bool.not_false, Bool.false_eq_true, Bool.true_or, Bool.false_or, Bool.and_true, Bool.and_false, Bool.not_not]
/-- a batch as required -/
def batchV (l : List Op) : Bool := decide (1 ≤ l.length ∧ l.length ≤ 6) && l.all opV
theorem batchI (l : List Op) : decide (1 ≤ ((l.length : Nat) : Int) ∧ ((l.length : Nat) : Int) ≤ 6) = decide (1 ≤ l.length ∧ l.length ≤ 6) := decide_eq_decide.2 (by omega)
theorem spec_BatchOk_eq (l : List Op) (h : l.length ≤ 1048576) : spec_BatchOk l = some (batchV l) := by
  unfold spec_BatchOk batchV
  simp only [l1In_eq, Option.bind_some, batchI]
  by_cases h6 : 1 ≤ l.length ∧ l.length ≤ 6
  · rw [decide_eq_true h6]
    simp only [Bool.not_true, Bool.false_eq_true, if_false, Bool.true_and]
    rw [loopO_is (fun k s => s = (k : Int) ∧ l.all opV = (l.drop k).all opV) l.length (if l.all opV = true then Ctl.go () else Ctl.done false) ?h0 ?h1 ?h2]
    · cases l.all opV <;> rfl
    case h0 => exact ⟨rfl, rfl⟩
    · rintro k s hk ⟨rfl, he⟩
      simp only [idx_nat l k hk, Option.bind_some, spec_l7Op_eq]
      rw [if_pos (by simpa using hk), wrap_ok (n := (k : Int) + 1) (by omega) (by omega), he, List.drop_eq_getElem_cons hk, List.all_cons]
      cases hc : opV l[k] with
      | false => right; rfl
      | true => left; exact ⟨(k : Int) + 1, rfl, by omega, by simp⟩
    · rintro s ⟨rfl, he⟩
      rw [he, List.drop_length]
      simp
  · rw [decide_eq_false h6]
    rfl
theorem impl_BatchOk_eq (l : List Op) (h : l.length ≤ 1048576) : impl_BatchOk l = some (batchV l) := by
  unfold impl_BatchOk batchV
  rw [loopO_is (fun k s => s = (k : Int) ∧ l.all opV = (l.drop k).all opV) l.length (if l.all opV = true then Ctl.go () else Ctl.done false) ?h0 ?h1 ?h2]
  · cases l.all opV with
    | false => simp
    | true => simp only [if_true, bindC_go, inRange_eq, Option.bind_some, batchI, Bool.and_true]
  case h0 => exact ⟨rfl, rfl⟩
  · rintro k s hk ⟨rfl, he⟩
    simp only [idx_nat l k hk, Option.bind_some, impl_opOk_eq]
    rw [if_pos (by simpa using hk), wrap_ok (n := (k : Int) + 1) (by omega) (by omega), he, List.drop_eq_getElem_cons hk, List.all_cons]
    cases hc : opV l[k] with
    | false => right; rfl
    | true => left; exact ⟨(k : Int) + 1, rfl, by omega, by simp⟩
  · rintro s ⟨rfl, he⟩
    rw [he, List.drop_length]
    simp

/-- is there a later op with this key -/
def laterV (l : List Op) (k : Nat) (key : List UInt8) : Bool := (l.drop (k + 1)).any fun x => decide (x.Key = key)
theorem containsOp_eq (s : List Op) (c : Op) (h : s.length ≤ 1048576) : slices_ContainsFunc_6733_at_impl_Eng_engPut_1 s c = some (s.any fun x => decide (x.Key = c.Key)) := by
  unfold slices_ContainsFunc_6733_at_impl_Eng_engPut_1
  have key : ∃ r : Int, slices_IndexFunc_6733_at_impl_Eng_engPut_1 s c = some r ∧ decide (r ≥ 0) = s.any fun x => decide (x.Key = c.Key) := by
    unfold slices_IndexFunc_6733_at_impl_Eng_engPut_1 impl_Eng_engPut_1
    obtain ⟨r, hr, hq⟩ := loopO_total (ρ := Ctl Unit Int) (s0 := (0 : Int)) (body := fun (S1 : Int) => if (decide (S1 < ((s.length : Nat) : Int))) = true then ((idx s S1).bind fun E6 =>
      (some (decide (E6.Key = c.Key))).bind fun R8 =>
      if R8 = true then (some (.done (.done S1)))
      else (some (.go (IntKind.i64.wrap (S1 + (1 : Int))))))
      else (some (.done (.go ()))))
      (fun k t => t = (k : Int) ∧ (s.any fun x => decide (x.Key = c.Key)) = (s.drop k).any fun x => decide (x.Key = c.Key)) s.length
      (fun r => (∃ i : Nat, r = .done (i : Int) ∧ (s.any fun x => decide (x.Key = c.Key)) = true) ∨ (r = .go () ∧ (s.any fun x => decide (x.Key = c.Key)) = false))
      ⟨rfl, rfl⟩ (by
        rintro k t hk ⟨rfl, he⟩
        rw [List.drop_eq_getElem_cons hk, List.any_cons] at he
        simp only [idx_nat s k hk, Option.bind_some]
        rw [if_pos (by simpa using hk), wrap_ok (n := (k : Int) + 1) (by omega) (by omega)]
        cases hc : decide (s[k].Key = c.Key) with
        | true =>
          right
          rw [hc] at he
          exact ⟨_, rfl, .inl ⟨k, rfl, he⟩⟩
        | false =>
          left
          rw [hc] at he
          exact ⟨(k : Int) + 1, rfl, by omega, he⟩) (by
        rintro t ⟨rfl, he⟩
        rw [List.drop_length] at he
        exact ⟨.go (), by simp, .inr ⟨rfl, he⟩⟩)
    rw [hr]
    rcases hq with ⟨i, rfl, h2⟩ | ⟨rfl, h2⟩
    · exact ⟨(i : Int), rfl, by rw [h2]; simp⟩
    · exact ⟨-1, rfl, by rw [h2]; rfl⟩
  obtain ⟨r, hr, h2⟩ := key
  rw [hr]
  simp only [Option.bind_some, h2]
theorem last_loop {ρ : Type} (l : List Op) (k : Nat) (hk : k < l.length) (h : l.length ≤ 1048576) :
    loopO (ρ := Ctl Bool ρ) (fun (S23 : Bool × Int) => if (decide (S23.2 < ((l.length : Nat) : Int))) = true then ((if S23.1 = true then ((idx l S23.2).bind fun E31 =>
  (idx l (k : Int)).bind fun E33 =>
  some (!(decide (E31.Key = E33.Key))))
  else (some false)).bind (fun (T28 : Bool) =>
  some (.go (T28, IntKind.i64.wrap (S23.2 + (1 : Int))))))
  else (some (.done (.go S23.1))))
  (true, IntKind.i64.wrap ((k : Int) + (1 : Int))) = some (.go (!laterV l k l[k].Key)) := by
  rw [loopO_count (fun d => (!(((l.drop (k + 1)).take d).any fun x => decide (x.Key = l[k].Key)), ((k + 1 + d : Nat) : Int))) (l.length - (k + 1)) (r := Ctl.go (!laterV l k l[k].Key)) ?h0]
  case h0 => rw [wrap_ok (by omega) (by omega)]; simp
  · intro d hd
    have hkd : k + 1 + d < l.length := by omega
    have hdd : d < (l.drop (k + 1)).length := by simp; omega
    have ht : (l.drop (k + 1)).take (d + 1) = (l.drop (k + 1)).take d ++ [l[k + 1 + d]] := by
      rw [List.take_add_one, List.getElem?_eq_getElem hdd, List.getElem_drop]; rfl
    simp only [idx_nat l _ hkd, idx_nat l k hk, Option.bind_some, ht, List.any_append, List.any_cons, List.any_nil, Bool.or_false]
    rw [if_pos (by simp only [decide_eq_true_eq]; omega), wrap_ok (by omega) (by omega)]
    cases ((l.drop (k + 1)).take d).any fun x => decide (x.Key = l[k].Key) with
    | false => simp; omega
    | true => simp; omega
  · rw [show k + 1 + (l.length - (k + 1)) = l.length by omega, List.take_of_length_le (by simp)]
    simp [laterV]
/-- the entry of an op -/
def entO (o : Op) (seq : Int) : Ent := { Key := o.Key, Seq := seq, Del := o.Del, Val := o.Val }
/-- the entries in hand behind the first k ops -/
noncomputable def memB (l : List Op) (seq : Int) (m : List Ent) : Nat → List Ent
  | 0 => m
  | k + 1 => match l[k]? with
    | some o => bif laterV l k o.Key then memB l seq m k else (spec_l9Put (memB l seq m k) (entO o seq)).getD []
    | none => memB l seq m k
theorem memB_later (l : List Op) (seq : Int) (m : List Ent) (k : Nat) (hk : k < l.length) (h : laterV l k l[k].Key = true) : memB l seq m (k + 1) = memB l seq m k := by
  show (match l[k]? with | some o => _ | none => _) = _
  rw [List.getElem?_eq_getElem hk]
  simp only [h, cond_true]
theorem memB_put (l : List Op) (seq : Int) (m : List Ent) (k : Nat) (hk : k < l.length) (h : laterV l k l[k].Key = false) : memB l seq m (k + 1) = (spec_l9Put (memB l seq m k) (entO l[k] seq)).getD [] := by
  show (match l[k]? with | some o => _ | none => _) = _
  rw [List.getElem?_eq_getElem hk]
  simp only [h, cond_false]
def invB (l : List Op) (seq : Int) (m : List Ent) (k : Nat) (x : Ent) : Prop := x ∈ m ∨ ∃ i, ∃ hi : i < l.length, i < k ∧ laterV l i l[i].Key = false ∧ x = entO l[i] seq
theorem memB_new (l : List Op) (seq : Int) (m M : List Ent) (k : Nat) (hk : k < l.length) (hs : ∀ x ∈ m, x.Seq < seq) (hM : ∀ x ∈ M, invB l seq m k x) : ∀ x ∈ M, ¬ (x.Key = (entO l[k] seq).Key ∧ x.Seq = (entO l[k] seq).Seq) := by
  rintro x hx ⟨h1, h2⟩
  rcases hM x hx with h | ⟨i, hi, hik, hla, rfl⟩
  · have := hs x h
    have h3 : x.Seq = seq := h2
    omega
  · unfold laterV at hla
    rw [List.any_eq_false] at hla
    have hm : l[k] ∈ l.drop (i + 1) := by
      have : (l.drop (i + 1))[k - (i + 1)]'(by simp; omega) = l[k] := by
        rw [List.getElem_drop]
        congr 1
        omega
      rw [← this]
      exact List.getElem_mem _
    refine hla _ hm ?_
    have h3 : l[i].Key = l[k].Key := h1
    rw [h3]
    simp
theorem memB_step (l : List Op) (seq : Int) (m : List Ent) (hm : ordE m) (hs : ∀ x ∈ m, x.Seq < seq) (hl : m.length + l.length ≤ 1048576) : ∀ k, k ≤ l.length → ordE (memB l seq m k) ∧ (memB l seq m k).length ≤ m.length + k ∧ (∀ x ∈ memB l seq m k, invB l seq m k x) ∧ (∀ x ∈ m, x ∈ memB l seq m k) := by
  intro k
  induction k with
  | zero => intro _; exact ⟨hm, Nat.le_refl _, fun x hx => .inl hx, fun x hx => hx⟩
  | succ k ih =>
    intro hk
    obtain ⟨i1, i2, i3, i4⟩ := ih (by omega)
    have hk' : k < l.length := by omega
    cases hla : laterV l k l[k].Key with
    | true =>
      rw [memB_later l seq m k hk' hla]
      refine ⟨i1, by omega, fun x hx => ?_, i4⟩
      rcases i3 x hx with h | ⟨i, hi, hik, h⟩
      · exact .inl h
      · exact .inr ⟨i, hi, by omega, h⟩
    | false =>
      obtain ⟨j, hj, _, h2, h3⟩ := put_both (memB l seq m k) (entO l[k] seq) i1 (by omega) (memB_new l seq m _ k hk' hs i3)
      rw [memB_put l seq m k hk' hla, h2]
      refine ⟨h3, ?_, fun x hx => ?_, fun x hx => ?_⟩
      · rw [Option.getD_some, insE_len _ _ _ hj]; omega
      · rcases insE_mem.1 hx with rfl | hx
        · exact .inr ⟨k, hk', by omega, hla, rfl⟩
        · rcases i3 x hx with h | ⟨i, hi, hik, h⟩
          · exact .inl h
          · exact .inr ⟨i, hi, by omega, h⟩
      · exact insE_mem.2 (.inr (i4 x hx))
theorem memB_both (l : List Op) (seq : Int) (m : List Ent) (hm : ordE m) (hs : ∀ x ∈ m, x.Seq < seq) (hl : m.length + l.length ≤ 1048576) (k : Nat) (hk : k < l.length) (hla : laterV l k l[k].Key = false) :
    impl_put (memB l seq m k) (entO l[k] seq) = some (memB l seq m (k + 1), true) ∧ spec_l9Put (memB l seq m k) (entO l[k] seq) = some (memB l seq m (k + 1)) := by
  obtain ⟨i1, i2, i3, _⟩ := memB_step l seq m hm hs hl k (by omega)
  obtain ⟨j, hj, h1, h2, _⟩ := put_both (memB l seq m k) (entO l[k] seq) i1 (by omega) (memB_new l seq m _ k hk hs i3)
  rw [memB_put l seq m k hk hla, h1, h2]
  exact ⟨rfl, rfl⟩
theorem rangeV_bounds (m : Int) : ∀ (l : List Ent) (s : Int × Int), (m ≤ (l.foldl (fun s e => (goMin s.1 e.Seq, goMax s.2 e.Seq)) s).1 ↔ m ≤ s.1 ∧ ∀ x ∈ l, m ≤ x.Seq) ∧ ((l.foldl (fun s e => (goMin s.1 e.Seq, goMax s.2 e.Seq)) s).2 ≤ m ↔ s.2 ≤ m ∧ ∀ x ∈ l, x.Seq ≤ m)
  | [], s => by simp
  | e :: l, s => by
    obtain ⟨h1, h2⟩ := rangeV_bounds m l (goMin s.1 e.Seq, goMax s.2 e.Seq)
    simp only [List.foldl_cons]
    rw [h1, h2]
    have e1 : m ≤ goMin s.1 e.Seq ↔ m ≤ s.1 ∧ m ≤ e.Seq := by unfold goMin; split <;> omega
    have e2 : goMax s.2 e.Seq ≤ m ↔ s.2 ≤ m ∧ e.Seq ≤ m := by unfold goMax; split <;> omega
    rw [e1, e2]
    exact ⟨by simp only [List.mem_cons, forall_eq_or_imp, and_assoc], by simp only [List.mem_cons, forall_eq_or_imp, and_assoc]⟩
theorem rangeV_lo (l : List Ent) (m : Int) : m ≤ (rangeV l).1 ↔ m ≤ 1000001 ∧ ∀ x ∈ l, m ≤ x.Seq := (rangeV_bounds m l _).1
theorem rangeV_hi (l : List Ent) (m : Int) : (rangeV l).2 ≤ m ↔ -1 ≤ m ∧ ∀ x ∈ l, x.Seq ≤ m := (rangeV_bounds m l _).2
theorem tabsV_up {seq seq' low low' : Int} (h1 : low ≤ low' ∨ seq < low') (h2 : seq ≤ seq') : ∀ t : List (List Ent), tabsV seq low t = true → tabsV seq' low' t = true := by
  have go : ∀ (t : List (List Ent)) (low : Int), tabsV seq low t = true → tabsV seq' low t = true := by
    intro t
    induction t with
    | nil => intro _ _; rfl
    | cons x t ih =>
      intro low h
      simp only [tabsV, Bool.and_eq_true, decide_eq_true_eq] at h ⊢
      exact ⟨⟨h.1.1, h.1.2.1, h.1.2.2.1, by omega⟩, ih _ h.2⟩
  intro t h
  cases t with
  | nil => rfl
  | cons x t =>
    simp only [tabsV, Bool.and_eq_true, decide_eq_true_eq] at h ⊢
    exact ⟨⟨h.1.1, h.1.2.1, by omega, by omega⟩, go _ _ h.2⟩
theorem snapsV_up {seq seq' : Int} {l : List Int} (h2 : seq ≤ seq') (h : snapsV seq l = true) : snapsV seq' l = true := by
  unfold snapsV
  rw [List.all_eq_true]
  intro k hk
  have hk' : k < l.length := by simpa using hk
  obtain ⟨a, b⟩ := snaps_at h k hk'
  rw [snapP_at seq' l k hk', Bool.and_eq_true]
  refine ⟨decide_eq_true ⟨a.1, by omega⟩, ?_⟩
  by_cases h0 : 0 < k
  · rw [dif_pos h0]; exact decide_eq_true (b h0)
  · rw [dif_neg h0]
noncomputable def engB (e : Eng) (l : List Op) : Eng := { Mem := memB l (e.Seq + 1) e.Mem l.length, Tables := e.Tables, Seq := e.Seq + 1, Snaps := e.Snaps }
noncomputable def okB (e : Eng) (l : List Op) : Bool := decide (e.Seq + 1 ≤ 1000000) && (decide ((memB l (e.Seq + 1) e.Mem l.length).length ≤ 60) && decide (totalV e.Tables + (memB l (e.Seq + 1) e.Mem l.length).length ≤ 400))
theorem engV_all {e : Eng} (h : engV e = true) : (0 ≤ e.Seq ∧ e.Seq ≤ 1000000) ∧ e.Snaps.length ≤ 4 ∧ e.Tables.length ≤ 6 ∧ totalV e.Tables + e.Mem.length ≤ 400 ∧ (e.Mem.length ≤ 60 ∧ entsV e.Mem = true) ∧ (rangeV e.Mem).2 ≤ e.Seq ∧ tabsV e.Seq (rangeV e.Mem).1 e.Tables = true ∧ snapsV e.Seq e.Snaps = true := by
  unfold engV memV at h
  simp only [Bool.and_eq_true, decide_eq_true_eq] at h
  obtain ⟨⟨h1, h2, h3, h4, h5, h6, h7⟩, h8⟩ := h
  exact ⟨h1, h2, h3, h4, h5, h6, h7, h8⟩
theorem engB_mem {e : Eng} {l : List Op} (h : engV e = true) (hb : batchV l = true) : ordE e.Mem ∧ (∀ x ∈ e.Mem, x.Seq < e.Seq + 1) ∧ e.Mem.length + l.length ≤ 66 := by
  obtain ⟨h1, h2, h3, h4, h5, h6, h7, h8⟩ := engV_all h
  unfold batchV at hb
  rw [Bool.and_eq_true, decide_eq_true_eq] at hb
  refine ⟨((entsV_iff _).1 h5.2).2, fun x hx => ?_, by omega⟩
  have := ((rangeV_hi _ _).1 h6).2 x hx
  omega
theorem engB_ok {e : Eng} {l : List Op} (h : engV e = true) (hb : batchV l = true) : engV (engB e l) = okB e l := by
  obtain ⟨h1, h2, h3, h4, h5, h6, h7, h8⟩ := engV_all h
  obtain ⟨g1, g2, g3⟩ := engB_mem h hb
  obtain ⟨i1, i2, i3, i4⟩ := memB_step l (e.Seq + 1) e.Mem g1 g2 (by omega) l.length (Nat.le_refl _)
  unfold batchV at hb
  rw [Bool.and_eq_true, decide_eq_true_eq, List.all_eq_true] at hb
  unfold okB engB engV memV
  simp only
  rw [decide_eq_true h2, decide_eq_true h3, snapsV_up (by omega) h8]
  by_cases c1 : e.Seq + 1 ≤ 1000000
  · have c1' : 0 ≤ e.Seq + 1 ∧ e.Seq + 1 ≤ 1000000 := by omega
    rw [decide_eq_true c1, decide_eq_true c1']
    have hents : entsV (memB l (e.Seq + 1) e.Mem l.length) = true := by
      rw [entsV_iff]
      refine ⟨fun x hx => ?_, i1⟩
      rcases i3 x hx with hx | ⟨i, hi, _, _, rfl⟩
      · exact ((entsV_iff _).1 h5.2).1 x hx
      · have := hb.2 _ (List.getElem_mem hi)
        unfold opV at this
        rw [Bool.and_eq_true, Bool.and_eq_true] at this
        unfold entV entO
        simp only
        rw [this.1, this.2.1, this.2.2, decide_eq_true c1']
        rfl
    have hhi : (rangeV (memB l (e.Seq + 1) e.Mem l.length)).2 ≤ e.Seq + 1 := by
      rw [rangeV_hi]
      refine ⟨by omega, fun x hx => ?_⟩
      rcases i3 x hx with hx | ⟨i, hi, _, _, rfl⟩
      · have := g2 x hx; omega
      · exact Int.le_refl _
    have hlo : (rangeV e.Mem).1 ≤ (rangeV (memB l (e.Seq + 1) e.Mem l.length)).1 ∨ e.Seq < (rangeV (memB l (e.Seq + 1) e.Mem l.length)).1 := by
      by_cases c : (rangeV e.Mem).1 ≤ e.Seq + 1
      · left
        rw [rangeV_lo]
        have := (rangeV_lo e.Mem (rangeV e.Mem).1).1 (Int.le_refl _)
        refine ⟨this.1, fun x hx => ?_⟩
        rcases i3 x hx with hx | ⟨i, hi, _, _, rfl⟩
        · exact this.2 x hx
        · exact c
      · right
        have : e.Seq + 1 ≤ (rangeV (memB l (e.Seq + 1) e.Mem l.length)).1 := by
          rw [rangeV_lo]
          have h9 := (rangeV_lo e.Mem (rangeV e.Mem).1).1 (Int.le_refl _)
          refine ⟨by omega, fun x hx => ?_⟩
          rcases i3 x hx with hx | ⟨i, hi, _, _, rfl⟩
          · have := h9.2 x hx; omega
          · exact Int.le_refl _
        omega
    rw [hents, decide_eq_true hhi, tabsV_up hlo (by omega) _ h7]
    cases decide ((memB l (e.Seq + 1) e.Mem l.length).length ≤ 60) <;> cases decide (totalV e.Tables + (memB l (e.Seq + 1) e.Mem l.length).length ≤ 400) <;> rfl
  · have c1' : ¬ (0 ≤ e.Seq + 1 ∧ e.Seq + 1 ≤ 1000000) := by omega
    rw [decide_eq_false c1, decide_eq_false c1']
    rfl
noncomputable def putR (e : Eng) (l : List Op) : Eng × Bool := bif engV e then (bif batchV l then (bif okB e l then (engB e l, true) else (e, false)) else (e, false)) else ({ Mem := [], Tables := [], Seq := 0, Snaps := [] }, false)
theorem spec_EngPut_eq (e : Eng) (l : List Op) (h1 : e.Mem.length ≤ 1048576) (h2 : e.Tables.length ≤ 1048576) (h3 : totalV e.Tables ≤ 1048576) (h4 : e.Snaps.length ≤ 1048576) (h5 : l.length ≤ 1048576) : spec_EngPut e l = some (putR e l) := by
  have hlen : ∀ t ∈ e.Tables, t.length ≤ 1048576 := fun t ht => Nat.le_trans (sum_mem List.length ht) h3
  unfold spec_EngPut putR
  rw [spec_EngOk_eq e h1 h2 h3 h4]
  cases hv : engV e with
  | false => rfl
  | true =>
    simp only [Option.bind_some, Bool.not_true, Bool.false_eq_true, if_false, spec_l20Copy_eq e h1 h2 hlen h4, cond_true, spec_BatchOk_eq l h5]
    cases hb : batchV l with
    | false => rfl
    | true =>
      have hseq := (engV_all hv).1
      obtain ⟨g1, g2, g3⟩ := engB_mem hv hb
      have hw : IntKind.i64.wrap (e.Seq + (1 : Int)) = e.Seq + 1 := wrap_ok (by omega) (by omega)
      obtain ⟨i1, i2, i3, i4⟩ := memB_step l (e.Seq + 1) e.Mem g1 g2 (by omega) l.length (Nat.le_refl _)
      simp only [Bool.not_true, Bool.false_eq_true, if_false, cond_true, hw]
      rw [loopO_count (fun k => ((k : Int), memB l (e.Seq + 1) e.Mem k)) l.length (r := Ctl.go (memB l (e.Seq + 1) e.Mem l.length)) ?h0]
      case h0 => rfl
      · simp only [bindC_go]
        have hx := spec_EngOk_eq (engB e l) (by show (memB l (e.Seq + 1) e.Mem l.length).length ≤ _; omega) h2 h3 h4
        rw [engB_ok hv hb] at hx
        unfold engB at hx ⊢
        rw [hx]
        cases okB e l <;> rfl
      · intro k hk
        rw [if_pos (by simpa using hk), last_loop l k hk h5]
        simp only [bindC_go, idx_nat l k hk, Option.bind_some]
        rw [wrap_ok (n := (k : Int) + 1) (by omega) (by omega)]
        cases hla : laterV l k l[k].Key with
        | true =>
          rw [memB_later l _ _ k hk hla]
          rfl
        | false =>
          have hp := (memB_both l (e.Seq + 1) e.Mem g1 g2 (by omega) k hk hla).2
          unfold entO at hp
          simp only [Bool.not_false, if_true, hp, Option.bind_some, bindC_go]
          rfl
      · simp
theorem impl_engPut_eq (e : Eng) (l : List Op) (hv : engV e = true) (hb : batchV l = true) : impl_Eng_engPut e l = some (okB e l, engB e l) := by
  obtain ⟨hseq, s2, s3, s4, s5, _⟩ := engV_all hv
  obtain ⟨g1, g2, g3⟩ := engB_mem hv hb
  have hw : IntKind.i64.wrap (e.Seq + (1 : Int)) = e.Seq + 1 := wrap_ok (by omega) (by omega)
  obtain ⟨i1, i2, i3, i4⟩ := memB_step l (e.Seq + 1) e.Mem g1 g2 (by omega) l.length (Nat.le_refl _)
  unfold impl_Eng_engPut
  simp only [hw]
  rw [loopO_count (fun k => (true, (k : Int), memB l (e.Seq + 1) e.Mem k)) l.length (r := Ctl.go (true, memB l (e.Seq + 1) e.Mem l.length)) ?h0]
  case h0 => rfl
  · simp only [bindC_go, if_true, impl_totalOf_eq e.Tables (by omega) (by omega), Option.bind_some]
    rw [wrap_ok (by omega) (by omega)]
    unfold okB engB
    have d1 : decide ((((memB l (e.Seq + 1) e.Mem l.length).length : Nat) : Int) ≤ 60) = decide ((memB l (e.Seq + 1) e.Mem l.length).length ≤ 60) := decide_eq_decide.2 (by omega)
    have d2 : decide ((totalV e.Tables : Int) + (((memB l (e.Seq + 1) e.Mem l.length).length : Nat) : Int) ≤ 400) = decide (totalV e.Tables + (memB l (e.Seq + 1) e.Mem l.length).length ≤ 400) := decide_eq_decide.2 (by omega)
    rw [d1, d2]
    cases decide (e.Seq + 1 ≤ 1000000) <;> cases decide ((memB l (e.Seq + 1) e.Mem l.length).length ≤ 60) <;> cases decide (totalV e.Tables + (memB l (e.Seq + 1) e.Mem l.length).length ≤ 400) <;> rfl
  · intro k hk
    have hpc : piece l (IntKind.i64.wrap ((k : Int) + (1 : Int))) ((l.length : Nat) : Int) = some (l.drop (k + 1)) := by
      rw [wrap_ok (by omega) (by omega), piece_nat l (k + 1) l.length _ _ (by omega) rfl (by omega) (Nat.le_refl _), List.take_of_length_le (by simp)]
    simp only [idx_nat l k hk, Option.bind_some, hpc, containsOp_eq _ l[k] (by simp; omega : (l.drop (k + 1)).length ≤ 1048576)]
    rw [if_pos (by simpa using hk), wrap_ok (n := (k : Int) + 1) (by omega) (by omega)]
    have hlv : ((l.drop (k + 1)).any fun x => decide (x.Key = l[k].Key)) = laterV l k l[k].Key := rfl
    rw [hlv]
    cases hla : laterV l k l[k].Key with
    | true =>
      rw [memB_later l _ _ k hk hla]
      rfl
    | false =>
      have hp := (memB_both l (e.Seq + 1) e.Mem g1 g2 (by omega) k hk hla).1
      unfold entO at hp
      simp only [Bool.not_false, if_true, hp, Option.bind_some, bindC_go]
      rfl
  · simp
/-! words of bits -/
theorem iand64 {a b : Nat} (ha : a < 2 ^ 63) (hb : b < 2 ^ 63) : iand .i64 (a : Int) (b : Int) = ((a &&& b : Nat) : Int) := by
  unfold iand
  have h1 : a &&& b ≤ a := Nat.and_le_left
  have e : (BitVec.ofInt IntKind.i64.bits (a : Int) &&& BitVec.ofInt IntKind.i64.bits (b : Int)).toNat = a &&& b := by
    show (BitVec.ofInt 64 (a : Int) &&& BitVec.ofInt 64 (b : Int)).toNat = a &&& b
    rw [BitVec.ofInt_natCast, BitVec.ofInt_natCast, BitVec.toNat_and, BitVec.toNat_ofNat, BitVec.toNat_ofNat, Nat.mod_eq_of_lt (by omega), Nat.mod_eq_of_lt (by omega)]
  rw [e]
  exact wrap_ok (by omega) (by omega)
theorem ior64 {a b : Nat} (ha : a < 2 ^ 63) (hb : b < 2 ^ 63) : ior .i64 (a : Int) (b : Int) = ((a ||| b : Nat) : Int) := by
  unfold ior
  have h1 : a ||| b < 2 ^ 63 := Nat.or_lt_two_pow ha hb
  have e : (BitVec.ofInt IntKind.i64.bits (a : Int) ||| BitVec.ofInt IntKind.i64.bits (b : Int)).toNat = a ||| b := by
    show (BitVec.ofInt 64 (a : Int) ||| BitVec.ofInt 64 (b : Int)).toNat = a ||| b
    rw [BitVec.ofInt_natCast, BitVec.ofInt_natCast, BitVec.toNat_or, BitVec.toNat_ofNat, BitVec.toNat_ofNat, Nat.mod_eq_of_lt (by omega), Nat.mod_eq_of_lt (by omega)]
  rw [e]
  exact wrap_ok (by omega) (by omega)
theorem ixor64 {a b : Nat} (ha : a < 2 ^ 63) (hb : b < 2 ^ 63) : ixor .i64 (a : Int) (b : Int) = ((a ^^^ b : Nat) : Int) := by
  unfold ixor
  have h1 : a ^^^ b < 2 ^ 63 := Nat.xor_lt_two_pow ha hb
  have e : (BitVec.ofInt IntKind.i64.bits (a : Int) ^^^ BitVec.ofInt IntKind.i64.bits (b : Int)).toNat = a ^^^ b := by
    show (BitVec.ofInt 64 (a : Int) ^^^ BitVec.ofInt 64 (b : Int)).toNat = a ^^^ b
    rw [BitVec.ofInt_natCast, BitVec.ofInt_natCast, BitVec.toNat_xor, BitVec.toNat_ofNat, BitVec.toNat_ofNat, Nat.mod_eq_of_lt (by omega), Nat.mod_eq_of_lt (by omega)]
  rw [e]
  exact wrap_ok (by omega) (by omega)
theorem wrap32 (n : Int) : IntKind.u32.wrap n = n % 4294967296 := by simp [IntKind.wrap, IntKind.bits, IntKind.signed]
theorem wrap64u (n : Int) : IntKind.u64.wrap n = n % 18446744073709551616 := by simp [IntKind.wrap, IntKind.bits, IntKind.signed]
theorem ior32 {a b : Nat} (ha : a < 2 ^ 32) (hb : b < 2 ^ 32) : ior .u32 (a : Int) (b : Int) = ((a ||| b : Nat) : Int) := by
  unfold ior
  have h1 : a ||| b < 2 ^ 32 := Nat.or_lt_two_pow ha hb
  have e : (BitVec.ofInt IntKind.u32.bits (a : Int) ||| BitVec.ofInt IntKind.u32.bits (b : Int)).toNat = a ||| b := by
    show (BitVec.ofInt 32 (a : Int) ||| BitVec.ofInt 32 (b : Int)).toNat = a ||| b
    rw [BitVec.ofInt_natCast, BitVec.ofInt_natCast, BitVec.toNat_or, BitVec.toNat_ofNat, BitVec.toNat_ofNat, Nat.mod_eq_of_lt (by omega), Nat.mod_eq_of_lt (by omega)]
  rw [e, wrap32]
  omega
theorem ixor32 {a b : Nat} (ha : a < 2 ^ 32) (hb : b < 2 ^ 32) : ixor .u32 (a : Int) (b : Int) = ((a ^^^ b : Nat) : Int) := by
  unfold ixor
  have h1 : a ^^^ b < 2 ^ 32 := Nat.xor_lt_two_pow ha hb
  have e : (BitVec.ofInt IntKind.u32.bits (a : Int) ^^^ BitVec.ofInt IntKind.u32.bits (b : Int)).toNat = a ^^^ b := by
    show (BitVec.ofInt 32 (a : Int) ^^^ BitVec.ofInt 32 (b : Int)).toNat = a ^^^ b
    rw [BitVec.ofInt_natCast, BitVec.ofInt_natCast, BitVec.toNat_xor, BitVec.toNat_ofNat, BitVec.toNat_ofNat, Nat.mod_eq_of_lt (by omega), Nat.mod_eq_of_lt (by omega)]
  rw [e, wrap32]
  omega
theorem iand8 {a b : Nat} (ha : a < 2 ^ 8) (hb : b < 2 ^ 8) : iand .u8 (a : Int) (b : Int) = ((a &&& b : Nat) : Int) := by
  unfold iand
  have h1 : a &&& b ≤ a := Nat.and_le_left
  have e : (BitVec.ofInt IntKind.u8.bits (a : Int) &&& BitVec.ofInt IntKind.u8.bits (b : Int)).toNat = a &&& b := by
    show (BitVec.ofInt 8 (a : Int) &&& BitVec.ofInt 8 (b : Int)).toNat = a &&& b
    rw [BitVec.ofInt_natCast, BitVec.ofInt_natCast, BitVec.toNat_and, BitVec.toNat_ofNat, BitVec.toNat_ofNat, Nat.mod_eq_of_lt (by omega), Nat.mod_eq_of_lt (by omega)]
  rw [e]
  simp [IntKind.wrap, IntKind.bits, IntKind.signed]
  omega
theorem ishr_nat {k : IntKind} {a n : Nat} (hn : n ≤ k.bits) : ishr k (a : Int) (n : Int) = ((a / 2 ^ n : Nat) : Int) := by
  unfold ishr
  rw [Int.toNat_natCast, Nat.min_eq_left hn, Int.fdiv_eq_ediv_of_nonneg _ (by exact_mod_cast Nat.zero_le _)]
  norm_cast
theorem ishl64 {a n : Nat} (hn : n ≤ 64) (h : a * 2 ^ n < 2 ^ 63) : ishl .i64 (a : Int) (n : Int) = ((a * 2 ^ n : Nat) : Int) := by
  unfold ishl
  have hb : IntKind.i64.bits = 64 := rfl
  rw [Int.toNat_natCast, hb, Nat.min_eq_left hn]
  have e : (a : Int) * 2 ^ n = ((a * 2 ^ n : Nat) : Int) := by norm_cast
  rw [e]
  exact wrap_ok (by omega) (by omega)
theorem ishl32 {a n : Nat} (hn : n ≤ 32) : ishl .u32 (a : Int) (n : Int) = ((a * 2 ^ n % 4294967296 : Nat) : Int) := by
  unfold ishl
  have hb : IntKind.u32.bits = 32 := rfl
  have e : (a : Int) * 2 ^ n = ((a * 2 ^ n : Nat) : Int) := by norm_cast
  rw [Int.toNat_natCast, hb, Nat.min_eq_left hn, wrap32, e]
  generalize a * 2 ^ n = z
  omega
theorem l3Word_eq {x : Nat} (h : x < 2 ^ 63) : spec_l3Word (x : Int) = some ((x % 4294967296 : Nat) : Int) := by
  unfold spec_l3Word
  rw [show (4294967295 : Int) = ((4294967295 : Nat) : Int) from rfl, iand64 h (by decide), show x &&& 4294967295 = x % 4294967296 from Nat.and_two_pow_sub_one_eq_mod x 32]
/-- the bits of a word turned to the left -/
def rotN (x n : Nat) : Nat := x * 2 ^ n % 4294967296 ||| x / 2 ^ (32 - n)
theorem rotN_lt {x n : Nat} (h : x < 4294967296) : rotN x n < 4294967296 := by
  unfold rotN
  refine Nat.or_lt_two_pow (n := 32) (Nat.mod_lt _ (by decide)) ?_
  exact Nat.lt_of_le_of_lt (Nat.div_le_self _ _) h
theorem l3Left_eq {x n : Nat} (h : x < 4294967296) (hn : n ≤ 16) : spec_l3Left (x : Int) (n : Int) = some (rotN x n : Int) := by
  unfold spec_l3Left nn
  have h1 : x * 2 ^ n < 2 ^ 63 := by
    have : 2 ^ n ≤ 2 ^ 16 := Nat.pow_le_pow_right (by decide) hn
    calc x * 2 ^ n ≤ x * 2 ^ 16 := Nat.mul_le_mul_left _ this
      _ < 2 ^ 63 := by omega
  have h2 : x / 2 ^ (32 - n) < 2 ^ 32 := Nat.lt_of_le_of_lt (Nat.div_le_self _ _) h
  have h3 : IntKind.u64.wrap ((32 : Int) - (n : Int)) = ((32 - n : Nat) : Int) := by rw [wrap64u]; omega
  rw [if_neg (by omega), h3, ishl64 (by omega) h1, ishr_nat (by show 32 - n ≤ 64; omega), ior64 h1 (by omega)]
  simp only [Option.bind_some]
  rw [l3Word_eq (Nat.or_lt_two_pow h1 (by omega))]
  simp only [Option.bind_some]
  unfold rotN
  rw [show (4294967296 : Nat) = 2 ^ 32 from rfl, Nat.or_mod_two_pow, Nat.mod_eq_of_lt h2]
theorem rot32_eq {x n : Nat} (h : x < 4294967296) (hn : n ≤ 16) : math_bits_RotateLeft32 (x : Int) (n : Int) = some (rotN x n : Int) := by
  unfold math_bits_RotateLeft32 nn
  have h0 : iand .u64 (IntKind.u64.wrap (n : Int)) (31 : Int) = (n : Int) := by
    have e : IntKind.u64.wrap (n : Int) = (n : Int) := by rw [wrap64u]; omega
    rw [e]
    unfold iand
    have e2 : (BitVec.ofInt IntKind.u64.bits (n : Int) &&& BitVec.ofInt IntKind.u64.bits (31 : Int)).toNat = n := by
      show (BitVec.ofInt 64 (n : Int) &&& BitVec.ofInt 64 ((31 : Nat) : Int)).toNat = n
      rw [BitVec.ofInt_natCast, BitVec.ofInt_natCast, BitVec.toNat_and, BitVec.toNat_ofNat, BitVec.toNat_ofNat, Nat.mod_eq_of_lt (by omega), Nat.mod_eq_of_lt (by omega)]
      rw [show n &&& 31 = n % 32 from Nat.and_two_pow_sub_one_eq_mod n 5]
      omega
    rw [e2, wrap64u]
    omega
  have h2 : x / 2 ^ (32 - n) < 2 ^ 32 := Nat.lt_of_le_of_lt (Nat.div_le_self _ _) h
  have h3 : IntKind.u64.wrap ((32 : Int) - (n : Int)) = ((32 - n : Nat) : Int) := by rw [wrap64u]; omega
  rw [h0, if_neg (by omega), h3, ishl32 (by omega), ishr_nat (by show 32 - n ≤ 32; omega), ior32 (Nat.mod_lt _ (by decide)) h2]
  rfl
theorem ior_same {p q : Int} (hp : 0 ≤ p ∧ p < 4294967296) (hq : 0 ≤ q ∧ q < 4294967296) : ior .u32 p q = ior .i64 p q ∧ 0 ≤ ior .i64 p q ∧ ior .i64 p q < 4294967296 := by
  have e1 : p = (p.toNat : Int) := by omega
  have e2 : q = (q.toNat : Int) := by omega
  have h1 : p.toNat < 2 ^ 32 := by omega
  have h2 : q.toNat < 2 ^ 32 := by omega
  have h3 := Nat.or_lt_two_pow h1 h2
  rw [e1, e2, ior32 h1 h2, ior64 (by omega) (by omega)]
  generalize p.toNat ||| q.toNat = z at h3
  exact ⟨rfl, by omega, by omega⟩
theorem ishl_same (x : UInt8) (n : Nat) (hn : n ≤ 24) : ishl .u32 (IntKind.u32.wrap ((x.toNat : Nat) : Int)) (n : Int) = ishl .i64 (IntKind.i64.wrap ((x.toNat : Nat) : Int)) (n : Int) ∧ 0 ≤ ishl .i64 (IntKind.i64.wrap ((x.toNat : Nat) : Int)) (n : Int) ∧ ishl .i64 (IntKind.i64.wrap ((x.toNat : Nat) : Int)) (n : Int) < 4294967296 := by
  have hx := x.toNat_lt
  have w1 : IntKind.u32.wrap ((x.toNat : Nat) : Int) = ((x.toNat : Nat) : Int) := by rw [wrap32]; omega
  have w2 : IntKind.i64.wrap ((x.toNat : Nat) : Int) = ((x.toNat : Nat) : Int) := wrap_ok (by omega) (by omega)
  have hp : 2 ^ n ≤ 2 ^ 24 := Nat.pow_le_pow_right (by decide) hn
  have hm : x.toNat * 2 ^ n ≤ x.toNat * 2 ^ 24 := Nat.mul_le_mul_left _ hp
  rw [w1, w2, ishl32 (by omega), ishl64 (by omega) (by omega)]
  generalize x.toNat * 2 ^ n = z at hm
  have hz : z < 4294967296 := by omega
  rw [Nat.mod_eq_of_lt hz]
  exact ⟨rfl, by omega, by omega⟩
theorem ishl_samei (x : UInt8) (n : Int) (hn : 0 ≤ n ∧ n ≤ 24) : ishl .u32 (IntKind.u32.wrap ((x.toNat : Nat) : Int)) n = ishl .i64 (IntKind.i64.wrap ((x.toNat : Nat) : Int)) n ∧ 0 ≤ ishl .i64 (IntKind.i64.wrap ((x.toNat : Nat) : Int)) n ∧ ishl .i64 (IntKind.i64.wrap ((x.toNat : Nat) : Int)) n < 4294967296 := by
  have e : n = (n.toNat : Int) := by omega
  rw [e]
  exact ishl_same x n.toNat (by omega)
theorem bind_same {α β : Type} {x : Option α} {f g : α → Option β} (h : ∀ a, f a = g a) : x.bind f = x.bind g := by
  cases x with
  | none => rfl
  | some a => exact h a
theorem little_val (a b c d : UInt8) : ior .u32 (ior .u32 (ior .u32 (IntKind.u32.wrap ((a.toNat : Nat) : Int)) (ishl .u32 (IntKind.u32.wrap ((b.toNat : Nat) : Int)) (8 : Int))) (ishl .u32 (IntKind.u32.wrap ((c.toNat : Nat) : Int)) (16 : Int))) (ishl .u32 (IntKind.u32.wrap ((d.toNat : Nat) : Int)) (24 : Int)) =
      ior .i64 (ior .i64 (ior .i64 (IntKind.i64.wrap ((a.toNat : Nat) : Int)) (ishl .i64 (IntKind.i64.wrap ((b.toNat : Nat) : Int)) (8 : Int))) (ishl .i64 (IntKind.i64.wrap ((c.toNat : Nat) : Int)) (16 : Int))) (ishl .i64 (IntKind.i64.wrap ((d.toNat : Nat) : Int)) (24 : Int)) ∧
      0 ≤ ior .i64 (ior .i64 (ior .i64 (IntKind.i64.wrap ((a.toNat : Nat) : Int)) (ishl .i64 (IntKind.i64.wrap ((b.toNat : Nat) : Int)) (8 : Int))) (ishl .i64 (IntKind.i64.wrap ((c.toNat : Nat) : Int)) (16 : Int))) (ishl .i64 (IntKind.i64.wrap ((d.toNat : Nat) : Int)) (24 : Int)) ∧
      ior .i64 (ior .i64 (ior .i64 (IntKind.i64.wrap ((a.toNat : Nat) : Int)) (ishl .i64 (IntKind.i64.wrap ((b.toNat : Nat) : Int)) (8 : Int))) (ishl .i64 (IntKind.i64.wrap ((c.toNat : Nat) : Int)) (16 : Int))) (ishl .i64 (IntKind.i64.wrap ((d.toNat : Nat) : Int)) (24 : Int)) < 4294967296 := by
  have ha := a.toNat_lt
  have a1 : IntKind.u32.wrap ((a.toNat : Nat) : Int) = IntKind.i64.wrap ((a.toNat : Nat) : Int) := by rw [wrap32, wrap_ok (by omega) (by omega)]; omega
  have a2 : 0 ≤ IntKind.i64.wrap ((a.toNat : Nat) : Int) ∧ IntKind.i64.wrap ((a.toNat : Nat) : Int) < 4294967296 := by rw [wrap_ok (by omega) (by omega)]; omega
  obtain ⟨b1, b2⟩ := ishl_samei b 8 (by omega)
  obtain ⟨c1, c2⟩ := ishl_samei c 16 (by omega)
  obtain ⟨d1, d2⟩ := ishl_samei d 24 (by omega)
  obtain ⟨o1, o2⟩ := ior_same a2 b2
  obtain ⟨p1, p2⟩ := ior_same o2 c2
  obtain ⟨q1, q2⟩ := ior_same p2 d2
  refine ⟨?_, q2⟩
  rw [a1, b1, c1, d1, o1, p1, q1]
/-- a word of four bytes -/
theorem little_eq (s : List UInt8) (at_ : Int) : impl_little s at_ = spec_l3Little s at_ := by
  unfold impl_little spec_l3Little
  exact bind_same fun a => bind_same fun b => bind_same fun c => bind_same fun d => congrArg some (little_val a b c d).1
theorem little_range (s : List UInt8) (at_ r : Int) (h : spec_l3Little s at_ = some r) : 0 ≤ r ∧ r < 4294967296 := by
  unfold spec_l3Little at h
  obtain ⟨a, _, h⟩ := Option.bind_eq_some_iff.1 h
  obtain ⟨b, _, h⟩ := Option.bind_eq_some_iff.1 h
  obtain ⟨c, _, h⟩ := Option.bind_eq_some_iff.1 h
  obtain ⟨d, _, h⟩ := Option.bind_eq_some_iff.1 h
  rw [← Option.some.inj h]
  exact (little_val a b c d).2
theorem sidx_nat (s : List UInt8) (i : Nat) (h : i < s.length) : sidx s (i : Int) = some s[i] := by
  unfold sidx
  rw [if_pos (by omega), Int.toNat_natCast, List.getElem?_eq_getElem h]
theorem little_some (s : List UInt8) (i : Nat) (h : i + 3 < s.length) (hs : s.length ≤ 1048576) : ∃ n : Nat, spec_l3Little s (i : Int) = some (n : Int) ∧ impl_little s (i : Int) = some (n : Int) ∧ n < 4294967296 := by
  have h1 := little_eq s (i : Int)
  have h2 := little_range s (i : Int)
  have hs' : ∃ r, spec_l3Little s (i : Int) = some r := by
    unfold spec_l3Little
    have w : ∀ d : Nat, d ≤ 3 → IntKind.i64.wrap ((i : Int) + (d : Int)) = ((i + d : Nat) : Int) := fun d hd => by rw [wrap_ok (by omega) (by omega)]; omega
    have w1 : IntKind.i64.wrap ((i : Int) + (1 : Int)) = ((i + 1 : Nat) : Int) := w 1 (by omega)
    have w2 : IntKind.i64.wrap ((i : Int) + (2 : Int)) = ((i + 2 : Nat) : Int) := w 2 (by omega)
    have w3 : IntKind.i64.wrap ((i : Int) + (3 : Int)) = ((i + 3 : Nat) : Int) := w 3 (by omega)
    rw [w1, w2, w3, sidx_nat s i (by omega), sidx_nat s (i + 1) (by omega), sidx_nat s (i + 2) (by omega), sidx_nat s (i + 3) (by omega)]
    exact ⟨_, rfl⟩
  obtain ⟨r, hr⟩ := hs'
  obtain ⟨p, q⟩ := h2 r hr
  refine ⟨r.toNat, ?_, ?_, by omega⟩
  · rw [hr]; congr 1; omega
  · rw [h1, hr]; congr 1; omega
/-- words of 32 bits -/
def okW (l : List Wrd) : Prop := ∀ x ∈ l, 0 ≤ x.v ∧ x.v < 4294967296
theorem okW_set {l : List Wrd} {i : Nat} {x : Wrd} (h : okW l) (hx : 0 ≤ x.v ∧ x.v < 4294967296) : okW (l.set i x) := by
  intro y hy
  rcases List.mem_or_eq_of_mem_set hy with h1 | h1
  · exact h y h1
  · rw [h1]; exact hx
/-- half of a step: one word added to another, and a third one changed and turned -/
noncomputable def qi (l : List Wrd) (x y z : Int) (r : Int) : Option (List Wrd) :=
  (idx l x).bind fun E1 => (idx l y).bind fun E3 => (idx (l.set x.toNat (Wrd.mk (IntKind.u32.wrap (E1.v + E3.v)))) z).bind fun E7 => (idx (l.set x.toNat (Wrd.mk (IntKind.u32.wrap (E1.v + E3.v)))) x).bind fun E9 =>
  (math_bits_RotateLeft32 (ixor .u32 E7.v E9.v) r).bind fun R11 => some ((l.set x.toNat (Wrd.mk (IntKind.u32.wrap (E1.v + E3.v)))).set z.toNat (Wrd.mk R11))
noncomputable def qs (l : List Int) (x y z : Int) (r : Int) : Option (List Int) :=
  (idx l x).bind fun E1 => (idx l y).bind fun E3 => (spec_l3Word (IntKind.i64.wrap (E1 + E3))).bind fun R5 => (idx (l.set x.toNat R5) z).bind fun E10 => (idx (l.set x.toNat R5) x).bind fun E12 =>
  (spec_l3Left (ixor .i64 E10 E12) r).bind fun R14 => some ((l.set x.toNat R5).set z.toNat R14)
theorem impl_quarter_steps (l : List Wrd) (a b c d : Int) : impl_quarter l a b c d = (qi l a b d 16).bind fun l2 => (qi l2 c d b 12).bind fun l3 => (qi l3 a b d 8).bind fun l4 => qi l4 c d b 7 := by
  unfold impl_quarter qi
  simp only [Option.bind_assoc, Option.bind_some]
theorem spec_quarter_steps (l : List Int) (a b c d : Int) : spec_l3Quarter l a b c d = (qs l a b d 16).bind fun l2 => (qs l2 c d b 12).bind fun l3 => (qs l3 a b d 8).bind fun l4 => qs l4 c d b 7 := by
  unfold spec_l3Quarter qs
  simp only [Option.bind_assoc, Option.bind_some]
theorem okW_nat {l : List Wrd} (h : okW l) (k : Nat) (hk : k < l.length) : ∃ n : Nat, l[k].v = (n : Int) ∧ n < 4294967296 := by
  obtain ⟨h1, h2⟩ := h _ (List.getElem_mem hk)
  exact ⟨l[k].v.toNat, by omega, by omega⟩
theorem step_eq (l : List Wrd) (x y z r : Nat) (hl : l.length = 16) (hw : okW l) (hx : x < 16) (hy : y < 16) (hz : z < 16) (hr : r ≤ 16) :
    ∃ l', qi l (x : Int) (y : Int) (z : Int) (r : Int) = some l' ∧ qs (l.map Wrd.v) (x : Int) (y : Int) (z : Int) (r : Int) = some (l'.map Wrd.v) ∧ l'.length = 16 ∧ okW l' := by
  obtain ⟨nx, ex, hnx⟩ := okW_nat hw x (by omega)
  obtain ⟨ny, ey, hny⟩ := okW_nat hw y (by omega)
  have hsum : IntKind.u32.wrap ((nx : Int) + (ny : Int)) = (((nx + ny) % 4294967296 : Nat) : Int) := by rw [wrap32]; omega
  have hlt : (nx + ny) % 4294967296 < 4294967296 := Nat.mod_lt _ (by decide)
  have hl1 : (l.set x (Wrd.mk (((nx + ny) % 4294967296 : Nat) : Int))).length = 16 := by rw [List.length_set]; exact hl
  have hw1 : okW (l.set x (Wrd.mk (((nx + ny) % 4294967296 : Nat) : Int))) := okW_set hw ⟨by show (0 : Int) ≤ (((nx + ny) % 4294967296 : Nat) : Int); omega, by show (((nx + ny) % 4294967296 : Nat) : Int) < _; omega⟩
  obtain ⟨nz, ez, hnz⟩ := okW_nat hw1 z (by omega)
  obtain ⟨nw, ew, hnw⟩ := okW_nat hw1 x (by omega)
  have hxor := Nat.xor_lt_two_pow (n := 32) hnz hnw
  have hrl := rotN_lt (n := r) (show nz ^^^ nw < 4294967296 from hxor)
  refine ⟨(l.set x (Wrd.mk (((nx + ny) % 4294967296 : Nat) : Int))).set z (Wrd.mk (rotN (nz ^^^ nw) r : Int)), ?_, ?_, by rw [List.length_set]; exact hl1, okW_set hw1 ⟨by show (0 : Int) ≤ (rotN (nz ^^^ nw) r : Int); omega, by show (rotN (nz ^^^ nw) r : Int) < _; omega⟩⟩
  · unfold qi
    simp only [idx_nat l x (by omega), idx_nat l y (by omega), Option.bind_some, ex, ey, hsum, Int.toNat_natCast, idx_nat _ z (by omega : z < (l.set x (Wrd.mk (((nx + ny) % 4294967296 : Nat) : Int))).length), idx_nat _ x (by omega : x < (l.set x (Wrd.mk (((nx + ny) % 4294967296 : Nat) : Int))).length), ez, ew, ixor32 hnz hnw, rot32_eq hxor hr]
  · unfold qs
    have m1 : idx (l.map Wrd.v) (x : Int) = some (nx : Int) := by rw [idx_nat _ x (by simp; omega)]; simp [ex]
    have m2 : idx (l.map Wrd.v) (y : Int) = some (ny : Int) := by rw [idx_nat _ y (by simp; omega)]; simp [ey]
    have m3 : IntKind.i64.wrap ((nx : Int) + (ny : Int)) = ((nx + ny : Nat) : Int) := by rw [wrap_ok (by omega) (by omega)]; omega
    have m4 : (l.map Wrd.v).set x (((nx + ny) % 4294967296 : Nat) : Int) = (l.set x (Wrd.mk (((nx + ny) % 4294967296 : Nat) : Int))).map Wrd.v := by rw [List.map_set]
    simp only [m1, m2, Option.bind_some, m3, l3Word_eq (show nx + ny < 2 ^ 63 by omega), Int.toNat_natCast, m4]
    have m5 : idx ((l.set x (Wrd.mk (((nx + ny) % 4294967296 : Nat) : Int))).map Wrd.v) (z : Int) = some (nz : Int) := by rw [idx_nat _ z (by simp; omega)]; simp only [List.getElem_map, ez]
    have m6 : idx ((l.set x (Wrd.mk (((nx + ny) % 4294967296 : Nat) : Int))).map Wrd.v) (x : Int) = some (nw : Int) := by rw [idx_nat _ x (by simp; omega)]; simp only [List.getElem_map, ew]
    simp only [m5, m6, Option.bind_some, ixor64 (show nz < 2 ^ 63 by omega) (show nw < 2 ^ 63 by omega), l3Left_eq hxor hr]
    exact congrArg some List.map_set.symm
theorem quarter_eq (l : List Wrd) (a b c d : Nat) (hl : l.length = 16) (hw : okW l) (ha : a < 16) (hb : b < 16) (hc : c < 16) (hd : d < 16) :
    ∃ l', impl_quarter l (a : Int) (b : Int) (c : Int) (d : Int) = some l' ∧ spec_l3Quarter (l.map Wrd.v) (a : Int) (b : Int) (c : Int) (d : Int) = some (l'.map Wrd.v) ∧ l'.length = 16 ∧ okW l' := by
  obtain ⟨l1, p1, q1, r1, w1⟩ := step_eq l a b d 16 hl hw ha hb hd (by omega)
  obtain ⟨l2, p2, q2, r2, w2⟩ := step_eq l1 c d b 12 r1 w1 hc hd hb (by omega)
  obtain ⟨l3, p3, q3, r3, w3⟩ := step_eq l2 a b d 8 r2 w2 ha hb hd (by omega)
  obtain ⟨l4, p4, q4, r4, w4⟩ := step_eq l3 c d b 7 r3 w3 hc hd hb (by omega)
  refine ⟨l4, ?_, ?_, r4, w4⟩
  · rw [impl_quarter_steps, show (16 : Int) = ((16 : Nat) : Int) from rfl, p1]
    simp only [Option.bind_some]
    rw [show (12 : Int) = ((12 : Nat) : Int) from rfl, p2]
    simp only [Option.bind_some]
    rw [show (8 : Int) = ((8 : Nat) : Int) from rfl, p3]
    simp only [Option.bind_some]
    exact p4
  · rw [spec_quarter_steps, show (16 : Int) = ((16 : Nat) : Int) from rfl, q1]
    simp only [Option.bind_some]
    rw [show (12 : Int) = ((12 : Nat) : Int) from rfl, q2]
    simp only [Option.bind_some]
    rw [show (8 : Int) = ((8 : Nat) : Int) from rfl, q3]
    simp only [Option.bind_some]
    exact q4

/-- sixteen words -/
def goodW (l : List Wrd) : Prop := l.length = 16 ∧ okW l
noncomputable def qv (l : List Wrd) (a b c d : Nat) : List Wrd := (impl_quarter l (a : Int) (b : Int) (c : Int) (d : Int)).getD []
theorem qv_ok {l : List Wrd} (h : goodW l) (a b c d : Nat) (ha : a < 16) (hb : b < 16) (hc : c < 16) (hd : d < 16) :
    impl_quarter l (a : Int) (b : Int) (c : Int) (d : Int) = some (qv l a b c d) ∧ spec_l3Quarter (l.map Wrd.v) (a : Int) (b : Int) (c : Int) (d : Int) = some ((qv l a b c d).map Wrd.v) ∧ goodW (qv l a b c d) := by
  obtain ⟨l', h1, h2, h3, h4⟩ := quarter_eq l a b c d h.1 h.2 ha hb hc hd
  unfold qv
  rw [h1, h2]
  exact ⟨rfl, rfl, h3, h4⟩
noncomputable def colW (l : List Wrd) : Nat → List Wrd
  | 0 => l
  | k + 1 => qv (colW l k) k (4 + k) (8 + k) (12 + k)
noncomputable def diagW (l : List Wrd) : Nat → List Wrd
  | 0 => l
  | k + 1 => qv (diagW l k) k (4 + (k + 1) % 4) (8 + (k + 2) % 4) (12 + (k + 3) % 4)
noncomputable def roundW (l : List Wrd) : List Wrd := diagW (colW l 4) 4
noncomputable def roundsW (l : List Wrd) : Nat → List Wrd
  | 0 => l
  | k + 1 => roundW (roundsW l k)
theorem colW_good {l : List Wrd} (h : goodW l) : ∀ k, k ≤ 4 → goodW (colW l k)
  | 0, _ => h
  | k + 1, hk => (qv_ok (colW_good h k (by omega)) k (4 + k) (8 + k) (12 + k) (by omega) (by omega) (by omega) (by omega)).2.2
theorem diagW_good {l : List Wrd} (h : goodW l) : ∀ k, k ≤ 4 → goodW (diagW l k)
  | 0, _ => h
  | k + 1, hk => (qv_ok (diagW_good h k (by omega)) k (4 + (k + 1) % 4) (8 + (k + 2) % 4) (12 + (k + 3) % 4) (by omega) (by omega) (by omega) (by omega)).2.2
theorem roundW_good {l : List Wrd} (h : goodW l) : goodW (roundW l) := diagW_good (colW_good h 4 (by omega)) 4 (by omega)
theorem roundsW_good {l : List Wrd} (h : goodW l) : ∀ k, goodW (roundsW l k)
  | 0 => h
  | k + 1 => roundW_good (roundsW_good h k)
theorem col_loop {ρ : Type} {l : List Wrd} (h : goodW l) : loopO (ρ := Ctl (List Wrd) ρ) (fun (S17 : Int × List Wrd) => if (decide (S17.1 < (4 : Int))) = true then ((impl_quarter S17.2 S17.1 (IntKind.i64.wrap ((4 : Int) + S17.1)) (IntKind.i64.wrap ((8 : Int) + S17.1)) (IntKind.i64.wrap ((12 : Int) + S17.1))).bind fun R22 =>
  some (.go (IntKind.i64.wrap (S17.1 + (1 : Int)), R22)))
  else (some (.done (.go S17.2))))
  ((0 : Int), l) = some (.go (colW l 4)) := by
  rw [loopO_count (fun k => ((k : Int), colW l k)) 4 (r := Ctl.go (colW l 4)) ?h0]
  case h0 => rfl
  · intro k hk
    have e4 : IntKind.i64.wrap ((4 : Int) + (k : Int)) = ((4 + k : Nat) : Int) := by rw [wrap_ok (by omega) (by omega)]; omega
    have e8 : IntKind.i64.wrap ((8 : Int) + (k : Int)) = ((8 + k : Nat) : Int) := by rw [wrap_ok (by omega) (by omega)]; omega
    have e12 : IntKind.i64.wrap ((12 : Int) + (k : Int)) = ((12 + k : Nat) : Int) := by rw [wrap_ok (by omega) (by omega)]; omega
    simp only [e4, e8, e12, (qv_ok (colW_good h k (by omega)) k (4 + k) (8 + k) (12 + k) (by omega) (by omega) (by omega) (by omega)).1, Option.bind_some]
    rw [if_pos (by simp only [decide_eq_true_eq]; omega), wrap_ok (by omega) (by omega)]
    rfl
  · simp
theorem diag_loop {ρ : Type} {l : List Wrd} (h : goodW l) : loopO (ρ := Ctl (List Wrd) ρ) (fun (S25 : Int × List Wrd) => if (decide (S25.1 < (4 : Int))) = true then ((impl_quarter S25.2 S25.1 (IntKind.i64.wrap ((4 : Int) + (Int.tmod (IntKind.i64.wrap (S25.1 + (1 : Int))) (4 : Int)))) (IntKind.i64.wrap ((8 : Int) + (Int.tmod (IntKind.i64.wrap (S25.1 + (2 : Int))) (4 : Int)))) (IntKind.i64.wrap ((12 : Int) + (Int.tmod (IntKind.i64.wrap (S25.1 + (3 : Int))) (4 : Int))))).bind fun R30 =>
  some (.go (IntKind.i64.wrap (S25.1 + (1 : Int)), R30)))
  else (some (.done (.go S25.2))))
  ((0 : Int), l) = some (.go (diagW l 4)) := by
  rw [loopO_count (fun k => ((k : Int), diagW l k)) 4 (r := Ctl.go (diagW l 4)) ?h0]
  case h0 => rfl
  · intro k hk
    have e : ∀ (a d : Nat), a ≤ 12 → d ≤ 3 → IntKind.i64.wrap ((a : Int) + (Int.tmod (IntKind.i64.wrap ((k : Int) + (d : Int))) (4 : Int))) = ((a + (k + d) % 4 : Nat) : Int) := by
      intro a d ha hd
      rw [wrap_ok (n := (k : Int) + (d : Int)) (by omega) (by omega), show (k : Int) + (d : Int) = ((k + d : Nat) : Int) by omega, show (4 : Int) = ((4 : Nat) : Int) from rfl, ← Int.ofNat_tmod, wrap_ok (by omega) (by omega)]
      omega
    have e4 : IntKind.i64.wrap ((4 : Int) + (Int.tmod (IntKind.i64.wrap ((k : Int) + (1 : Int))) (4 : Int))) = _ := e 4 1 (by omega) (by omega)
    have e8 : IntKind.i64.wrap ((8 : Int) + (Int.tmod (IntKind.i64.wrap ((k : Int) + (2 : Int))) (4 : Int))) = _ := e 8 2 (by omega) (by omega)
    have e12 : IntKind.i64.wrap ((12 : Int) + (Int.tmod (IntKind.i64.wrap ((k : Int) + (3 : Int))) (4 : Int))) = _ := e 12 3 (by omega) (by omega)
    simp only [e4, e8, e12, (qv_ok (diagW_good h k (by omega)) k (4 + (k + 1) % 4) (8 + (k + 2) % 4) (12 + (k + 3) % 4) (by omega) (by omega) (by omega) (by omega)).1, Option.bind_some]
    rw [if_pos (by simp only [decide_eq_true_eq]; omega), wrap_ok (by omega) (by omega)]
    rfl
  · simp
theorem spec_round {l : List Wrd} (h : goodW l) {β : Type} (f : List Int → Option β) : ((spec_l3Quarter (l.map Wrd.v) (0 : Int) (4 : Int) (8 : Int) (12 : Int)).bind fun R36 =>
  (spec_l3Quarter R36 (1 : Int) (5 : Int) (9 : Int) (13 : Int)).bind fun R39 =>
  (spec_l3Quarter R39 (2 : Int) (6 : Int) (10 : Int) (14 : Int)).bind fun R42 =>
  (spec_l3Quarter R42 (3 : Int) (7 : Int) (11 : Int) (15 : Int)).bind fun R45 =>
  (spec_l3Quarter R45 (0 : Int) (5 : Int) (10 : Int) (15 : Int)).bind fun R48 =>
  (spec_l3Quarter R48 (1 : Int) (6 : Int) (11 : Int) (12 : Int)).bind fun R51 =>
  (spec_l3Quarter R51 (2 : Int) (7 : Int) (8 : Int) (13 : Int)).bind fun R54 =>
  (spec_l3Quarter R54 (3 : Int) (4 : Int) (9 : Int) (14 : Int)).bind fun R57 => f R57) = f ((roundW l).map Wrd.v) := by
  have c0 : spec_l3Quarter (l.map Wrd.v) (0 : Int) (4 : Int) (8 : Int) (12 : Int) = some ((colW l 1).map Wrd.v) := (qv_ok h 0 4 8 12 (by omega) (by omega) (by omega) (by omega)).2.1
  have c1 : spec_l3Quarter ((colW l 1).map Wrd.v) (1 : Int) (5 : Int) (9 : Int) (13 : Int) = some ((colW l 2).map Wrd.v) := (qv_ok (colW_good h 1 (by omega)) 1 5 9 13 (by omega) (by omega) (by omega) (by omega)).2.1
  have c2 : spec_l3Quarter ((colW l 2).map Wrd.v) (2 : Int) (6 : Int) (10 : Int) (14 : Int) = some ((colW l 3).map Wrd.v) := (qv_ok (colW_good h 2 (by omega)) 2 6 10 14 (by omega) (by omega) (by omega) (by omega)).2.1
  have c3 : spec_l3Quarter ((colW l 3).map Wrd.v) (3 : Int) (7 : Int) (11 : Int) (15 : Int) = some ((colW l 4).map Wrd.v) := (qv_ok (colW_good h 3 (by omega)) 3 7 11 15 (by omega) (by omega) (by omega) (by omega)).2.1
  have g := colW_good h 4 (by omega)
  have d0 : spec_l3Quarter ((colW l 4).map Wrd.v) (0 : Int) (5 : Int) (10 : Int) (15 : Int) = some ((diagW (colW l 4) 1).map Wrd.v) := (qv_ok g 0 5 10 15 (by omega) (by omega) (by omega) (by omega)).2.1
  have d1 : spec_l3Quarter ((diagW (colW l 4) 1).map Wrd.v) (1 : Int) (6 : Int) (11 : Int) (12 : Int) = some ((diagW (colW l 4) 2).map Wrd.v) := (qv_ok (diagW_good g 1 (by omega)) 1 6 11 12 (by omega) (by omega) (by omega) (by omega)).2.1
  have d2 : spec_l3Quarter ((diagW (colW l 4) 2).map Wrd.v) (2 : Int) (7 : Int) (8 : Int) (13 : Int) = some ((diagW (colW l 4) 3).map Wrd.v) := (qv_ok (diagW_good g 2 (by omega)) 2 7 8 13 (by omega) (by omega) (by omega) (by omega)).2.1
  have d3 : spec_l3Quarter ((diagW (colW l 4) 3).map Wrd.v) (3 : Int) (4 : Int) (9 : Int) (14 : Int) = some ((diagW (colW l 4) 4).map Wrd.v) := (qv_ok (diagW_good g 3 (by omega)) 3 4 9 14 (by omega) (by omega) (by omega) (by omega)).2.1
  simp only [c0, c1, c2, c3, d0, d1, d2, d3, Option.bind_some]
  rfl
/-- the words of a string -/
noncomputable def kN (s : List UInt8) (i : Nat) : Nat := ((spec_l3Little s ((4 * i : Nat) : Int)).getD 0).toNat
theorem kN_ok (s : List UInt8) (i : Nat) (h : 4 * i + 3 < s.length) (hs : s.length ≤ 1048576) : spec_l3Little s ((4 * i : Nat) : Int) = some (kN s i : Int) ∧ impl_little s ((4 * i : Nat) : Int) = some (kN s i : Int) ∧ kN s i < 4294967296 := by
  obtain ⟨n, h1, h2, h3⟩ := little_some s (4 * i) h hs
  have e : kN s i = n := by unfold kN; rw [h1]; rfl
  rw [e]
  exact ⟨h1, h2, h3⟩
noncomputable def selW (k : Nat) (i : Nat) (n : Nat) : Wrd := bif Nat.blt i k then Wrd.mk (n : Int) else Wrd.mk 0
noncomputable def firstK (key : List UInt8) (k : Nat) : List Wrd := [Wrd.mk 1634760805, Wrd.mk 857760878, Wrd.mk 2036477234, Wrd.mk 1797285236, selW k 0 (kN key 0), selW k 1 (kN key 1), selW k 2 (kN key 2), selW k 3 (kN key 3), selW k 4 (kN key 4), selW k 5 (kN key 5), selW k 6 (kN key 6), selW k 7 (kN key 7), Wrd.mk 0, Wrd.mk 0, Wrd.mk 0, Wrd.mk 0]
noncomputable def firstN (key : List UInt8) (counter : Int) (nonce : List UInt8) (k : Nat) : List Wrd := [Wrd.mk 1634760805, Wrd.mk 857760878, Wrd.mk 2036477234, Wrd.mk 1797285236, Wrd.mk (kN key 0 : Int), Wrd.mk (kN key 1 : Int), Wrd.mk (kN key 2 : Int), Wrd.mk (kN key 3 : Int), Wrd.mk (kN key 4 : Int), Wrd.mk (kN key 5 : Int), Wrd.mk (kN key 6 : Int), Wrd.mk (kN key 7 : Int), Wrd.mk counter, selW k 0 (kN nonce 0), selW k 1 (kN nonce 1), selW k 2 (kN nonce 2)]
theorem firstWords_eq (key : List UInt8) (counter : Int) (nonce : List UInt8) (hk : key.length = 32) (hc : 0 ≤ counter ∧ counter ≤ 4294967295) (hn : nonce.length = 12) : impl_firstWords key counter nonce = some (firstN key counter nonce 3) := by
  unfold impl_firstWords
  have hw : IntKind.u32.wrap counter = counter := by rw [wrap32]; omega
  have hl : ∀ l : List Wrd, l.length = 16 → lenIs 16 l = some () := fun l h => by unfold lenIs; rw [if_pos h]
  rw [hl _ rfl]
  simp only [Option.bind_some]
  rw [loopO_count (fun k => ((k : Int), firstK key k)) 8 (r := Ctl.go (firstK key 8)) ?h0]
  case h0 => rfl
  · simp only [bindC_go]
    rw [show (12 : Int) = ((12 : Nat) : Int) from rfl, idx_nat (firstK key 8) 12 (by show 12 < 16; omega)]
    simp only [Option.bind_some, Int.toNat_natCast, hw]
    rw [loopO_count (fun k => ((k : Int), firstN key counter nonce k)) 3 (r := Ctl.go (firstN key counter nonce 3)) ?h1]
    case h1 => rfl
    · simp only [bindC_go]
      rw [hl _ rfl]
      rfl
    · intro k h3
      have e4 : IntKind.i64.wrap ((4 : Int) * (k : Int)) = ((4 * k : Nat) : Int) := by rw [wrap_ok (by omega) (by omega)]; omega
      have e13 : IntKind.i64.wrap ((13 : Int) + (k : Int)) = ((13 + k : Nat) : Int) := by rw [wrap_ok (by omega) (by omega)]; omega
      simp only [e4, e13, (kN_ok nonce k (by omega) (by omega)).2.1, Option.bind_some, idx_nat (firstN key counter nonce k) (13 + k) (by show 13 + k < 16; omega), Int.toNat_natCast]
      rw [if_pos (by simp only [decide_eq_true_eq]; omega), wrap_ok (by omega) (by omega)]
      have h4 : k = 0 ∨ k = 1 ∨ k = 2 := by omega
      rcases h4 with rfl | rfl | rfl <;> rfl
    · rfl
  · intro k h8
    have e4 : IntKind.i64.wrap ((4 : Int) * (k : Int)) = ((4 * k : Nat) : Int) := by rw [wrap_ok (by omega) (by omega)]; omega
    have e44 : IntKind.i64.wrap ((4 : Int) + (k : Int)) = ((4 + k : Nat) : Int) := by rw [wrap_ok (by omega) (by omega)]; omega
    simp only [e4, e44, (kN_ok key k (by omega) (by omega)).2.1, Option.bind_some, idx_nat (firstK key k) (4 + k) (by show 4 + k < 16; omega), Int.toNat_natCast]
    rw [if_pos (by simp only [decide_eq_true_eq]; omega), wrap_ok (by omega) (by omega)]
    have h4 : k = 0 ∨ k = 1 ∨ k = 2 ∨ k = 3 ∨ k = 4 ∨ k = 5 ∨ k = 6 ∨ k = 7 := by omega
    rcases h4 with rfl | rfl | rfl | rfl | rfl | rfl | rfl | rfl <;> rfl
  · rfl
theorem firstN_good (key : List UInt8) (counter : Int) (nonce : List UInt8) (hk : key.length = 32) (hc : 0 ≤ counter ∧ counter ≤ 4294967295) (hn : nonce.length = 12) : goodW (firstN key counter nonce 3) := by
  refine ⟨rfl, ?_⟩
  have a : ∀ i, i < 8 → kN key i < 4294967296 := fun i hi => (kN_ok key i (by omega) (by omega)).2.2
  have b : ∀ i, i < 3 → kN nonce i < 4294967296 := fun i hi => (kN_ok nonce i (by omega) (by omega)).2.2
  have a0 := a 0 (by omega)
  have a1 := a 1 (by omega)
  have a2 := a 2 (by omega)
  have a3 := a 3 (by omega)
  have a4 := a 4 (by omega)
  have a5 := a 5 (by omega)
  have a6 := a 6 (by omega)
  have a7 := a 7 (by omega)
  have b0 := b 0 (by omega)
  have b1 := b 1 (by omega)
  have b2 := b 2 (by omega)
  have s0 : selW 3 0 (kN nonce 0) = Wrd.mk (kN nonce 0 : Int) := rfl
  have s1 : selW 3 1 (kN nonce 1) = Wrd.mk (kN nonce 1 : Int) := rfl
  have s2 : selW 3 2 (kN nonce 2) = Wrd.mk (kN nonce 2 : Int) := rfl
  intro x hx
  unfold firstN at hx
  rw [s0, s1, s2] at hx
  simp only [List.mem_cons, List.not_mem_nil, or_false] at hx
  rcases hx with rfl | rfl | rfl | rfl | rfl | rfl | rfl | rfl | rfl | rfl | rfl | rfl | rfl | rfl | rfl | rfl <;> simp only <;> omega
def bytes4 (n : Nat) : List UInt8 := [toU8 (n : Int), toU8 ((n / 256 : Nat) : Int), toU8 ((n / 65536 : Nat) : Int), toU8 ((n / 16777216 : Nat) : Int)]
/-- the bytes of the first k words -/
noncomputable def outW (w s : List Wrd) : Nat → List UInt8
  | 0 => []
  | k + 1 => outW w s k ++ (match w[k]?, s[k]? with | some x, some y => bytes4 ((x.v + y.v).toNat % 4294967296) | _, _ => [])
theorem outW_succ (w s : List Wrd) (k : Nat) (hw : k < w.length) (hs : k < s.length) : outW w s (k + 1) = outW w s k ++ bytes4 ((w[k].v + s[k].v).toNat % 4294967296) := by
  show outW w s k ++ (match w[k]?, s[k]? with | some x, some y => _ | _, _ => _) = _
  rw [List.getElem?_eq_getElem hw, List.getElem?_eq_getElem hs]
theorem outW_len (w s : List Wrd) (hw : w.length = 16) (hs : s.length = 16) : ∀ k, k ≤ 16 → (outW w s k).length = 4 * k
  | 0, _ => rfl
  | k + 1, hk => by
    rw [outW_succ w s k (by omega) (by omega), List.length_append, outW_len w s hw hs k (by omega)]
    show 4 * k + 4 = _
    omega
theorem toU8_mod (n : Nat) : toU8 ((n % 256 : Nat) : Int) = toU8 (n : Int) := by
  unfold toU8
  congr 1
  omega
noncomputable def chaR (key : List UInt8) (counter : Int) (nonce : List UInt8) : List UInt8 := outW (roundsW (firstN key counter nonce 3) 10) (firstN key counter nonce 3) 16
def chaOk (key : List UInt8) (counter : Int) (nonce : List UInt8) : Bool := decide (key.length = 32) && (decide (nonce.length = 12) && decide (0 ≤ counter ∧ counter ≤ 4294967295))
noncomputable def chaV (key : List UInt8) (counter : Int) (nonce : List UInt8) : List UInt8 := bif chaOk key counter nonce then chaR key counter nonce else []
theorem chaOk_iff {key : List UInt8} {counter : Int} {nonce : List UInt8} (h : chaOk key counter nonce = true) : key.length = 32 ∧ nonce.length = 12 ∧ 0 ≤ counter ∧ counter ≤ 4294967295 := by
  unfold chaOk at h
  simp only [Bool.and_eq_true, decide_eq_true_eq] at h
  exact h
theorem chaV_len (key : List UInt8) (counter : Int) (nonce : List UInt8) (h : chaOk key counter nonce = true) : (chaV key counter nonce).length = 64 := by
  obtain ⟨h1, h2, h3⟩ := chaOk_iff h
  have g := firstN_good key counter nonce h1 h3 h2
  unfold chaV chaR
  rw [h]
  exact outW_len _ _ (roundsW_good g 10).1 g.1 16 (Nat.le_refl _)
theorem impl_isCha_eq (key : List UInt8) (counter : Int) (nonce : List UInt8) : impl_isCha key counter nonce = some (chaOk key counter nonce) := by
  unfold impl_isCha chaOk
  have e1 : decide (((key.length : Nat) : Int) = 32) = decide (key.length = 32) := decide_eq_decide.2 (by omega)
  have e2 : decide (((nonce.length : Nat) : Int) = 12) = decide (nonce.length = 12) := decide_eq_decide.2 (by omega)
  rw [e1, e2, inRange_eq]
  cases decide (key.length = 32) <;> cases decide (nonce.length = 12) <;> cases decide (0 ≤ counter ∧ counter ≤ 4294967295) <;> rfl
theorem impl_ChaBlock_eq (key : List UInt8) (counter : Int) (nonce : List UInt8) : impl_ChaBlock key counter nonce = some (chaV key counter nonce) := by
  unfold impl_ChaBlock chaV
  rw [impl_isCha_eq]
  cases hok : chaOk key counter nonce with
  | false => rfl
  | true =>
    obtain ⟨h1, h2, h3⟩ := chaOk_iff hok
    have g := firstN_good key counter nonce h1 h3 h2
    have hl : ∀ l : List Wrd, l.length = 16 → lenIs 16 l = some () := fun l h => by unfold lenIs; rw [if_pos h]
    simp only [Option.bind_some, Bool.not_true, Bool.false_eq_true, if_false, cond_true, firstWords_eq key counter nonce h1 h3 h2, hl _ g.1]
    unfold chaR
    generalize firstN key counter nonce 3 = s at g
    rw [loopO_count (fun k => ((k : Int), roundsW s k)) 10 (r := Ctl.go (roundsW s 10)) ?h0]
    case h0 => rfl
    · have gw := roundsW_good g 10
      simp only [bindC_go, show mkLen 1 (64 : Int) = some 64 from rfl, Option.bind_some]
      rw [loopO_count (fun k => ((k : Int), outW (roundsW s 10) s k)) 16 (r := Ctl.go (outW (roundsW s 10) s 16)) ?h1]
      case h1 => rfl
      · rfl
      · intro k hk
        obtain ⟨n, en, hn⟩ := okW_nat gw.2 k (by rw [gw.1]; exact hk)
        obtain ⟨m, em, hm⟩ := okW_nat g.2 k (by rw [g.1]; exact hk)
        have ho := outW_len (roundsW s 10) s gw.1 g.1 k (by omega)
        simp only [hl _ gw.1, idx_nat (roundsW s 10) k (by rw [gw.1]; exact hk), idx_nat s k (by rw [g.1]; exact hk), Option.bind_some, en, em]
        have e0 : IntKind.u32.wrap ((n : Int) + (m : Int)) = (((n + m) % 4294967296 : Nat) : Int) := by rw [wrap32]; omega
        rw [e0, show (8 : Int) = ((8 : Nat) : Int) from rfl, show (24 : Int) = ((24 : Nat) : Int) from rfl, ishr_nat (by decide), ishr_nat (by decide)]
        rw [show ishr .u32 (((n + m) % 4294967296 : Nat) : Int) (16 : Int) = _ from ishr_nat (n := 16) (by decide)]
        rw [if_pos (by simp only [decide_eq_true_eq]; omega), wrap_ok (by omega) (by omega), app_ok (by rw [ho]; simp; omega) (by rw [ho]; simp; omega)]
        simp only [Option.bind_some]
        rw [outW_succ _ _ k (by rw [gw.1]; exact hk) (by rw [g.1]; exact hk), en, em]
        rfl
      · simp
    · intro k hk
      have gk := roundsW_good g k
      simp only [col_loop gk, bindC_go, diag_loop (colW_good gk 4 (by omega))]
      rw [if_pos (by simp only [decide_eq_true_eq]; omega), wrap_ok (by omega) (by omega)]
      rfl
    · simp
theorem bind_of {α β : Type} {x : Option α} {a : α} {f : α → Option β} {r : Option β} (h : x = some a) (h2 : f a = r) : x.bind f = r := by rw [h]; exact h2
theorem spec_ChaBlock_eq (key : List UInt8) (counter : Int) (nonce : List UInt8) : spec_ChaBlock key counter nonce = some (chaV key counter nonce) := by
  unfold spec_ChaBlock chaV
  have e1 : decide (((key.length : Nat) : Int) = 32) = decide (key.length = 32) := decide_eq_decide.2 (by omega)
  have e2 : decide (((nonce.length : Nat) : Int) = 12) = decide (nonce.length = 12) := decide_eq_decide.2 (by omega)
  rw [e1, e2, l1In_eq]
  cases hok : chaOk key counter nonce with
  | false =>
    unfold chaOk at hok
    cases a1 : decide (key.length = 32) with
    | false => rfl
    | true =>
      cases a2 : decide (nonce.length = 12) with
      | false => rfl
      | true =>
        rw [a1, a2] at hok
        cases a3 : decide (0 ≤ counter ∧ counter ≤ 4294967295) with
        | false => rfl
        | true => rw [a3] at hok; cases hok
  | true =>
    obtain ⟨h1, h2, h3⟩ := chaOk_iff hok
    have g := firstN_good key counter nonce h1 h3 h2
    rw [decide_eq_true h1, decide_eq_true h2, decide_eq_true h3]
    simp only [Option.bind_some, Bool.not_true, Bool.false_eq_true, if_false, cond_true]
    unfold spec_l3Block chaR
    rw [loopO_count (fun k => ((k : Int), ((firstN key counter nonce 3).map Wrd.v).take (4 + k))) 8 (r := Ctl.go (((firstN key counter nonce 3).map Wrd.v).take 12)) ?h0]
    case h0 => rfl
    · have n0 : spec_l3Little nonce (0 : Int) = some (kN nonce 0 : Int) := (kN_ok nonce 0 (by omega) (by omega)).1
      have n1 : spec_l3Little nonce (4 : Int) = some (kN nonce 1 : Int) := (kN_ok nonce 1 (by omega) (by omega)).1
      have n2 : spec_l3Little nonce (8 : Int) = some (kN nonce 2 : Int) := (kN_ok nonce 2 (by omega) (by omega)).1
      have t1 : app 8 (((firstN key counter nonce 3).map Wrd.v).take 12) [counter, (kN nonce 0 : Int), (kN nonce 1 : Int), (kN nonce 2 : Int)] = some ((firstN key counter nonce 3).map Wrd.v) := by
        rw [app_ok (by show (12 + 4) * 8 ≤ _; omega) (by show 12 + 4 ≤ _; omega)]
        unfold firstN
        generalize kN nonce 0 = x0
        generalize kN nonce 1 = x1
        generalize kN nonce 2 = x2
        generalize kN key 0 = y0
        generalize kN key 1 = y1
        generalize kN key 2 = y2
        generalize kN key 3 = y3
        generalize kN key 4 = y4
        generalize kN key 5 = y5
        generalize kN key 6 = y6
        generalize kN key 7 = y7
        rfl
      have t2 : app 8 ([] : List Int) ((firstN key counter nonce 3).map Wrd.v) = some ((firstN key counter nonce 3).map Wrd.v) := by
        rw [app_ok (by show (0 + 16) * 8 ≤ _; omega) (by show 0 + 16 ≤ _; omega)]
        rfl
      simp only [bindC_go, n0, n1, n2, Option.bind_some, t1, t2]
      generalize firstN key counter nonce 3 = s at g
      rw [loopO_count (fun k => ((k : Int), (roundsW s k).map Wrd.v)) 10 (r := Ctl.go ((roundsW s 10).map Wrd.v)) ?h1]
      case h1 => rfl
      · have gw := roundsW_good g 10
        simp only [bindC_go]
        generalize roundsW s 10 = w at gw
        rw [loopO_count (fun k => ((k : Int), outW (w) s k)) 16 (r := Ctl.go (outW (w) s 16)) ?h2]
        case h2 => rfl
        · rfl
        · intro k hk
          have hkw : k < (w).length := by rw [gw.1]; exact hk
          have hks : k < s.length := by rw [g.1]; exact hk
          obtain ⟨n, en, hn⟩ := okW_nat gw.2 k hkw
          obtain ⟨m, em, hm⟩ := okW_nat g.2 k hks
          have ho := outW_len (w) s gw.1 g.1 k (by omega)
          have i1 : idx ((w).map Wrd.v) (k : Int) = some (n : Int) := by rw [idx_nat _ k (by simpa using hkw)]; simp only [List.getElem_map, en]
          have i2 : idx (s.map Wrd.v) (k : Int) = some (m : Int) := by rw [idx_nat _ k (by simpa using hks)]; simp only [List.getElem_map, em]
          have e0 : IntKind.i64.wrap ((n : Int) + (m : Int)) = ((n + m : Nat) : Int) := by rw [wrap_ok (by omega) (by omega)]; omega
          have hx : (n + m) % 4294967296 < 4294967296 := Nat.mod_lt _ (by decide)
          have hw : spec_l3Word (IntKind.i64.wrap ((n : Int) + (m : Int))) = some (((n + m) % 4294967296 : Nat) : Int) := by rw [e0]; exact l3Word_eq (by omega)
          generalize hxe : (n + m) % 4294967296 = x at hx hw
          rw [if_pos (by simp only [decide_eq_true_eq]; omega)]
          refine bind_of i1 (bind_of i2 (bind_of hw ?_))
          have a0 : toU8 (iand .i64 (x : Int) (255 : Int)) = toU8 (x : Int) := by
            rw [show (255 : Int) = ((255 : Nat) : Int) from rfl, iand64 (by omega) (by decide), show x &&& 255 = x % 256 from Nat.and_two_pow_sub_one_eq_mod x 8, toU8_mod]
          have a1 : toU8 (iand .i64 (ishr .i64 (x : Int) (8 : Int)) (255 : Int)) = toU8 ((x / 256 : Nat) : Int) := by
            rw [show ishr .i64 (x : Int) (8 : Int) = ((x / 256 : Nat) : Int) from ishr_nat (n := 8) (by decide), show (255 : Int) = ((255 : Nat) : Int) from rfl, iand64 (by omega) (by decide), show x / 256 &&& 255 = x / 256 % 256 from Nat.and_two_pow_sub_one_eq_mod _ 8, toU8_mod]
          have a2 : toU8 (iand .i64 (ishr .i64 (x : Int) (16 : Int)) (255 : Int)) = toU8 ((x / 65536 : Nat) : Int) := by
            rw [show ishr .i64 (x : Int) (16 : Int) = ((x / 65536 : Nat) : Int) from ishr_nat (n := 16) (by decide), show (255 : Int) = ((255 : Nat) : Int) from rfl, iand64 (by omega) (by decide), show x / 65536 &&& 255 = x / 65536 % 256 from Nat.and_two_pow_sub_one_eq_mod _ 8, toU8_mod]
          have a3 : ishr .i64 (x : Int) (24 : Int) = ((x / 16777216 : Nat) : Int) := ishr_nat (n := 24) (by decide)
          rw [a0, a1, a2, a3, wrap_ok (by omega) (by omega), app_ok (by rw [ho]; simp; omega) (by rw [ho]; simp; omega)]
          simp only [Option.bind_some]
          rw [outW_succ _ _ k hkw hks, en, em, show ((n : Int) + (m : Int)).toNat = n + m by omega, hxe]
          rfl
        · simp
      · intro k hk
        simp only
        rw [if_pos (by simp only [decide_eq_true_eq]; omega), wrap_ok (n := (k : Int) + 1) (by omega) (by omega)]
        exact spec_round (roundsW_good g k) (fun R57 => some (Ctl.go ((k : Int) + 1, R57)))
      · simp
    · intro k hk
      have e4 : IntKind.i64.wrap ((4 : Int) * (k : Int)) = ((4 * k : Nat) : Int) := by rw [wrap_ok (by omega) (by omega)]; omega
      simp only [e4, (kN_ok key k (by omega) (by omega)).1, Option.bind_some]
      rw [if_pos (by simp only [decide_eq_true_eq]; omega), wrap_ok (by omega) (by omega), app_ok (by rw [List.length_take]; simp; omega) (by rw [List.length_take]; simp; omega)]
      have h4 : k = 0 ∨ k = 1 ∨ k = 2 ∨ k = 3 ∨ k = 4 ∨ k = 5 ∨ k = 6 ∨ k = 7 := by omega
      unfold firstN
      rcases h4 with rfl | rfl | rfl | rfl | rfl | rfl | rfl | rfl
      · generalize kN nonce 0 = x0
        generalize kN nonce 1 = x1
        generalize kN nonce 2 = x2
        generalize kN key 0 = y0
        generalize kN key 1 = y1
        generalize kN key 2 = y2
        generalize kN key 3 = y3
        generalize kN key 4 = y4
        generalize kN key 5 = y5
        generalize kN key 6 = y6
        generalize kN key 7 = y7
        rfl
      · generalize kN nonce 0 = x0
        generalize kN nonce 1 = x1
        generalize kN nonce 2 = x2
        generalize kN key 0 = y0
        generalize kN key 1 = y1
        generalize kN key 2 = y2
        generalize kN key 3 = y3
        generalize kN key 4 = y4
        generalize kN key 5 = y5
        generalize kN key 6 = y6
        generalize kN key 7 = y7
        rfl
      · generalize kN nonce 0 = x0
        generalize kN nonce 1 = x1
        generalize kN nonce 2 = x2
        generalize kN key 0 = y0
        generalize kN key 1 = y1
        generalize kN key 2 = y2
        generalize kN key 3 = y3
        generalize kN key 4 = y4
        generalize kN key 5 = y5
        generalize kN key 6 = y6
        generalize kN key 7 = y7
        rfl
      · generalize kN nonce 0 = x0
        generalize kN nonce 1 = x1
        generalize kN nonce 2 = x2
        generalize kN key 0 = y0
        generalize kN key 1 = y1
        generalize kN key 2 = y2
        generalize kN key 3 = y3
        generalize kN key 4 = y4
        generalize kN key 5 = y5
        generalize kN key 6 = y6
        generalize kN key 7 = y7
        rfl
      · generalize kN nonce 0 = x0
        generalize kN nonce 1 = x1
        generalize kN nonce 2 = x2
        generalize kN key 0 = y0
        generalize kN key 1 = y1
        generalize kN key 2 = y2
        generalize kN key 3 = y3
        generalize kN key 4 = y4
        generalize kN key 5 = y5
        generalize kN key 6 = y6
        generalize kN key 7 = y7
        rfl
      · generalize kN nonce 0 = x0
        generalize kN nonce 1 = x1
        generalize kN nonce 2 = x2
        generalize kN key 0 = y0
        generalize kN key 1 = y1
        generalize kN key 2 = y2
        generalize kN key 3 = y3
        generalize kN key 4 = y4
        generalize kN key 5 = y5
        generalize kN key 6 = y6
        generalize kN key 7 = y7
        rfl
      · generalize kN nonce 0 = x0
        generalize kN nonce 1 = x1
        generalize kN nonce 2 = x2
        generalize kN key 0 = y0
        generalize kN key 1 = y1
        generalize kN key 2 = y2
        generalize kN key 3 = y3
        generalize kN key 4 = y4
        generalize kN key 5 = y5
        generalize kN key 6 = y6
        generalize kN key 7 = y7
        rfl
      · generalize kN nonce 0 = x0
        generalize kN nonce 1 = x1
        generalize kN nonce 2 = x2
        generalize kN key 0 = y0
        generalize kN key 1 = y1
        generalize kN key 2 = y2
        generalize kN key 3 = y3
        generalize kN key 4 = y4
        generalize kN key 5 = y5
        generalize kN key 6 = y6
        generalize kN key 7 = y7
        rfl
    · simp

/-- bytes of a number, the highest first -/
def fixV (n : Nat) : Nat → List UInt8
  | 0 => []
  | j + 1 => toU8 ((n / 256 ^ j : Nat) : Int) :: fixV n j
theorem fixV_len (n : Nat) : ∀ j, (fixV n j).length = j
  | 0 => rfl
  | j + 1 => by rw [fixV, List.length_cons, fixV_len n j]
theorem div_pow_succ (n b j : Nat) : n / b ^ j / b = n / b ^ (j + 1) := by rw [Nat.div_div_eq_div_mul, Nat.pow_succ]
def fixedV (n w : Int) : List UInt8 := bif decide (1 ≤ w ∧ w ≤ 7) && (decide (0 ≤ n) && decide (n.toNat / 256 ^ w.toNat = 0)) then fixV n.toNat w.toNat else []
theorem spec_Fixed_eq (n w : Int) (hn : n ≤ 4611686018427387904) : spec_Fixed n w = some (fixedV n w) := by
  unfold spec_Fixed fixedV
  rw [l1In_eq]
  by_cases h1 : 1 ≤ w ∧ w ≤ 7
  · rw [decide_eq_true h1]
    by_cases h2 : 0 ≤ n
    · obtain ⟨m, rfl⟩ : ∃ m : Nat, n = (m : Int) := ⟨n.toNat, by omega⟩
      obtain ⟨u, rfl⟩ : ∃ u : Nat, w = (u : Int) := ⟨w.toNat, by omega⟩
      rw [decide_eq_true h2, decide_eq_false (by omega : ¬ (m : Int) < 0)]
      simp only [Option.bind_some, Bool.not_true, Bool.false_eq_true, if_false, Int.toNat_natCast]
      rw [loopO_count (fun j => (((m / 256 ^ j : Nat) : Int), fixV m j, (j : Int))) u (r := Ctl.go (((m / 256 ^ u : Nat) : Int), fixV m u)) ?h0]
      case h0 => simp [fixV]
      · simp only [bindC_go]
        by_cases h3 : m / 256 ^ u = 0
        · rw [decide_eq_true h3, decide_eq_false (by rw [h3]; decide : ¬ ((m / 256 ^ u : Nat) : Int) > 0)]; rfl
        · have h4 : ((m / 256 ^ u : Nat) : Int) > 0 := Int.ofNat_lt.2 (Nat.pos_of_ne_zero h3)
          rw [decide_eq_false h3, decide_eq_true h4]; rfl
      · intro j hj
        have e1 : Int.tmod ((m / 256 ^ j : Nat) : Int) (256 : Int) = ((m / 256 ^ j % 256 : Nat) : Int) := by rw [show (256 : Int) = ((256 : Nat) : Int) from rfl, ← Int.ofNat_tmod]
        have e2 : Int.tdiv ((m / 256 ^ j : Nat) : Int) (256 : Int) = ((m / 256 ^ (j + 1) : Nat) : Int) := by rw [show (256 : Int) = ((256 : Nat) : Int) from rfl, ← Int.ofNat_tdiv, div_pow_succ]
        have e3 : ((m / 256 ^ (j + 1) : Nat) : Int) ≤ (m : Int) := Int.ofNat_le.2 (Nat.div_le_self _ _)
        have e4 : (0 : Int) ≤ ((m / 256 ^ (j + 1) : Nat) : Int) := Int.natCast_nonneg _
        have hl := fixV_len m j
        simp only [e1, e2, toU8_mod]
        rw [if_pos (by simp only [decide_eq_true_eq]; omega), wrap_ok (n := (j : Int) + 1) (by omega) (by omega), wrap_ok (by omega) (by omega)]
        rw [cat_ok (by rw [hl]; simp; omega)]
        rfl
      · simp
    · rw [decide_eq_false h2, decide_eq_true (by omega : n < 0)]
      rfl
  · rw [decide_eq_false h1]
    rfl
theorem impl_Fixed_eq (n w : Int) (hn : n ≤ 4611686018427387904) : impl_Fixed n w = some (fixedV n w) := by
  unfold impl_Fixed fixedV
  rw [inRange_eq]
  by_cases h1 : 1 ≤ w ∧ w ≤ 7
  · rw [decide_eq_true h1]
    by_cases h2 : 0 ≤ n
    · obtain ⟨m, rfl⟩ : ∃ m : Nat, n = (m : Int) := ⟨n.toNat, by omega⟩
      obtain ⟨u, rfl⟩ : ∃ u : Nat, w = (u : Int) := ⟨w.toNat, by omega⟩
      have e0 : IntKind.u64.wrap (IntKind.i64.wrap ((8 : Int) * (u : Int))) = ((8 * u : Nat) : Int) := by rw [wrap_ok (by omega) (by omega), wrap64u]; omega
      have e5 : ishr .i64 (m : Int) ((8 * u : Nat) : Int) = ((m / 256 ^ u : Nat) : Int) := by
        rw [ishr_nat (by show 8 * u ≤ 64; omega), Nat.pow_mul]
      have e6 : decide (((m / 256 ^ u : Nat) : Int) = 0) = decide (m / 256 ^ u = 0) := decide_eq_decide.2 (by omega)
      rw [decide_eq_true h2, decide_eq_false (by omega : ¬ (m : Int) < 0)]
      simp only [Option.bind_some, Bool.not_true, Bool.false_eq_true, if_false, Int.toNat_natCast, e0, e5, e6]
      by_cases h3 : m / 256 ^ u = 0
      · rw [decide_eq_true h3]
        simp only [Bool.not_true, Bool.false_eq_true, if_false, Bool.true_and, cond_true]
        rw [mkLen_ok (by omega) (by omega)]
        simp only [Option.bind_some]
        rw [loopO_count (fun j => (((m / 256 ^ j : Nat) : Int), (u : Int) - 1 - (j : Int), List.replicate (u - j) (0 : UInt8) ++ fixV m j)) u (r := Ctl.go (fixV m u)) ?h0]
        case h0 => rw [wrap_ok (by omega) (by omega)]; simp [fixV]
        · rfl
        · intro j hj
          have e1 : ishr .i64 ((m / 256 ^ j : Nat) : Int) (8 : Int) = ((m / 256 ^ (j + 1) : Nat) : Int) := by
            rw [show ishr .i64 ((m / 256 ^ j : Nat) : Int) (8 : Int) = ((m / 256 ^ j / 256 : Nat) : Int) from ishr_nat (n := 8) (by decide), div_pow_succ]
          have hl := fixV_len m j
          have hi : (u : Int) - 1 - (j : Int) = ((u - 1 - j : Nat) : Int) := by omega
          have hlen : u - 1 - j < (List.replicate (u - j) (0 : UInt8) ++ fixV m j).length := by simp; omega
          have hset : (List.replicate (u - j) (0 : UInt8) ++ fixV m j).set (u - 1 - j) (toU8 ((m / 256 ^ j : Nat) : Int)) = List.replicate (u - (j + 1)) (0 : UInt8) ++ fixV m (j + 1) := by
            rw [show u - j = (u - (j + 1)) + 1 by omega, List.replicate_succ', List.append_assoc, show u - 1 - j = u - (j + 1) by omega, List.set_append_right _ _ (by simp)]
            simp [fixV]
          simp only [hi, e1, idx_nat _ _ hlen, Option.bind_some, Int.toNat_natCast, hset]
          rw [if_pos (by simp only [decide_eq_true_eq]; omega), wrap_ok (by omega) (by omega)]
          rw [show ((u - 1 - j : Nat) : Int) - 1 = (u : Int) - 1 - ((j + 1 : Nat) : Int) by omega]
        · rw [if_neg (by simp only [decide_eq_true_eq]; omega)]
          simp
      · rw [decide_eq_false h3]
        rfl
    · rw [decide_eq_false h2, decide_eq_true (by omega : n < 0)]
      rfl
  · rw [decide_eq_false h1]
    rfl
/-- a number in bytes of seven bits, the lowest first -/
def varN : Nat → Nat → List UInt8
  | 0, n => [toU8 (n : Int)]
  | f + 1, n => bif decide (n < 128) then [toU8 (n : Int)] else toU8 ((128 + n % 128 : Nat) : Int) :: varN f (n / 128)
theorem varN_lt {f n : Nat} (h : n < 128) : varN f n = [toU8 (n : Int)] := by
  cases f with
  | zero => rfl
  | succ f => rw [varN, decide_eq_true h]; rfl
theorem varN_ge {f n : Nat} (h : 128 ≤ n) : varN (f + 1) n = toU8 ((128 + n % 128 : Nat) : Int) :: varN f (n / 128) := by
  rw [varN, decide_eq_false (by omega)]; rfl
/-- a loop that takes seven bits at a time -/
theorem var_loop {body : Int × List UInt8 → Option (Ctl (Int × List UInt8) (Ctl (Int × List UInt8) (List UInt8)))}
    (h1 : ∀ (n : Nat) (out : List UInt8), 128 ≤ n → n < 562949953421312 → out.length ≤ 100 → body ((n : Int), out) = some (.go (((n / 128 : Nat) : Int), out ++ [toU8 ((128 + n % 128 : Nat) : Int)])))
    (h2 : ∀ (n : Nat) (out : List UInt8), n < 128 → body ((n : Int), out) = some (.done (.go ((n : Int), out)))) :
    ∀ (f n : Nat) (out : List UInt8), n < 128 ^ (f + 1) → n < 562949953421312 → out.length + f ≤ 100 → ∃ (m : Nat) (out' : List UInt8), loopO body ((n : Int), out) = some (.go ((m : Int), out')) ∧ out' ++ [toU8 (m : Int)] = out ++ varN f n ∧ out'.length ≤ 100 := by
  intro f
  induction f with
  | zero =>
    intro n out hn _ ho
    have hn' : n < 128 := by simpa using hn
    exact ⟨n, out, by rw [loopO_eq, h2 n out hn'], by rw [varN_lt hn'], by omega⟩
  | succ f ih =>
    intro n out hn hb ho
    by_cases h : n < 128
    · exact ⟨n, out, by rw [loopO_eq, h2 n out h], by rw [varN_lt h], by omega⟩
    · have hn2 : n / 128 < 128 ^ (f + 1) := by
        rw [Nat.div_lt_iff_lt_mul (by decide)]
        rw [Nat.pow_succ] at hn
        exact hn
      obtain ⟨m, out', e1, e2, e3⟩ := ih (n / 128) (out ++ [toU8 ((128 + n % 128 : Nat) : Int)]) hn2 (by omega) (by simp; omega)
      refine ⟨m, out', ?_, ?_, e3⟩
      · rw [loopO_eq, h1 n out (by omega) hb (by omega)]
        exact e1
      · rw [e2, varN_ge (by omega), List.append_assoc]; rfl
def varV (n : Int) : List UInt8 := bif decide (0 ≤ n ∧ n ≤ 562949953421311) then varN 6 n.toNat else []
theorem spec_Var_eq (n : Int) : spec_Var n = some (varV n) := by
  unfold spec_Var varV
  rw [l1In_eq]
  by_cases h : 0 ≤ n ∧ n ≤ 562949953421311
  · rw [decide_eq_true h]
    obtain ⟨m, rfl⟩ : ∃ m : Nat, n = (m : Int) := ⟨n.toNat, by omega⟩
    simp only [Option.bind_some, Bool.not_true, Bool.false_eq_true, if_false, cond_true, Int.toNat_natCast]
    obtain ⟨p, out, e1, e2, e3⟩ := var_loop (body := fun (S6 : Int × List UInt8) => if (decide (S6.1 ≥ (128 : Int))) = true then ((app 1 S6.2 ([toU8 (IntKind.i64.wrap ((128 : Int) + (Int.tmod S6.1 (128 : Int))))])).bind fun E13 =>
      some (.go (IntKind.i64.wrap (Int.tdiv S6.1 (128 : Int)), E13)))
      else (some (.done (.go (S6.1, S6.2))))) (by
        intro n out h1 h2 ho
        have t1 : Int.tmod (n : Int) (128 : Int) = ((n % 128 : Nat) : Int) := by rw [show (128 : Int) = ((128 : Nat) : Int) from rfl, ← Int.ofNat_tmod]
        have t2 : Int.tdiv (n : Int) (128 : Int) = ((n / 128 : Nat) : Int) := by rw [show (128 : Int) = ((128 : Nat) : Int) from rfl, ← Int.ofNat_tdiv]
        have t3 : IntKind.i64.wrap ((128 : Int) + ((n % 128 : Nat) : Int)) = ((128 + n % 128 : Nat) : Int) := by rw [wrap_ok (by omega) (by omega)]; omega
        simp only [t1, t2, t3]
        rw [if_pos (by simp only [decide_eq_true_eq]; omega), app_ok (by simp; omega) (by simp; omega), wrap_ok (by omega) (by omega)]
        rfl) (by
        intro n out h1
        rw [if_neg (by simp only [decide_eq_true_eq]; omega)]) 6 m [] (by omega) (by omega) (by simp)
    rw [e1]
    simp only [bindC_go]
    rw [app_ok (by simp; omega) (by simp; omega), e2]
    rfl
  · rw [decide_eq_false h]
    rfl
/-- the number that bytes of seven bits come to -/
def numV : List UInt8 → Nat
  | [] => 0
  | x :: l => x.toNat % 128 + 128 * numV l
theorem numV_lt : ∀ (l : List UInt8), numV l < 128 ^ l.length
  | [] => by decide
  | x :: l => by
    have := numV_lt l
    have hx : x.toNat % 128 < 128 := Nat.mod_lt _ (by decide)
    rw [numV, List.length_cons, Nat.pow_succ]
    omega
theorem numV_snoc : ∀ (l : List UInt8) (x : UInt8), numV (l ++ [x]) = numV l + 128 ^ l.length * (x.toNat % 128)
  | [], x => by simp [numV]
  | y :: l, x => by
    rw [List.cons_append, numV, numV, numV_snoc l x, List.length_cons, Nat.pow_succ, Nat.mul_add, Nat.mul_comm (128 ^ l.length) 128, Nat.mul_assoc]
    omega
/-- reading: the number and how many bytes -/
def readN : Nat → List UInt8 → Option (Nat × Nat)
  | 0, _ => none
  | _ + 1, [] => none
  | f + 1, x :: l => bif decide (x.toNat < 128) then some (x.toNat, 1) else match readN f l with
    | some (m, k) => bif decide (m = 0) then none else some (x.toNat % 128 + 128 * m, k + 1)
    | none => none
theorem toU8_toNat (n : Nat) : (toU8 (n : Int)).toNat = n % 256 := by
  unfold toU8
  rw [UInt8.toNat_ofNat']
  omega
theorem toU8_of (x : UInt8) : toU8 ((x.toNat : Nat) : Int) = x := by
  have := x.toNat_lt
  apply UInt8.toNat_inj.1
  rw [toU8_toNat]
  omega
theorem take_ne {α : Type} {l : List α} {j : Nat} (h1 : 1 ≤ j) (h2 : j ≤ l.length) : l.take j ≠ [] := by
  intro e
  have := congrArg List.length e
  rw [List.length_take, List.length_nil] at this
  omega
theorem good_one (f : Nat) (x : UInt8) : varN f (numV [x]) = [x] ↔ x.toNat < 128 := by
  have hx : x.toNat % 128 < 128 := Nat.mod_lt _ (by decide)
  rw [show numV [x] = x.toNat % 128 by simp [numV], varN_lt hx]
  constructor
  · intro h
    have h2 : toU8 ((x.toNat % 128 : Nat) : Int) = x := by simpa using h
    have h3 := congrArg UInt8.toNat h2
    rw [toU8_toNat] at h3
    omega
  · intro h
    rw [Nat.mod_eq_of_lt h, toU8_of]
theorem good_more (f : Nat) (x : UInt8) (l : List UInt8) (hl : l ≠ []) : varN (f + 1) (numV (x :: l)) = x :: l ↔ 128 ≤ x.toNat ∧ numV l ≠ 0 ∧ varN f (numV l) = l := by
  have hx : x.toNat % 128 < 128 := Nat.mod_lt _ (by decide)
  have hx2 := x.toNat_lt
  have hm : (x.toNat % 128 + 128 * numV l) % 128 = x.toNat % 128 := by omega
  have hd : (x.toNat % 128 + 128 * numV l) / 128 = numV l := by omega
  by_cases h0 : numV l = 0
  · rw [numV, h0, varN_lt (by omega)]
    constructor
    · intro h
      have : [] = l := by simpa using (List.cons.inj h).2
      exact absurd this.symm hl
    · rintro ⟨_, h, _⟩
      exact absurd rfl h
  · rw [numV, varN_ge (by omega), hm, hd]
    constructor
    · intro h
      obtain ⟨h1, h2⟩ := List.cons.inj h
      have h3 := congrArg UInt8.toNat h1
      rw [toU8_toNat] at h3
      exact ⟨by omega, h0, h2⟩
    · rintro ⟨h1, _, h2⟩
      rw [h2, show 128 + x.toNat % 128 = x.toNat by omega, toU8_of]
theorem readN_some : ∀ (f : Nat) (s : List UInt8) (n k : Nat), readN f s = some (n, k) → 1 ≤ k ∧ k ≤ f ∧ k ≤ s.length ∧ n = numV (s.take k) ∧ varN (f - 1) n = s.take k ∧ ∀ g j, 1 ≤ j → j ≤ g + 1 → j ≤ s.length → varN g (numV (s.take j)) = s.take j → j = k
  | 0, s, n, k, h => by cases h
  | f + 1, [], n, k, h => by cases h
  | f + 1, x :: l, n, k, h => by
    rw [readN] at h
    by_cases hx : x.toNat < 128
    · rw [decide_eq_true hx] at h
      simp only [cond_true, Option.some.injEq, Prod.mk.injEq] at h
      obtain ⟨rfl, rfl⟩ := h
      have hm : x.toNat % 128 = x.toNat := Nat.mod_eq_of_lt hx
      refine ⟨Nat.le_refl _, by omega, by simp, by simp [numV, hm], ?_, fun g j hj1 hjg hjl he => ?_⟩
      · have := (good_one (f + 1 - 1) x).2 hx
        rw [show numV [x] = x.toNat by simp [numV, hm]] at this
        exact this
      · cases j with
        | zero => omega
        | succ j =>
          cases j with
          | zero => rfl
          | succ j =>
            cases g with
            | zero => omega
            | succ g =>
              rw [List.take_succ_cons] at he
              have := (good_more g x (l.take (j + 1)) (take_ne (by omega) (by rw [List.length_cons] at hjl; omega))).1 he
              omega
    · rw [decide_eq_false hx] at h
      simp only [cond_false] at h
      cases hr : readN f l with
      | none => rw [hr] at h; cases h
      | some p =>
        obtain ⟨m, k'⟩ := p
        rw [hr] at h
        simp only at h
        by_cases hm : m = 0
        · rw [decide_eq_true hm] at h; cases h
        · rw [decide_eq_false hm] at h
          simp only [cond_false, Option.some.injEq, Prod.mk.injEq] at h
          obtain ⟨rfl, rfl⟩ := h
          obtain ⟨h1, h2, h3, h4, h5, h6⟩ := readN_some f l m k' hr
          have hne : l.take k' ≠ [] := take_ne h1 h3
          refine ⟨by omega, by omega, by simp; omega, by rw [List.take_succ_cons, numV, ← h4], ?_, fun g j hj1 hjg hjl he => ?_⟩
          · rw [List.take_succ_cons, Nat.add_sub_cancel]
            obtain ⟨f', rfl⟩ : ∃ f', f = f' + 1 := ⟨f - 1, by omega⟩
            rw [Nat.add_sub_cancel] at h5
            have := (good_more f' x (l.take k') hne).2 ⟨by omega, by rw [← h4]; exact hm, by rw [← h4]; exact h5⟩
            rw [numV, ← h4] at this
            exact this
          · cases j with
            | zero => omega
            | succ j =>
              cases j with
              | zero =>
                rw [List.take_succ_cons, List.take_zero] at he
                exact absurd ((good_one g x).1 he) hx
              | succ j =>
                cases g with
                | zero => omega
                | succ g =>
                  rw [List.take_succ_cons] at he
                  have hjl' : j + 1 ≤ l.length := by simp at hjl; omega
                  have := (good_more g x (l.take (j + 1)) (take_ne (by omega) hjl')).1 he
                  have := h6 g (j + 1) (by omega) (by omega) hjl' this.2.2
                  omega
theorem readN_none : ∀ (f : Nat) (s : List UInt8), readN f s = none → ∀ g j, 1 ≤ j → j ≤ f → j ≤ g + 1 → j ≤ s.length → varN g (numV (s.take j)) ≠ s.take j
  | 0, s, h => fun g j h1 h2 => by omega
  | f + 1, [], h => fun g j h1 h2 h3 h4 => by simp at h4; omega
  | f + 1, x :: l, h => by
    intro g j hj1 hjf hjg hjl he
    rw [readN] at h
    by_cases hx : x.toNat < 128
    · rw [decide_eq_true hx] at h; cases h
    · rw [decide_eq_false hx] at h
      simp only [cond_false] at h
      cases j with
      | zero => omega
      | succ j =>
        cases j with
        | zero =>
          rw [List.take_succ_cons, List.take_zero] at he
          exact hx ((good_one g x).1 he)
        | succ j =>
          cases g with
          | zero => omega
          | succ g =>
            rw [List.take_succ_cons] at he
            have hjl' : j + 1 ≤ l.length := by simp at hjl; omega
            obtain ⟨q1, q2, q3⟩ := (good_more g x (l.take (j + 1)) (take_ne (by omega) hjl')).1 he
            cases hr : readN f l with
            | none => exact readN_none f l hr g (j + 1) (by omega) (by omega) (by omega) hjl' q3
            | some p =>
              obtain ⟨m, k'⟩ := p
              rw [hr] at h
              simp only at h
              by_cases hm : m = 0
              · obtain ⟨h1, h2, h3, h4, h5, h6⟩ := readN_some f l m k' hr
                have := h6 g (j + 1) (by omega) (by omega) hjl' q3
                rw [← this] at h4
                exact q2 (by rw [← h4]; exact hm)
              · rw [decide_eq_false hm] at h; cases h
def readR : Option (Nat × Nat) → Int × Int
  | some (n, k) => ((n : Int), (k : Int))
  | none => (0, 0)
/-- reading of what comes behind i bytes -/
def readI (n i : Nat) : Option (Nat × Nat) → Int × Int
  | some (m, k) => bif decide (m = 0 ∧ 0 < i) then (0, 0) else (((n + 128 ^ i * m : Nat) : Int), ((i + k : Nat) : Int))
  | none => (0, 0)
theorem readI_zero (p : Option (Nat × Nat)) : readI 0 0 p = readR p := by
  cases p with
  | none => rfl
  | some p => simp [readI, readR]
theorem readI_step (n i f : Nat) (x : UInt8) (l : List UInt8) (hx : ¬ x.toNat < 128) : readI n i (readN (f + 1) (x :: l)) = readI (n + 128 ^ i * (x.toNat % 128)) (i + 1) (readN f l) := by
  rw [readN, decide_eq_false hx]
  simp only [cond_false]
  cases readN f l with
  | none => rfl
  | some p =>
    obtain ⟨m, k⟩ := p
    simp only
    by_cases hm : m = 0
    · simp [hm, readI]
    · rw [decide_eq_false hm]
      simp only [cond_false, readI]
      rw [decide_eq_false (by omega), decide_eq_false (by omega)]
      simp only [cond_false]
      have e : n + 128 ^ i * (x.toNat % 128 + 128 * m) = n + 128 ^ i * (x.toNat % 128) + 128 ^ i * 128 * m := by rw [Nat.mul_add, Nat.mul_assoc, Nat.add_assoc]
      rw [Nat.pow_succ, e, show i + (k + 1) = i + 1 + k by omega]
theorem or_add (n d i : Nat) (h : n < 2 ^ (7 * i)) : n ||| d * 2 ^ (7 * i) = n + 2 ^ (7 * i) * d := by
  rw [Nat.or_comm, Nat.mul_comm, ← Nat.two_pow_add_eq_or_of_lt h]
  omega
theorem pow128 (i : Nat) : 128 ^ i = 2 ^ (7 * i) := by rw [Nat.pow_mul]
theorem impl_ReadVar_eq (s : List UInt8) (hs : s.length ≤ 1099511627776) : impl_ReadVar s = some (readR (readN 7 s)) := by
  unfold impl_ReadVar
  obtain ⟨r, hr, hq⟩ := loopO_total (ρ := Ctl Unit (Int × Int)) (s0 := ((0 : Int), (0 : Int))) (body := fun (S1 : Int × Int) => (if (decide (S1.2 < (7 : Int))) = true then (some (decide (S1.2 < ((s.length : Nat) : Int))))
  else (some false)).bind (fun (T5 : Bool) =>
  if T5 = true then ((sidx s S1.2).bind fun E9 =>
  if (decide (((E9.toNat : Nat) : Int) ≥ (128 : Int))) = true then (some (.go (ior .i64 S1.1 (ishl .i64 (IntKind.i64.wrap (iand .u8 ((E9.toNat : Nat) : Int) (127 : Int))) (IntKind.u64.wrap (IntKind.i64.wrap ((7 : Int) * S1.2)))), IntKind.i64.wrap (S1.2 + (1 : Int)))))
  else ((if (decide (((E9.toNat : Nat) : Int) = (0 : Int))) = true then (some (decide (S1.2 > (0 : Int))))
  else (some false)).bind (fun (T12 : Bool) =>
  if T12 = true then (some (.done (.done ((0 : Int), (0 : Int)))))
  else (some (.done (.done (ior .i64 S1.1 (ishl .i64 (IntKind.i64.wrap (iand .u8 ((E9.toNat : Nat) : Int) (127 : Int))) (IntKind.u64.wrap (IntKind.i64.wrap ((7 : Int) * S1.2)))), IntKind.i64.wrap (S1.2 + (1 : Int)))))))))
  else (some (.done (.go ())))))
    (fun i S => S.1 = (numV (s.take i) : Int) ∧ S.2 = (i : Int) ∧ i ≤ s.length ∧ readR (readN 7 s) = readI (numV (s.take i)) i (readN (7 - i) (s.drop i))) 7 (fun r => r = .done (readR (readN 7 s)) ∨ (r = .go () ∧ readR (readN 7 s) = (0, 0))) ⟨by simp [numV], rfl, Nat.zero_le _, by simp [numV, readI_zero]⟩ (by
      rintro i ⟨n, j⟩ hi ⟨h1, h2, h3, h4⟩
      simp only at h1 h2
      subst h1 h2
      rw [h4]
      simp only
      rw [decide_eq_true (by omega : ((i : Int) < 7))]
      simp only [if_true, Option.bind_some]
      by_cases hl : i < s.length
      · have hd : s.drop i = s[i] :: s.drop (i + 1) := List.drop_eq_getElem_cons hl
        have ht : s.take (i + 1) = s.take i ++ [s[i]] := by rw [List.take_add_one, List.getElem?_eq_getElem hl]; rfl
        have hx := s[i].toNat_lt
        have hn := numV_lt (s.take i)
        rw [List.length_take, Nat.min_eq_left h3, pow128] at hn
        have hp : 2 ^ (7 * i) ≤ 2 ^ 42 := Nat.pow_le_pow_right (by decide) (by omega)
        have hdm : s[i].toNat % 128 < 128 := Nat.mod_lt _ (by decide)
        have ea : iand .u8 ((s[i].toNat : Nat) : Int) (127 : Int) = ((s[i].toNat % 128 : Nat) : Int) := by
          rw [show (127 : Int) = ((127 : Nat) : Int) from rfl, iand8 (by omega) (by decide), show s[i].toNat &&& 127 = s[i].toNat % 128 from Nat.and_two_pow_sub_one_eq_mod _ 7]
        have eb : IntKind.u64.wrap (IntKind.i64.wrap ((7 : Int) * (i : Int))) = ((7 * i : Nat) : Int) := by rw [wrap_ok (by omega) (by omega), wrap64u]; omega
        have hmul : s[i].toNat % 128 * 2 ^ (7 * i) ≤ 127 * 2 ^ 42 := Nat.mul_le_mul (by omega) hp
        have ec : ior .i64 (numV (s.take i) : Int) (ishl .i64 (IntKind.i64.wrap ((s[i].toNat % 128 : Nat) : Int)) ((7 * i : Nat) : Int)) = ((numV (s.take i) + 128 ^ i * (s[i].toNat % 128) : Nat) : Int) := by
          rw [wrap_ok (by omega) (by omega), ishl64 (by omega) (by omega), ior64 (by omega) (by omega), or_add _ _ _ hn, pow128]
        rw [decide_eq_true (by omega : (i : Int) < ((s.length : Nat) : Int)), sidx_nat s i hl, hd]
        simp only [if_true, Option.bind_some, ea, eb, ec]
        rw [wrap_ok (by omega) (by omega), show 7 - i = (7 - (i + 1)) + 1 by omega]
        by_cases hc : s[i].toNat < 128
        · right
          refine ⟨_, ?_, .inl rfl⟩
          rw [decide_eq_false (by omega : ¬ ((s[i].toNat : Nat) : Int) ≥ 128), readN, decide_eq_true hc]
          simp only [Bool.false_eq_true, if_false, cond_true, readI]
          have hm : s[i].toNat % 128 = s[i].toNat := Nat.mod_eq_of_lt hc
          rw [hm]
          by_cases hz : s[i].toNat = 0
          · by_cases h0 : 0 < i
            · rw [decide_eq_true (⟨hz, h0⟩ : s[i].toNat = 0 ∧ 0 < i), decide_eq_true (by omega : ((s[i].toNat : Nat) : Int) = 0), decide_eq_true (by omega : (i : Int) > 0)]
              rfl
            · rw [decide_eq_false (by omega : ¬ (s[i].toNat = 0 ∧ 0 < i)), decide_eq_true (by omega : ((s[i].toNat : Nat) : Int) = 0), decide_eq_false (by omega : ¬ (i : Int) > 0)]
              rfl
          · rw [decide_eq_false (by omega : ¬ (s[i].toNat = 0 ∧ 0 < i)), decide_eq_false (by omega : ¬ ((s[i].toNat : Nat) : Int) = 0)]
            rfl
        · left
          rw [decide_eq_true (by omega : ((s[i].toNat : Nat) : Int) ≥ 128)]
          have hns : numV (s.take (i + 1)) = numV (s.take i) + 128 ^ i * (s[i].toNat % 128) := by
            rw [ht, numV_snoc, List.length_take, Nat.min_eq_left h3]
          refine ⟨(_, _), rfl, by rw [hns], by simp, by omega, ?_⟩
          rw [readI_step _ _ _ _ _ hc, hns]
      · right
        have hd : s.drop i = [] := List.drop_eq_nil_of_le (by omega)
        rw [decide_eq_false (by omega : ¬ (i : Int) < ((s.length : Nat) : Int)), hd, show 7 - i = (7 - (i + 1)) + 1 by omega]
        exact ⟨.go (), rfl, .inr ⟨rfl, rfl⟩⟩) (by
      rintro ⟨n, j⟩ ⟨h1, h2, h3, h4⟩
      simp only at h1 h2
      subst h1 h2
      exact ⟨.go (), rfl, .inr ⟨rfl, h4⟩⟩)
  rw [hr]
  rcases hq with rfl | ⟨rfl, h⟩
  · rfl
  · rw [h]; rfl

theorem ssub_nat (s : List UInt8) (a b : Nat) (h1 : a ≤ b) (h2 : b ≤ s.length) : ssub s (a : Int) (b : Int) = some ((s.drop a).take (b - a)) := by
  unfold ssub
  rw [if_pos ⟨by omega, by omega, by omega⟩, Int.toNat_natCast, Int.toNat_natCast]
theorem ssub_end (s : List UInt8) (a : Nat) (h : a ≤ s.length) : ssub s (a : Int) (s.length : Int) = some (s.drop a) := by
  rw [ssub_nat s a s.length h (Nat.le_refl _), List.take_of_length_le (by simp)]
theorem num_loop {ρ : Type} (s : List UInt8) (k : Nat) (h1 : 1 ≤ k) (h7 : k ≤ 7) (hk : k ≤ s.length) :
    loopO (ρ := Ctl Int ρ) (fun (S9 : Int × Int) => if (decide (S9.2 ≥ (0 : Int))) = true then ((sidx s S9.2).bind fun E14 =>
  some (.go (IntKind.i64.wrap (IntKind.i64.wrap (S9.1 * (128 : Int)) + (Int.tmod (IntKind.i64.wrap ((E14.toNat : Nat) : Int)) (128 : Int))), IntKind.i64.wrap (S9.2 - (1 : Int)))))
  else (some (.done (.go S9.1))))
  ((0 : Int), (k : Int) - 1) = some (.go (numV (s.take k) : Int)) := by
  have hlen : (s.take k).length = k := by rw [List.length_take]; omega
  rw [loopO_count (fun t => ((numV ((s.take k).drop (k - t)) : Int), (k : Int) - 1 - (t : Int))) k (r := Ctl.go (numV (s.take k) : Int)) ?h0]
  case h0 => rw [show k - 0 = k by omega, List.drop_of_length_le (by omega)]; simp [numV]
  · intro t ht
    have hi : (k : Int) - 1 - (t : Int) = ((k - 1 - t : Nat) : Int) := by omega
    have hd : (s.take k).drop (k - (t + 1)) = s[k - 1 - t] :: (s.take k).drop (k - t) := by
      rw [show k - (t + 1) = k - 1 - t by omega, List.drop_eq_getElem_cons (by omega), List.getElem_take]
      rw [show k - 1 - t + 1 = k - t by omega]
    have hx := (s[k - 1 - t]).toNat_lt
    have hn := numV_lt ((s.take k).drop (k - t))
    have hl : ((s.take k).drop (k - t)).length = t := by rw [List.length_drop, hlen]; omega
    rw [hl] at hn
    have hp : 128 ^ t ≤ 128 ^ 6 := Nat.pow_le_pow_right (by decide) (by omega)
    have hm : Int.tmod (((s[k - 1 - t]).toNat : Nat) : Int) (128 : Int) = (((s[k - 1 - t]).toNat % 128 : Nat) : Int) := by rw [show (128 : Int) = ((128 : Nat) : Int) from rfl, ← Int.ofNat_tmod]
    simp only [hi, sidx_nat s (k - 1 - t) (by omega), Option.bind_some]
    rw [if_pos (by simp only [decide_eq_true_eq]; omega), wrap_ok (n := (((s[k - 1 - t]).toNat : Nat) : Int)) (by omega) (by omega), hm, hd, numV]
    generalize numV ((s.take k).drop (k - t)) = z at hn
    rw [wrap_ok (n := (z : Int) * 128) (by omega) (by omega), wrap_ok (by omega) (by omega), wrap_ok (by omega) (by omega)]
    congr 3
    · omega
    · omega
  · rw [if_neg (by simp only [decide_eq_true_eq]; omega)]
    simp
theorem spec_ReadVar_eq (s : List UInt8) (hs : s.length ≤ 1099511627776) : spec_ReadVar s = some (readR (readN 7 s)) := by
  unfold spec_ReadVar
  obtain ⟨r, hr, hq⟩ := loopO_total (ρ := Ctl Unit (Int × Int)) (s0 := (1 : Int)) (body := fun (S1 : Int) => (if (decide (S1 ≤ (7 : Int))) = true then (some (decide (S1 ≤ ((s.length : Nat) : Int))))
  else (some false)).bind (fun (T5 : Bool) =>
  if T5 = true then (bindC (loopO (fun (S9 : Int × Int) => if (decide (S9.2 ≥ (0 : Int))) = true then ((sidx s S9.2).bind fun E14 =>
  some (.go (IntKind.i64.wrap (IntKind.i64.wrap (S9.1 * (128 : Int)) + (Int.tmod (IntKind.i64.wrap ((E14.toNat : Nat) : Int)) (128 : Int))), IntKind.i64.wrap (S9.2 - (1 : Int)))))
  else (some (.done (.go S9.1))))
  ((0 : Int), IntKind.i64.wrap (S1 - (1 : Int))))
  (fun (T11 : Int) => (ssub s 0 S1).bind fun E16 =>
  (spec_Var T11).bind fun R18 =>
  if (decide (R18 = E16)) = true then (some (.done (.done (T11, S1))))
  else (some (.go (IntKind.i64.wrap (S1 + (1 : Int)))))))
  else (some (.done (.go ())))))
    (fun i S => S = ((i + 1 : Nat) : Int) ∧ ∀ j, 1 ≤ j → j ≤ i → j ≤ s.length → varN 6 (numV (s.take j)) ≠ s.take j) 7 (fun r => (∃ n k, readN 7 s = some (n, k) ∧ r = .done ((n : Int), (k : Int))) ∨ (readN 7 s = none ∧ r = .go ())) ⟨rfl, fun j h1 h2 => by omega⟩ (by
      rintro i S hi ⟨rfl, h⟩
      rw [decide_eq_true (by omega : ((i + 1 : Nat) : Int) ≤ 7)]
      simp only [if_true, Option.bind_some]
      by_cases hl : i + 1 ≤ s.length
      · rw [decide_eq_true (by omega : ((i + 1 : Nat) : Int) ≤ ((s.length : Nat) : Int)), wrap_ok (n := ((i + 1 : Nat) : Int) - 1) (by omega) (by omega)]
        simp only [if_true]
        rw [num_loop s (i + 1) (by omega) (by omega) hl]
        have hsub : ssub s 0 ((i + 1 : Nat) : Int) = some (s.take (i + 1)) := ssub_nat s 0 (i + 1) (by omega) hl
        have hn := numV_lt (s.take (i + 1))
        rw [List.length_take, Nat.min_eq_left hl] at hn
        have hp : 128 ^ (i + 1) ≤ 128 ^ 7 := Nat.pow_le_pow_right (by decide) (by omega)
        have hv : varV (numV (s.take (i + 1)) : Int) = varN 6 (numV (s.take (i + 1))) := by
          unfold varV
          rw [decide_eq_true (by omega), cond_true, Int.toNat_natCast]
        simp only [bindC_go, hsub, Option.bind_some, spec_Var_eq, hv]
        by_cases he : varN 6 (numV (s.take (i + 1))) = s.take (i + 1)
        · right
          rw [decide_eq_true he]
          refine ⟨_, rfl, .inl ⟨numV (s.take (i + 1)), i + 1, ?_, rfl⟩⟩
          cases hr : readN 7 s with
          | none => exact absurd he (readN_none 7 s hr 6 (i + 1) (by omega) (by omega) (by omega) hl)
          | some p =>
            obtain ⟨n, k⟩ := p
            obtain ⟨_, _, _, h4, _, h6⟩ := readN_some 7 s n k hr
            have := h6 6 (i + 1) (by omega) (by omega) hl he
            subst this
            rw [h4]
        · left
          rw [decide_eq_false he]
          refine ⟨_, rfl, by rw [wrap_ok (by omega) (by omega)]; omega, fun j h1 h2 h3 => ?_⟩
          by_cases e : j = i + 1
          · subst e; exact he
          · exact h j h1 (by omega) h3
      · right
        rw [decide_eq_false (by omega : ¬ ((i + 1 : Nat) : Int) ≤ ((s.length : Nat) : Int))]
        refine ⟨.go (), rfl, .inr ⟨?_, rfl⟩⟩
        cases hr : readN 7 s with
        | none => rfl
        | some p =>
          obtain ⟨n, k⟩ := p
          obtain ⟨h1, _, h3, h4, h5, _⟩ := readN_some 7 s n k hr
          rw [h4] at h5
          exact absurd h5 (h k h1 (by omega) h3)) (by
      rintro S ⟨rfl, h⟩
      refine ⟨.go (), rfl, .inr ⟨?_, rfl⟩⟩
      cases hr : readN 7 s with
      | none => rfl
      | some p =>
        obtain ⟨n, k⟩ := p
        obtain ⟨h1, h2, h3, h4, h5, _⟩ := readN_some 7 s n k hr
        rw [h4] at h5
        exact absurd h5 (h k h1 h2 h3))
  rw [hr]
  rcases hq with ⟨n, k, e, rfl⟩ | ⟨e, rfl⟩
  · rw [e]; rfl
  · rw [e]; rfl
/-- so many numbers read from a place on -/
def l6V (s : List UInt8) : Nat → Nat → List Int × Int
  | 0, a => ([], (a : Int))
  | n + 1, a => bif decide (s.length < a) then ([], -1) else match readN 7 (s.drop a) with
    | some (x, k) => ((x : Int) :: (l6V s n (a + k)).1, (l6V s n (a + k)).2)
    | none => ([], -1)
theorem spec_l6Vars_eq (s : List UInt8) (a n : Nat) (hs : s.length ≤ 1099511627776) (hn : n ≤ 1048576) (ha : a ≤ 2199023255552) : spec_l6Vars s (a : Int) (n : Int) = some (l6V s n a) := by
  unfold spec_l6Vars
  have key : ∀ (m i a : Nat) (out : List Int), i + m = n → out.length = i → a ≤ 2199023255552 →
      bindC (loopO (fun (S2 : Int × Int × List Int) => if (decide (S2.2.1 < (n : Int))) = true then ((if (decide (S2.1 < (0 : Int))) = true then (some true)
  else (some (decide (S2.1 > ((s.length : Nat) : Int))))).bind (fun (T7 : Bool) =>
  if T7 = true then (some (.done (.done (S2.2.2, (-1 : Int)))))
  else ((ssub s S2.1 (s.length : Int)).bind fun E11 =>
  (spec_ReadVar E11).bind fun R13 =>
  if (decide (R13.2 = (0 : Int))) = true then (some (.done (.done (S2.2.2, (-1 : Int)))))
  else ((app 8 S2.2.2 ([R13.1])).bind fun E19 =>
  some (.go (IntKind.i64.wrap (S2.1 + R13.2), IntKind.i64.wrap (S2.2.1 + (1 : Int)), E19))))))
  else (some (.done (.go (S2.1, S2.2.2)))))
  ((a : Int), (i : Int), out)) (fun (T4 : Int × List Int) => some (T4.2, T4.1)) = some (out ++ (l6V s m a).1, (l6V s m a).2) := by
    intro m
    induction m with
    | zero =>
      intro i a out hi ho ha
      rw [loopO_eq]
      simp only
      rw [if_neg (by simp only [decide_eq_true_eq]; omega)]
      simp [l6V]
    | succ m ih =>
      intro i a out hi ho ha
      rw [loopO_eq]
      simp only
      rw [if_pos (by simp only [decide_eq_true_eq]; omega), decide_eq_false (by omega : ¬ (a : Int) < 0)]
      simp only [Bool.false_eq_true, if_false, Option.bind_some, l6V]
      by_cases hl : s.length < a
      · rw [decide_eq_true hl, decide_eq_true (by omega : (a : Int) > ((s.length : Nat) : Int))]
        simp
      · rw [decide_eq_false hl, decide_eq_false (by omega : ¬ (a : Int) > ((s.length : Nat) : Int))]
        simp only [Bool.false_eq_true, if_false, ssub_end s a (by omega), Option.bind_some, spec_ReadVar_eq (s.drop a) (by simp; omega), cond_false]
        cases hr : readN 7 (s.drop a) with
        | none => simp [readR]
        | some p =>
          obtain ⟨x, k⟩ := p
          obtain ⟨h1, h2, _⟩ := readN_some 7 _ x k hr
          have hk0 : decide ((readR (some (x, k))).2 = 0) = false := decide_eq_false (by show ¬ (k : Int) = 0; omega)
          rw [hk0]
          simp only [Bool.false_eq_true, if_false, readR]
          rw [app_ok (by simp; omega) (by simp; omega)]
          simp only [Option.bind_some]
          rw [wrap_ok (n := (a : Int) + (k : Int)) (by omega) (by omega), wrap_ok (n := (i : Int) + 1) (by omega) (by omega)]
          have := ih (i + 1) (a + k) (out ++ [(x : Int)]) (by omega) (by simp; omega) (by omega)
          rw [show ((a : Int) + (k : Int)) = ((a + k : Nat) : Int) by omega, show ((i : Int) + 1) = ((i + 1 : Nat) : Int) by omega, this, List.append_assoc]
          rfl
  have := key n 0 a [] (by omega) rfl ha
  simpa using this

def nonceV (kind n : Int) : List UInt8 := bif decide (0 ≤ kind ∧ kind ≤ 255) && decide (0 ≤ n ∧ n ≤ 562949953421311) then [toU8 kind, 0, 0, 0, 0] ++ fixedV n 7 else []
theorem fixedV_len7 (n : Int) (h : 0 ≤ n ∧ n ≤ 562949953421311) : (fixedV n 7).length = 7 := by
  unfold fixedV
  have h1 : n.toNat / 256 ^ (7 : Int).toNat = 0 := Nat.div_eq_of_lt (by show n.toNat < 256 ^ 7; omega)
  rw [decide_eq_true h.1, decide_eq_true h1]
  show (fixV n.toNat 7).length = 7
  exact fixV_len _ 7
theorem spec_NonceOf_eq (kind n : Int) : spec_NonceOf kind n = some (nonceV kind n) := by
  unfold spec_NonceOf nonceV
  rw [l1In_eq, l1In_eq]
  by_cases h1 : 0 ≤ kind ∧ kind ≤ 255
  · by_cases h2 : 0 ≤ n ∧ n ≤ 562949953421311
    · rw [decide_eq_true h1, decide_eq_true h2]
      simp only [Option.bind_some, Bool.not_true, Bool.false_eq_true, if_false, Bool.and_self, cond_true, spec_Fixed_eq n 7 (by omega)]
      rw [cat_ok (by rw [fixedV_len7 n h2]; show 5 + 7 ≤ 9223372036854775807; decide)]
      rfl
    · rw [decide_eq_true h1, decide_eq_false h2]
      rfl
  · rw [decide_eq_false h1]
    rfl
theorem impl_NonceOf_eq (kind n : Int) : impl_NonceOf kind n = some (nonceV kind n) := by
  unfold impl_NonceOf nonceV
  rw [inRange_eq, inRange_eq]
  by_cases h1 : 0 ≤ kind ∧ kind ≤ 255
  · by_cases h2 : 0 ≤ n ∧ n ≤ 562949953421311
    · rw [decide_eq_true h1, decide_eq_true h2]
      simp only [Option.bind_some, Bool.not_true, Bool.false_eq_true, if_false, Bool.and_self, cond_true, impl_Fixed_eq n 7 (by omega)]
      rw [cat_ok (by rw [fixedV_len7 n h2]; show 5 + 7 ≤ 9223372036854775807; decide)]
      rfl
    · rw [decide_eq_true h1, decide_eq_false h2]
      rfl
  · rw [decide_eq_false h1]
    rfl
theorem varN_len : ∀ (f n : Nat), (varN f n).length ≤ f + 1
  | 0, n => Nat.le_refl _
  | f + 1, n => by
    by_cases h : n < 128
    · rw [varN_lt h]; simp
    · rw [varN_ge (by omega), List.length_cons]
      have := varN_len f (n / 128)
      omega
theorem varV_len (n : Int) : (varV n).length ≤ 7 := by
  unfold varV
  cases decide (0 ≤ n ∧ n ≤ 562949953421311)
  · simp
  · exact varN_len 6 _
theorem passes {ρ α : Type} (l : List α) (p : α → Bool) (body : Int → Option (Ctl Int (Ctl Unit Bool))) (h : ∀ k (hk : k < l.length), body (k : Int) = some (if p l[k] = true then .go ((k : Int) + 1) else .done (.done false))) (hn : body (l.length : Int) = some (.done (.go ()))) :
    loopO body 0 = some (if l.all p = true then .go () else .done false) := by
  rw [loopO_is (fun k s => s = (k : Int) ∧ l.all p = (l.drop k).all p) l.length (if l.all p = true then Ctl.go () else Ctl.done false) ?h0 ?h1 ?h2]
  case h0 => exact ⟨rfl, rfl⟩
  · rintro k s hk ⟨rfl, he⟩
    rw [h k hk, he, List.drop_eq_getElem_cons hk, List.all_cons]
    cases p l[k] with
    | false => right; rfl
    | true => left; exact ⟨(k : Int) + 1, rfl, by omega, by simp⟩
  · rintro s ⟨rfl, he⟩
    rw [he, List.drop_length, hn]
    rfl
/-- a string behind its length -/
def pieceV (s : List UInt8) : List UInt8 := varV (s.length : Int) ++ s
theorem spec_l6Piece_eq (s : List UInt8) (h : s.length ≤ 1099511627776) : spec_l6Piece s = some (pieceV s) := by
  unfold spec_l6Piece pieceV
  have := varV_len (s.length : Int)
  rw [spec_Var_eq]
  simp only [Option.bind_some]
  rw [cat_ok (by omega)]
  rfl
theorem pieceV_len (s : List UInt8) : (pieceV s).length ≤ 7 + s.length := by
  have := varV_len (s.length : Int)
  unfold pieceV
  rw [List.length_append]; omega
theorem flat_len {α : Type} (g : α → List UInt8) (m : Nat) : ∀ (l : List α), (∀ x ∈ l, (g x).length ≤ m) → (l.flatMap g).length ≤ m * l.length
  | [], _ => by simp
  | x :: l, h => by
    have h1 := h x (by simp)
    have h2 := flat_len g m l fun y hy => h y (by simp [hy])
    rw [List.flatMap_cons, List.length_append, List.length_cons, Nat.mul_succ]
    omega
theorem flat_take {α : Type} (g : α → List UInt8) (l : List α) (k : Nat) (h : k < l.length) : (l.take (k + 1)).flatMap g = (l.take k).flatMap g ++ g l[k] := by
  rw [List.take_add_one, List.getElem?_eq_getElem h, List.flatMap_append]
  simp
theorem flat_take_len {α : Type} (g : α → List UInt8) (m : Nat) (l : List α) (k : Nat) (h : ∀ x ∈ l, (g x).length ≤ m) : ((l.take k).flatMap g).length ≤ m * l.length := by
  have h1 := flat_len g m (l.take k) fun x hx => h x (List.mem_of_mem_take hx)
  have h2 : m * (l.take k).length ≤ m * l.length := Nat.mul_le_mul_left _ (by simp; omega)
  omega
theorem varN_ne (f n : Nat) : varN f n ≠ [] := by
  by_cases h : n < 128
  · rw [varN_lt h]; simp
  · cases f with
    | zero => simp [varN]
    | succ f => rw [varN_ge (by omega)]; simp
theorem varV_ne {n : Int} (h : 0 ≤ n ∧ n ≤ 562949953421311) : varV n ≠ [] := by
  unfold varV
  rw [decide_eq_true h]
  exact varN_ne 6 _
theorem readN_enc : ∀ (f n : Nat) (rest : List UInt8), n < 128 ^ (f + 1) → readN (f + 1) (varN f n ++ rest) = some (n, (varN f n).length)
  | 0, n, rest, h => by
    have hn : n < 128 := by simpa using h
    rw [varN_lt hn]
    show readN 1 (toU8 (n : Int) :: rest) = _
    rw [readN, toU8_toNat, Nat.mod_eq_of_lt (by omega), decide_eq_true hn]
    rfl
  | f + 1, n, rest, h => by
    by_cases hn : n < 128
    · rw [varN_lt hn]
      show readN (f + 2) (toU8 (n : Int) :: rest) = _
      rw [readN, toU8_toNat, Nat.mod_eq_of_lt (by omega), decide_eq_true hn]
      rfl
    · have h2 : n / 128 < 128 ^ (f + 1) := by
        rw [Nat.div_lt_iff_lt_mul (by decide)]; rw [Nat.pow_succ] at h; exact h
      rw [varN_ge (by omega), List.cons_append, readN, toU8_toNat, Nat.mod_eq_of_lt (by omega), decide_eq_false (by omega), readN_enc f (n / 128) rest h2]
      simp only [cond_false]
      rw [decide_eq_false (by omega)]
      simp only [cond_false, List.length_cons]
      congr 2
      omega
theorem readV_enc (n : Int) (h : 0 ≤ n ∧ n ≤ 562949953421311) (rest : List UInt8) : readN 7 (varV n ++ rest) = some (n.toNat, (varV n).length) := by
  unfold varV
  rw [decide_eq_true h]
  exact readN_enc 6 n.toNat rest (by show n.toNat < 562949953421312; omega)
theorem readN_range {s : List UInt8} {n k : Nat} (h : readN 7 s = some (n, k)) : n < 562949953421312 ∧ 1 ≤ k ∧ k ≤ s.length := by
  obtain ⟨h1, h2, h3, h4, _, _⟩ := readN_some 7 s n k h
  have hn := numV_lt (s.take k)
  rw [List.length_take, Nat.min_eq_left h3, ← h4] at hn
  have hp : 128 ^ k ≤ 128 ^ 7 := Nat.pow_le_pow_right (by decide) h2
  exact ⟨Nat.lt_of_lt_of_le hn hp, h1, h3⟩
/-- a number read on -/
def rdN (t : List UInt8) (a : Nat) (bad : Bool) : Int × Nat × Bool := bif bad then (0, a, true) else match readN 7 (t.drop a) with
  | none => (0, a, true)
  | some (x, k) => ((x : Int), a + k, false)
theorem rdN_range (t : List UInt8) (a : Nat) (bad : Bool) (h : a ≤ t.length) : (0 ≤ (rdN t a bad).1 ∧ (rdN t a bad).1 ≤ 562949953421311) ∧ (rdN t a bad).2.1 ≤ t.length ∧ ((rdN t a bad).2.2 = false → bad = false ∧ a < (rdN t a bad).2.1) := by
  unfold rdN
  cases bad with
  | true => exact ⟨⟨by simp, by simp⟩, h, fun e => by cases e⟩
  | false =>
    simp only [cond_false]
    cases hr : readN 7 (t.drop a) with
    | none => exact ⟨⟨by simp, by simp⟩, h, fun e => by cases e⟩
    | some p =>
      obtain ⟨x, k⟩ := p
      obtain ⟨h1, h2, h3⟩ := readN_range hr
      rw [List.length_drop] at h3
      refine ⟨⟨by simp, by simp only; omega⟩, by simp only; omega, fun _ => ?_⟩
      exact ⟨trivial, show a < a + k by omega⟩
theorem number_eq (t : List UInt8) (a : Nat) (bad : Bool) (h : a ≤ t.length) (ht : t.length ≤ 1099511627776) : impl_reader_number { text := t, at_ := (a : Int), bad := bad } = some ((rdN t a bad).1, { text := t, at_ := ((rdN t a bad).2.1 : Int), bad := (rdN t a bad).2.2 }) := by
  unfold impl_reader_number rdN
  cases bad with
  | true => rfl
  | false =>
    simp only [Bool.false_eq_true, if_false, ssub_end t a h, Option.bind_some, impl_ReadVar_eq (t.drop a) (by simp; omega), cond_false]
    cases hr : readN 7 (t.drop a) with
    | none => rfl
    | some p =>
      obtain ⟨x, k⟩ := p
      obtain ⟨h1, h2, h3⟩ := readN_range hr
      rw [List.length_drop] at h3
      have hk0 : decide ((readR (some (x, k))).2 = 0) = false := decide_eq_false (by show ¬ (k : Int) = 0; omega)
      rw [hk0]
      simp only [Bool.false_eq_true, if_false, readR]
      rw [wrap_ok (by omega) (by omega), show (a : Int) + (k : Int) = ((a + k : Nat) : Int) by omega]
/-- bytes read on -/
def rdB (t : List UInt8) (a : Nat) (bad : Bool) (n : Int) : List UInt8 × Nat × Bool := bif bad || decide (t.length < a + n.toNat) then ([], a, true) else ((t.drop a).take n.toNat, a + n.toNat, false)
theorem rdB_range (t : List UInt8) (a : Nat) (bad : Bool) (n : Int) (h : a ≤ t.length) : (rdB t a bad n).2.1 ≤ t.length ∧ a ≤ (rdB t a bad n).2.1 ∧ ((rdB t a bad n).2.2 = false → bad = false) := by
  unfold rdB
  cases bad with
  | true => exact ⟨h, Nat.le_refl _, fun e => by cases e⟩
  | false =>
    by_cases c : t.length < a + n.toNat
    · rw [decide_eq_true c]; exact ⟨h, Nat.le_refl _, fun e => by cases e⟩
    · rw [decide_eq_false c]; exact ⟨by simp only [Bool.or_self, cond_false]; omega, by simp, fun _ => rfl⟩
theorem bytes_eq (t : List UInt8) (a : Nat) (bad : Bool) (n : Int) (h : a ≤ t.length) (ht : t.length ≤ 1099511627776) (hn : 0 ≤ n ∧ n ≤ 562949953421311) : impl_reader_bytes { text := t, at_ := (a : Int), bad := bad } n = some ((rdB t a bad n).1, { text := t, at_ := ((rdB t a bad n).2.1 : Int), bad := (rdB t a bad n).2.2 }) := by
  unfold impl_reader_bytes rdB
  cases bad with
  | true => rfl
  | false =>
    simp only [Bool.false_eq_true, if_false, Option.bind_some, Bool.false_or]
    rw [wrap_ok (n := ((t.length : Nat) : Int) - (a : Int)) (by omega) (by omega)]
    by_cases c : t.length < a + n.toNat
    · rw [decide_eq_true c, decide_eq_true (by omega : n > ((t.length : Nat) : Int) - (a : Int))]
      rfl
    · rw [decide_eq_false c, decide_eq_false (by omega : ¬ n > ((t.length : Nat) : Int) - (a : Int))]
      simp only [Bool.false_eq_true, if_false, cond_false]
      rw [wrap_ok (n := (a : Int) + n) (by omega) (by omega), wrap_ok (n := (a : Int) + n - n) (by omega) (by omega), show (a : Int) + n - n = (a : Int) by omega, show (a : Int) + n = ((a + n.toNat : Nat) : Int) by omega, ssub_nat t a (a + n.toNat) (by omega) (by omega)]
      simp only [Option.bind_some, Nat.add_sub_cancel_left]
def rdS (t : List UInt8) (a : Nat) (bad : Bool) : List UInt8 × Nat × Bool := rdB t (rdN t a bad).2.1 (rdN t a bad).2.2 (rdN t a bad).1
theorem short_eq (t : List UInt8) (a : Nat) (bad : Bool) (h : a ≤ t.length) (ht : t.length ≤ 1099511627776) : impl_reader_short { text := t, at_ := (a : Int), bad := bad } = some ((rdS t a bad).1, { text := t, at_ := ((rdS t a bad).2.1 : Int), bad := (rdS t a bad).2.2 }) := by
  obtain ⟨h1, h2, _⟩ := rdN_range t a bad h
  unfold impl_reader_short rdS
  rw [number_eq t a bad h ht]
  simp only [Option.bind_some]
  rw [bytes_eq t _ _ _ h2 ht h1]
  rfl
theorem rdS_range (t : List UInt8) (a : Nat) (bad : Bool) (h : a ≤ t.length) : (rdS t a bad).2.1 ≤ t.length ∧ ((rdS t a bad).2.2 = false → bad = false ∧ a < (rdS t a bad).2.1) := by
  obtain ⟨h1, h2, h3⟩ := rdN_range t a bad h
  obtain ⟨h4, h5, h6⟩ := rdB_range t (rdN t a bad).2.1 (rdN t a bad).2.2 (rdN t a bad).1 h2
  unfold rdS
  refine ⟨h4, fun e => ?_⟩
  obtain ⟨h7, h8⟩ := h3 (h6 e)
  exact ⟨h7, by omega⟩
theorem drop_enc {t x rest : List UInt8} {a : Nat} (h : t.drop a = x ++ rest) : t.drop (a + x.length) = rest := by
  rw [← List.drop_drop, h, List.drop_left]
theorem rdN_enc {t rest : List UInt8} {a : Nat} {n : Int} (h : t.drop a = varV n ++ rest) (hn : 0 ≤ n ∧ n ≤ 562949953421311) : rdN t a false = (n, a + (varV n).length, false) := by
  unfold rdN
  rw [h, readV_enc n hn rest]
  simp only [cond_false]
  rw [show ((n.toNat : Nat) : Int) = n by omega]
theorem rdS_enc {t rest x : List UInt8} {a : Nat} (h : t.drop a = pieceV x ++ rest) (hx : x.length ≤ 1048576) (ha : a ≤ t.length) : rdS t a false = (x, a + (pieceV x).length, false) := by
  have h1 : t.drop a = varV (x.length : Int) ++ (x ++ rest) := by rw [h]; unfold pieceV; rw [List.append_assoc]
  have h2 := drop_enc h1
  have hl := congrArg List.length h2
  rw [List.length_drop, List.length_append] at hl
  unfold rdS
  rw [rdN_enc h1 (by omega)]
  unfold rdB
  simp only [Bool.false_or, Int.toNat_natCast]
  by_cases hx0 : x.length = 0
  · have h0 : x = [] := List.eq_nil_of_length_eq_zero hx0
    have hl2 := congrArg List.length h1
    rw [List.length_drop, List.length_append] at hl2
    rw [decide_eq_false (by omega)]
    simp only [cond_false]
    subst h0
    simp [pieceV]
  · rw [decide_eq_false (by omega)]
    simp only [cond_false]
    rw [h2, List.take_left]
    simp only [pieceV, List.length_append, Nat.add_assoc]
theorem l6V_range (s : List UInt8) : ∀ (n a : Nat), a ≤ s.length → ((l6V s n a).2 = -1 ∨ ∃ b : Nat, (l6V s n a).2 = (b : Int) ∧ b ≤ s.length ∧ (l6V s n a).1.length = n) ∧ ∀ x ∈ (l6V s n a).1, 0 ≤ x ∧ x ≤ 562949953421311
  | 0, a, h => ⟨.inr ⟨a, rfl, h, rfl⟩, fun x hx => by cases hx⟩
  | n + 1, a, h => by
    rw [l6V, decide_eq_false (by omega), cond_false]
    cases hr : readN 7 (s.drop a) with
    | none => exact ⟨.inl rfl, fun x hx => by cases hx⟩
    | some p =>
      obtain ⟨x, k⟩ := p
      obtain ⟨h1, h2, h3⟩ := readN_range hr
      rw [List.length_drop] at h3
      obtain ⟨q1, q2⟩ := l6V_range s n (a + k) (by omega)
      simp only
      refine ⟨?_, fun y hy => ?_⟩
      · rcases q1 with q | ⟨b, q3, q4, q5⟩
        · exact .inl q
        · exact .inr ⟨b, q3, q4, by rw [List.length_cons, q5]⟩
      · rcases List.mem_cons.1 hy with rfl | hy
        · omega
        · exact q2 y hy
theorem l6V_enc (s : List UInt8) : ∀ (l : List Int) (a : Nat) (rest : List UInt8), (∀ x ∈ l, 0 ≤ x ∧ x ≤ 1000000) → a ≤ s.length → s.drop a = l.flatMap varV ++ rest → l6V s l.length a = (l, ((a + (l.flatMap varV).length : Nat) : Int))
  | [], a, rest, _, _, _ => by simp [l6V]
  | x :: l, a, rest, hx, ha, h => by
    have h1 : s.drop a = varV x ++ (l.flatMap varV ++ rest) := by rw [h, List.flatMap_cons, List.append_assoc]
    have h2 := drop_enc h1
    have hx0 := hx x (by simp)
    have hl := congrArg List.length h1
    rw [List.length_drop, List.length_append] at hl
    have hb : a + (varV x).length ≤ s.length := by
      have := List.length_pos_iff.2 (varV_ne (n := x) (by omega))
      omega
    rw [List.length_cons, l6V, decide_eq_false (by omega), cond_false, h1, readV_enc x (by omega)]
    simp only
    rw [l6V_enc s l (a + (varV x).length) rest (fun y hy => hx y (by simp [hy])) hb h2]
    simp only [List.flatMap_cons, List.length_append, Nat.add_assoc]
    rw [show ((x.toNat : Nat) : Int) = x by omega]
theorem spec_l6Vars_neg (s : List UInt8) (n : Int) (hn : 0 < n) : spec_l6Vars s (-1) n = some ([], -1) := by
  unfold spec_l6Vars
  rw [loopO_eq]
  simp only
  rw [if_pos (by simp only [decide_eq_true_eq]; omega), decide_eq_true (by omega : (-1 : Int) < 0)]
  rfl
/-- bytes behind their number -/
def takeB (s : List UInt8) (a : Nat) : List UInt8 × Int := match readN 7 (s.drop a) with
  | none => ([], -1)
  | some (x, k) => bif decide (x ≤ s.length - (a + k)) then ((s.drop (a + k)).take x, ((a + k + x : Nat) : Int)) else ([], -1)
theorem takeB_range (s : List UInt8) (a : Nat) (h : a ≤ s.length) : (takeB s a).2 = -1 ∨ ∃ b : Nat, (takeB s a).2 = (b : Int) ∧ b ≤ s.length := by
  unfold takeB
  cases hr : readN 7 (s.drop a) with
  | none => exact .inl rfl
  | some p =>
    obtain ⟨x, k⟩ := p
    obtain ⟨h1, h2, h3⟩ := readN_range hr
    rw [List.length_drop] at h3
    simp only
    by_cases c : x ≤ s.length - (a + k)
    · rw [decide_eq_true c]; exact .inr ⟨a + k + x, rfl, by omega⟩
    · rw [decide_eq_false c]; exact .inl rfl
theorem spec_l6Take_neg (s : List UInt8) : spec_l6Take s (-1) = some ([], -1) := by
  unfold spec_l6Take
  rw [spec_l6Vars_neg s 1 (by omega)]
  rfl
theorem spec_l6Take_eq (s : List UInt8) (a : Nat) (h : a ≤ s.length) (hs : s.length ≤ 1048576) : spec_l6Take s (a : Int) = some (takeB s a) := by
  unfold spec_l6Take takeB
  rw [show spec_l6Vars s (a : Int) (1 : Int) = some (l6V s 1 a) from spec_l6Vars_eq s a 1 (by omega) (by decide) (by omega)]
  simp only [Option.bind_some, l6V]
  rw [decide_eq_false (by omega : ¬ s.length < a), cond_false]
  cases hr : readN 7 (s.drop a) with
  | none => rfl
  | some p =>
    obtain ⟨x, k⟩ := p
    obtain ⟨h1, h2, h3⟩ := readN_range hr
    rw [List.length_drop] at h3
    simp only
    rw [decide_eq_false (by omega : ¬ ((a + k : Nat) : Int) < 0)]
    have i0 : idx [(x : Int)] (0 : Int) = some (x : Int) := rfl
    simp only [Bool.false_eq_true, if_false, i0, Option.bind_some]
    rw [wrap_ok (n := ((s.length : Nat) : Int) - ((a + k : Nat) : Int)) (by omega) (by omega)]
    by_cases c : x ≤ s.length - (a + k)
    · rw [decide_eq_true c, decide_eq_false (by omega : ¬ (x : Int) > ((s.length : Nat) : Int) - ((a + k : Nat) : Int))]
      simp only [Bool.false_eq_true, if_false, cond_true]
      rw [wrap_ok (by omega) (by omega), show ((a + k : Nat) : Int) + (x : Int) = ((a + k + x : Nat) : Int) by omega, ssub_nat s (a + k) (a + k + x) (by omega) (by omega)]
      simp only [Option.bind_some, Nat.add_sub_cancel_left]
    · rw [decide_eq_false c, decide_eq_true (by omega : (x : Int) > ((s.length : Nat) : Int) - ((a + k : Nat) : Int))]
      rfl
theorem takeB_enc {s x rest : List UInt8} {a : Nat} (h : s.drop a = pieceV x ++ rest) (hx : x.length ≤ 1048576) (ha : a + (pieceV x).length ≤ s.length) : takeB s a = (x, ((a + (pieceV x).length : Nat) : Int)) := by
  have h1 : s.drop a = varV (x.length : Int) ++ (x ++ rest) := by rw [h]; unfold pieceV; rw [List.append_assoc]
  have h2 := drop_enc h1
  have hp : (pieceV x).length = (varV (x.length : Int)).length + x.length := by unfold pieceV; rw [List.length_append]
  unfold takeB
  rw [h1, readV_enc (x.length : Int) (by omega)]
  simp only [Int.toNat_natCast]
  rw [decide_eq_true (by omega)]
  simp only [cond_true]
  rw [h2, List.take_left, hp, Nat.add_assoc]
/-! draws -/
/-! draws of files and edits -/
theorem loopO_G {τ ρ R : Type} {body : τ → Option (Ctl τ (Ctl ρ R))} {s0 : τ} {f : ρ → Option R} (G : Option R → Prop) (I : Nat → τ → Prop) (n : Nat) (Q : Ctl ρ R → Prop) (h0 : I 0 s0)
    (h : ∀ k s, k < n → I k s → (∃ s', body s = some (.go s') ∧ I (k + 1) s') ∨ (∃ r, body s = some (.done r) ∧ Q r)) (hn : ∀ s, I n s → ∃ r, body s = some (.done r) ∧ Q r)
    (hk : ∀ r, Q r → G (bindC (some r) f)) : G (bindC (loopO body s0) f) := by
  obtain ⟨r, hr, hq⟩ := loopO_total I n Q h0 h hn
  rw [hr]
  exact hk r hq
/-! reservations: what fits -/
/-! rows of a log -/
/-! streams -/
noncomputable def strB (key : List UInt8) (counter : Int) (nonce : List UInt8) (i : Nat) : UInt8 := (chaV key (counter + ((i / 64 : Nat) : Int)) nonce).getD (i % 64) 0
noncomputable def xorV (key : List UInt8) (counter : Int) (nonce text : List UInt8) : List UInt8 := text.mapIdx fun i x => x ^^^ strB key counter nonce i
def streamOk (key : List UInt8) (counter : Int) (nonce : List UInt8) (n : Nat) : Bool := chaOk key counter nonce && decide (n = 0 ∨ counter + (((n - 1) / 64 : Nat) : Int) ≤ 4294967295)
noncomputable def streamV (key : List UInt8) (counter : Int) (nonce text : List UInt8) : List UInt8 := bif streamOk key counter nonce text.length then xorV key counter nonce text else []
theorem xorV_len (key : List UInt8) (counter : Int) (nonce text : List UInt8) : (xorV key counter nonce text).length = text.length := by unfold xorV; rw [List.length_mapIdx]
theorem xorV_at (key : List UInt8) (counter : Int) (nonce text : List UInt8) (i : Nat) (h : i < text.length) : (xorV key counter nonce text)[i]'(by rw [xorV_len]; exact h) = text[i] ^^^ strB key counter nonce i := by
  unfold xorV
  rw [List.getElem_mapIdx]
theorem chaOk_at {key : List UInt8} {counter : Int} {nonce : List UInt8} (h : chaOk key counter nonce = true) (k : Nat) (hk : counter + (k : Int) ≤ 4294967295) : chaOk key (counter + (k : Int)) nonce = true := by
  obtain ⟨h1, h2, h3, h4⟩ := chaOk_iff h
  unfold chaOk
  rw [decide_eq_true h1, decide_eq_true h2, decide_eq_true (by omega)]
  rfl
theorem chaV_no {key : List UInt8} {counter : Int} {nonce : List UInt8} (h : chaOk key counter nonce = false) : chaV key counter nonce = [] := by unfold chaV; rw [h]; rfl
theorem chaV_ne {key : List UInt8} {counter : Int} {nonce : List UInt8} (h : chaOk key counter nonce = true) : chaV key counter nonce ≠ [] := by
  intro e
  have := chaV_len key counter nonce h
  rw [e] at this
  cases this
theorem strB_at {key : List UInt8} {counter : Int} {nonce : List UInt8} (k j : Nat) (hj : j < 64) (h : chaOk key (counter + (k : Int)) nonce = true) : strB key counter nonce (64 * k + j) = (chaV key (counter + (k : Int)) nonce)[j]'(by rw [chaV_len _ _ _ h]; exact hj) := by
  unfold strB
  have e1 : (64 * k + j) / 64 = k := by omega
  have e2 : (64 * k + j) % 64 = j := by omega
  rw [e1, e2, List.getD_eq_getElem?_getD, List.getElem?_eq_getElem (by rw [chaV_len _ _ _ h]; exact hj)]
  rfl
theorem take_next {α : Type} (z : List α) (m : Nat) (h : m < z.length) : z.take (m + 1) = z.take m ++ [z[m]] := by
  rw [List.take_add_one, List.getElem?_eq_getElem h]; rfl
/-- one block of a stream, written behind -/
theorem spec_inner {ρ : Type} (key : List UInt8) (counter : Int) (nonce text : List UInt8) (ht : text.length ≤ 1099511627776) (k : Nat) (hk : 64 * k < text.length) (h : chaOk key (counter + (k : Int)) nonce = true) :
    loopO (ρ := Ctl (List UInt8) ρ) (fun (S15 : Int × List UInt8) => (if (decide (S15.1 < ((text.length : Nat) : Int))) = true then (some (decide (S15.1 < ((64 * k + 64 : Nat) : Int))))
      else (some false)).bind (fun (T19 : Bool) =>
      if T19 = true then ((sidx text S15.1).bind fun E23 =>
      (sidx (chaV key (counter + (k : Int)) nonce) (IntKind.i64.wrap (S15.1 - ((64 * k : Nat) : Int)))).bind fun E25 =>
      (app 1 S15.2 ([(E23 ^^^ E25)])).bind fun E29 =>
      some (.go (IntKind.i64.wrap (S15.1 + (1 : Int)), E29)))
      else (some (.done (.go S15.2))))) (((64 * k : Nat) : Int), (xorV key counter nonce text).take (64 * k)) = some (.go ((xorV key counter nonce text).take (64 * (k + 1)))) := by
  have hz := xorV_len key counter nonce text
  refine loopO_is (fun j S => S = (((64 * k + j : Nat) : Int), (xorV key counter nonce text).take (64 * k + j))) (min 64 (text.length - 64 * k)) _ rfl ?_ ?_
  · rintro j _ hj rfl
    left
    have hi : 64 * k + j < text.length := by omega
    simp only
    rw [decide_eq_true (by omega : ((64 * k + j : Nat) : Int) < ((text.length : Nat) : Int)), decide_eq_true (by omega : ((64 * k + j : Nat) : Int) < ((64 * k + 64 : Nat) : Int))]
    have e1 : ((64 * k + j : Nat) : Int) - ((64 * k : Nat) : Int) = (j : Int) := by omega
    have hl : ((xorV key counter nonce text).take (64 * k + j)).length = 64 * k + j := by rw [List.length_take]; omega
    rw [e1, wrap_ok (n := (j : Int)) (by omega) (by omega)]
    simp only [if_true, Option.bind_some]
    rw [sidx_nat text _ hi]
    simp only [Option.bind_some]
    rw [sidx_nat _ j (by rw [chaV_len _ _ _ h]; omega)]
    simp only [Option.bind_some]
    rw [app_ok (by simp only [List.length_singleton]; omega) (by simp only [List.length_singleton]; omega), wrap_ok (by omega) (by omega)]
    refine ⟨_, rfl, ?_⟩
    rw [show 64 * k + (j + 1) = (64 * k + j) + 1 from rfl, take_next _ _ (by rw [hz]; exact hi), xorV_at _ _ _ _ _ hi, strB_at k j (by omega) h]
    rfl
  · rintro _ rfl
    simp only
    by_cases c : 64 * k + 64 ≤ text.length
    · have e : 64 * k + min 64 (text.length - 64 * k) = 64 * k + 64 := by omega
      rw [e, decide_eq_false (by omega : ¬ ((64 * k + 64 : Nat) : Int) < ((64 * k + 64 : Nat) : Int)), show 64 * (k + 1) = 64 * k + 64 from rfl]
      split <;> rfl
    · have e : 64 * k + min 64 (text.length - 64 * k) = text.length := by omega
      rw [e, decide_eq_false (by omega : ¬ ((text.length : Nat) : Int) < ((text.length : Nat) : Int)), List.take_of_length_le (by omega), List.take_of_length_le (by omega)]
      rfl
theorem spec_ChaStream_eq (key : List UInt8) (counter : Int) (nonce text : List UInt8) (ht : text.length ≤ 1099511627776) : spec_ChaStream key counter nonce text = some (streamV key counter nonce text) := by
  unfold spec_ChaStream streamV streamOk
  rw [spec_ChaBlock_eq]
  simp only [Option.bind_some]
  cases h0 : chaOk key counter nonce with
  | false => rw [chaV_no h0]; rfl
  | true =>
    rw [decide_eq_false (chaV_ne h0)]
    simp only [Bool.false_eq_true, if_false, Bool.true_and]
    obtain ⟨_, _, hc1, hc2⟩ := chaOk_iff h0
    obtain ⟨r, hr, hq⟩ := loopO_total (ρ := Ctl (List UInt8) (List UInt8)) (s0 := ((0 : Int), ([] : List UInt8))) (body := fun (S6 : Int × List UInt8) => if (decide (S6.1 < ((text.length : Nat) : Int))) = true then ((spec_ChaBlock key (IntKind.i64.wrap (counter + (IntKind.i64.wrap (Int.tdiv S6.1 (64 : Int))))) nonce).bind fun R11 =>
      if (decide (R11 = ([]))) = true then (some (.done (.done ([]))))
      else (bindC (loopO (fun (S15 : Int × List UInt8) => (if (decide (S15.1 < ((text.length : Nat) : Int))) = true then (some (decide (S15.1 < IntKind.i64.wrap (S6.1 + (64 : Int)))))
      else (some false)).bind (fun (T19 : Bool) =>
      if T19 = true then ((sidx text S15.1).bind fun E23 =>
      (sidx R11 (IntKind.i64.wrap (S15.1 - S6.1))).bind fun E25 =>
      (app 1 S15.2 ([(E23 ^^^ E25)])).bind fun E29 =>
      some (.go (IntKind.i64.wrap (S15.1 + (1 : Int)), E29)))
      else (some (.done (.go S15.2)))))
      (S6.1, S6.2))
      (fun (T17 : List UInt8) => some (.go (IntKind.i64.wrap (S6.1 + (64 : Int)), T17)))))
      else (some (.done (.go S6.2))))
      (fun k S => S = (((64 * k : Nat) : Int), (xorV key counter nonce text).take (64 * k)) ∧ (k = 0 ∨ counter + ((k - 1 : Nat) : Int) ≤ 4294967295)) ((text.length + 63) / 64)
      (fun r => r = bif decide (text.length = 0 ∨ counter + (((text.length - 1) / 64 : Nat) : Int) ≤ 4294967295) then .go (xorV key counter nonce text) else .done []) ⟨rfl, .inl rfl⟩ (by
      rintro k _ hk ⟨rfl, hb⟩
      have hlt : 64 * k < text.length := by omega
      have e1 : Int.tdiv ((64 * k : Nat) : Int) 64 = (k : Int) := by rw [Int.tdiv_eq_ediv_of_nonneg (by omega)]; omega
      simp only
      rw [e1, wrap_ok (n := (k : Int)) (by omega) (by omega), wrap_ok (n := counter + (k : Int)) (by omega) (by omega), wrap_ok (n := ((64 * k : Nat) : Int) + 64) (by omega) (by omega), decide_eq_true (by omega : ((64 * k : Nat) : Int) < ((text.length : Nat) : Int)), spec_ChaBlock_eq]
      simp only [if_true, Option.bind_some]
      by_cases hm : counter + (k : Int) ≤ 4294967295
      · left
        have hk2 := chaOk_at h0 k hm
        rw [decide_eq_false (chaV_ne hk2)]
        simp only [Bool.false_eq_true, if_false]
        have e2 : ((64 * k : Nat) : Int) + 64 = ((64 * k + 64 : Nat) : Int) := by omega
        rw [e2, spec_inner key counter nonce text ht k hlt hk2]
        exact ⟨_, rfl, rfl, .inr (by simpa using hm)⟩
      · right
        have hk2 : chaOk key (counter + (k : Int)) nonce = false := by
          unfold chaOk
          rw [decide_eq_false (by omega : ¬ (0 ≤ counter + (k : Int) ∧ counter + (k : Int) ≤ 4294967295)), Bool.and_false, Bool.and_false]
        rw [chaV_no hk2]
        refine ⟨_, rfl, ?_⟩
        rw [decide_eq_false (by omega)]
        rfl) (by
      rintro _ ⟨rfl, hb⟩
      simp only
      rw [decide_eq_false (by omega : ¬ ((64 * ((text.length + 63) / 64) : Nat) : Int) < ((text.length : Nat) : Int)), List.take_of_length_le (by rw [xorV_len]; omega), decide_eq_true (by omega)]
      exact ⟨_, rfl, rfl⟩)
    rw [hr, hq]
    cases decide (text.length = 0 ∨ counter + (((text.length - 1) / 64 : Nat) : Int) ≤ 4294967295) <;> rfl
/-- one block of a stream, in place -/
theorem impl_inner {ρ : Type} (key : List UInt8) (counter : Int) (nonce text : List UInt8) (ht : text.length ≤ 1099511627776) (k : Nat) (hk : 64 * k < text.length) (h : chaOk key (counter + (k : Int)) nonce = true) :
    loopO (ρ := Ctl (List UInt8) ρ) (fun (S20 : Int × List UInt8) => (if (decide (S20.1 < (64 : Int))) = true then (some (decide (IntKind.i64.wrap (((64 * k : Nat) : Int) + S20.1) < ((S20.2.length : Nat) : Int))))
      else (some false)).bind (fun (T24 : Bool) =>
      if T24 = true then ((sidx (chaV key (counter + (k : Int)) nonce) S20.1).bind fun E28 =>
      (idx S20.2 (IntKind.i64.wrap (((64 * k : Nat) : Int) + S20.1))).bind fun E30 =>
      some (.go (IntKind.i64.wrap (S20.1 + (1 : Int)), (S20.2.set ((IntKind.i64.wrap (((64 * k : Nat) : Int) + S20.1)).toNat) (E30 ^^^ E28)))))
      else (some (.done (.go S20.2))))) ((0 : Int), (xorV key counter nonce text).take (64 * k) ++ text.drop (64 * k)) = some (.go ((xorV key counter nonce text).take (64 * (k + 1)) ++ text.drop (64 * (k + 1)))) := by
  have hz := xorV_len key counter nonce text
  refine loopO_is (fun j S => S = ((j : Int), (xorV key counter nonce text).take (64 * k + j) ++ text.drop (64 * k + j))) (min 64 (text.length - 64 * k)) _ rfl ?_ ?_
  · rintro j _ hj rfl
    left
    have hi : 64 * k + j < text.length := by omega
    have e1 : ((64 * k : Nat) : Int) + (j : Int) = ((64 * k + j : Nat) : Int) := by omega
    have hl : ((xorV key counter nonce text).take (64 * k + j)).length = 64 * k + j := by rw [List.length_take]; omega
    have hll : ((xorV key counter nonce text).take (64 * k + j) ++ text.drop (64 * k + j)).length = text.length := by rw [List.length_append, hl, List.length_drop]; omega
    simp only
    rw [e1, wrap_ok (n := ((64 * k + j : Nat) : Int)) (by omega) (by omega), decide_eq_true (by omega : (j : Int) < 64), hll, decide_eq_true (by omega : ((64 * k + j : Nat) : Int) < ((text.length : Nat) : Int))]
    simp only [if_true, Option.bind_some]
    rw [sidx_nat _ j (by rw [chaV_len _ _ _ h]; omega)]
    simp only [Option.bind_some]
    rw [idx_nat _ (64 * k + j) (by rw [hll]; exact hi)]
    simp only [Option.bind_some]
    rw [wrap_ok (by omega) (by omega), Int.toNat_natCast]
    refine ⟨_, rfl, ?_⟩
    have e2 : ((xorV key counter nonce text).take (64 * k + j) ++ text.drop (64 * k + j))[64 * k + j]'(by rw [hll]; exact hi) = text[64 * k + j] := by
      rw [List.getElem_append_right (by omega)]
      simp only [List.getElem_drop]
      congr 1
      omega
    rw [e2, show 64 * k + (j + 1) = (64 * k + j) + 1 from rfl, take_next _ _ (by rw [hz]; exact hi), xorV_at _ _ _ _ _ hi, strB_at k j (by omega) h, List.set_append_right _ _ (by omega), hl, Nat.sub_self, List.drop_eq_getElem_cons hi, List.append_assoc]
    rfl
  · rintro _ rfl
    simp only
    by_cases c : 64 * k + 64 ≤ text.length
    · have e : min 64 (text.length - 64 * k) = 64 := by omega
      rw [e, decide_eq_false (by omega : ¬ ((64 : Nat) : Int) < 64)]
      rfl
    · have e : 64 * k + min 64 (text.length - 64 * k) = text.length := by omega
      have e3 : (xorV key counter nonce text).take (64 * k + min 64 (text.length - 64 * k)) ++ text.drop (64 * k + min 64 (text.length - 64 * k)) = xorV key counter nonce text := by
        rw [e, List.take_of_length_le (by omega), List.drop_of_length_le (Nat.le_refl _), List.append_nil]
      rw [e3, hz, List.take_of_length_le (by omega), List.drop_of_length_le (by omega), List.append_nil]
      have e1 : ((64 * k : Nat) : Int) + ((min 64 (text.length - 64 * k) : Nat) : Int) = ((text.length : Nat) : Int) := by omega
      rw [e1, wrap_ok (by omega) (by omega), decide_eq_false (by omega : ¬ ((text.length : Nat) : Int) < ((text.length : Nat) : Int))]
      split <;> rfl
theorem impl_ChaStream_eq (key : List UInt8) (counter : Int) (nonce text : List UInt8) (ht : text.length ≤ 1099511627776) : impl_ChaStream key counter nonce text = some (streamV key counter nonce text) := by
  unfold impl_ChaStream streamV streamOk
  rw [impl_isCha_eq]
  simp only [Option.bind_some]
  cases h0 : chaOk key counter nonce with
  | false => rfl
  | true =>
    obtain ⟨_, _, hc1, hc2⟩ := chaOk_iff h0
    have hbr : byteRoom text = some () := by unfold byteRoom; rw [if_pos (by omega)]
    have e0 : Int.tdiv (((text.length : Nat) : Int) + 63) 64 = (((text.length + 63) / 64 : Nat) : Int) := by rw [Int.tdiv_eq_ediv_of_nonneg (by omega)]; omega
    simp only [Bool.not_true, Bool.false_eq_true, if_false, hbr, Option.bind_some, Bool.true_and]
    rw [wrap_ok (n := ((text.length : Nat) : Int) + 63) (by omega) (by omega), e0, wrap_ok (n := (((text.length + 63) / 64 : Nat) : Int)) (by omega) (by omega), wrap_ok (n := counter + (((text.length + 63) / 64 : Nat) : Int)) (by omega) (by omega), wrap_ok (n := counter + (((text.length + 63) / 64 : Nat) : Int) - 1) (by omega) (by omega)]
    have hg : (if decide ((((text.length + 63) / 64 : Nat) : Int) > 0) = true then (some (decide (counter + (((text.length + 63) / 64 : Nat) : Int) - 1 > 4294967295))) else (some false)) = some (!decide (text.length = 0 ∨ counter + (((text.length - 1) / 64 : Nat) : Int) ≤ 4294967295)) := by
      by_cases c : text.length = 0
      · rw [decide_eq_false (by omega), decide_eq_true (show text.length = 0 ∨ counter + (((text.length - 1) / 64 : Nat) : Int) ≤ 4294967295 from .inl c)]; rfl
      · rw [decide_eq_true (by omega)]
        by_cases c2 : counter + (((text.length - 1) / 64 : Nat) : Int) ≤ 4294967295
        · rw [decide_eq_false (by omega), decide_eq_true (by omega)]; rfl
        · rw [decide_eq_true (by omega), decide_eq_false (by omega)]; rfl
    rw [hg]
    cases hd : decide (text.length = 0 ∨ counter + (((text.length - 1) / 64 : Nat) : Int) ≤ 4294967295) with
    | false => rfl
    | true =>
      have hd' := of_decide_eq_true hd
      simp only [Option.bind_some, Bool.not_true, Bool.false_eq_true, if_false, cond_true]
      rw [loopO_is (ρ := Ctl (List UInt8) (List UInt8)) (s0 := (counter, (0 : Int), text)) (fun k S => S = (counter + (k : Int), ((64 * k : Nat) : Int), (xorV key counter nonce text).take (64 * k) ++ text.drop (64 * k))) ((text.length + 63) / 64) (.go (xorV key counter nonce text)) (by simp) ?_ ?_]
      · rfl
      · rintro k _ hk rfl
        left
        have hlt : 64 * k < text.length := by omega
        have hk2 := chaOk_at h0 k (by omega)
        have hl : ((xorV key counter nonce text).take (64 * k) ++ text.drop (64 * k)).length = text.length := by rw [List.length_append, List.length_take, List.length_drop, xorV_len]; omega
        simp only
        rw [hl, decide_eq_true (by omega : ((64 * k : Nat) : Int) < ((text.length : Nat) : Int)), impl_ChaBlock_eq]
        simp only [if_true, Option.bind_some]
        rw [impl_inner key counter nonce text ht k hlt hk2]
        simp only [bindC_go]
        rw [wrap_ok (n := counter + (k : Int) + 1) (by omega) (by omega), wrap_ok (n := ((64 * k : Nat) : Int) + 64) (by omega) (by omega)]
        exact ⟨_, rfl, by rw [show counter + (k : Int) + 1 = counter + ((k + 1 : Nat) : Int) by omega, show ((64 * k : Nat) : Int) + 64 = ((64 * (k + 1) : Nat) : Int) by omega]⟩
      · rintro _ rfl
        simp only
        rw [List.take_of_length_le (by rw [xorV_len]; omega), List.drop_of_length_le (by omega), List.append_nil, xorV_len, decide_eq_false (by omega)]
        rfl

/-! files sealed -/
/-! a known block -/
/-! all that an iterator meets -/
/-! compaction keeps what is seen -/
/-! draws of entries -/
/-! stable order: lists in order, class by class -/
/-! two elements change places -/
theorem loopO_bind {τ ρ R : Type} {body : τ → Option (Ctl τ (Ctl ρ R))} {s0 : τ} {k : ρ → Option R} {res : R} (I : Nat → τ → Prop) (n : Nat) (Q : Ctl ρ R → Prop) (h0 : I 0 s0)
    (h : ∀ k s, k < n → I k s → (∃ s', body s = some (.go s') ∧ I (k + 1) s') ∨ (∃ r, body s = some (.done r) ∧ Q r)) (hn : ∀ s, I n s → ∃ r, body s = some (.done r) ∧ Q r)
    (hk : ∀ r, Q r → bindC (some r) k = some res) : bindC (loopO body s0) k = some res := by
  obtain ⟨r, hr, hq⟩ := loopO_total I n Q h0 h hn
  rw [hr]
  exact hk r hq
/-! the merge of two parts beside each other -/
/-! the first of each class, in order -/
theorem total_mem {l : List (List Ent)} {e : List Ent} (h : e ∈ l) : e.length ≤ totalV l := sum_mem List.length h
/-! an engine's tables merged into one -/
theorem eng_small {e : Eng} (h : engV e = true) : e.Mem.length ≤ 1048576 ∧ e.Tables.length ≤ 1048576 ∧ totalV e.Tables ≤ 1048576 ∧ e.Snaps.length ≤ 1048576 ∧ ∀ t ∈ e.Tables, t.length ≤ 1048576 := by
  obtain ⟨h1, h2, h3, h4, h5, h6, h7, h8⟩ := engV_all h
  exact ⟨by omega, by omega, by omega, by omega, fun t ht => by have := total_mem ht; omega⟩
/-! the merge and the flush that follow a put -/
/-! all entries of an engine -/
/-! the map of an engine -/
/-! batches as text -/
noncomputable def opB (o : Op) : List UInt8 := (if o.Del = true then [1] else [0]) ++ pieceV o.Key ++ (if o.Del = true then [] else pieceV o.Val)
noncomputable def showB (l : List Op) : List UInt8 := varV (l.length : Int) ++ l.flatMap opB
noncomputable def shownB (l : List Op) : List UInt8 := bif batchV l then showB l else []
theorem opV_iff {o : Op} (h : opV o = true) : (1 ≤ o.Key.length ∧ o.Key.length ≤ 10) ∧ o.Val.length ≤ 16 ∧ (o.Del = true → o.Val = []) := by
  unfold opV at h
  simp only [Bool.and_eq_true, Bool.or_eq_true, decide_eq_true_eq] at h
  refine ⟨by omega, by omega, fun hd => ?_⟩
  rw [hd] at h
  simpa using h.2.2
theorem batchV_iff {l : List Op} (h : batchV l = true) : (1 ≤ l.length ∧ l.length ≤ 6) ∧ ∀ o ∈ l, opV o = true := by
  unfold batchV at h
  simpa using h
theorem opB_len {o : Op} (h : opV o = true) : (opB o).length ≤ 41 := by
  obtain ⟨h1, h2, _⟩ := opV_iff h
  have h3 := pieceV_len o.Key
  have h4 := pieceV_len o.Val
  unfold opB
  cases o.Del <;> simp <;> omega
theorem showB_len {l : List Op} (h : batchV l = true) : (showB l).length ≤ 253 := by
  obtain ⟨h1, h2⟩ := batchV_iff h
  have h3 := flat_len opB 41 l fun o ho => opB_len (h2 o ho)
  have h4 := varV_len (l.length : Int)
  unfold showB
  rw [List.length_append]
  omega
theorem spec_ShowBatch_eq (l : List Op) (h : l.length ≤ 1048576) : spec_ShowBatch l = some (shownB l) := by
  unfold spec_ShowBatch shownB
  rw [spec_BatchOk_eq l h]
  cases hv : batchV l with
  | false => rfl
  | true =>
    obtain ⟨h1, h2⟩ := batchV_iff hv
    have hv1 := varV_len (l.length : Int)
    simp only [Option.bind_some, Bool.not_true, Bool.false_eq_true, if_false, cond_true, spec_Var_eq]
    rw [loopO_is (I := fun k S => S = (varV (l.length : Int) ++ (l.take k).flatMap opB, (k : Int))) l.length (.go (showB l)) (by simp) ?_ ?_]
    · rfl
    · rintro k _ hk rfl
      left
      have hl := flat_take_len opB 41 l k fun o ho => opB_len (h2 o ho)
      have ho := opB_len (h2 _ (List.getElem_mem hk))
      obtain ⟨g1, g2, _⟩ := opV_iff (h2 _ (List.getElem_mem hk))
      have p1 := pieceV_len l[k].Key
      have p2 := pieceV_len l[k].Val
      simp only [idx_nat l k hk, Option.bind_some, spec_l6Piece_eq l[k].Key (by omega), spec_l6Piece_eq l[k].Val (by omega), flat_take opB l k hk]
      rw [if_pos (by simp only [decide_eq_true_eq]; omega), wrap_ok (n := (k : Int) + 1) (by omega) (by omega)]
      cases hd : l[k].Del with
      | true =>
        simp only [if_true]
        rw [cat_ok (by simp only [List.length_append, List.length_cons, List.length_nil]; omega)]
        simp only [Option.bind_some]
        rw [cat_ok (by simp only [List.length_append, List.length_cons, List.length_nil]; omega)]
        refine ⟨_, rfl, ?_⟩
        simp only [opB, hd, if_true, List.append_nil, List.append_assoc]
        rfl
      | false =>
        simp only [Bool.false_eq_true, if_false]
        rw [cat_ok (by simp only [List.length_append, List.length_cons, List.length_nil]; omega)]
        simp only [Option.bind_some]
        rw [cat_ok (by simp only [List.length_append, List.length_cons, List.length_nil]; omega)]
        simp only [Option.bind_some]
        rw [cat_ok (by simp only [List.length_append, List.length_cons, List.length_nil]; omega)]
        refine ⟨_, rfl, ?_⟩
        simp only [opB, hd, Bool.false_eq_true, if_false, List.append_assoc]
        rfl
    · rintro _ rfl
      simp only
      rw [if_neg (by simp), List.take_length]
      rfl
theorem showB_ne {l : List Op} (h : batchV l = true) : showB l ≠ [] := by
  obtain ⟨h1, _⟩ := batchV_iff h
  unfold showB
  have := varV_ne (n := (l.length : Int)) (by omega)
  simp [this]
/-- where a row may lie -/
noncomputable def placeV (boot seq : Int) : Bool := decide (0 ≤ boot ∧ boot ≤ 1000) && decide (0 ≤ seq ∧ seq ≤ 999999)
theorem spec_l8At_eq (boot seq : Int) : spec_l8At boot seq = some (placeV boot seq) := by
  unfold spec_l8At placeV
  simp only [l1In_eq, Option.bind_some]
  cases decide (0 ≤ boot ∧ boot ≤ 1000) <;> rfl
theorem impl_isPlace_eq (boot seq : Int) : impl_isPlace boot seq = some (placeV boot seq) := by
  unfold impl_isPlace placeV
  simp only [inRange_eq, Option.bind_some]
  cases decide (0 ≤ boot ∧ boot ≤ 1000) <;> rfl
noncomputable def placeN (boot seq : Int) : List UInt8 := nonceV 3 (IntKind.i64.wrap (IntKind.i64.wrap (boot * 1000000) + seq))
theorem len32 (key : List UInt8) : decide (((key.length : Nat) : Int) = 32) = decide (key.length = 32) := decide_eq_decide.2 (by omega)
/-! batches read -/
/-- a flag read on -/
noncomputable def rdF (t : List UInt8) (a : Nat) (bad : Bool) : Bool × Nat × Bool := (decide ((rdB t a bad 1).1 = [1]), (rdB t a bad 1).2.1, (!decide ((rdB t a bad 1).1 = [0]) && !decide ((rdB t a bad 1).1 = [1])) || (rdB t a bad 1).2.2)
theorem flag_eq (t : List UInt8) (a : Nat) (bad : Bool) (h : a ≤ t.length) (ht : t.length ≤ 1099511627776) : impl_reader_flag { text := t, at_ := (a : Int), bad := bad } = some ((rdF t a bad).1, { text := t, at_ := ((rdF t a bad).2.1 : Int), bad := (rdF t a bad).2.2 }) := by
  unfold impl_reader_flag rdF
  rw [bytes_eq t a bad 1 h ht (by omega)]
  simp only [Option.bind_some]
  cases decide ((rdB t a bad 1).1 = [0]) <;> cases decide ((rdB t a bad 1).1 = [1]) <;> rfl
theorem rdF_range (t : List UInt8) (a : Nat) (bad : Bool) (h : a ≤ t.length) : (rdF t a bad).2.1 ≤ t.length ∧ a ≤ (rdF t a bad).2.1 ∧ ((rdF t a bad).2.2 = false → bad = false) := by
  obtain ⟨h1, h2, h3⟩ := rdB_range t a bad 1 h
  refine ⟨h1, h2, fun e => h3 ?_⟩
  unfold rdF at e
  simp only [Bool.or_eq_false_iff] at e
  exact e.2
/-- an op read on -/
noncomputable def rdO (t : List UInt8) (a : Nat) : Op × Nat × Bool :=
  if (rdF t a false).1 = true then ({ Key := (rdS t (rdF t a false).2.1 (rdF t a false).2.2).1, Del := true, Val := [] }, (rdS t (rdF t a false).2.1 (rdF t a false).2.2).2)
  else ({ Key := (rdS t (rdF t a false).2.1 (rdF t a false).2.2).1, Del := false, Val := (rdS t (rdS t (rdF t a false).2.1 (rdF t a false).2.2).2.1 (rdS t (rdF t a false).2.1 (rdF t a false).2.2).2.2).1 },
    (rdS t (rdS t (rdF t a false).2.1 (rdF t a false).2.2).2.1 (rdS t (rdF t a false).2.1 (rdF t a false).2.2).2.2).2)
theorem rdO_range (t : List UInt8) (a : Nat) (h : a ≤ t.length) : (rdO t a).2.1 ≤ t.length := by
  obtain ⟨h1, _, _⟩ := rdF_range t a false h
  obtain ⟨h2, _⟩ := rdS_range t (rdF t a false).2.1 (rdF t a false).2.2 h1
  obtain ⟨h3, _⟩ := rdS_range t (rdS t (rdF t a false).2.1 (rdF t a false).2.2).2.1 (rdS t (rdF t a false).2.1 (rdF t a false).2.2).2.2 h2
  unfold rdO
  split
  · exact h2
  · exact h3
/-- ops read on, as many as are said -/
noncomputable def opsI (t : List UInt8) : Nat → Nat → Bool → List Op → Nat × Bool × List Op
  | 0, a, bad, out => (a, bad, out)
  | f + 1, a, bad, out => bif bad then (a, bad, out) else opsI t f (rdO t a).2.1 (rdO t a).2.2 (out ++ [(rdO t a).1])
noncomputable def opsR (t : List UInt8) : Nat × Bool × List Op := opsI t (goMin (rdN t 0 false).1 6).toNat (rdN t 0 false).2.1 (rdN t 0 false).2.2 []
noncomputable def readB (t : List UInt8) : List Op × Bool :=
  bif (!(opsR t).2.1 && decide ((opsR t).1 = t.length)) && (decide (((opsR t).2.2.length : Int) = (rdN t 0 false).1) && batchV (opsR t).2.2) then ((opsR t).2.2, true) else ([], false)
theorem opsI_range (t : List UInt8) : ∀ (f a : Nat) (bad : Bool) (out : List Op), a ≤ t.length → (opsI t f a bad out).1 ≤ t.length ∧ (opsI t f a bad out).2.2.length ≤ out.length + f
  | 0, a, bad, out, h => ⟨h, Nat.le_refl _⟩
  | f + 1, a, true, out, h => ⟨h, by simp [opsI]⟩
  | f + 1, a, false, out, h => by
    obtain ⟨h1, h2⟩ := opsI_range t f (rdO t a).2.1 (rdO t a).2.2 (out ++ [(rdO t a).1]) (rdO_range t a h)
    refine ⟨h1, ?_⟩
    simp only [opsI, cond_false]
    simp only [List.length_append, List.length_singleton] at h2
    omega
theorem impl_ReadBatch_eq (t : List UInt8) (ht : t.length ≤ 1048576) : impl_ReadBatch t = some (readB t) := by
  unfold impl_ReadBatch readB
  obtain ⟨n1, n2, _⟩ := rdN_range t 0 false (Nat.zero_le _)
  rw [show impl_reader_number { text := t, at_ := (0 : Int), bad := false } = _ from number_eq t 0 false (Nat.zero_le _) (by omega)]
  simp only [Option.bind_some]
  have hloop : ∀ (f a i : Nat) (bad : Bool) (out : List Op), a ≤ t.length → (i : Int) + (f : Int) = goMin (rdN t 0 false).1 6 → i + f ≤ 6 → out.length ≤ i →
      loopO (ρ := Ctl (List UInt8 × Int × Bool × List Op) (List Op × Bool)) (fun (S5 : List UInt8 × Int × Bool × Int × List Op) => (if (decide (S5.2.2.2.1 < goMin (rdN t 0 false).1 (6 : Int))) = true then (some (!S5.2.2.1))
        else (some false)).bind (fun (T9 : Bool) =>
        if T9 = true then ((impl_reader_flag ({ text := S5.1, at_ := S5.2.1, bad := S5.2.2.1 : Reader })).bind fun R13 =>
        (impl_reader_short R13.2).bind fun R17 =>
        bindC (if (!R13.1) = true then ((impl_reader_short R17.2).bind fun R23 =>
        some (.go (R23.2.text, R23.2.at_, R23.2.bad, R23.1)))
        else (some (.go (R17.2.text, R17.2.at_, R17.2.bad, []))))
        (fun (T20 : List UInt8 × Int × Bool × List UInt8) => (app 40 S5.2.2.2.2 ([{ Key := R17.1, Del := R13.1, Val := T20.2.2.2 : Op }])).bind fun E28 =>
        some (.go (T20.1, T20.2.1, T20.2.2.1, IntKind.i64.wrap (S5.2.2.2.1 + (1 : Int)), E28))))
        else (some (.done (.go (S5.1, S5.2.1, S5.2.2.1, S5.2.2.2.2))))))
        (t, (a : Int), bad, (i : Int), out) = some (.go (t, ((opsI t f a bad out).1 : Int), (opsI t f a bad out).2.1, (opsI t f a bad out).2.2)) := by
    intro f
    induction f with
    | zero =>
      intro a i bad out ha hi h6 ho
      rw [loopO_eq]
      simp only [decide_eq_false (by omega : ¬ (i : Int) < goMin (rdN t 0 false).1 6), Bool.false_eq_true, if_false, Option.bind_some]
      rfl
    | succ f ih =>
      intro a i bad out ha hi h6 ho
      rw [loopO_eq]
      simp only [decide_eq_true (by omega : (i : Int) < goMin (rdN t 0 false).1 6), if_true, Option.bind_some]
      cases bad with
      | true => simp only [Bool.not_true, Bool.false_eq_true, if_false]; rfl
      | false =>
        obtain ⟨h1, _, _⟩ := rdF_range t a false ha
        obtain ⟨h2, _⟩ := rdS_range t (rdF t a false).2.1 (rdF t a false).2.2 h1
        obtain ⟨h3, _⟩ := rdS_range t (rdS t (rdF t a false).2.1 (rdF t a false).2.2).2.1 (rdS t (rdF t a false).2.1 (rdF t a false).2.2).2.2 h2
        simp only [Bool.not_false, if_true, flag_eq t a false ha (by omega), Option.bind_some, short_eq t _ _ h1 (by omega), short_eq t _ _ h2 (by omega)]
        rw [opsI]
        simp only [cond_false]
        unfold rdO
        cases hd : (rdF t a false).1 with
        | true =>
          simp only [Bool.not_true, Bool.false_eq_true, if_false, if_true, bindC_go]
          rw [app_ok (by simp; omega) (by simp; omega), wrap_ok (n := (i : Int) + 1) (by omega) (by omega)]
          exact ih _ (i + 1) _ _ h2 (by omega) (by omega) (by simp; omega)
        | false =>
          simp only [Bool.not_false, Bool.false_eq_true, if_false, if_true, bindC_go]
          rw [app_ok (by simp; omega) (by simp; omega), wrap_ok (n := (i : Int) + 1) (by omega) (by omega)]
          exact ih _ (i + 1) _ _ h3 (by omega) (by omega) (by simp; omega)
  have hg : 0 ≤ goMin (rdN t 0 false).1 6 ∧ goMin (rdN t 0 false).1 6 ≤ 6 := by unfold goMin; split <;> omega
  have hl := hloop (goMin (rdN t 0 false).1 6).toNat (rdN t 0 false).2.1 0 (rdN t 0 false).2.2 [] n2 (by omega) (by omega) (by simp)
  rw [show ((0 : Nat) : Int) = 0 from rfl] at hl
  rw [hl]
  have e : opsI t (goMin (rdN t 0 false).1 6).toNat (rdN t 0 false).2.1 (rdN t 0 false).2.2 [] = opsR t := rfl
  rw [e]
  obtain ⟨r1, r2⟩ := opsI_range t (goMin (rdN t 0 false).1 6).toNat (rdN t 0 false).2.1 (rdN t 0 false).2.2 [] n2
  rw [e] at r1 r2
  unfold impl_reader_done
  have e1 : decide ((((opsR t).1 : Nat) : Int) = ((t.length : Nat) : Int)) = decide ((opsR t).1 = t.length) := decide_eq_decide.2 (by omega)
  simp only [bindC_go, e1, impl_BatchOk_eq (opsR t).2.2 (by simp only [List.length_nil] at r2; omega), Option.bind_some]
  cases (opsR t).2.1 <;> cases decide ((opsR t).1 = t.length) <;> cases decide (((opsR t).2.2.length : Int) = (rdN t 0 false).1) <;> cases batchV (opsR t).2.2 <;> rfl
theorem rdF_enc {t rest : List UInt8} {a : Nat} {b : Bool} (h : t.drop a = (if b = true then [1] else [0]) ++ rest) : rdF t a false = (b, a + 1, false) := by
  have hl : a + 1 ≤ t.length := by
    have := congrArg List.length h
    rw [List.length_drop, List.length_append] at this
    cases b <;> simp at this <;> omega
  unfold rdF rdB
  rw [decide_eq_false (show ¬ t.length < a + (1 : Int).toNat from by show ¬ t.length < a + 1; omega), h]
  cases b <;> rfl
theorem rdO_enc {t rest : List UInt8} {a : Nat} {o : Op} (ho : opV o = true) (h : t.drop a = opB o ++ rest) : rdO t a = (o, a + (opB o).length, false) := by
  obtain ⟨g1, g2, g3⟩ := opV_iff ho
  have h0 : t.drop a = (if o.Del = true then [1] else [0]) ++ (pieceV o.Key ++ ((if o.Del = true then [] else pieceV o.Val) ++ rest)) := by rw [h]; unfold opB; simp only [List.append_assoc]
  have hlen := congrArg List.length h0
  rw [List.length_drop] at hlen
  simp only [List.length_append] at hlen
  have l1 : (if o.Del = true then [1] else [0] : List UInt8).length = 1 := by split <;> rfl
  have l2 : 1 ≤ (pieceV o.Key).length := by unfold pieceV; rw [List.length_append]; omega
  have hle : a + 1 + (pieceV o.Key).length ≤ t.length := by omega
  have h1 := drop_enc h0
  rw [l1] at h1
  have h2 := drop_enc h1
  unfold rdO
  rw [rdF_enc h0]
  simp only
  rw [rdS_enc h1 (by omega) (by omega)]
  obtain ⟨k, d, v⟩ := o
  cases d with
  | true =>
    have : v = [] := g3 rfl
    subst this
    simp [opB]
    omega
  | false =>
    simp only [Bool.false_eq_true, if_false] at h2 ⊢
    rw [rdS_enc h2 (by simpa using Nat.le_trans g2 (by omega)) hle]
    simp [opB]
    omega
theorem opsI_enc (t : List UInt8) : ∀ (l : List Op) (a : Nat) (out : List Op) (rest : List UInt8), (∀ o ∈ l, opV o = true) → t.drop a = l.flatMap opB ++ rest → opsI t l.length a false out = (a + (l.flatMap opB).length, false, out ++ l)
  | [], a, out, rest, _, _ => by simp [opsI]
  | o :: l, a, out, rest, hv, hd => by
    have h1 : t.drop a = opB o ++ (l.flatMap opB ++ rest) := by rw [hd, List.flatMap_cons, List.append_assoc]
    rw [List.length_cons, opsI, rdO_enc (hv o (by simp)) h1]
    simp only [cond_false]
    rw [opsI_enc t l (a + (opB o).length) (out ++ [o]) rest (fun y hy => hv y (by simp [hy])) (drop_enc h1)]
    simp only [List.flatMap_cons, List.length_append, List.append_assoc, List.cons_append, List.nil_append, Nat.add_assoc]
theorem readB_show {l : List Op} (h : batchV l = true) : readB (showB l) = (l, true) := by
  obtain ⟨h1, h2⟩ := batchV_iff h
  have p0 : (showB l).drop 0 = varV (l.length : Int) ++ (l.flatMap opB ++ []) := by simp [showB]
  have p1 := drop_enc p0
  have hn := rdN_enc p0 (by omega)
  have hg : goMin (l.length : Int) 6 = (l.length : Int) := by unfold goMin; split <;> omega
  have ho : opsR (showB l) = ((showB l).length, false, l) := by
    unfold opsR
    rw [hn]
    simp only [hg, Int.toNat_natCast]
    rw [opsI_enc (showB l) l _ [] [] h2 p1]
    simp [showB]
  unfold readB
  rw [ho, hn, h]
  simp
noncomputable def openB (key : List UInt8) (boot seq : Int) (s : List UInt8) : List Op × Bool := bif decide (key.length = 32) && (placeV boot seq && decide (s.length ≤ 300)) then readB (streamV key 0 (placeN boot seq) s) else ([], false)
theorem streamV_len (key : List UInt8) (counter : Int) (nonce text : List UInt8) : (streamV key counter nonce text).length ≤ text.length := by
  unfold streamV
  cases streamOk key counter nonce text.length with
  | true => exact Nat.le_of_eq (xorV_len _ _ _ _)
  | false => exact Nat.zero_le _
theorem impl_OpenBatch_eq (key : List UInt8) (boot seq : Int) (s : List UInt8) (h : s.length ≤ 1048576) : impl_OpenBatch key boot seq s = some (openB key boot seq s) := by
  unfold impl_OpenBatch openB impl_rowNonce
  have hs := streamV_len key 0 (placeN boot seq) s
  have e1 : decide (((s.length : Nat) : Int) > 300) = !decide (s.length ≤ 300) := by
    by_cases c : s.length ≤ 300
    · rw [decide_eq_true c, decide_eq_false (by omega)]; rfl
    · rw [decide_eq_false c, decide_eq_true (by omega)]; rfl
  simp only [impl_isPlace_eq, impl_NonceOf_eq, len32, Option.bind_some, impl_ChaStream_eq key 0 _ s (by omega), e1]
  have hr := impl_ReadBatch_eq (streamV key 0 (placeN boot seq) s) (by omega)
  unfold placeN at hr
  unfold placeN
  simp only [hr, Option.bind_some]
  cases decide (key.length = 32) <;> cases placeV boot seq <;> cases decide (s.length ≤ 300) <;> rfl
/-! ## two rows of one place -/
/-! ## what an engine shows -/
/-! ## drawn engines -/
def smallE (e : Eng) : Prop := e.Mem.length ≤ 2000 ∧ e.Tables.length ≤ 7 ∧ totalV e.Tables ≤ 401 ∧ e.Snaps.length ≤ 5
theorem smallE_of {e : Eng} (h : engV e = true) : smallE e := by
  obtain ⟨h1, h2, h3, h4, h5, h6, h7, h8⟩ := engV_all h
  exact ⟨by omega, by omega, by omega, by omega⟩
theorem engV_snaps {e : Eng} (h : engV e = true) {l : List Int} (hl : l.length ≤ 4) (hs : snapsV e.Seq l = true) : engV { e with Snaps := l } = true := by
  obtain ⟨h1, h2, h3, h4, h5, h6, h7, h8⟩ := engV_all h
  unfold engV memV
  simp only [Bool.and_eq_true, decide_eq_true_eq]
  exact ⟨⟨h1, hl, h3, h4, h5, h6, h7⟩, hs⟩
theorem putR_ok {e : Eng} (h : engV e = true) (l : List Op) : engV (putR e l).1 = true := by
  unfold putR
  rw [h]
  cases hb : batchV l with
  | false => exact h
  | true =>
    cases ho : okB e l with
    | false => exact h
    | true => exact (engB_ok h hb).trans ho
/-! ## the law of engines -/
theorem smallE_empty : smallE { Mem := [], Tables := [], Seq := 0, Snaps := [] } := ⟨by simp, by simp, by simp [totalV], by simp⟩
theorem putR_small {e : Eng} (h : smallE e) (l : List Op) : smallE (putR e l).1 := by
  cases hv : engV e with
  | true => exact smallE_of (putR_ok hv l)
  | false => unfold putR; rw [hv]; exact smallE_empty
/-! ## a put, as it shows -/
/-! maps as they are put -/
/-! ## batches read: what is read is what was shown -/
theorem readN_take : ∀ (f : Nat) (s : List UInt8) (n k : Nat), readN (f + 1) s = some (n, k) → s = varN f n ++ s.drop k
  | _, [], _, _, h => by simp [readN] at h
  | f, x :: l, n, k, h => by
    rw [readN] at h
    by_cases c : x.toNat < 128
    · rw [decide_eq_true c] at h
      simp only [cond_true, Option.some.injEq, Prod.mk.injEq] at h
      obtain ⟨rfl, rfl⟩ := h
      rw [varN_lt c, toU8_of]
      rfl
    · rw [decide_eq_false c] at h
      simp only [cond_false] at h
      cases f with
      | zero => simp [readN] at h
      | succ f =>
        cases hr : readN (f + 1) l with
        | none => rw [hr] at h; cases h
        | some mk =>
          obtain ⟨m, k'⟩ := mk
          rw [hr] at h
          simp only at h
          by_cases c0 : m = 0
          · rw [decide_eq_true c0] at h; cases h
          · rw [decide_eq_false c0] at h
            simp only [cond_false, Option.some.injEq, Prod.mk.injEq] at h
            obtain ⟨rfl, rfl⟩ := h
            have ih := readN_take f l m k' hr
            have hx := x.toNat_lt
            have e1 : (x.toNat % 128 + 128 * m) % 128 = x.toNat % 128 := by omega
            have e2 : (x.toNat % 128 + 128 * m) / 128 = m := by omega
            have e3 : 128 + x.toNat % 128 = x.toNat := by omega
            rw [varN_ge (by omega), e1, e2, e3, toU8_of, List.cons_append, List.drop_succ_cons, ← ih]
theorem rdN_sound {t : List UInt8} {a : Nat} (hb : (rdN t a false).2.2 = false) : t.drop a = varV (rdN t a false).1 ++ t.drop (rdN t a false).2.1 := by
  unfold rdN at hb ⊢
  simp only [cond_false] at hb ⊢
  cases hr : readN 7 (t.drop a) with
  | none => rw [hr] at hb; cases hb
  | some nk =>
    obtain ⟨n, k⟩ := nk
    have := readN_take 6 _ n k hr
    obtain ⟨r1, r2, r3⟩ := readN_range hr
    simp only
    unfold varV
    rw [decide_eq_true (by omega : 0 ≤ (n : Int) ∧ (n : Int) ≤ 562949953421311)]
    simp only [cond_true, Int.toNat_natCast]
    rw [List.drop_drop] at this
    exact this
theorem rdB_sound {t : List UInt8} {a : Nat} {bad : Bool} {n : Int} (hb : (rdB t a bad n).2.2 = false) : bad = false ∧ t.drop a = (rdB t a bad n).1 ++ t.drop (rdB t a bad n).2.1 ∧ (rdB t a bad n).1.length = n.toNat := by
  unfold rdB at hb ⊢
  cases bad with
  | true => simp at hb
  | false =>
    by_cases c : t.length < a + n.toNat
    · rw [decide_eq_true c] at hb; simp at hb
    · rw [decide_eq_false c] at hb ⊢
      simp only [Bool.or_false, cond_false]
      refine ⟨trivial, ?_, by simp; omega⟩
      rw [← List.drop_drop, List.take_append_drop]
theorem rdS_sound {t : List UInt8} {a : Nat} {bad : Bool} (h : a ≤ t.length) (hb : (rdS t a bad).2.2 = false) : bad = false ∧ t.drop a = pieceV (rdS t a bad).1 ++ t.drop (rdS t a bad).2.1 := by
  have hbad : bad = false := ((rdS_range t a bad h).2 hb).1
  subst hbad
  refine ⟨rfl, ?_⟩
  unfold rdS at hb ⊢
  obtain ⟨g1, g2, g3⟩ := rdB_sound hb
  obtain ⟨r1, _, _⟩ := rdN_range t a false h
  have := rdN_sound g1
  rw [this, g2]
  unfold pieceV
  rw [g3, show (((rdN t a false).1.toNat : Nat) : Int) = (rdN t a false).1 by omega, List.append_assoc]
theorem rdF_sound {t : List UInt8} {a : Nat} {bad : Bool} (hb : (rdF t a bad).2.2 = false) : bad = false ∧ t.drop a = (if (rdF t a bad).1 = true then [1] else [0]) ++ t.drop (rdF t a bad).2.1 := by
  unfold rdF at hb ⊢
  simp only [Bool.or_eq_false_iff, Bool.and_eq_false_iff, Bool.not_eq_false', decide_eq_true_eq] at hb
  obtain ⟨h1, h2⟩ := hb
  obtain ⟨g1, g2, _⟩ := rdB_sound h2
  refine ⟨g1, ?_⟩
  simp only [decide_eq_true_eq]
  by_cases c : (rdB t a bad 1).1 = [1]
  · rw [if_pos c, ← c]; exact g2
  · rw [if_neg c]
    rcases h1 with h | h
    · rw [← h]; exact g2
    · exact absurd h c
theorem rdO_sound {t : List UInt8} {a : Nat} (h : a ≤ t.length) (hb : (rdO t a).2.2 = false) : t.drop a = opB (rdO t a).1 ++ t.drop (rdO t a).2.1 := by
  obtain ⟨h1, _, _⟩ := rdF_range t a false h
  obtain ⟨h2, _⟩ := rdS_range t (rdF t a false).2.1 (rdF t a false).2.2 h1
  unfold rdO at hb ⊢
  cases hf : (rdF t a false).1 with
  | true =>
    rw [hf] at hb
    simp only [if_true] at hb ⊢
    obtain ⟨s1, s2⟩ := rdS_sound h1 hb
    obtain ⟨_, f2⟩ := rdF_sound s1
    rw [hf, if_pos rfl] at f2
    rw [f2, s2]
    simp [opB]
  | false =>
    rw [hf] at hb
    simp only [Bool.false_eq_true, if_false] at hb ⊢
    obtain ⟨s1, s2⟩ := rdS_sound h2 hb
    obtain ⟨u1, u2⟩ := rdS_sound h1 s1
    obtain ⟨_, f2⟩ := rdF_sound u1
    rw [hf, if_neg (by simp)] at f2
    rw [f2, u2, s2]
    simp [opB]
theorem opsI_bad (t : List UInt8) : ∀ (f a : Nat) (bad : Bool) (out : List Op), (opsI t f a bad out).2.1 = false → bad = false
  | 0, _, _, _, h => h
  | f + 1, a, true, out, h => by simp [opsI] at h
  | f + 1, a, false, out, h => rfl
theorem opsI_sound (t : List UInt8) : ∀ (f a : Nat) (bad : Bool) (out : List Op), a ≤ t.length → (opsI t f a bad out).2.1 = false → ∃ l, (opsI t f a bad out).2.2 = out ++ l ∧ l.length = f ∧ t.drop a = l.flatMap opB ++ t.drop (opsI t f a bad out).1
  | 0, a, bad, out, _, _ => ⟨[], by simp [opsI], rfl, by simp [opsI]⟩
  | f + 1, a, true, out, _, h => by simp [opsI] at h
  | f + 1, a, false, out, ha, h => by
    simp only [opsI, cond_false] at h ⊢
    have hb := opsI_bad t f _ _ _ h
    obtain ⟨l, h1, h2, h3⟩ := opsI_sound t f (rdO t a).2.1 (rdO t a).2.2 (out ++ [(rdO t a).1]) (rdO_range t a ha) h
    refine ⟨(rdO t a).1 :: l, by rw [h1]; simp, by simp [h2], ?_⟩
    rw [rdO_sound ha hb, h3]
    simp
theorem readB_sound {t : List UInt8} (h : (readB t).2 = true) : batchV (readB t).1 = true ∧ showB (readB t).1 = t := by
  unfold readB at h ⊢
  cases hc : ((!(opsR t).2.1 && decide ((opsR t).1 = t.length)) && (decide (((opsR t).2.2.length : Int) = (rdN t 0 false).1) && batchV (opsR t).2.2)) with
  | false => rw [hc] at h; cases h
  | true =>
    simp only [cond_true]
    simp only [Bool.and_eq_true, Bool.not_eq_true', decide_eq_true_eq] at hc
    obtain ⟨⟨h1, h2⟩, h3, h4⟩ := hc
    refine ⟨h4, ?_⟩
    obtain ⟨r1, r2, r3⟩ := rdN_range t 0 false (Nat.zero_le _)
    unfold opsR at h1 h2 h3 h4 ⊢
    have hb := opsI_bad t _ _ _ _ h1
    obtain ⟨l, e1, e2, e3⟩ := opsI_sound t _ _ _ _ r2 h1
    have hn := rdN_sound hb
    rw [List.drop_zero] at hn
    rw [e1, List.nil_append] at h3 ⊢
    unfold showB
    rw [h3]
    conv => rhs; rw [hn, e3, h2, List.drop_length, List.append_nil]
theorem readB_false {t : List UInt8} (h : (readB t).2 = false) : readB t = ([], false) := by
  unfold readB at h ⊢
  cases hc : ((!(opsR t).2.1 && decide ((opsR t).1 = t.length)) && (decide (((opsR t).2.2.length : Int) = (rdN t 0 false).1) && batchV (opsR t).2.2)) with
  | false => rfl
  | true => rw [hc, cond_true] at h; cases h

/-! ## batches read by the reference -/
theorem l6V_one {s : List UInt8} : (l6V s 1 0).2 = -1 ∨ ∃ (b : Nat) (n : Int), l6V s 1 0 = ([n], (b : Int)) ∧ b ≤ s.length ∧ 0 ≤ n ∧ s ≠ [] := by
  rcases (l6V_range s 1 0 (Nat.zero_le _)).1 with e | ⟨b, e1, e2, e3⟩
  · exact .inl e
  · right
    have hr := (l6V_range s 1 0 (Nat.zero_le _)).2
    match hl : (l6V s 1 0).1, e3 with
    | [n], _ =>
      refine ⟨b, n, by rw [← hl, ← e1], e2, (hr n (by rw [hl]; simp)).1, ?_⟩
      rintro rfl
      have : l6V [] 1 0 = ([], -1) := rfl
      rw [this] at hl; cases hl
noncomputable def rbStep (k : Nat) (l : List Op) (q : Int × List UInt8) (o : Op) : Option (Ctl (Int × Int × List Op) (Ctl (List Op) (List Op × Bool))) :=
  if (decide (q.1 < (0 : Int))) = true then (some (.done (.done (([] : List Op), false))))
  else ((app 40 l ([{ Key := o.Key, Del := o.Del, Val := q.2 : Op }])).bind fun E35 => some (.go (q.1, IntKind.i64.wrap ((k : Int) + (1 : Int)), E35)))
end Go.Proofs.YtkheimgjallpkaaGreat
