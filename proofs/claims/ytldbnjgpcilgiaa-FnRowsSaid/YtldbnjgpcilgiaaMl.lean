/-
  The plain laws: what the pure functions come to, and the statements. Conditions: none.
-/
import Derived.Test.YtldbnjgpcilgiaaPm
import Derived.Test.YtldbnjgpcilgiaaZ3
set_option linter.unusedVariables false
set_option linter.unusedSimpArgs false
namespace Go.Proofs.Ytldbnjgpcilgiaa
open Go Sl

theorem inRange_eq (n a b : Int) : impl_inRange n a b = some (decide (a ≤ n ∧ n ≤ b)) := by
  unfold impl_inRange
  by_cases h : n ≥ a <;> simp [h]
theorem l1In_eq (n a b : Int) : spec_l1In n a b = some (decide (a ≤ n ∧ n ≤ b)) := by
  unfold spec_l1In
  by_cases h : n ≥ a <;> simp [h]
/-! ### SpaceOk -/
theorem all_range (l : List Int) (p : Int → Bool) (f : Int → Option Bool) (hf : ∀ x, f x = some (p x)) (hl : l.length ≤ 1048576) :
    loopO (ρ := Ctl Unit Bool) (fun (S6 : Int) => if (decide (S6 < ((l.length : Nat) : Int))) = true then ((idx l S6).bind fun E11 =>
  (f E11).bind fun R13 =>
  if (!R13) = true then (some (.done (.done false)))
  else (some (.go (IntKind.i64.wrap (S6 + (1 : Int))))))
  else (some (.done (.go ())))) (0 : Int) = some (if l.all p then .go () else .done false) := by
  rw [loopO_list l (fun k (_ : Unit) => (k : Int)) (fun _ x _ => if p x then some (Ctl.go ()) else some (Ctl.done (Ctl.done false))) (fun _ => some (Ctl.go ())) () ?h0 ?hs ?hf]
  case h0 => rfl
  case hs =>
    intro k hk _
    simp only [idx_nat l k hk, Option.bind_some, hf]
    rw [wrap_ok (by omega) (by omega)]
    by_cases he : p l[k] = true
    · simp [he, Ctl.mapGo, hk]
    · simp [he, Ctl.mapGo, hk]
  case hf => intro _; simp
  rw [runL_all p (Ctl.done false) _ _ (by intro k x _; rfl)]
  split <;> rfl
/-- giving blocks back, one by one -/
def giveV (who : Int) : List Int → List Int → Option (List Int)
  | [], s => some s
  | b :: bs, s => if 0 ≤ b ∧ b < s.length ∧ s[b.toNat]? = some who ∧ 1 ≤ who then giveV who bs (s.set b.toNat 0) else none
theorem giveV_cons (who b : Int) (bs s : List Int) : giveV who (b :: bs) s = if 0 ≤ b ∧ b < s.length ∧ s[b.toNat]? = some who ∧ 1 ≤ who then giveV who bs (s.set b.toNat 0) else none := rfl
theorem giveV_nil (who : Int) (s : List Int) : giveV who [] s = some s := rfl
theorem giveV_length (who : Int) : ∀ (bs s r : List Int), giveV who bs s = some r → r.length = s.length
  | [], s, r, h => by simp [giveV] at h; rw [h]
  | b :: bs, s, r, h => by
    unfold giveV at h
    split at h
    · rw [giveV_length who bs _ r h, List.length_set]
    · cases h
theorem idx_some' {α : Type} {l : List α} {i : Int} (h0 : 0 ≤ i) (h1 : i < l.length) : idx l i = some (l[i.toNat]'(by omega)) := by
  unfold idx; rw [if_pos h0, List.getElem?_eq_getElem]
/-- what a quota needs -/
def needV (q : Int) : Int := if 0 ≤ q ∧ q ≤ 1000 then 2 + 2 * ((q + 49) / 50) else 0
theorem needV_range (q : Int) : 0 ≤ needV q ∧ needV q ≤ 42 := by
  unfold needV; split <;> omega
theorem isTenant_eq (n : Int) : impl_isTenant n = some (decide (1 ≤ n ∧ n ≤ 99)) := by
  unfold impl_isTenant; rw [inRange_eq]; rfl
theorem markText_loop (m : Nat) : ∀ s : List UInt8, s.length + m ≤ 9223372036854775806 → ∃ r : List UInt8, loopO (ρ := Ctl (List UInt8) (List UInt8)) (fun (S2 : Int × List UInt8) => if (decide (S2.1 > (0 : Int))) = true then ((cat ([toU8 (IntKind.i64.wrap ((48 : Int) + (Int.tmod S2.1 (10 : Int))))]) S2.2).bind fun E8 =>
  some (.go (IntKind.i64.wrap (Int.tdiv S2.1 (10 : Int)), E8)))
  else (some (.done (.go S2.2)))) ((m : Int), s) = some (.go r) ∧ r.length ≤ s.length + m := by
  induction m using Nat.strongRecOn with
  | _ m ih =>
    intro s hs
    rw [loopO_eq]
    by_cases h0 : m = 0
    · subst h0
      exact ⟨s, by simp, by omega⟩
    · simp only
      rw [if_pos (by simp; omega), cat_ok (by simp; omega)]
      have hd : Int.tdiv (m : Int) 10 = ((m / 10 : Nat) : Int) := rfl
      rw [hd, wrap_ok (n := ((m / 10 : Nat) : Int)) (by omega) (by omega)]
      simp only [Option.bind_some]
      obtain ⟨r, hr, hl⟩ := ih (m / 10) (by omega) ([toU8 (IntKind.i64.wrap ((48 : Int) + (Int.tmod (m : Int) (10 : Int))))] ++ s) (by simp; omega)
      exact ⟨r, hr, by simp at hl; omega⟩
def wgt_L1Cur (x : L1Cur) : Nat := x.b.length + 0
def wgt_LogRow (x : LogRow) : Nat := x.Text.length + 0
def wgt_Reader (x : Reader) : Nat := x.text.length + 0

/-- a list turned up to a place -/
def preM {α : Type} (f : α → α) (l : List α) (k : Nat) : List α := (l.take k).map f ++ l.drop k
theorem preM_length {α : Type} (f : α → α) (l : List α) (k : Nat) : (preM f l k).length = l.length := by unfold preM; simp; omega
theorem preM_get {α : Type} (f : α → α) (l : List α) (k : Nat) (h : k < l.length) : idx (preM f l k) (k : Int) = some l[k] := by
  rw [idx_nat _ k (by rw [preM_length]; exact h)]
  congr 1
  have hl : ((l.take k).map f).length = k := by rw [List.length_map, List.length_take]; omega
  unfold preM
  rw [List.getElem_append_right (by omega)]
  simp only [hl, Nat.sub_self]
  simp
theorem preM_set {α : Type} (f : α → α) (l : List α) (k : Nat) (h : k < l.length) : (preM f l k).set k (f l[k]) = preM f l (k + 1) := by
  have hl : ((l.take k).map f).length = k := by rw [List.length_map, List.length_take]; omega
  have htk : l.take (k + 1) = l.take k ++ [l[k]] := by rw [List.take_add_one, List.getElem?_eq_getElem h]; rfl
  unfold preM
  rw [List.set_append_right _ _ (by omega), hl, Nat.sub_self, htk, List.drop_eq_getElem_cons h, List.set_cons_zero, List.map_append, List.append_assoc]
  rfl
theorem preM_same {α : Type} (f : α → α) (l : List α) (k : Nat) (h : k < l.length) (hf : f l[k] = l[k]) : preM f l (k + 1) = preM f l k := by
  rw [← preM_set f l k h, hf]
  apply List.ext_getElem?
  intro j
  rw [List.getElem?_set]
  split
  · rename_i he
    subst he
    have := preM_get f l k h
    unfold idx at this
    rw [if_pos (by omega), Int.toNat_natCast] at this
    rw [if_pos (by rw [preM_length]; exact h), this]
  · rfl
theorem preM_all {α : Type} (f : α → α) (l : List α) : preM f l l.length = l.map f := by unfold preM; simp
/-- a tenant's blocks, wiped -/
def wipeV (who : Int) (l : List Int) : List Int := l.map fun x => if x = who then 0 else x
/-- the first n free blocks of the first k -/
def freeIx (l : List Int) (n : Int) : Nat → List Nat
  | 0 => []
  | k + 1 => if l[k]? = some 0 ∧ ((freeIx l n k).length : Int) < n then freeIx l n k ++ [k] else freeIx l n k
theorem freeIx_lt (l : List Int) (n : Int) : ∀ k, ∀ i ∈ freeIx l n k, i < k
  | 0, i, h => by simp [freeIx] at h
  | k + 1, i, h => by
    unfold freeIx at h
    split at h
    · rcases List.mem_append.1 h with h | h
      · have := freeIx_lt l n k i h; omega
      · have : i = k := by simpa using h
        omega
    · have := freeIx_lt l n k i h; omega
theorem freeIx_length (l : List Int) (n : Int) : ∀ k, (freeIx l n k).length ≤ k
  | 0 => by simp [freeIx]
  | k + 1 => by
    have := freeIx_length l n k
    unfold freeIx
    split
    · simp; omega
    · omega
theorem freeIx_sat (l : List Int) (n : Int) (k : Nat) (h : ¬ ((freeIx l n k).length : Int) < n) : ∀ d, freeIx l n (k + d) = freeIx l n k
  | 0 => rfl
  | d + 1 => by
    have := freeIx_sat l n k h d
    have e : freeIx l n (k + (d + 1)) = if l[k + d]? = some 0 ∧ ((freeIx l n (k + d)).length : Int) < n then freeIx l n (k + d) ++ [k + d] else freeIx l n (k + d) := rfl
    rw [e, this, if_neg (fun h2 => h h2.2)]
theorem freeIx_count (l : List Int) (n : Int) (hn : 1 ≤ n) : ∀ k, k ≤ l.length → (((freeIx l n k).length : Int) < n ↔ (((l.take k).countP fun x => decide (x = 0) : Nat) : Int) < n) ∧ ((((l.take k).countP fun x => decide (x = 0) : Nat) : Int) < n → (freeIx l n k).length = ((l.take k).countP fun x => decide (x = 0))) ∧
    ((((l.take k).countP fun x => decide (x = 0) : Nat) : Int) = n → ((freeIx l n k).length : Int) = n)
  | 0, _ => by simp [freeIx]
  | k + 1, hk => by
    obtain ⟨h1, h2, h3⟩ := freeIx_count l n hn k (by omega)
    have hk' : k < l.length := by omega
    have htk : l.take (k + 1) = l.take k ++ [l[k]] := by rw [List.take_add_one, List.getElem?_eq_getElem hk']; rfl
    unfold freeIx
    rw [htk, List.countP_append, List.getElem?_eq_getElem hk']
    by_cases hx : l[k] = 0
    · simp only [hx, true_and, List.countP_cons, List.countP_nil, decide_true, if_true, Nat.zero_add]
      by_cases hc : ((freeIx l n k).length : Int) < n
      · rw [if_pos hc]
        have := h2 (h1.1 hc)
        simp only [List.length_append, List.length_cons, List.length_nil]
        omega
      · rw [if_neg hc]
        have : ¬ (((l.take k).countP fun x => decide (x = 0) : Nat) : Int) < n := fun h => hc (h1.2 h)
        omega
    · simp only [List.countP_cons, List.countP_nil, hx, decide_false, Bool.false_eq_true, if_false, Nat.add_zero]
      rw [if_neg (by simp [hx])]
      exact ⟨h1, h2, h3⟩
/-- blocks given to somebody -/
def setAll (who : Int) (l : List Int) (g : List Nat) : List Int := g.foldl (fun s i => s.set i who) l
theorem setAll_length (who : Int) (g : List Nat) : ∀ l, (setAll who l g).length = l.length := by
  induction g with
  | nil => intro l; rfl
  | cons i g ih => intro l; show (setAll who (l.set i who) g).length = _; rw [ih, List.length_set]
theorem setAll_snoc (who : Int) (l : List Int) (g : List Nat) (i : Nat) : setAll who l (g ++ [i]) = (setAll who l g).set i who := by
  unfold setAll; rw [List.foldl_append]; rfl
theorem sLt_nil (a : List UInt8) : sLt a [] = false := by cases a <;> rfl
theorem sLt_compl : ∀ a b : List UInt8, (sLt b a || decide (b = a)) = !sLt a b
  | [], [] => rfl
  | [], b :: y => by simp [sLt, Op.bytesLess]
  | a :: x, [] => by simp [sLt, Op.bytesLess]
  | a :: x, b :: y => by
    have ih := sLt_compl x y
    simp only [sLt] at ih
    simp only [sLt, Op.bytesLess]
    by_cases h1 : a < b
    · have h2 : ¬ b < a := fun h => absurd (UInt8.lt_trans h1 h) (UInt8.lt_irrefl _)
      have h3 : ¬ b = a := fun h => by subst h; exact UInt8.lt_irrefl _ h1
      simp [h1, h2, h3]
    · by_cases h2 : b < a
      · have h3 : ¬ a = b := fun h => by subst h; exact UInt8.lt_irrefl _ h2
        simp [h1, h2, h3]
      · have h3 : a = b := by
          rw [UInt8.lt_iff_toNat_lt] at h1 h2
          apply UInt8.toNat_inj.1
          omega
        subst h3
        simp only [h1, decide_false, Bool.false_or, beq_self_eq_true, Bool.true_and, List.cons.injEq, true_and]
        exact ih
theorem scan_up (p : Nat → Bool) (n : Nat) : ∀ d a, a + d = n → ∃ j, a ≤ j ∧ j ≤ n ∧ (∀ i, a ≤ i → i < j → p i = false) ∧ (j < n → p j = true)
  | 0, a, h => ⟨a, Nat.le_refl _, by omega, fun i h1 h2 => by omega, fun h => by omega⟩
  | d + 1, a, h => by
    cases hp : p a with
    | true => exact ⟨a, Nat.le_refl _, by omega, fun i h1 h2 => by omega, fun _ => hp⟩
    | false =>
      obtain ⟨j, h1, h2, h3, h4⟩ := scan_up p n d (a + 1) (by omega)
      refine ⟨j, by omega, h2, fun i h5 h6 => ?_, h4⟩
      by_cases e : i = a
      · rw [e]; exact hp
      · exact h3 i (by omega) h6
theorem down_stop (p : Nat → Bool) : ∀ n : Nat, ∃ j : Nat, j ≤ n ∧ (∀ i, j ≤ i → i < n → p i = false) ∧ (0 < j → p (j - 1) = true)
  | 0 => ⟨0, Nat.le_refl _, fun i h1 h2 => by omega, fun h => by omega⟩
  | n + 1 => by
    cases hp : p n with
    | true => exact ⟨n + 1, Nat.le_refl _, fun i h1 h2 => by omega, fun _ => by simpa using hp⟩
    | false =>
      obtain ⟨j, h1, h2, h3⟩ := down_stop p n
      refine ⟨j, by omega, fun i h4 h5 => ?_, h3⟩
      by_cases e : i = n
      · rw [e]; exact hp
      · exact h2 i h4 (by omega)
theorem all_loop {body : Int → Option (Ctl Int (Ctl Unit Bool))} (pass : Nat → Bool) (n : Nat) (h : ∀ k, k < n → body (k : Int) = some (if pass k = true then .go ((k : Int) + 1) else .done (.done false))) (hn : body (n : Int) = some (.done (.go ()))) :
    loopO body 0 = some (if (List.range n).all pass = true then .go () else .done false) := by
  have key : ∀ d k, k + d = n → loopO body (k : Int) = some (if ((List.range n).drop k).all pass = true then .go () else .done false) := by
    intro d
    induction d with
    | zero =>
      intro k hk
      obtain rfl : k = n := by omega
      rw [loopO_eq, hn, List.drop_of_length_le (by simp)]
      rfl
    | succ d ih =>
      intro k hk
      have hd : (List.range n).drop k = k :: (List.range n).drop (k + 1) := by rw [List.drop_eq_getElem_cons (by simp; omega)]; simp
      rw [loopO_eq, h k (by omega), hd, List.all_cons]
      cases hp : pass k with
      | true =>
        have := ih (k + 1) (by omega)
        rw [show ((k + 1 : Nat) : Int) = (k : Int) + 1 by omega] at this
        simpa using this
      | false => simp
  have := key n 0 (by omega)
  simpa using this
theorem sLt_compl' (a b : List UInt8) : (!sLt a b) = (sLt b a || decide (b = a)) := (sLt_compl a b).symm
theorem sLt_nil_iff (b : List UInt8) : sLt [] b = !decide (b = []) := by cases b <;> rfl
theorem len0 (out : List Int) : decide (((out.length : Nat) : Int) = 0) = decide (out = []) := by
  cases out with
  | nil => rfl
  | cons a l => simp; omega
theorem sMin_eq (a b : List UInt8) : sMin a b = if sLt b a = true then b else a := by
  unfold sMin
  rw [sLt_compl]
  cases sLt b a <;> simp
theorem sMax_eq (a b : List UInt8) : sMax a b = if sLt a b = true then b else a := by
  unfold sMax
  cases sLt a b <;> simp
theorem sLt_irr (a : List UInt8) : sLt a a = false := by
  have := sLt_compl a a
  simpa using this
theorem sLt_trans : ∀ {a b c : List UInt8}, sLt a b = true → sLt b c = true → sLt a c = true
  | [], [], _, h, _ => by simp [sLt, Op.bytesLess] at h
  | [], _ :: _, [], _, h => by simp [sLt, Op.bytesLess] at h
  | [], _ :: _, _ :: _, _, _ => rfl
  | _ :: _, [], _, h, _ => by simp [sLt, Op.bytesLess] at h
  | _ :: _, _ :: _, [], _, h => by simp [sLt, Op.bytesLess] at h
  | x :: a, y :: b, z :: c, h1, h2 => by
    simp only [sLt, Op.bytesLess, Bool.or_eq_true, decide_eq_true_eq, Bool.and_eq_true, beq_iff_eq] at h1 h2 ⊢
    rcases h1 with h1 | ⟨rfl, h1⟩
    · rcases h2 with h2 | ⟨rfl, _⟩
      · exact .inl (UInt8.lt_trans h1 h2)
      · exact .inl h1
    · rcases h2 with h2 | ⟨rfl, h2⟩
      · exact .inl h2
      · exact .inr ⟨rfl, sLt_trans h1 h2⟩
theorem sLt_irrefl (a : List UInt8) : sLt a a = false := by
  have := sLt_compl a a
  simpa using this
theorem all_loop' {body : Int → Option (Ctl Int (Ctl Unit Bool))} (pass : Nat → Bool) (n : Nat) (h : ∀ k, k < n → body (k : Int) = some (if pass k = true then .go ((k : Int) + 1) else .done (.done false))) (hn : body (n : Int) = some (.done (.go ()))) :
    bindC (loopO body 0) (fun (_ : Unit) => some true) = some ((List.range n).all pass) := by
  rw [all_loop pass n h hn]
  cases (List.range n).all pass <;> rfl
/-- snapshots in order -/
def snapP (seq : Int) (l : List Int) (k : Nat) : Bool := match l[k]? with
  | some s => decide (0 ≤ s ∧ s ≤ seq) && (match k with | 0 => true | j + 1 => match l[j]? with | some d => decide (d < s) | none => true)
  | none => true
theorem snapP_at (seq : Int) (l : List Int) (k : Nat) (h : k < l.length) : snapP seq l k = (decide (0 ≤ l[k] ∧ l[k] ≤ seq) && (if h0 : 0 < k then decide (l[k - 1]'(by omega) < l[k]) else true)) := by
  unfold snapP
  rw [List.getElem?_eq_getElem h]
  cases k with
  | zero => rfl
  | succ j =>
    simp only [Nat.zero_lt_succ, dif_pos, Nat.add_sub_cancel]
    rw [List.getElem?_eq_getElem (by omega)]
def snapsV (seq : Int) (l : List Int) : Bool := (List.range l.length).all (snapP seq l)
theorem snaps_at {seq : Int} {l : List Int} (hv : snapsV seq l = true) (k : Nat) (hk : k < l.length) : (0 ≤ l[k] ∧ l[k] ≤ seq) ∧ (0 < k → l[k - 1]'(by omega) < l[k]) := by
  unfold snapsV at hv
  rw [List.all_eq_true] at hv
  have := hv k (by simpa using hk)
  rw [snapP_at seq l k hk, Bool.and_eq_true] at this
  refine ⟨of_decide_eq_true this.1, fun h0 => ?_⟩
  have h2 := this.2
  rw [dif_pos h0] at h2
  exact of_decide_eq_true h2
theorem snaps_last {seq : Int} {l : List Int} (hv : snapsV seq l = true) (h0 : 0 < l.length) : (seq ∈ l) ↔ l[l.length - 1]'(by omega) = seq := by
  constructor
  · intro hm
    obtain ⟨i, hi, he⟩ := List.getElem_of_mem hm
    by_cases e : i = l.length - 1
    · subst e; exact he
    · have h1 := (snaps_at hv (i + 1) (by omega)).2 (by omega)
      have h2 := (snaps_at hv (i + 1) (by omega)).1
      simp only [Nat.add_sub_cancel] at h1
      omega
  · intro h
    rw [← h]
    exact List.getElem_mem _
theorem piece_nat {α : Type} (l : List α) (a b : Nat) (lo hi : Int) (h1 : lo = (a : Int)) (h2 : hi = (b : Int)) (h3 : a ≤ b) (h4 : b ≤ l.length) : piece l lo hi = some ((l.drop a).take (b - a)) := by
  subst h1 h2
  unfold piece
  rw [if_pos ⟨by omega, by omega, by omega⟩, Int.toNat_natCast, Int.toNat_natCast]
theorem filter_one {α : Type} (l : List α) (p : α → Bool) (j : Nat) (hj : j < l.length) (h1 : p l[j] = false) (h2 : ∀ i (h : i < l.length), i ≠ j → p l[i] = true) : l.filter p = l.take j ++ l.drop (j + 1) := by
  have hs : l = l.take j ++ l[j] :: l.drop (j + 1) := by rw [← List.drop_eq_getElem_cons hj, List.take_append_drop]
  have ha : (l.take j).filter p = l.take j := by
    rw [List.filter_eq_self]
    intro x hx
    obtain ⟨i, hi, rfl⟩ := List.getElem_of_mem hx
    have hi' : i < j := by simp at hi; omega
    simp only [List.getElem_take]
    exact h2 i (by omega) (by omega)
  have hb : (l.drop (j + 1)).filter p = l.drop (j + 1) := by
    rw [List.filter_eq_self]
    intro x hx
    obtain ⟨i, hi, rfl⟩ := List.getElem_of_mem hx
    have hi' : j + 1 + i < l.length := by simp at hi; omega
    simp only [List.getElem_drop]
    exact h2 (j + 1 + i) hi' (by omega)
  conv => lhs; rw [hs]
  rw [List.filter_append, List.filter_cons_of_neg (by simpa using h1), ha, hb]
theorem filter_take {α : Type} (p : α → Bool) (l : List α) (k : Nat) (h : k < l.length) : (l.take (k + 1)).filter p = (l.take k).filter p ++ if p l[k] = true then [l[k]] else [] := by
  rw [show l.take (k + 1) = l.take k ++ [l[k]] by rw [List.take_add_one, List.getElem?_eq_getElem h]; rfl, List.filter_append]
  congr 1
  by_cases c : p l[k] = true
  · rw [if_pos c, List.filter_cons_of_pos c]; rfl
  · rw [if_neg c, List.filter_cons_of_neg c]; rfl
theorem filter_len {α : Type} (p : α → Bool) (l : List α) (k : Nat) : ((l.take k).filter p).length ≤ k := Nat.le_trans (List.length_filter_le _ _) (by simp; omega)
theorem snaps_lt {seq : Int} {l : List Int} (hv : snapsV seq l = true) : ∀ (j : Nat) (hj : j < l.length) (i : Nat) (hi : i < j), l[i]'(by omega) < l[j] := by
  intro j
  induction j with
  | zero => intro _ i hi; omega
  | succ j ih =>
    intro hj i hi
    have h1 := (snaps_at hv (j + 1) hj).2 (by omega)
    simp only [Nat.add_sub_cancel] at h1
    by_cases e : i = j
    · subst e; exact h1
    · have := ih (by omega) i (by omega); omega
def dropS (l : List Int) (x : Int) : List Int := l.filter fun s => !decide (s = x)
theorem dropS_at {seq : Int} {l : List Int} (hv : snapsV seq l = true) (j : Nat) (hj : j < l.length) : dropS l l[j] = l.take j ++ l.drop (j + 1) := by
  unfold dropS
  refine filter_one l _ j hj (by simp) fun i hi hij => ?_
  have : ¬ l[i] = l[j] := by
    rcases Nat.lt_or_ge i j with h | h
    · have := snaps_lt hv j hj i h; omega
    · have := snaps_lt hv i hi j (by omega); omega
  simp [this]
theorem sLt_asymm {a b : List UInt8} (h : sLt a b = true) : sLt b a = false := by
  have := sLt_compl a b
  rw [h] at this
  simp only [Bool.not_true, Bool.or_eq_false_iff] at this
  exact this.1
theorem sLt_same {a b : List UInt8} (h1 : sLt a b = false) (h2 : sLt b a = false) : a = b := by
  have := sLt_compl a b
  rw [h1, h2] at this
  have h : decide (b = a) = true := by simpa using this
  exact (of_decide_eq_true h).symm
theorem any_loop {α : Type} {body : Int → Option (Ctl Int (Ctl Unit Bool))} (l : List α) (p : α → Bool) (h : ∀ k (hk : k < l.length), body (k : Int) = some (if p l[k] = true then .done (.done true) else .go ((k : Int) + 1))) (hn : body (l.length : Int) = some (.done (.go ()))) :
    bindC (loopO body 0) (fun (_ : Unit) => some false) = some (l.any p) := by
  rw [loopO_is (fun k s => s = (k : Int) ∧ l.any p = (l.drop k).any p) l.length (if l.any p = true then Ctl.done true else Ctl.go ()) ?h0 ?h1 ?h2]
  · cases l.any p <;> rfl
  case h0 => exact ⟨rfl, rfl⟩
  · rintro k s hk ⟨rfl, he⟩
    rw [h k hk, he, List.drop_eq_getElem_cons hk, List.any_cons]
    cases hp : p l[k] with
    | true => right; rfl
    | false =>
      left
      refine ⟨(k : Int) + 1, rfl, by omega, ?_⟩
      rw [Bool.false_or]
  · rintro s ⟨rfl, he⟩
    rw [he, List.drop_length, hn]
    rfl
theorem half_eq {a : Int} (h0 : 0 ≤ a) (h1 : a ≤ 4611686018427387904) : IntKind.i64.wrap (ishr .u64 (IntKind.u64.wrap (IntKind.i64.wrap a)) (1 : Int)) = a / 2 := by
  have hu : IntKind.u64.wrap a = a := by simp [IntKind.wrap, IntKind.bits, IntKind.signed]; omega
  have hs : ishr .u64 a (1 : Int) = a / 2 := by
    unfold ishr
    show a.fdiv (2 ^ 1) = a / 2
    rw [Int.fdiv_eq_ediv_of_nonneg a (by decide)]
    rfl
  rw [wrap_ok (n := a) (by omega) (by omega), hu, hs, wrap_ok (by omega) (by omega)]
/-- a search by halves: the place where it ends -/
theorem bisect {α ρ : Type} (x : List α) (cf : α → Option Int) (c : α → Int) (hcf : ∀ e ∈ x, cf e = some (c e)) (hx : x.length ≤ 1048576) :
    ∃ j, j ≤ x.length ∧ loopO (ρ := Ctl Int ρ) (fun (S2 : Int × Int) => if (decide (S2.1 < S2.2)) = true then ((idx x (IntKind.i64.wrap (ishr .u64 (IntKind.u64.wrap (IntKind.i64.wrap (S2.1 + S2.2))) (1 : Int)))).bind fun E7 =>
  (cf E7).bind fun R9 =>
  bindC (if (decide (R9 < (0 : Int))) = true then (some (.go (IntKind.i64.wrap (IntKind.i64.wrap (ishr .u64 (IntKind.u64.wrap (IntKind.i64.wrap (S2.1 + S2.2))) (1 : Int)) + (1 : Int)), S2.2)))
  else (some (.go (S2.1, IntKind.i64.wrap (ishr .u64 (IntKind.u64.wrap (IntKind.i64.wrap (S2.1 + S2.2))) (1 : Int))))))
  (fun (T12 : Int × Int) => some (.go (T12.1, T12.2))))
  else (some (.done (.go S2.1)))) ((0 : Int), ((x.length : Nat) : Int)) = some (.go (j : Int)) ∧ (∀ i (hi : i < x.length), i + 1 = j → c x[i] < 0) ∧ (∀ hj : j < x.length, 0 ≤ c x[j]) := by
  obtain ⟨r, hr, j, rfl, h1, h2, h3⟩ := loopO_total (ρ := Ctl Int ρ) (s0 := ((0 : Int), ((x.length : Nat) : Int))) (body := fun (S2 : Int × Int) => if (decide (S2.1 < S2.2)) = true then ((idx x (IntKind.i64.wrap (ishr .u64 (IntKind.u64.wrap (IntKind.i64.wrap (S2.1 + S2.2))) (1 : Int)))).bind fun E7 =>
  (cf E7).bind fun R9 =>
  bindC (if (decide (R9 < (0 : Int))) = true then (some (.go (IntKind.i64.wrap (IntKind.i64.wrap (ishr .u64 (IntKind.u64.wrap (IntKind.i64.wrap (S2.1 + S2.2))) (1 : Int)) + (1 : Int)), S2.2)))
  else (some (.go (S2.1, IntKind.i64.wrap (ishr .u64 (IntKind.u64.wrap (IntKind.i64.wrap (S2.1 + S2.2))) (1 : Int))))))
  (fun (T12 : Int × Int) => some (.go (T12.1, T12.2))))
  else (some (.done (.go S2.1))))
    (fun k s => ∃ a b : Nat, s = ((a : Int), (b : Int)) ∧ a ≤ b ∧ b ≤ x.length ∧ b - a + k ≤ x.length ∧ (∀ i (hi : i < x.length), i + 1 = a → c x[i] < 0) ∧ (∀ hj : b < x.length, 0 ≤ c x[b])) x.length
    (fun r => ∃ j : Nat, r = .go (j : Int) ∧ j ≤ x.length ∧ (∀ i (hi : i < x.length), i + 1 = j → c x[i] < 0) ∧ (∀ hj : j < x.length, 0 ≤ c x[j]))
    ⟨0, x.length, rfl, Nat.zero_le _, Nat.le_refl _, by omega, fun i hi h => by omega, fun h => by omega⟩ (by
      rintro k s hk ⟨a, b, rfl, hab, hb, hd, h1, h2⟩
      by_cases hlt : a < b
      · left
        have hm : ((a : Int) + (b : Int)) / 2 = (((a + b) / 2 : Nat) : Int) := by omega
        have hmx : (a + b) / 2 < x.length := by omega
        simp only [half_eq (a := (a : Int) + (b : Int)) (by omega) (by omega), hm, idx_nat x _ hmx, Option.bind_some, hcf _ (List.getElem_mem hmx)]
        rw [if_pos (by simpa using hlt)]
        by_cases hc : c x[(a + b) / 2] < 0
        · rw [if_pos (by simpa using hc), wrap_ok (by omega) (by omega)]
          refine ⟨_, rfl, (a + b) / 2 + 1, b, rfl, by omega, hb, by omega, fun i hi h => ?_, h2⟩
          obtain rfl : i = (a + b) / 2 := by omega
          exact hc
        · rw [if_neg (by simpa using hc)]
          exact ⟨_, rfl, a, (a + b) / 2, rfl, by omega, by omega, by omega, h1, fun _ => by omega⟩
      · right
        obtain rfl : a = b := by omega
        exact ⟨.go (a : Int), by simp, a, rfl, hb, h1, h2⟩) (by
      rintro s ⟨a, b, rfl, hab, hb, hd, h1, h2⟩
      obtain rfl : a = b := by omega
      exact ⟨.go (a : Int), by simp, a, rfl, hb, h1, h2⟩)
  exact ⟨j, h1, hr, h2, h3⟩
theorem snapsV_up {seq seq' : Int} {l : List Int} (h2 : seq ≤ seq') (h : snapsV seq l = true) : snapsV seq' l = true := by
  unfold snapsV
  rw [List.all_eq_true]
  intro k hk
  have hk' : k < l.length := by simpa using hk
  obtain ⟨a, b⟩ := snaps_at h k hk'
  rw [snapP_at seq' l k hk', Bool.and_eq_true]
  refine ⟨decide_eq_true ⟨a.1, by omega⟩, ?_⟩
  by_cases h0 : 0 < k
  · rw [dif_pos h0]; exact decide_eq_true (b h0)
  · rw [dif_neg h0]
/-! words of bits -/
theorem iand64 {a b : Nat} (ha : a < 2 ^ 63) (hb : b < 2 ^ 63) : iand .i64 (a : Int) (b : Int) = ((a &&& b : Nat) : Int) := by
  unfold iand
  have h1 : a &&& b ≤ a := Nat.and_le_left
  have e : (BitVec.ofInt IntKind.i64.bits (a : Int) &&& BitVec.ofInt IntKind.i64.bits (b : Int)).toNat = a &&& b := by
    show (BitVec.ofInt 64 (a : Int) &&& BitVec.ofInt 64 (b : Int)).toNat = a &&& b
    rw [BitVec.ofInt_natCast, BitVec.ofInt_natCast, BitVec.toNat_and, BitVec.toNat_ofNat, BitVec.toNat_ofNat, Nat.mod_eq_of_lt (by omega), Nat.mod_eq_of_lt (by omega)]
  rw [e]
  exact wrap_ok (by omega) (by omega)
theorem ior64 {a b : Nat} (ha : a < 2 ^ 63) (hb : b < 2 ^ 63) : ior .i64 (a : Int) (b : Int) = ((a ||| b : Nat) : Int) := by
  unfold ior
  have h1 : a ||| b < 2 ^ 63 := Nat.or_lt_two_pow ha hb
  have e : (BitVec.ofInt IntKind.i64.bits (a : Int) ||| BitVec.ofInt IntKind.i64.bits (b : Int)).toNat = a ||| b := by
    show (BitVec.ofInt 64 (a : Int) ||| BitVec.ofInt 64 (b : Int)).toNat = a ||| b
    rw [BitVec.ofInt_natCast, BitVec.ofInt_natCast, BitVec.toNat_or, BitVec.toNat_ofNat, BitVec.toNat_ofNat, Nat.mod_eq_of_lt (by omega), Nat.mod_eq_of_lt (by omega)]
  rw [e]
  exact wrap_ok (by omega) (by omega)
theorem ixor64 {a b : Nat} (ha : a < 2 ^ 63) (hb : b < 2 ^ 63) : ixor .i64 (a : Int) (b : Int) = ((a ^^^ b : Nat) : Int) := by
  unfold ixor
  have h1 : a ^^^ b < 2 ^ 63 := Nat.xor_lt_two_pow ha hb
  have e : (BitVec.ofInt IntKind.i64.bits (a : Int) ^^^ BitVec.ofInt IntKind.i64.bits (b : Int)).toNat = a ^^^ b := by
    show (BitVec.ofInt 64 (a : Int) ^^^ BitVec.ofInt 64 (b : Int)).toNat = a ^^^ b
    rw [BitVec.ofInt_natCast, BitVec.ofInt_natCast, BitVec.toNat_xor, BitVec.toNat_ofNat, BitVec.toNat_ofNat, Nat.mod_eq_of_lt (by omega), Nat.mod_eq_of_lt (by omega)]
  rw [e]
  exact wrap_ok (by omega) (by omega)
theorem wrap32 (n : Int) : IntKind.u32.wrap n = n % 4294967296 := by simp [IntKind.wrap, IntKind.bits, IntKind.signed]
theorem wrap64u (n : Int) : IntKind.u64.wrap n = n % 18446744073709551616 := by simp [IntKind.wrap, IntKind.bits, IntKind.signed]
theorem ior32 {a b : Nat} (ha : a < 2 ^ 32) (hb : b < 2 ^ 32) : ior .u32 (a : Int) (b : Int) = ((a ||| b : Nat) : Int) := by
  unfold ior
  have h1 : a ||| b < 2 ^ 32 := Nat.or_lt_two_pow ha hb
  have e : (BitVec.ofInt IntKind.u32.bits (a : Int) ||| BitVec.ofInt IntKind.u32.bits (b : Int)).toNat = a ||| b := by
    show (BitVec.ofInt 32 (a : Int) ||| BitVec.ofInt 32 (b : Int)).toNat = a ||| b
    rw [BitVec.ofInt_natCast, BitVec.ofInt_natCast, BitVec.toNat_or, BitVec.toNat_ofNat, BitVec.toNat_ofNat, Nat.mod_eq_of_lt (by omega), Nat.mod_eq_of_lt (by omega)]
  rw [e, wrap32]
  omega
theorem ixor32 {a b : Nat} (ha : a < 2 ^ 32) (hb : b < 2 ^ 32) : ixor .u32 (a : Int) (b : Int) = ((a ^^^ b : Nat) : Int) := by
  unfold ixor
  have h1 : a ^^^ b < 2 ^ 32 := Nat.xor_lt_two_pow ha hb
  have e : (BitVec.ofInt IntKind.u32.bits (a : Int) ^^^ BitVec.ofInt IntKind.u32.bits (b : Int)).toNat = a ^^^ b := by
    show (BitVec.ofInt 32 (a : Int) ^^^ BitVec.ofInt 32 (b : Int)).toNat = a ^^^ b
    rw [BitVec.ofInt_natCast, BitVec.ofInt_natCast, BitVec.toNat_xor, BitVec.toNat_ofNat, BitVec.toNat_ofNat, Nat.mod_eq_of_lt (by omega), Nat.mod_eq_of_lt (by omega)]
  rw [e, wrap32]
  omega
theorem iand8 {a b : Nat} (ha : a < 2 ^ 8) (hb : b < 2 ^ 8) : iand .u8 (a : Int) (b : Int) = ((a &&& b : Nat) : Int) := by
  unfold iand
  have h1 : a &&& b ≤ a := Nat.and_le_left
  have e : (BitVec.ofInt IntKind.u8.bits (a : Int) &&& BitVec.ofInt IntKind.u8.bits (b : Int)).toNat = a &&& b := by
    show (BitVec.ofInt 8 (a : Int) &&& BitVec.ofInt 8 (b : Int)).toNat = a &&& b
    rw [BitVec.ofInt_natCast, BitVec.ofInt_natCast, BitVec.toNat_and, BitVec.toNat_ofNat, BitVec.toNat_ofNat, Nat.mod_eq_of_lt (by omega), Nat.mod_eq_of_lt (by omega)]
  rw [e]
  simp [IntKind.wrap, IntKind.bits, IntKind.signed]
  omega
theorem ishr_nat {k : IntKind} {a n : Nat} (hn : n ≤ k.bits) : ishr k (a : Int) (n : Int) = ((a / 2 ^ n : Nat) : Int) := by
  unfold ishr
  rw [Int.toNat_natCast, Nat.min_eq_left hn, Int.fdiv_eq_ediv_of_nonneg _ (by exact_mod_cast Nat.zero_le _)]
  norm_cast
theorem ishl64 {a n : Nat} (hn : n ≤ 64) (h : a * 2 ^ n < 2 ^ 63) : ishl .i64 (a : Int) (n : Int) = ((a * 2 ^ n : Nat) : Int) := by
  unfold ishl
  have hb : IntKind.i64.bits = 64 := rfl
  rw [Int.toNat_natCast, hb, Nat.min_eq_left hn]
  have e : (a : Int) * 2 ^ n = ((a * 2 ^ n : Nat) : Int) := by norm_cast
  rw [e]
  exact wrap_ok (by omega) (by omega)
theorem ishl32 {a n : Nat} (hn : n ≤ 32) : ishl .u32 (a : Int) (n : Int) = ((a * 2 ^ n % 4294967296 : Nat) : Int) := by
  unfold ishl
  have hb : IntKind.u32.bits = 32 := rfl
  have e : (a : Int) * 2 ^ n = ((a * 2 ^ n : Nat) : Int) := by norm_cast
  rw [Int.toNat_natCast, hb, Nat.min_eq_left hn, wrap32, e]
  generalize a * 2 ^ n = z
  omega
/-- the bits of a word turned to the left -/
def rotN (x n : Nat) : Nat := x * 2 ^ n % 4294967296 ||| x / 2 ^ (32 - n)
theorem rotN_lt {x n : Nat} (h : x < 4294967296) : rotN x n < 4294967296 := by
  unfold rotN
  refine Nat.or_lt_two_pow (n := 32) (Nat.mod_lt _ (by decide)) ?_
  exact Nat.lt_of_le_of_lt (Nat.div_le_self _ _) h
theorem ior_same {p q : Int} (hp : 0 ≤ p ∧ p < 4294967296) (hq : 0 ≤ q ∧ q < 4294967296) : ior .u32 p q = ior .i64 p q ∧ 0 ≤ ior .i64 p q ∧ ior .i64 p q < 4294967296 := by
  have e1 : p = (p.toNat : Int) := by omega
  have e2 : q = (q.toNat : Int) := by omega
  have h1 : p.toNat < 2 ^ 32 := by omega
  have h2 : q.toNat < 2 ^ 32 := by omega
  have h3 := Nat.or_lt_two_pow h1 h2
  rw [e1, e2, ior32 h1 h2, ior64 (by omega) (by omega)]
  generalize p.toNat ||| q.toNat = z at h3
  exact ⟨rfl, by omega, by omega⟩
theorem ishl_same (x : UInt8) (n : Nat) (hn : n ≤ 24) : ishl .u32 (IntKind.u32.wrap ((x.toNat : Nat) : Int)) (n : Int) = ishl .i64 (IntKind.i64.wrap ((x.toNat : Nat) : Int)) (n : Int) ∧ 0 ≤ ishl .i64 (IntKind.i64.wrap ((x.toNat : Nat) : Int)) (n : Int) ∧ ishl .i64 (IntKind.i64.wrap ((x.toNat : Nat) : Int)) (n : Int) < 4294967296 := by
  have hx := x.toNat_lt
  have w1 : IntKind.u32.wrap ((x.toNat : Nat) : Int) = ((x.toNat : Nat) : Int) := by rw [wrap32]; omega
  have w2 : IntKind.i64.wrap ((x.toNat : Nat) : Int) = ((x.toNat : Nat) : Int) := wrap_ok (by omega) (by omega)
  have hp : 2 ^ n ≤ 2 ^ 24 := Nat.pow_le_pow_right (by decide) hn
  have hm : x.toNat * 2 ^ n ≤ x.toNat * 2 ^ 24 := Nat.mul_le_mul_left _ hp
  rw [w1, w2, ishl32 (by omega), ishl64 (by omega) (by omega)]
  generalize x.toNat * 2 ^ n = z at hm
  have hz : z < 4294967296 := by omega
  rw [Nat.mod_eq_of_lt hz]
  exact ⟨rfl, by omega, by omega⟩
theorem ishl_samei (x : UInt8) (n : Int) (hn : 0 ≤ n ∧ n ≤ 24) : ishl .u32 (IntKind.u32.wrap ((x.toNat : Nat) : Int)) n = ishl .i64 (IntKind.i64.wrap ((x.toNat : Nat) : Int)) n ∧ 0 ≤ ishl .i64 (IntKind.i64.wrap ((x.toNat : Nat) : Int)) n ∧ ishl .i64 (IntKind.i64.wrap ((x.toNat : Nat) : Int)) n < 4294967296 := by
  have e : n = (n.toNat : Int) := by omega
  rw [e]
  exact ishl_same x n.toNat (by omega)
theorem bind_same {α β : Type} {x : Option α} {f g : α → Option β} (h : ∀ a, f a = g a) : x.bind f = x.bind g := by
  cases x with
  | none => rfl
  | some a => exact h a
theorem little_val (a b c d : UInt8) : ior .u32 (ior .u32 (ior .u32 (IntKind.u32.wrap ((a.toNat : Nat) : Int)) (ishl .u32 (IntKind.u32.wrap ((b.toNat : Nat) : Int)) (8 : Int))) (ishl .u32 (IntKind.u32.wrap ((c.toNat : Nat) : Int)) (16 : Int))) (ishl .u32 (IntKind.u32.wrap ((d.toNat : Nat) : Int)) (24 : Int)) =
      ior .i64 (ior .i64 (ior .i64 (IntKind.i64.wrap ((a.toNat : Nat) : Int)) (ishl .i64 (IntKind.i64.wrap ((b.toNat : Nat) : Int)) (8 : Int))) (ishl .i64 (IntKind.i64.wrap ((c.toNat : Nat) : Int)) (16 : Int))) (ishl .i64 (IntKind.i64.wrap ((d.toNat : Nat) : Int)) (24 : Int)) ∧
      0 ≤ ior .i64 (ior .i64 (ior .i64 (IntKind.i64.wrap ((a.toNat : Nat) : Int)) (ishl .i64 (IntKind.i64.wrap ((b.toNat : Nat) : Int)) (8 : Int))) (ishl .i64 (IntKind.i64.wrap ((c.toNat : Nat) : Int)) (16 : Int))) (ishl .i64 (IntKind.i64.wrap ((d.toNat : Nat) : Int)) (24 : Int)) ∧
      ior .i64 (ior .i64 (ior .i64 (IntKind.i64.wrap ((a.toNat : Nat) : Int)) (ishl .i64 (IntKind.i64.wrap ((b.toNat : Nat) : Int)) (8 : Int))) (ishl .i64 (IntKind.i64.wrap ((c.toNat : Nat) : Int)) (16 : Int))) (ishl .i64 (IntKind.i64.wrap ((d.toNat : Nat) : Int)) (24 : Int)) < 4294967296 := by
  have ha := a.toNat_lt
  have a1 : IntKind.u32.wrap ((a.toNat : Nat) : Int) = IntKind.i64.wrap ((a.toNat : Nat) : Int) := by rw [wrap32, wrap_ok (by omega) (by omega)]; omega
  have a2 : 0 ≤ IntKind.i64.wrap ((a.toNat : Nat) : Int) ∧ IntKind.i64.wrap ((a.toNat : Nat) : Int) < 4294967296 := by rw [wrap_ok (by omega) (by omega)]; omega
  obtain ⟨b1, b2⟩ := ishl_samei b 8 (by omega)
  obtain ⟨c1, c2⟩ := ishl_samei c 16 (by omega)
  obtain ⟨d1, d2⟩ := ishl_samei d 24 (by omega)
  obtain ⟨o1, o2⟩ := ior_same a2 b2
  obtain ⟨p1, p2⟩ := ior_same o2 c2
  obtain ⟨q1, q2⟩ := ior_same p2 d2
  refine ⟨?_, q2⟩
  rw [a1, b1, c1, d1, o1, p1, q1]
theorem sidx_nat (s : List UInt8) (i : Nat) (h : i < s.length) : sidx s (i : Int) = some s[i] := by
  unfold sidx
  rw [if_pos (by omega), Int.toNat_natCast, List.getElem?_eq_getElem h]
/-- words of 32 bits -/
def okW (l : List Wrd) : Prop := ∀ x ∈ l, 0 ≤ x.v ∧ x.v < 4294967296
theorem okW_set {l : List Wrd} {i : Nat} {x : Wrd} (h : okW l) (hx : 0 ≤ x.v ∧ x.v < 4294967296) : okW (l.set i x) := by
  intro y hy
  rcases List.mem_or_eq_of_mem_set hy with h1 | h1
  · exact h y h1
  · rw [h1]; exact hx
theorem okW_nat {l : List Wrd} (h : okW l) (k : Nat) (hk : k < l.length) : ∃ n : Nat, l[k].v = (n : Int) ∧ n < 4294967296 := by
  obtain ⟨h1, h2⟩ := h _ (List.getElem_mem hk)
  exact ⟨l[k].v.toNat, by omega, by omega⟩
/-- sixteen words -/
def goodW (l : List Wrd) : Prop := l.length = 16 ∧ okW l
noncomputable def selW (k : Nat) (i : Nat) (n : Nat) : Wrd := bif Nat.blt i k then Wrd.mk (n : Int) else Wrd.mk 0
def bytes4 (n : Nat) : List UInt8 := [toU8 (n : Int), toU8 ((n / 256 : Nat) : Int), toU8 ((n / 65536 : Nat) : Int), toU8 ((n / 16777216 : Nat) : Int)]
/-- the bytes of the first k words -/
noncomputable def outW (w s : List Wrd) : Nat → List UInt8
  | 0 => []
  | k + 1 => outW w s k ++ (match w[k]?, s[k]? with | some x, some y => bytes4 ((x.v + y.v).toNat % 4294967296) | _, _ => [])
theorem outW_succ (w s : List Wrd) (k : Nat) (hw : k < w.length) (hs : k < s.length) : outW w s (k + 1) = outW w s k ++ bytes4 ((w[k].v + s[k].v).toNat % 4294967296) := by
  show outW w s k ++ (match w[k]?, s[k]? with | some x, some y => _ | _, _ => _) = _
  rw [List.getElem?_eq_getElem hw, List.getElem?_eq_getElem hs]
theorem outW_len (w s : List Wrd) (hw : w.length = 16) (hs : s.length = 16) : ∀ k, k ≤ 16 → (outW w s k).length = 4 * k
  | 0, _ => rfl
  | k + 1, hk => by
    rw [outW_succ w s k (by omega) (by omega), List.length_append, outW_len w s hw hs k (by omega)]
    show 4 * k + 4 = _
    omega
theorem toU8_mod (n : Nat) : toU8 ((n % 256 : Nat) : Int) = toU8 (n : Int) := by
  unfold toU8
  congr 1
  omega
def chaOk (key : List UInt8) (counter : Int) (nonce : List UInt8) : Bool := decide (key.length = 32) && (decide (nonce.length = 12) && decide (0 ≤ counter ∧ counter ≤ 4294967295))
theorem chaOk_iff {key : List UInt8} {counter : Int} {nonce : List UInt8} (h : chaOk key counter nonce = true) : key.length = 32 ∧ nonce.length = 12 ∧ 0 ≤ counter ∧ counter ≤ 4294967295 := by
  unfold chaOk at h
  simp only [Bool.and_eq_true, decide_eq_true_eq] at h
  exact h
theorem bind_of {α β : Type} {x : Option α} {a : α} {f : α → Option β} {r : Option β} (h : x = some a) (h2 : f a = r) : x.bind f = r := by rw [h]; exact h2
/-- bytes of a number, the highest first -/
def fixV (n : Nat) : Nat → List UInt8
  | 0 => []
  | j + 1 => toU8 ((n / 256 ^ j : Nat) : Int) :: fixV n j
theorem fixV_len (n : Nat) : ∀ j, (fixV n j).length = j
  | 0 => rfl
  | j + 1 => by rw [fixV, List.length_cons, fixV_len n j]
theorem div_pow_succ (n b j : Nat) : n / b ^ j / b = n / b ^ (j + 1) := by rw [Nat.div_div_eq_div_mul, Nat.pow_succ]
def fixedV (n w : Int) : List UInt8 := bif decide (1 ≤ w ∧ w ≤ 7) && (decide (0 ≤ n) && decide (n.toNat / 256 ^ w.toNat = 0)) then fixV n.toNat w.toNat else []
theorem spec_Fixed_eq (n w : Int) (hn : n ≤ 4611686018427387904) : spec_Fixed n w = some (fixedV n w) := by
  unfold spec_Fixed fixedV
  rw [l1In_eq]
  by_cases h1 : 1 ≤ w ∧ w ≤ 7
  · rw [decide_eq_true h1]
    by_cases h2 : 0 ≤ n
    · obtain ⟨m, rfl⟩ : ∃ m : Nat, n = (m : Int) := ⟨n.toNat, by omega⟩
      obtain ⟨u, rfl⟩ : ∃ u : Nat, w = (u : Int) := ⟨w.toNat, by omega⟩
      rw [decide_eq_true h2, decide_eq_false (by omega : ¬ (m : Int) < 0)]
      simp only [Option.bind_some, Bool.not_true, Bool.false_eq_true, if_false, Int.toNat_natCast]
      rw [loopO_count (fun j => (((m / 256 ^ j : Nat) : Int), fixV m j, (j : Int))) u (r := Ctl.go (((m / 256 ^ u : Nat) : Int), fixV m u)) ?h0]
      case h0 => simp [fixV]
      · simp only [bindC_go]
        by_cases h3 : m / 256 ^ u = 0
        · rw [decide_eq_true h3, decide_eq_false (by rw [h3]; decide : ¬ ((m / 256 ^ u : Nat) : Int) > 0)]; rfl
        · have h4 : ((m / 256 ^ u : Nat) : Int) > 0 := Int.ofNat_lt.2 (Nat.pos_of_ne_zero h3)
          rw [decide_eq_false h3, decide_eq_true h4]; rfl
      · intro j hj
        have e1 : Int.tmod ((m / 256 ^ j : Nat) : Int) (256 : Int) = ((m / 256 ^ j % 256 : Nat) : Int) := by rw [show (256 : Int) = ((256 : Nat) : Int) from rfl, ← Int.ofNat_tmod]
        have e2 : Int.tdiv ((m / 256 ^ j : Nat) : Int) (256 : Int) = ((m / 256 ^ (j + 1) : Nat) : Int) := by rw [show (256 : Int) = ((256 : Nat) : Int) from rfl, ← Int.ofNat_tdiv, div_pow_succ]
        have e3 : ((m / 256 ^ (j + 1) : Nat) : Int) ≤ (m : Int) := Int.ofNat_le.2 (Nat.div_le_self _ _)
        have e4 : (0 : Int) ≤ ((m / 256 ^ (j + 1) : Nat) : Int) := Int.natCast_nonneg _
        have hl := fixV_len m j
        simp only [e1, e2, toU8_mod]
        rw [if_pos (by simp only [decide_eq_true_eq]; omega), wrap_ok (n := (j : Int) + 1) (by omega) (by omega), wrap_ok (by omega) (by omega)]
        rw [cat_ok (by rw [hl]; simp; omega)]
        rfl
      · simp
    · rw [decide_eq_false h2, decide_eq_true (by omega : n < 0)]
      rfl
  · rw [decide_eq_false h1]
    rfl
theorem impl_Fixed_eq (n w : Int) (hn : n ≤ 4611686018427387904) : impl_Fixed n w = some (fixedV n w) := by
  unfold impl_Fixed fixedV
  rw [inRange_eq]
  by_cases h1 : 1 ≤ w ∧ w ≤ 7
  · rw [decide_eq_true h1]
    by_cases h2 : 0 ≤ n
    · obtain ⟨m, rfl⟩ : ∃ m : Nat, n = (m : Int) := ⟨n.toNat, by omega⟩
      obtain ⟨u, rfl⟩ : ∃ u : Nat, w = (u : Int) := ⟨w.toNat, by omega⟩
      have e0 : IntKind.u64.wrap (IntKind.i64.wrap ((8 : Int) * (u : Int))) = ((8 * u : Nat) : Int) := by rw [wrap_ok (by omega) (by omega), wrap64u]; omega
      have e5 : ishr .i64 (m : Int) ((8 * u : Nat) : Int) = ((m / 256 ^ u : Nat) : Int) := by
        rw [ishr_nat (by show 8 * u ≤ 64; omega), Nat.pow_mul]
      have e6 : decide (((m / 256 ^ u : Nat) : Int) = 0) = decide (m / 256 ^ u = 0) := decide_eq_decide.2 (by omega)
      rw [decide_eq_true h2, decide_eq_false (by omega : ¬ (m : Int) < 0)]
      simp only [Option.bind_some, Bool.not_true, Bool.false_eq_true, if_false, Int.toNat_natCast, e0, e5, e6]
      by_cases h3 : m / 256 ^ u = 0
      · rw [decide_eq_true h3]
        simp only [Bool.not_true, Bool.false_eq_true, if_false, Bool.true_and, cond_true]
        rw [mkLen_ok (by omega) (by omega)]
        simp only [Option.bind_some]
        rw [loopO_count (fun j => (((m / 256 ^ j : Nat) : Int), (u : Int) - 1 - (j : Int), List.replicate (u - j) (0 : UInt8) ++ fixV m j)) u (r := Ctl.go (fixV m u)) ?h0]
        case h0 => rw [wrap_ok (by omega) (by omega)]; simp [fixV]
        · rfl
        · intro j hj
          have e1 : ishr .i64 ((m / 256 ^ j : Nat) : Int) (8 : Int) = ((m / 256 ^ (j + 1) : Nat) : Int) := by
            rw [show ishr .i64 ((m / 256 ^ j : Nat) : Int) (8 : Int) = ((m / 256 ^ j / 256 : Nat) : Int) from ishr_nat (n := 8) (by decide), div_pow_succ]
          have hl := fixV_len m j
          have hi : (u : Int) - 1 - (j : Int) = ((u - 1 - j : Nat) : Int) := by omega
          have hlen : u - 1 - j < (List.replicate (u - j) (0 : UInt8) ++ fixV m j).length := by simp; omega
          have hset : (List.replicate (u - j) (0 : UInt8) ++ fixV m j).set (u - 1 - j) (toU8 ((m / 256 ^ j : Nat) : Int)) = List.replicate (u - (j + 1)) (0 : UInt8) ++ fixV m (j + 1) := by
            rw [show u - j = (u - (j + 1)) + 1 by omega, List.replicate_succ', List.append_assoc, show u - 1 - j = u - (j + 1) by omega, List.set_append_right _ _ (by simp)]
            simp [fixV]
          simp only [hi, e1, idx_nat _ _ hlen, Option.bind_some, Int.toNat_natCast, hset]
          rw [if_pos (by simp only [decide_eq_true_eq]; omega), wrap_ok (by omega) (by omega)]
          rw [show ((u - 1 - j : Nat) : Int) - 1 = (u : Int) - 1 - ((j + 1 : Nat) : Int) by omega]
        · rw [if_neg (by simp only [decide_eq_true_eq]; omega)]
          simp
      · rw [decide_eq_false h3]
        rfl
    · rw [decide_eq_false h2, decide_eq_true (by omega : n < 0)]
      rfl
  · rw [decide_eq_false h1]
    rfl
/-- a number in bytes of seven bits, the lowest first -/
def varN : Nat → Nat → List UInt8
  | 0, n => [toU8 (n : Int)]
  | f + 1, n => bif decide (n < 128) then [toU8 (n : Int)] else toU8 ((128 + n % 128 : Nat) : Int) :: varN f (n / 128)
theorem varN_lt {f n : Nat} (h : n < 128) : varN f n = [toU8 (n : Int)] := by
  cases f with
  | zero => rfl
  | succ f => rw [varN, decide_eq_true h]; rfl
theorem varN_ge {f n : Nat} (h : 128 ≤ n) : varN (f + 1) n = toU8 ((128 + n % 128 : Nat) : Int) :: varN f (n / 128) := by
  rw [varN, decide_eq_false (by omega)]; rfl
/-- a loop that takes seven bits at a time -/
theorem var_loop {body : Int × List UInt8 → Option (Ctl (Int × List UInt8) (Ctl (Int × List UInt8) (List UInt8)))}
    (h1 : ∀ (n : Nat) (out : List UInt8), 128 ≤ n → n < 562949953421312 → out.length ≤ 100 → body ((n : Int), out) = some (.go (((n / 128 : Nat) : Int), out ++ [toU8 ((128 + n % 128 : Nat) : Int)])))
    (h2 : ∀ (n : Nat) (out : List UInt8), n < 128 → body ((n : Int), out) = some (.done (.go ((n : Int), out)))) :
    ∀ (f n : Nat) (out : List UInt8), n < 128 ^ (f + 1) → n < 562949953421312 → out.length + f ≤ 100 → ∃ (m : Nat) (out' : List UInt8), loopO body ((n : Int), out) = some (.go ((m : Int), out')) ∧ out' ++ [toU8 (m : Int)] = out ++ varN f n ∧ out'.length ≤ 100 := by
  intro f
  induction f with
  | zero =>
    intro n out hn _ ho
    have hn' : n < 128 := by simpa using hn
    exact ⟨n, out, by rw [loopO_eq, h2 n out hn'], by rw [varN_lt hn'], by omega⟩
  | succ f ih =>
    intro n out hn hb ho
    by_cases h : n < 128
    · exact ⟨n, out, by rw [loopO_eq, h2 n out h], by rw [varN_lt h], by omega⟩
    · have hn2 : n / 128 < 128 ^ (f + 1) := by
        rw [Nat.div_lt_iff_lt_mul (by decide)]
        rw [Nat.pow_succ] at hn
        exact hn
      obtain ⟨m, out', e1, e2, e3⟩ := ih (n / 128) (out ++ [toU8 ((128 + n % 128 : Nat) : Int)]) hn2 (by omega) (by simp; omega)
      refine ⟨m, out', ?_, ?_, e3⟩
      · rw [loopO_eq, h1 n out (by omega) hb (by omega)]
        exact e1
      · rw [e2, varN_ge (by omega), List.append_assoc]; rfl
def varV (n : Int) : List UInt8 := bif decide (0 ≤ n ∧ n ≤ 562949953421311) then varN 6 n.toNat else []
theorem spec_Var_eq (n : Int) : spec_Var n = some (varV n) := by
  unfold spec_Var varV
  rw [l1In_eq]
  by_cases h : 0 ≤ n ∧ n ≤ 562949953421311
  · rw [decide_eq_true h]
    obtain ⟨m, rfl⟩ : ∃ m : Nat, n = (m : Int) := ⟨n.toNat, by omega⟩
    simp only [Option.bind_some, Bool.not_true, Bool.false_eq_true, if_false, cond_true, Int.toNat_natCast]
    obtain ⟨p, out, e1, e2, e3⟩ := var_loop (body := fun (S6 : Int × List UInt8) => if (decide (S6.1 ≥ (128 : Int))) = true then ((app 1 S6.2 ([toU8 (IntKind.i64.wrap ((128 : Int) + (Int.tmod S6.1 (128 : Int))))])).bind fun E13 =>
      some (.go (IntKind.i64.wrap (Int.tdiv S6.1 (128 : Int)), E13)))
      else (some (.done (.go (S6.1, S6.2))))) (by
        intro n out h1 h2 ho
        have t1 : Int.tmod (n : Int) (128 : Int) = ((n % 128 : Nat) : Int) := by rw [show (128 : Int) = ((128 : Nat) : Int) from rfl, ← Int.ofNat_tmod]
        have t2 : Int.tdiv (n : Int) (128 : Int) = ((n / 128 : Nat) : Int) := by rw [show (128 : Int) = ((128 : Nat) : Int) from rfl, ← Int.ofNat_tdiv]
        have t3 : IntKind.i64.wrap ((128 : Int) + ((n % 128 : Nat) : Int)) = ((128 + n % 128 : Nat) : Int) := by rw [wrap_ok (by omega) (by omega)]; omega
        simp only [t1, t2, t3]
        rw [if_pos (by simp only [decide_eq_true_eq]; omega), app_ok (by simp; omega) (by simp; omega), wrap_ok (by omega) (by omega)]
        rfl) (by
        intro n out h1
        rw [if_neg (by simp only [decide_eq_true_eq]; omega)]) 6 m [] (by omega) (by omega) (by simp)
    rw [e1]
    simp only [bindC_go]
    rw [app_ok (by simp; omega) (by simp; omega), e2]
    rfl
  · rw [decide_eq_false h]
    rfl
theorem or128 (m : Nat) (h : m < 128) : 128 ||| m = 128 + m := by
  have := Nat.two_pow_add_eq_or_of_lt (i := 7) (b := m) h 1
  rw [show 2 ^ 7 * 1 = 128 from rfl] at this
  exact this.symm
theorem impl_Var_eq (n : Int) : impl_Var n = some (varV n) := by
  unfold impl_Var varV
  rw [inRange_eq]
  by_cases h : 0 ≤ n ∧ n ≤ 562949953421311
  · rw [decide_eq_true h]
    obtain ⟨m, rfl⟩ : ∃ m : Nat, n = (m : Int) := ⟨n.toNat, by omega⟩
    simp only [Option.bind_some, Bool.not_true, Bool.false_eq_true, if_false, cond_true, Int.toNat_natCast]
    obtain ⟨p, out, e1, e2, e3⟩ := var_loop (body := fun (S5 : Int × List UInt8) => if (decide (S5.1 > (127 : Int))) = true then ((app 1 S5.2 ([toU8 (ior .i64 (128 : Int) (iand .i64 S5.1 (127 : Int)))])).bind fun E12 =>
      some (.go (ishr .i64 S5.1 (7 : Int), E12)))
      else (some (.done (.go (S5.1, S5.2))))) (by
        intro n out h1 h2 ho
        have t1 : iand .i64 (n : Int) (127 : Int) = ((n % 128 : Nat) : Int) := by
          rw [show (127 : Int) = ((127 : Nat) : Int) from rfl, iand64 (by omega) (by decide), show n &&& 127 = n % 128 from Nat.and_two_pow_sub_one_eq_mod n 7]
        have t2 : ishr .i64 (n : Int) (7 : Int) = ((n / 128 : Nat) : Int) := ishr_nat (n := 7) (by decide)
        have hm : n % 128 < 128 := Nat.mod_lt _ (by decide)
        have t3 : ior .i64 (128 : Int) ((n % 128 : Nat) : Int) = ((128 + n % 128 : Nat) : Int) := by
          rw [show (128 : Int) = ((128 : Nat) : Int) from rfl, ior64 (by decide) (by omega), or128 _ hm]
        simp only [t1, t2, t3]
        rw [if_pos (by simp only [decide_eq_true_eq]; omega), app_ok (by simp; omega) (by simp; omega)]
        rfl) (by
        intro n out h1
        rw [if_neg (by simp only [decide_eq_true_eq]; omega)]) 6 m [] (by omega) (by omega) (by simp)
    rw [e1]
    simp only [bindC_go]
    rw [app_ok (by simp; omega) (by simp; omega), e2]
    rfl
  · rw [decide_eq_false h]
    rfl
/-- the number that bytes of seven bits come to -/
def numV : List UInt8 → Nat
  | [] => 0
  | x :: l => x.toNat % 128 + 128 * numV l
theorem numV_lt : ∀ (l : List UInt8), numV l < 128 ^ l.length
  | [] => by decide
  | x :: l => by
    have := numV_lt l
    have hx : x.toNat % 128 < 128 := Nat.mod_lt _ (by decide)
    rw [numV, List.length_cons, Nat.pow_succ]
    omega
theorem numV_snoc : ∀ (l : List UInt8) (x : UInt8), numV (l ++ [x]) = numV l + 128 ^ l.length * (x.toNat % 128)
  | [], x => by simp [numV]
  | y :: l, x => by
    rw [List.cons_append, numV, numV, numV_snoc l x, List.length_cons, Nat.pow_succ, Nat.mul_add, Nat.mul_comm (128 ^ l.length) 128, Nat.mul_assoc]
    omega
/-- reading: the number and how many bytes -/
def readN : Nat → List UInt8 → Option (Nat × Nat)
  | 0, _ => none
  | _ + 1, [] => none
  | f + 1, x :: l => bif decide (x.toNat < 128) then some (x.toNat, 1) else match readN f l with
    | some (m, k) => bif decide (m = 0) then none else some (x.toNat % 128 + 128 * m, k + 1)
    | none => none
theorem toU8_toNat (n : Nat) : (toU8 (n : Int)).toNat = n % 256 := by
  unfold toU8
  rw [UInt8.toNat_ofNat']
  omega
theorem toU8_of (x : UInt8) : toU8 ((x.toNat : Nat) : Int) = x := by
  have := x.toNat_lt
  apply UInt8.toNat_inj.1
  rw [toU8_toNat]
  omega
/-- a beginning that is the form of its number -/
def goodN (l : List UInt8) : Prop := ∃ f, l.length ≤ f + 1 ∧ varN f (numV l) = l
theorem varN_more : ∀ (f g n : Nat), n < 128 ^ (f + 1) → n < 128 ^ (g + 1) → varN f n = varN g n
  | f, g, n, h1, h2 => by
    by_cases h : n < 128
    · rw [varN_lt h, varN_lt h]
    · cases f with
      | zero => simp at h1; omega
      | succ f =>
        cases g with
        | zero => simp at h2; omega
        | succ g =>
          rw [varN_ge (by omega), varN_ge (by omega), varN_more f g (n / 128) ?_ ?_]
          · rw [Nat.div_lt_iff_lt_mul (by decide)]; rw [Nat.pow_succ] at h1; exact h1
          · rw [Nat.div_lt_iff_lt_mul (by decide)]; rw [Nat.pow_succ] at h2; exact h2
theorem take_ne {α : Type} {l : List α} {j : Nat} (h1 : 1 ≤ j) (h2 : j ≤ l.length) : l.take j ≠ [] := by
  intro e
  have := congrArg List.length e
  rw [List.length_take, List.length_nil] at this
  omega
theorem good_one (f : Nat) (x : UInt8) : varN f (numV [x]) = [x] ↔ x.toNat < 128 := by
  have hx : x.toNat % 128 < 128 := Nat.mod_lt _ (by decide)
  rw [show numV [x] = x.toNat % 128 by simp [numV], varN_lt hx]
  constructor
  · intro h
    have h2 : toU8 ((x.toNat % 128 : Nat) : Int) = x := by simpa using h
    have h3 := congrArg UInt8.toNat h2
    rw [toU8_toNat] at h3
    omega
  · intro h
    rw [Nat.mod_eq_of_lt h, toU8_of]
theorem good_more (f : Nat) (x : UInt8) (l : List UInt8) (hl : l ≠ []) : varN (f + 1) (numV (x :: l)) = x :: l ↔ 128 ≤ x.toNat ∧ numV l ≠ 0 ∧ varN f (numV l) = l := by
  have hx : x.toNat % 128 < 128 := Nat.mod_lt _ (by decide)
  have hx2 := x.toNat_lt
  have hm : (x.toNat % 128 + 128 * numV l) % 128 = x.toNat % 128 := by omega
  have hd : (x.toNat % 128 + 128 * numV l) / 128 = numV l := by omega
  by_cases h0 : numV l = 0
  · rw [numV, h0, varN_lt (by omega)]
    constructor
    · intro h
      have : [] = l := by simpa using (List.cons.inj h).2
      exact absurd this.symm hl
    · rintro ⟨_, h, _⟩
      exact absurd rfl h
  · rw [numV, varN_ge (by omega), hm, hd]
    constructor
    · intro h
      obtain ⟨h1, h2⟩ := List.cons.inj h
      have h3 := congrArg UInt8.toNat h1
      rw [toU8_toNat] at h3
      exact ⟨by omega, h0, h2⟩
    · rintro ⟨h1, _, h2⟩
      rw [h2, show 128 + x.toNat % 128 = x.toNat by omega, toU8_of]
theorem readN_some : ∀ (f : Nat) (s : List UInt8) (n k : Nat), readN f s = some (n, k) → 1 ≤ k ∧ k ≤ f ∧ k ≤ s.length ∧ n = numV (s.take k) ∧ varN (f - 1) n = s.take k ∧ ∀ g j, 1 ≤ j → j ≤ g + 1 → j ≤ s.length → varN g (numV (s.take j)) = s.take j → j = k
  | 0, s, n, k, h => by cases h
  | f + 1, [], n, k, h => by cases h
  | f + 1, x :: l, n, k, h => by
    rw [readN] at h
    by_cases hx : x.toNat < 128
    · rw [decide_eq_true hx] at h
      simp only [cond_true, Option.some.injEq, Prod.mk.injEq] at h
      obtain ⟨rfl, rfl⟩ := h
      have hm : x.toNat % 128 = x.toNat := Nat.mod_eq_of_lt hx
      refine ⟨Nat.le_refl _, by omega, by simp, by simp [numV, hm], ?_, fun g j hj1 hjg hjl he => ?_⟩
      · have := (good_one (f + 1 - 1) x).2 hx
        rw [show numV [x] = x.toNat by simp [numV, hm]] at this
        exact this
      · cases j with
        | zero => omega
        | succ j =>
          cases j with
          | zero => rfl
          | succ j =>
            cases g with
            | zero => omega
            | succ g =>
              rw [List.take_succ_cons] at he
              have := (good_more g x (l.take (j + 1)) (take_ne (by omega) (by rw [List.length_cons] at hjl; omega))).1 he
              omega
    · rw [decide_eq_false hx] at h
      simp only [cond_false] at h
      cases hr : readN f l with
      | none => rw [hr] at h; cases h
      | some p =>
        obtain ⟨m, k'⟩ := p
        rw [hr] at h
        simp only at h
        by_cases hm : m = 0
        · rw [decide_eq_true hm] at h; cases h
        · rw [decide_eq_false hm] at h
          simp only [cond_false, Option.some.injEq, Prod.mk.injEq] at h
          obtain ⟨rfl, rfl⟩ := h
          obtain ⟨h1, h2, h3, h4, h5, h6⟩ := readN_some f l m k' hr
          have hne : l.take k' ≠ [] := take_ne h1 h3
          refine ⟨by omega, by omega, by simp; omega, by rw [List.take_succ_cons, numV, ← h4], ?_, fun g j hj1 hjg hjl he => ?_⟩
          · rw [List.take_succ_cons, Nat.add_sub_cancel]
            obtain ⟨f', rfl⟩ : ∃ f', f = f' + 1 := ⟨f - 1, by omega⟩
            rw [Nat.add_sub_cancel] at h5
            have := (good_more f' x (l.take k') hne).2 ⟨by omega, by rw [← h4]; exact hm, by rw [← h4]; exact h5⟩
            rw [numV, ← h4] at this
            exact this
          · cases j with
            | zero => omega
            | succ j =>
              cases j with
              | zero =>
                rw [List.take_succ_cons, List.take_zero] at he
                exact absurd ((good_one g x).1 he) hx
              | succ j =>
                cases g with
                | zero => omega
                | succ g =>
                  rw [List.take_succ_cons] at he
                  have hjl' : j + 1 ≤ l.length := by simp at hjl; omega
                  have := (good_more g x (l.take (j + 1)) (take_ne (by omega) hjl')).1 he
                  have := h6 g (j + 1) (by omega) (by omega) hjl' this.2.2
                  omega
theorem readN_none : ∀ (f : Nat) (s : List UInt8), readN f s = none → ∀ g j, 1 ≤ j → j ≤ f → j ≤ g + 1 → j ≤ s.length → varN g (numV (s.take j)) ≠ s.take j
  | 0, s, h => fun g j h1 h2 => by omega
  | f + 1, [], h => fun g j h1 h2 h3 h4 => by simp at h4; omega
  | f + 1, x :: l, h => by
    intro g j hj1 hjf hjg hjl he
    rw [readN] at h
    by_cases hx : x.toNat < 128
    · rw [decide_eq_true hx] at h; cases h
    · rw [decide_eq_false hx] at h
      simp only [cond_false] at h
      cases j with
      | zero => omega
      | succ j =>
        cases j with
        | zero =>
          rw [List.take_succ_cons, List.take_zero] at he
          exact hx ((good_one g x).1 he)
        | succ j =>
          cases g with
          | zero => omega
          | succ g =>
            rw [List.take_succ_cons] at he
            have hjl' : j + 1 ≤ l.length := by simp at hjl; omega
            obtain ⟨q1, q2, q3⟩ := (good_more g x (l.take (j + 1)) (take_ne (by omega) hjl')).1 he
            cases hr : readN f l with
            | none => exact readN_none f l hr g (j + 1) (by omega) (by omega) (by omega) hjl' q3
            | some p =>
              obtain ⟨m, k'⟩ := p
              rw [hr] at h
              simp only at h
              by_cases hm : m = 0
              · obtain ⟨h1, h2, h3, h4, h5, h6⟩ := readN_some f l m k' hr
                have := h6 g (j + 1) (by omega) (by omega) hjl' q3
                rw [← this] at h4
                exact q2 (by rw [← h4]; exact hm)
              · rw [decide_eq_false hm] at h; cases h
def readR : Option (Nat × Nat) → Int × Int
  | some (n, k) => ((n : Int), (k : Int))
  | none => (0, 0)
/-- reading of what comes behind i bytes -/
def readI (n i : Nat) : Option (Nat × Nat) → Int × Int
  | some (m, k) => bif decide (m = 0 ∧ 0 < i) then (0, 0) else (((n + 128 ^ i * m : Nat) : Int), ((i + k : Nat) : Int))
  | none => (0, 0)
theorem readI_zero (p : Option (Nat × Nat)) : readI 0 0 p = readR p := by
  cases p with
  | none => rfl
  | some p => simp [readI, readR]
theorem readI_step (n i f : Nat) (x : UInt8) (l : List UInt8) (hx : ¬ x.toNat < 128) : readI n i (readN (f + 1) (x :: l)) = readI (n + 128 ^ i * (x.toNat % 128)) (i + 1) (readN f l) := by
  rw [readN, decide_eq_false hx]
  simp only [cond_false]
  cases readN f l with
  | none => rfl
  | some p =>
    obtain ⟨m, k⟩ := p
    simp only
    by_cases hm : m = 0
    · simp [hm, readI]
    · rw [decide_eq_false hm]
      simp only [cond_false, readI]
      rw [decide_eq_false (by omega), decide_eq_false (by omega)]
      simp only [cond_false]
      have e : n + 128 ^ i * (x.toNat % 128 + 128 * m) = n + 128 ^ i * (x.toNat % 128) + 128 ^ i * 128 * m := by rw [Nat.mul_add, Nat.mul_assoc, Nat.add_assoc]
      rw [Nat.pow_succ, e, show i + (k + 1) = i + 1 + k by omega]
theorem or_add (n d i : Nat) (h : n < 2 ^ (7 * i)) : n ||| d * 2 ^ (7 * i) = n + 2 ^ (7 * i) * d := by
  rw [Nat.or_comm, Nat.mul_comm, ← Nat.two_pow_add_eq_or_of_lt h]
  omega
theorem pow128 (i : Nat) : 128 ^ i = 2 ^ (7 * i) := by rw [Nat.pow_mul]
theorem impl_ReadVar_eq (s : List UInt8) (hs : s.length ≤ 1099511627776) : impl_ReadVar s = some (readR (readN 7 s)) := by
  unfold impl_ReadVar
  obtain ⟨r, hr, hq⟩ := loopO_total (ρ := Ctl Unit (Int × Int)) (s0 := ((0 : Int), (0 : Int))) (body := fun (S1 : Int × Int) => (if (decide (S1.2 < (7 : Int))) = true then (some (decide (S1.2 < ((s.length : Nat) : Int))))
  else (some false)).bind (fun (T5 : Bool) =>
  if T5 = true then ((sidx s S1.2).bind fun E9 =>
  if (decide (((E9.toNat : Nat) : Int) ≥ (128 : Int))) = true then (some (.go (ior .i64 S1.1 (ishl .i64 (IntKind.i64.wrap (iand .u8 ((E9.toNat : Nat) : Int) (127 : Int))) (IntKind.u64.wrap (IntKind.i64.wrap ((7 : Int) * S1.2)))), IntKind.i64.wrap (S1.2 + (1 : Int)))))
  else ((if (decide (((E9.toNat : Nat) : Int) = (0 : Int))) = true then (some (decide (S1.2 > (0 : Int))))
  else (some false)).bind (fun (T12 : Bool) =>
  if T12 = true then (some (.done (.done ((0 : Int), (0 : Int)))))
  else (some (.done (.done (ior .i64 S1.1 (ishl .i64 (IntKind.i64.wrap (iand .u8 ((E9.toNat : Nat) : Int) (127 : Int))) (IntKind.u64.wrap (IntKind.i64.wrap ((7 : Int) * S1.2)))), IntKind.i64.wrap (S1.2 + (1 : Int)))))))))
  else (some (.done (.go ())))))
    (fun i S => S.1 = (numV (s.take i) : Int) ∧ S.2 = (i : Int) ∧ i ≤ s.length ∧ readR (readN 7 s) = readI (numV (s.take i)) i (readN (7 - i) (s.drop i))) 7 (fun r => r = .done (readR (readN 7 s)) ∨ (r = .go () ∧ readR (readN 7 s) = (0, 0))) ⟨by simp [numV], rfl, Nat.zero_le _, by simp [numV, readI_zero]⟩ (by
      rintro i ⟨n, j⟩ hi ⟨h1, h2, h3, h4⟩
      simp only at h1 h2
      subst h1 h2
      rw [h4]
      simp only
      rw [decide_eq_true (by omega : ((i : Int) < 7))]
      simp only [if_true, Option.bind_some]
      by_cases hl : i < s.length
      · have hd : s.drop i = s[i] :: s.drop (i + 1) := List.drop_eq_getElem_cons hl
        have ht : s.take (i + 1) = s.take i ++ [s[i]] := by rw [List.take_add_one, List.getElem?_eq_getElem hl]; rfl
        have hx := s[i].toNat_lt
        have hn := numV_lt (s.take i)
        rw [List.length_take, Nat.min_eq_left h3, pow128] at hn
        have hp : 2 ^ (7 * i) ≤ 2 ^ 42 := Nat.pow_le_pow_right (by decide) (by omega)
        have hdm : s[i].toNat % 128 < 128 := Nat.mod_lt _ (by decide)
        have ea : iand .u8 ((s[i].toNat : Nat) : Int) (127 : Int) = ((s[i].toNat % 128 : Nat) : Int) := by
          rw [show (127 : Int) = ((127 : Nat) : Int) from rfl, iand8 (by omega) (by decide), show s[i].toNat &&& 127 = s[i].toNat % 128 from Nat.and_two_pow_sub_one_eq_mod _ 7]
        have eb : IntKind.u64.wrap (IntKind.i64.wrap ((7 : Int) * (i : Int))) = ((7 * i : Nat) : Int) := by rw [wrap_ok (by omega) (by omega), wrap64u]; omega
        have hmul : s[i].toNat % 128 * 2 ^ (7 * i) ≤ 127 * 2 ^ 42 := Nat.mul_le_mul (by omega) hp
        have ec : ior .i64 (numV (s.take i) : Int) (ishl .i64 (IntKind.i64.wrap ((s[i].toNat % 128 : Nat) : Int)) ((7 * i : Nat) : Int)) = ((numV (s.take i) + 128 ^ i * (s[i].toNat % 128) : Nat) : Int) := by
          rw [wrap_ok (by omega) (by omega), ishl64 (by omega) (by omega), ior64 (by omega) (by omega), or_add _ _ _ hn, pow128]
        rw [decide_eq_true (by omega : (i : Int) < ((s.length : Nat) : Int)), sidx_nat s i hl, hd]
        simp only [if_true, Option.bind_some, ea, eb, ec]
        rw [wrap_ok (by omega) (by omega), show 7 - i = (7 - (i + 1)) + 1 by omega]
        by_cases hc : s[i].toNat < 128
        · right
          refine ⟨_, ?_, .inl rfl⟩
          rw [decide_eq_false (by omega : ¬ ((s[i].toNat : Nat) : Int) ≥ 128), readN, decide_eq_true hc]
          simp only [Bool.false_eq_true, if_false, cond_true, readI]
          have hm : s[i].toNat % 128 = s[i].toNat := Nat.mod_eq_of_lt hc
          rw [hm]
          by_cases hz : s[i].toNat = 0
          · by_cases h0 : 0 < i
            · rw [decide_eq_true (⟨hz, h0⟩ : s[i].toNat = 0 ∧ 0 < i), decide_eq_true (by omega : ((s[i].toNat : Nat) : Int) = 0), decide_eq_true (by omega : (i : Int) > 0)]
              rfl
            · rw [decide_eq_false (by omega : ¬ (s[i].toNat = 0 ∧ 0 < i)), decide_eq_true (by omega : ((s[i].toNat : Nat) : Int) = 0), decide_eq_false (by omega : ¬ (i : Int) > 0)]
              rfl
          · rw [decide_eq_false (by omega : ¬ (s[i].toNat = 0 ∧ 0 < i)), decide_eq_false (by omega : ¬ ((s[i].toNat : Nat) : Int) = 0)]
            rfl
        · left
          rw [decide_eq_true (by omega : ((s[i].toNat : Nat) : Int) ≥ 128)]
          have hns : numV (s.take (i + 1)) = numV (s.take i) + 128 ^ i * (s[i].toNat % 128) := by
            rw [ht, numV_snoc, List.length_take, Nat.min_eq_left h3]
          refine ⟨(_, _), rfl, by rw [hns], by simp, by omega, ?_⟩
          rw [readI_step _ _ _ _ _ hc, hns]
      · right
        have hd : s.drop i = [] := List.drop_eq_nil_of_le (by omega)
        rw [decide_eq_false (by omega : ¬ (i : Int) < ((s.length : Nat) : Int)), hd, show 7 - i = (7 - (i + 1)) + 1 by omega]
        exact ⟨.go (), rfl, .inr ⟨rfl, rfl⟩⟩) (by
      rintro ⟨n, j⟩ ⟨h1, h2, h3, h4⟩
      simp only at h1 h2
      subst h1 h2
      exact ⟨.go (), rfl, .inr ⟨rfl, h4⟩⟩)
  rw [hr]
  rcases hq with rfl | ⟨rfl, h⟩
  · rfl
  · rw [h]; rfl

theorem ssub_nat (s : List UInt8) (a b : Nat) (h1 : a ≤ b) (h2 : b ≤ s.length) : ssub s (a : Int) (b : Int) = some ((s.drop a).take (b - a)) := by
  unfold ssub
  rw [if_pos ⟨by omega, by omega, by omega⟩, Int.toNat_natCast, Int.toNat_natCast]
theorem ssub_end (s : List UInt8) (a : Nat) (h : a ≤ s.length) : ssub s (a : Int) (s.length : Int) = some (s.drop a) := by
  rw [ssub_nat s a s.length h (Nat.le_refl _), List.take_of_length_le (by simp)]
theorem num_loop {ρ : Type} (s : List UInt8) (k : Nat) (h1 : 1 ≤ k) (h7 : k ≤ 7) (hk : k ≤ s.length) :
    loopO (ρ := Ctl Int ρ) (fun (S9 : Int × Int) => if (decide (S9.2 ≥ (0 : Int))) = true then ((sidx s S9.2).bind fun E14 =>
  some (.go (IntKind.i64.wrap (IntKind.i64.wrap (S9.1 * (128 : Int)) + (Int.tmod (IntKind.i64.wrap ((E14.toNat : Nat) : Int)) (128 : Int))), IntKind.i64.wrap (S9.2 - (1 : Int)))))
  else (some (.done (.go S9.1))))
  ((0 : Int), (k : Int) - 1) = some (.go (numV (s.take k) : Int)) := by
  have hlen : (s.take k).length = k := by rw [List.length_take]; omega
  rw [loopO_count (fun t => ((numV ((s.take k).drop (k - t)) : Int), (k : Int) - 1 - (t : Int))) k (r := Ctl.go (numV (s.take k) : Int)) ?h0]
  case h0 => rw [show k - 0 = k by omega, List.drop_of_length_le (by omega)]; simp [numV]
  · intro t ht
    have hi : (k : Int) - 1 - (t : Int) = ((k - 1 - t : Nat) : Int) := by omega
    have hd : (s.take k).drop (k - (t + 1)) = s[k - 1 - t] :: (s.take k).drop (k - t) := by
      rw [show k - (t + 1) = k - 1 - t by omega, List.drop_eq_getElem_cons (by omega), List.getElem_take]
      rw [show k - 1 - t + 1 = k - t by omega]
    have hx := (s[k - 1 - t]).toNat_lt
    have hn := numV_lt ((s.take k).drop (k - t))
    have hl : ((s.take k).drop (k - t)).length = t := by rw [List.length_drop, hlen]; omega
    rw [hl] at hn
    have hp : 128 ^ t ≤ 128 ^ 6 := Nat.pow_le_pow_right (by decide) (by omega)
    have hm : Int.tmod (((s[k - 1 - t]).toNat : Nat) : Int) (128 : Int) = (((s[k - 1 - t]).toNat % 128 : Nat) : Int) := by rw [show (128 : Int) = ((128 : Nat) : Int) from rfl, ← Int.ofNat_tmod]
    simp only [hi, sidx_nat s (k - 1 - t) (by omega), Option.bind_some]
    rw [if_pos (by simp only [decide_eq_true_eq]; omega), wrap_ok (n := (((s[k - 1 - t]).toNat : Nat) : Int)) (by omega) (by omega), hm, hd, numV]
    generalize numV ((s.take k).drop (k - t)) = z at hn
    rw [wrap_ok (n := (z : Int) * 128) (by omega) (by omega), wrap_ok (by omega) (by omega), wrap_ok (by omega) (by omega)]
    congr 3
    · omega
    · omega
  · rw [if_neg (by simp only [decide_eq_true_eq]; omega)]
    simp
theorem spec_ReadVar_eq (s : List UInt8) (hs : s.length ≤ 1099511627776) : spec_ReadVar s = some (readR (readN 7 s)) := by
  unfold spec_ReadVar
  obtain ⟨r, hr, hq⟩ := loopO_total (ρ := Ctl Unit (Int × Int)) (s0 := (1 : Int)) (body := fun (S1 : Int) => (if (decide (S1 ≤ (7 : Int))) = true then (some (decide (S1 ≤ ((s.length : Nat) : Int))))
  else (some false)).bind (fun (T5 : Bool) =>
  if T5 = true then (bindC (loopO (fun (S9 : Int × Int) => if (decide (S9.2 ≥ (0 : Int))) = true then ((sidx s S9.2).bind fun E14 =>
  some (.go (IntKind.i64.wrap (IntKind.i64.wrap (S9.1 * (128 : Int)) + (Int.tmod (IntKind.i64.wrap ((E14.toNat : Nat) : Int)) (128 : Int))), IntKind.i64.wrap (S9.2 - (1 : Int)))))
  else (some (.done (.go S9.1))))
  ((0 : Int), IntKind.i64.wrap (S1 - (1 : Int))))
  (fun (T11 : Int) => (ssub s 0 S1).bind fun E16 =>
  (spec_Var T11).bind fun R18 =>
  if (decide (R18 = E16)) = true then (some (.done (.done (T11, S1))))
  else (some (.go (IntKind.i64.wrap (S1 + (1 : Int)))))))
  else (some (.done (.go ())))))
    (fun i S => S = ((i + 1 : Nat) : Int) ∧ ∀ j, 1 ≤ j → j ≤ i → j ≤ s.length → varN 6 (numV (s.take j)) ≠ s.take j) 7 (fun r => (∃ n k, readN 7 s = some (n, k) ∧ r = .done ((n : Int), (k : Int))) ∨ (readN 7 s = none ∧ r = .go ())) ⟨rfl, fun j h1 h2 => by omega⟩ (by
      rintro i S hi ⟨rfl, h⟩
      rw [decide_eq_true (by omega : ((i + 1 : Nat) : Int) ≤ 7)]
      simp only [if_true, Option.bind_some]
      by_cases hl : i + 1 ≤ s.length
      · rw [decide_eq_true (by omega : ((i + 1 : Nat) : Int) ≤ ((s.length : Nat) : Int)), wrap_ok (n := ((i + 1 : Nat) : Int) - 1) (by omega) (by omega)]
        simp only [if_true]
        rw [num_loop s (i + 1) (by omega) (by omega) hl]
        have hsub : ssub s 0 ((i + 1 : Nat) : Int) = some (s.take (i + 1)) := ssub_nat s 0 (i + 1) (by omega) hl
        have hn := numV_lt (s.take (i + 1))
        rw [List.length_take, Nat.min_eq_left hl] at hn
        have hp : 128 ^ (i + 1) ≤ 128 ^ 7 := Nat.pow_le_pow_right (by decide) (by omega)
        have hv : varV (numV (s.take (i + 1)) : Int) = varN 6 (numV (s.take (i + 1))) := by
          unfold varV
          rw [decide_eq_true (by omega), cond_true, Int.toNat_natCast]
        simp only [bindC_go, hsub, Option.bind_some, spec_Var_eq, hv]
        by_cases he : varN 6 (numV (s.take (i + 1))) = s.take (i + 1)
        · right
          rw [decide_eq_true he]
          refine ⟨_, rfl, .inl ⟨numV (s.take (i + 1)), i + 1, ?_, rfl⟩⟩
          cases hr : readN 7 s with
          | none => exact absurd he (readN_none 7 s hr 6 (i + 1) (by omega) (by omega) (by omega) hl)
          | some p =>
            obtain ⟨n, k⟩ := p
            obtain ⟨_, _, _, h4, _, h6⟩ := readN_some 7 s n k hr
            have := h6 6 (i + 1) (by omega) (by omega) hl he
            subst this
            rw [h4]
        · left
          rw [decide_eq_false he]
          refine ⟨_, rfl, by rw [wrap_ok (by omega) (by omega)]; omega, fun j h1 h2 h3 => ?_⟩
          by_cases e : j = i + 1
          · subst e; exact he
          · exact h j h1 (by omega) h3
      · right
        rw [decide_eq_false (by omega : ¬ ((i + 1 : Nat) : Int) ≤ ((s.length : Nat) : Int))]
        refine ⟨.go (), rfl, .inr ⟨?_, rfl⟩⟩
        cases hr : readN 7 s with
        | none => rfl
        | some p =>
          obtain ⟨n, k⟩ := p
          obtain ⟨h1, _, h3, h4, h5, _⟩ := readN_some 7 s n k hr
          rw [h4] at h5
          exact absurd h5 (h k h1 (by omega) h3)) (by
      rintro S ⟨rfl, h⟩
      refine ⟨.go (), rfl, .inr ⟨?_, rfl⟩⟩
      cases hr : readN 7 s with
      | none => rfl
      | some p =>
        obtain ⟨n, k⟩ := p
        obtain ⟨h1, h2, h3, h4, h5, _⟩ := readN_some 7 s n k hr
        rw [h4] at h5
        exact absurd h5 (h k h1 h2 h3))
  rw [hr]
  rcases hq with ⟨n, k, e, rfl⟩ | ⟨e, rfl⟩
  · rw [e]; rfl
  · rw [e]; rfl
/-- so many numbers read from a place on -/
def l6V (s : List UInt8) : Nat → Nat → List Int × Int
  | 0, a => ([], (a : Int))
  | n + 1, a => bif decide (s.length < a) then ([], -1) else match readN 7 (s.drop a) with
    | some (x, k) => ((x : Int) :: (l6V s n (a + k)).1, (l6V s n (a + k)).2)
    | none => ([], -1)
theorem spec_l6Vars_eq (s : List UInt8) (a n : Nat) (hs : s.length ≤ 1099511627776) (hn : n ≤ 1048576) (ha : a ≤ 2199023255552) : spec_l6Vars s (a : Int) (n : Int) = some (l6V s n a) := by
  unfold spec_l6Vars
  have key : ∀ (m i a : Nat) (out : List Int), i + m = n → out.length = i → a ≤ 2199023255552 →
      bindC (loopO (fun (S2 : Int × Int × List Int) => if (decide (S2.2.1 < (n : Int))) = true then ((if (decide (S2.1 < (0 : Int))) = true then (some true)
  else (some (decide (S2.1 > ((s.length : Nat) : Int))))).bind (fun (T7 : Bool) =>
  if T7 = true then (some (.done (.done (S2.2.2, (-1 : Int)))))
  else ((ssub s S2.1 (s.length : Int)).bind fun E11 =>
  (spec_ReadVar E11).bind fun R13 =>
  if (decide (R13.2 = (0 : Int))) = true then (some (.done (.done (S2.2.2, (-1 : Int)))))
  else ((app 8 S2.2.2 ([R13.1])).bind fun E19 =>
  some (.go (IntKind.i64.wrap (S2.1 + R13.2), IntKind.i64.wrap (S2.2.1 + (1 : Int)), E19))))))
  else (some (.done (.go (S2.1, S2.2.2)))))
  ((a : Int), (i : Int), out)) (fun (T4 : Int × List Int) => some (T4.2, T4.1)) = some (out ++ (l6V s m a).1, (l6V s m a).2) := by
    intro m
    induction m with
    | zero =>
      intro i a out hi ho ha
      rw [loopO_eq]
      simp only
      rw [if_neg (by simp only [decide_eq_true_eq]; omega)]
      simp [l6V]
    | succ m ih =>
      intro i a out hi ho ha
      rw [loopO_eq]
      simp only
      rw [if_pos (by simp only [decide_eq_true_eq]; omega), decide_eq_false (by omega : ¬ (a : Int) < 0)]
      simp only [Bool.false_eq_true, if_false, Option.bind_some, l6V]
      by_cases hl : s.length < a
      · rw [decide_eq_true hl, decide_eq_true (by omega : (a : Int) > ((s.length : Nat) : Int))]
        simp
      · rw [decide_eq_false hl, decide_eq_false (by omega : ¬ (a : Int) > ((s.length : Nat) : Int))]
        simp only [Bool.false_eq_true, if_false, ssub_end s a (by omega), Option.bind_some, spec_ReadVar_eq (s.drop a) (by simp; omega), cond_false]
        cases hr : readN 7 (s.drop a) with
        | none => simp [readR]
        | some p =>
          obtain ⟨x, k⟩ := p
          obtain ⟨h1, h2, _⟩ := readN_some 7 _ x k hr
          have hk0 : decide ((readR (some (x, k))).2 = 0) = false := decide_eq_false (by show ¬ (k : Int) = 0; omega)
          rw [hk0]
          simp only [Bool.false_eq_true, if_false, readR]
          rw [app_ok (by simp; omega) (by simp; omega)]
          simp only [Option.bind_some]
          rw [wrap_ok (n := (a : Int) + (k : Int)) (by omega) (by omega), wrap_ok (n := (i : Int) + 1) (by omega) (by omega)]
          have := ih (i + 1) (a + k) (out ++ [(x : Int)]) (by omega) (by simp; omega) (by omega)
          rw [show ((a : Int) + (k : Int)) = ((a + k : Nat) : Int) by omega, show ((i : Int) + 1) = ((i + 1 : Nat) : Int) by omega, this, List.append_assoc]
          rfl
  have := key n 0 a [] (by omega) rfl ha
  simpa using this

def nonceV (kind n : Int) : List UInt8 := bif decide (0 ≤ kind ∧ kind ≤ 255) && decide (0 ≤ n ∧ n ≤ 562949953421311) then [toU8 kind, 0, 0, 0, 0] ++ fixedV n 7 else []
theorem fixedV_len (n : Int) (w : Nat) : (fixedV n w).length ≤ w := by
  unfold fixedV
  cases decide (1 ≤ (w : Int) ∧ (w : Int) ≤ 7) && (decide (0 ≤ n) && decide (n.toNat / 256 ^ (w : Int).toNat = 0))
  · simp
  · rw [cond_true, fixV_len]; simp
theorem fixedV_len7 (n : Int) (h : 0 ≤ n ∧ n ≤ 562949953421311) : (fixedV n 7).length = 7 := by
  unfold fixedV
  have h1 : n.toNat / 256 ^ (7 : Int).toNat = 0 := Nat.div_eq_of_lt (by show n.toNat < 256 ^ 7; omega)
  rw [decide_eq_true h.1, decide_eq_true h1]
  show (fixV n.toNat 7).length = 7
  exact fixV_len _ 7
theorem varN_len : ∀ (f n : Nat), (varN f n).length ≤ f + 1
  | 0, n => Nat.le_refl _
  | f + 1, n => by
    by_cases h : n < 128
    · rw [varN_lt h]; simp
    · rw [varN_ge (by omega), List.length_cons]
      have := varN_len f (n / 128)
      omega
theorem varV_len (n : Int) : (varV n).length ≤ 7 := by
  unfold varV
  cases decide (0 ≤ n ∧ n ≤ 562949953421311)
  · simp
  · exact varN_len 6 _
def mintOk (secret : List UInt8) (t e : Int) : Bool := decide (secret.length = 32) && (decide (1 ≤ t ∧ t ≤ 99) && decide (0 ≤ e ∧ e ≤ 1000000))
theorem mintOk_iff {secret : List UInt8} {t e : Int} (h : mintOk secret t e = true) : secret.length = 32 ∧ (1 ≤ t ∧ t ≤ 99) ∧ 0 ≤ e ∧ e ≤ 1000000 := by
  unfold mintOk at h
  simp only [Bool.and_eq_true, decide_eq_true_eq] at h
  exact h
theorem readN_var {s : List UInt8} {n k : Nat} (h : readN 7 s = some (n, k)) : varV (n : Int) = s.take k ∧ k ≤ s.length ∧ 1 ≤ k ∧ k ≤ 7 := by
  obtain ⟨h1, h2, h3, h4, h5, _⟩ := readN_some 7 s n k h
  have hn := numV_lt (s.take k)
  rw [List.length_take, Nat.min_eq_left h3, ← h4] at hn
  have hp : 128 ^ k ≤ 128 ^ 7 := Nat.pow_le_pow_right (by decide) h2
  refine ⟨?_, h3, h1, h2⟩
  unfold varV
  rw [decide_eq_true (by omega), cond_true, Int.toNat_natCast]
  exact h5
theorem skip_eq (w tenant k t : Int) : (if (!(decide (w = (0 : Int)))) = true then (if (!(decide (w = tenant))) = true then (some true)
  else (if (decide (k = (13 : Int))) = true then (some (!(decide (t = tenant))))
  else (some false)))
  else (if (decide (k = (13 : Int))) = true then (some (!(decide (t = tenant))))
  else (some false))) = some ((!decide (w = 0) && !decide (w = tenant)) || (decide (k = 13) && !decide (t = tenant))) := by
  cases decide (w = 0) <;> cases decide (w = tenant) <;> cases decide (k = 13) <;> cases decide (t = tenant) <;> rfl
theorem iand32 {a b : Nat} (ha : a < 2 ^ 32) (hb : b < 2 ^ 32) : iand .u32 (a : Int) (b : Int) = ((a &&& b : Nat) : Int) := by
  unfold iand
  have h1 : a &&& b ≤ a := Nat.and_le_left
  have e : (BitVec.ofInt IntKind.u32.bits (a : Int) &&& BitVec.ofInt IntKind.u32.bits (b : Int)).toNat = a &&& b := by
    show (BitVec.ofInt 32 (a : Int) &&& BitVec.ofInt 32 (b : Int)).toNat = a &&& b
    rw [BitVec.ofInt_natCast, BitVec.ofInt_natCast, BitVec.toNat_and, BitVec.toNat_ofNat, BitVec.toNat_ofNat, Nat.mod_eq_of_lt (by omega), Nat.mod_eq_of_lt (by omega)]
  rw [e, wrap32]
  omega
/-- a step of the checksum -/
def crcS (c : Nat) : Nat := bif decide (c % 2 = 1) then (c / 2) ^^^ 2197175160 else c / 2
theorem crcS_lt {c : Nat} (h : c < 2 ^ 32) : crcS c < 2 ^ 32 := by
  unfold crcS
  have h2 : c / 2 < 2 ^ 32 := by omega
  cases decide (c % 2 = 1)
  · exact h2
  · exact Nat.xor_lt_two_pow h2 (by decide)
def crcR : Nat → Nat → Nat
  | 0, c => c
  | k + 1, c => crcS (crcR k c)
theorem crcR_lt {c : Nat} (h : c < 2 ^ 32) : ∀ k, crcR k c < 2 ^ 32
  | 0 => h
  | k + 1 => crcS_lt (crcR_lt h k)
def crcN (s : List UInt8) : Nat → Nat
  | 0 => 4294967295
  | k + 1 => match s[k]? with
    | some x => crcR 8 (crcN s k ^^^ x.toNat)
    | none => crcN s k
theorem crcN_succ (s : List UInt8) (k : Nat) (h : k < s.length) : crcN s (k + 1) = crcR 8 (crcN s k ^^^ s[k].toNat) := by
  show (match s[k]? with | some x => _ | none => _) = _
  rw [List.getElem?_eq_getElem h]
theorem byte_lt (x : UInt8) : x.toNat < 2 ^ 32 := by have := x.toNat_lt; omega
theorem crcN_lt (s : List UInt8) : ∀ k, k ≤ s.length → crcN s k < 2 ^ 32
  | 0, _ => by show 4294967295 < 2 ^ 32; decide
  | k + 1, h => by rw [crcN_succ s k (by omega)]; exact crcR_lt (Nat.xor_lt_two_pow (crcN_lt s k (by omega)) (byte_lt _)) 8
def crcV (s : List UInt8) : Int := 4294967295 - (crcN s s.length : Int)
theorem crcV_range (s : List UInt8) : 0 ≤ crcV s ∧ crcV s ≤ 4294967295 := by
  have := crcN_lt s s.length (Nat.le_refl _)
  unfold crcV
  omega
theorem impl_Crc_eq (s : List UInt8) (h : s.length ≤ 1099511627776) : impl_Crc s = some (crcV s) := by
  unfold impl_Crc
  rw [loopO_count (fun k => ((crcN s k : Int), (k : Int))) s.length (r := Ctl.go (crcN s s.length : Int)) ?h0]
  case h0 => rfl
  · have hl := crcN_lt s s.length (Nat.le_refl _)
    simp only [bindC_go]
    unfold crcV
    generalize crcN s s.length = z at hl
    rw [wrap_ok (n := (z : Int)) (by omega) (by omega), wrap_ok (by omega) (by omega)]
  · intro k hk
    have hl := crcN_lt s k (by omega)
    have hx := byte_lt s[k]
    have e1 : IntKind.u32.wrap ((s[k].toNat : Nat) : Int) = ((s[k].toNat : Nat) : Int) := by rw [wrap32]; omega
    have hc := Nat.xor_lt_two_pow hl hx
    simp only [sidx_nat s k hk, Option.bind_some, e1, ixor32 hl hx, crcN_succ s k hk]
    generalize crcN s k ^^^ s[k].toNat = c at hc
    rw [if_pos (by simpa using hk), loopO_count (fun j => ((crcR j c : Int), (j : Int))) 8 (r := Ctl.go (crcR 8 c : Int)) ?h1]
    case h1 => rfl
    · simp only [bindC_go]
      rw [wrap_ok (by omega) (by omega)]
      rfl
    · intro j hj
      have hj2 := crcR_lt hc j
      have e3 : ((crcR (j + 1) c : Nat) : Int) = ((crcS (crcR j c) : Nat) : Int) := rfl
      rw [e3]
      generalize crcR j c = q at hj2
      have a1 : iand .u32 (q : Int) (1 : Int) = ((q % 2 : Nat) : Int) := by
        rw [show (1 : Int) = ((1 : Nat) : Int) from rfl, iand32 hj2 (by decide), show q &&& 1 = q % 2 from Nat.and_two_pow_sub_one_eq_mod q 1]
      have a2 : ishr .u32 (q : Int) (1 : Int) = ((q / 2 : Nat) : Int) := ishr_nat (n := 1) (by decide)
      have a3 : ixor .u32 ((q / 2 : Nat) : Int) (2197175160 : Int) = ((q / 2 ^^^ 2197175160 : Nat) : Int) := ixor32 (by omega) (by decide)
      simp only [a1, a2, a3]
      rw [if_pos (by simp only [decide_eq_true_eq]; omega), wrap_ok (n := (j : Int) + 1) (by omega) (by omega)]
      unfold crcS
      by_cases h2 : q % 2 = 1
      · rw [decide_eq_true h2, decide_eq_true (by omega : ((q % 2 : Nat) : Int) = 1)]
        rfl
      · rw [decide_eq_false h2, decide_eq_false (by omega : ¬ ((q % 2 : Nat) : Int) = 1)]
        rfl
    · simp
  · simp
theorem spec_Crc_eq (s : List UInt8) (h : s.length ≤ 1099511627776) : spec_Crc s = some (crcV s) := by
  unfold spec_Crc
  rw [loopO_count (fun k => ((crcN s k : Int), (k : Int))) s.length (r := Ctl.go (crcN s s.length : Int)) ?h0]
  case h0 => rfl
  · have hl := crcN_lt s s.length (Nat.le_refl _)
    simp only [bindC_go]
    unfold crcV
    generalize crcN s s.length = z at hl
    rw [wrap_ok (by omega) (by omega)]
  · intro k hk
    have hl := crcN_lt s k (by omega)
    have hx := byte_lt s[k]
    have e1 : IntKind.i64.wrap ((s[k].toNat : Nat) : Int) = ((s[k].toNat : Nat) : Int) := wrap_ok (by omega) (by omega)
    have hc := Nat.xor_lt_two_pow hl hx
    have e2 : ixor .i64 (crcN s k : Int) ((s[k].toNat : Nat) : Int) = ((crcN s k ^^^ s[k].toNat : Nat) : Int) := ixor64 (by omega) (by omega)
    simp only [sidx_nat s k hk, Option.bind_some, e1, e2, crcN_succ s k hk]
    generalize crcN s k ^^^ s[k].toNat = c at hc
    rw [if_pos (by simpa using hk), loopO_count (fun j => ((crcR j c : Int), (j : Int))) 8 (r := Ctl.go (crcR 8 c : Int)) ?h1]
    case h1 => rfl
    · simp only [bindC_go]
      rw [wrap_ok (by omega) (by omega)]
      rfl
    · intro j hj
      have hj2 := crcR_lt hc j
      have e3 : ((crcR (j + 1) c : Nat) : Int) = ((crcS (crcR j c) : Nat) : Int) := rfl
      rw [e3]
      generalize crcR j c = q at hj2
      have a1 : Int.tmod (q : Int) (2 : Int) = ((q % 2 : Nat) : Int) := by rw [show (2 : Int) = ((2 : Nat) : Int) from rfl, ← Int.ofNat_tmod]
      have a2 : IntKind.i64.wrap (Int.tdiv (q : Int) (2 : Int)) = ((q / 2 : Nat) : Int) := by rw [show (2 : Int) = ((2 : Nat) : Int) from rfl, ← Int.ofNat_tdiv, wrap_ok (by omega) (by omega)]
      have a3 : ixor .i64 ((q / 2 : Nat) : Int) (2197175160 : Int) = ((q / 2 ^^^ 2197175160 : Nat) : Int) := ixor64 (by omega) (by decide)
      simp only [a1, a2, a3]
      rw [if_pos (by simp only [decide_eq_true_eq]; omega), wrap_ok (n := (j : Int) + 1) (by omega) (by omega)]
      unfold crcS
      by_cases h2 : q % 2 = 1
      · rw [decide_eq_true h2, decide_eq_true (by omega : ((q % 2 : Nat) : Int) = 1)]
        rfl
      · rw [decide_eq_false h2, decide_eq_false (by omega : ¬ ((q % 2 : Nat) : Int) = 1)]
        rfl
    · simp
  · simp
/-- an edit as required -/
def numV1 (n : Int) : Bool := decide (0 ≤ n ∧ n ≤ 1000000)
theorem passes {ρ α : Type} (l : List α) (p : α → Bool) (body : Int → Option (Ctl Int (Ctl Unit Bool))) (h : ∀ k (hk : k < l.length), body (k : Int) = some (if p l[k] = true then .go ((k : Int) + 1) else .done (.done false))) (hn : body (l.length : Int) = some (.done (.go ()))) :
    loopO body 0 = some (if l.all p = true then .go () else .done false) := by
  rw [loopO_is (fun k s => s = (k : Int) ∧ l.all p = (l.drop k).all p) l.length (if l.all p = true then Ctl.go () else Ctl.done false) ?h0 ?h1 ?h2]
  case h0 => exact ⟨rfl, rfl⟩
  · rintro k s hk ⟨rfl, he⟩
    rw [h k hk, he, List.drop_eq_getElem_cons hk, List.all_cons]
    cases p l[k] with
    | false => right; rfl
    | true => left; exact ⟨(k : Int) + 1, rfl, by omega, by simp⟩
  · rintro s ⟨rfl, he⟩
    rw [he, List.drop_length, hn]
    rfl
theorem lens_eq (a b : Nat) : (if (decide ((a : Int) > (12 : Int))) = true then (some true) else (some (decide ((b : Int) > (12 : Int))))) = some (!(decide (a ≤ 12) && decide (b ≤ 12))) := by
  by_cases h : a ≤ 12
  · rw [decide_eq_true h, decide_eq_false (by omega : ¬ (a : Int) > 12)]
    by_cases h2 : b ≤ 12
    · rw [decide_eq_true h2, decide_eq_false (by omega : ¬ (b : Int) > 12)]; rfl
    · rw [decide_eq_false h2, decide_eq_true (by omega : (b : Int) > 12)]; rfl
  · rw [decide_eq_false h, decide_eq_true (by omega : (a : Int) > 12)]; rfl
/-- a string behind its length -/
def pieceV (s : List UInt8) : List UInt8 := varV (s.length : Int) ++ s
theorem spec_l6Piece_eq (s : List UInt8) (h : s.length ≤ 1099511627776) : spec_l6Piece s = some (pieceV s) := by
  unfold spec_l6Piece pieceV
  have := varV_len (s.length : Int)
  rw [spec_Var_eq]
  simp only [Option.bind_some]
  rw [cat_ok (by omega)]
  rfl
theorem impl_short_eq (s : List UInt8) (h : s.length ≤ 1099511627776) : impl_short s = some (pieceV s) := by
  unfold impl_short pieceV
  have := varV_len (s.length : Int)
  rw [impl_Var_eq]
  simp only [Option.bind_some]
  rw [cat_ok (by omega)]
  rfl
theorem pieceV_len (s : List UInt8) : (pieceV s).length ≤ 7 + s.length := by
  have := varV_len (s.length : Int)
  unfold pieceV
  rw [List.length_append]; omega
theorem flat_len {α : Type} (g : α → List UInt8) (m : Nat) : ∀ (l : List α), (∀ x ∈ l, (g x).length ≤ m) → (l.flatMap g).length ≤ m * l.length
  | [], _ => by simp
  | x :: l, h => by
    have h1 := h x (by simp)
    have h2 := flat_len g m l fun y hy => h y (by simp [hy])
    rw [List.flatMap_cons, List.length_append, List.length_cons, Nat.mul_succ]
    omega
theorem flat_take {α : Type} (g : α → List UInt8) (l : List α) (k : Nat) (h : k < l.length) : (l.take (k + 1)).flatMap g = (l.take k).flatMap g ++ g l[k] := by
  rw [List.take_add_one, List.getElem?_eq_getElem h, List.flatMap_append]
  simp
theorem flat_take_len {α : Type} (g : α → List UInt8) (m : Nat) (l : List α) (k : Nat) (h : ∀ x ∈ l, (g x).length ≤ m) : ((l.take k).flatMap g).length ≤ m * l.length := by
  have h1 := flat_len g m (l.take k) fun x hx => h x (List.mem_of_mem_take hx)
  have h2 : m * (l.take k).length ≤ m * l.length := Nat.mul_le_mul_left _ (by simp; omega)
  omega
theorem varN_ne (f n : Nat) : varN f n ≠ [] := by
  by_cases h : n < 128
  · rw [varN_lt h]; simp
  · cases f with
    | zero => simp [varN]
    | succ f => rw [varN_ge (by omega)]; simp
theorem varV_ne {n : Int} (h : 0 ≤ n ∧ n ≤ 562949953421311) : varV n ≠ [] := by
  unfold varV
  rw [decide_eq_true h]
  exact varN_ne 6 _
theorem summed_eq (b : List UInt8) (h : b.length ≤ 1048576) : impl_summed b = some (fixedV (crcV b) 4 ++ b) := by
  have hr := crcV_range b
  have hl := fixedV_len (crcV b) 4
  unfold impl_summed
  rw [impl_Crc_eq b (by omega)]
  simp only [Option.bind_some, impl_Fixed_eq (crcV b) 4 (by omega)]
  rw [cat_ok (by have : (fixedV (crcV b) 4).length ≤ 4 := hl; omega)]
  rfl
theorem readN_enc : ∀ (f n : Nat) (rest : List UInt8), n < 128 ^ (f + 1) → readN (f + 1) (varN f n ++ rest) = some (n, (varN f n).length)
  | 0, n, rest, h => by
    have hn : n < 128 := by simpa using h
    rw [varN_lt hn]
    show readN 1 (toU8 (n : Int) :: rest) = _
    rw [readN, toU8_toNat, Nat.mod_eq_of_lt (by omega), decide_eq_true hn]
    rfl
  | f + 1, n, rest, h => by
    by_cases hn : n < 128
    · rw [varN_lt hn]
      show readN (f + 2) (toU8 (n : Int) :: rest) = _
      rw [readN, toU8_toNat, Nat.mod_eq_of_lt (by omega), decide_eq_true hn]
      rfl
    · have h2 : n / 128 < 128 ^ (f + 1) := by
        rw [Nat.div_lt_iff_lt_mul (by decide)]; rw [Nat.pow_succ] at h; exact h
      rw [varN_ge (by omega), List.cons_append, readN, toU8_toNat, Nat.mod_eq_of_lt (by omega), decide_eq_false (by omega), readN_enc f (n / 128) rest h2]
      simp only [cond_false]
      rw [decide_eq_false (by omega)]
      simp only [cond_false, List.length_cons]
      congr 2
      omega
theorem readV_enc (n : Int) (h : 0 ≤ n ∧ n ≤ 562949953421311) (rest : List UInt8) : readN 7 (varV n ++ rest) = some (n.toNat, (varV n).length) := by
  unfold varV
  rw [decide_eq_true h]
  exact readN_enc 6 n.toNat rest (by show n.toNat < 562949953421312; omega)
theorem readN_range {s : List UInt8} {n k : Nat} (h : readN 7 s = some (n, k)) : n < 562949953421312 ∧ 1 ≤ k ∧ k ≤ s.length := by
  obtain ⟨h1, h2, h3, h4, _, _⟩ := readN_some 7 s n k h
  have hn := numV_lt (s.take k)
  rw [List.length_take, Nat.min_eq_left h3, ← h4] at hn
  have hp : 128 ^ k ≤ 128 ^ 7 := Nat.pow_le_pow_right (by decide) h2
  exact ⟨Nat.lt_of_lt_of_le hn hp, h1, h3⟩
/-- a number read on -/
def rdN (t : List UInt8) (a : Nat) (bad : Bool) : Int × Nat × Bool := bif bad then (0, a, true) else match readN 7 (t.drop a) with
  | none => (0, a, true)
  | some (x, k) => ((x : Int), a + k, false)
theorem rdN_range (t : List UInt8) (a : Nat) (bad : Bool) (h : a ≤ t.length) : (0 ≤ (rdN t a bad).1 ∧ (rdN t a bad).1 ≤ 562949953421311) ∧ (rdN t a bad).2.1 ≤ t.length ∧ ((rdN t a bad).2.2 = false → bad = false ∧ a < (rdN t a bad).2.1) := by
  unfold rdN
  cases bad with
  | true => exact ⟨⟨by simp, by simp⟩, h, fun e => by cases e⟩
  | false =>
    simp only [cond_false]
    cases hr : readN 7 (t.drop a) with
    | none => exact ⟨⟨by simp, by simp⟩, h, fun e => by cases e⟩
    | some p =>
      obtain ⟨x, k⟩ := p
      obtain ⟨h1, h2, h3⟩ := readN_range hr
      rw [List.length_drop] at h3
      refine ⟨⟨by simp, by simp only; omega⟩, by simp only; omega, fun _ => ?_⟩
      exact ⟨trivial, show a < a + k by omega⟩
theorem number_eq (t : List UInt8) (a : Nat) (bad : Bool) (h : a ≤ t.length) (ht : t.length ≤ 1099511627776) : impl_reader_number { text := t, at_ := (a : Int), bad := bad } = some ((rdN t a bad).1, { text := t, at_ := ((rdN t a bad).2.1 : Int), bad := (rdN t a bad).2.2 }) := by
  unfold impl_reader_number rdN
  cases bad with
  | true => rfl
  | false =>
    simp only [Bool.false_eq_true, if_false, ssub_end t a h, Option.bind_some, impl_ReadVar_eq (t.drop a) (by simp; omega), cond_false]
    cases hr : readN 7 (t.drop a) with
    | none => rfl
    | some p =>
      obtain ⟨x, k⟩ := p
      obtain ⟨h1, h2, h3⟩ := readN_range hr
      rw [List.length_drop] at h3
      have hk0 : decide ((readR (some (x, k))).2 = 0) = false := decide_eq_false (by show ¬ (k : Int) = 0; omega)
      rw [hk0]
      simp only [Bool.false_eq_true, if_false, readR]
      rw [wrap_ok (by omega) (by omega), show (a : Int) + (k : Int) = ((a + k : Nat) : Int) by omega]
/-- bytes read on -/
def rdB (t : List UInt8) (a : Nat) (bad : Bool) (n : Int) : List UInt8 × Nat × Bool := bif bad || decide (t.length < a + n.toNat) then ([], a, true) else ((t.drop a).take n.toNat, a + n.toNat, false)
theorem rdB_range (t : List UInt8) (a : Nat) (bad : Bool) (n : Int) (h : a ≤ t.length) : (rdB t a bad n).2.1 ≤ t.length ∧ a ≤ (rdB t a bad n).2.1 ∧ ((rdB t a bad n).2.2 = false → bad = false) := by
  unfold rdB
  cases bad with
  | true => exact ⟨h, Nat.le_refl _, fun e => by cases e⟩
  | false =>
    by_cases c : t.length < a + n.toNat
    · rw [decide_eq_true c]; exact ⟨h, Nat.le_refl _, fun e => by cases e⟩
    · rw [decide_eq_false c]; exact ⟨by simp only [Bool.or_self, cond_false]; omega, by simp, fun _ => rfl⟩
theorem bytes_eq (t : List UInt8) (a : Nat) (bad : Bool) (n : Int) (h : a ≤ t.length) (ht : t.length ≤ 1099511627776) (hn : 0 ≤ n ∧ n ≤ 562949953421311) : impl_reader_bytes { text := t, at_ := (a : Int), bad := bad } n = some ((rdB t a bad n).1, { text := t, at_ := ((rdB t a bad n).2.1 : Int), bad := (rdB t a bad n).2.2 }) := by
  unfold impl_reader_bytes rdB
  cases bad with
  | true => rfl
  | false =>
    simp only [Bool.false_eq_true, if_false, Option.bind_some, Bool.false_or]
    rw [wrap_ok (n := ((t.length : Nat) : Int) - (a : Int)) (by omega) (by omega)]
    by_cases c : t.length < a + n.toNat
    · rw [decide_eq_true c, decide_eq_true (by omega : n > ((t.length : Nat) : Int) - (a : Int))]
      rfl
    · rw [decide_eq_false c, decide_eq_false (by omega : ¬ n > ((t.length : Nat) : Int) - (a : Int))]
      simp only [Bool.false_eq_true, if_false, cond_false]
      rw [wrap_ok (n := (a : Int) + n) (by omega) (by omega), wrap_ok (n := (a : Int) + n - n) (by omega) (by omega), show (a : Int) + n - n = (a : Int) by omega, show (a : Int) + n = ((a + n.toNat : Nat) : Int) by omega, ssub_nat t a (a + n.toNat) (by omega) (by omega)]
      simp only [Option.bind_some, Nat.add_sub_cancel_left]
def rdS (t : List UInt8) (a : Nat) (bad : Bool) : List UInt8 × Nat × Bool := rdB t (rdN t a bad).2.1 (rdN t a bad).2.2 (rdN t a bad).1
theorem short_eq (t : List UInt8) (a : Nat) (bad : Bool) (h : a ≤ t.length) (ht : t.length ≤ 1099511627776) : impl_reader_short { text := t, at_ := (a : Int), bad := bad } = some ((rdS t a bad).1, { text := t, at_ := ((rdS t a bad).2.1 : Int), bad := (rdS t a bad).2.2 }) := by
  obtain ⟨h1, h2, _⟩ := rdN_range t a bad h
  unfold impl_reader_short rdS
  rw [number_eq t a bad h ht]
  simp only [Option.bind_some]
  rw [bytes_eq t _ _ _ h2 ht h1]
  rfl
theorem rdS_range (t : List UInt8) (a : Nat) (bad : Bool) (h : a ≤ t.length) : (rdS t a bad).2.1 ≤ t.length ∧ ((rdS t a bad).2.2 = false → bad = false ∧ a < (rdS t a bad).2.1) := by
  obtain ⟨h1, h2, h3⟩ := rdN_range t a bad h
  obtain ⟨h4, h5, h6⟩ := rdB_range t (rdN t a bad).2.1 (rdN t a bad).2.2 (rdN t a bad).1 h2
  unfold rdS
  refine ⟨h4, fun e => ?_⟩
  obtain ⟨h7, h8⟩ := h3 (h6 e)
  exact ⟨h7, by omega⟩
/-- items read on, as many as are said, up to one that is bad -/
def itemsI {α : Type} (g : Nat → α × Nat × Bool) : Nat → Nat → Bool → Int → List α → Nat × Bool × List α
  | 0, a, bad, _, out => (a, bad, out)
  | f + 1, a, bad, n, out => bif decide (n > 0) && !bad then itemsI g f (g a).2.1 (g a).2.2 (n - 1) (out ++ [(g a).1]) else (a, bad, out)
theorem items_loop {α ρ : Type} (t : List UInt8) (g : Nat → α × Nat × Bool) (body : List UInt8 × Int × Bool × Int × List α → Option (Ctl (List UInt8 × Int × Bool × Int × List α) (Ctl (List UInt8 × Int × Bool × List α) ρ)))
    (hg : ∀ a, a ≤ t.length → (g a).2.1 ≤ t.length ∧ ((g a).2.2 = false → a < (g a).2.1))
    (h1 : ∀ (a : Nat) (n : Int) (out : List α), a ≤ t.length → 0 < n → n ≤ 562949953421311 → out.length ≤ 4194304 → body (t, (a : Int), false, n, out) = some (.go (t, ((g a).2.1 : Int), (g a).2.2, n - 1, out ++ [(g a).1])))
    (h2 : ∀ (a : Nat) (bad : Bool) (n : Int) (out : List α), n ≤ 0 ∨ bad = true → body (t, (a : Int), bad, n, out) = some (.done (.go (t, (a : Int), bad, out)))) :
    ∀ (f a : Nat) (bad : Bool) (n : Int) (out : List α), a ≤ t.length → n ≤ 562949953421311 → (bad = true ∨ t.length - a + 1 ≤ f) → out.length + f ≤ 4194304 →
      loopO body (t, (a : Int), bad, n, out) = some (.go (t, ((itemsI g (f + 1) a bad n out).1 : Int), (itemsI g (f + 1) a bad n out).2.1, (itemsI g (f + 1) a bad n out).2.2)) := by
  intro f
  induction f with
  | zero =>
    intro a bad n out ha hn hf ho
    obtain rfl : bad = true := by rcases hf with h | h; exact h; omega
    rw [loopO_eq, h2 a true n out (.inr rfl)]
    simp [itemsI]
  | succ f ih =>
    intro a bad n out ha hn hf ho
    rw [loopO_eq]
    by_cases c : 0 < n ∧ bad = false
    · obtain ⟨c1, rfl⟩ := c
      obtain ⟨g1, g2⟩ := hg a ha
      rw [h1 a n out ha c1 hn (by omega)]
      simp only
      rw [itemsI, decide_eq_true (by omega : n > 0)]
      simp only [Bool.not_false, Bool.and_self, cond_true]
      refine ih _ _ _ _ g1 (by omega) ?_ (by simp; omega)
      cases hb : (g a).2.2 with
      | true => exact .inl rfl
      | false =>
        have := g2 hb
        rcases hf with h | h
        · cases h
        · right; omega
    · have c2 : n ≤ 0 ∨ bad = true := by
        cases bad with
        | true => exact .inr rfl
        | false => left; have : ¬ 0 < n := fun h => c ⟨h, rfl⟩; omega
      rw [h2 a bad n out c2, itemsI]
      have : (decide (n > 0) && !bad) = false := by
        rcases c2 with h | h
        · rw [decide_eq_false (by omega)]; rfl
        · rw [h]; simp
      rw [this]
      rfl
theorem itemsI_out {α : Type} (g : Nat → α × Nat × Bool) (t : List UInt8) (hg : ∀ a, a ≤ t.length → (g a).2.1 ≤ t.length ∧ ((g a).2.2 = false → a < (g a).2.1)) : ∀ (f a : Nat) (bad : Bool) (n : Int) (out : List α), a ≤ t.length → (itemsI g f a bad n out).1 ≤ t.length
  | 0, a, bad, n, out, h => h
  | f + 1, a, bad, n, out, h => by
    rw [itemsI]
    cases decide (n > 0) && !bad
    · exact h
    · exact itemsI_out g t hg f _ _ _ _ (hg a h).1
theorem drop_enc {t x rest : List UInt8} {a : Nat} (h : t.drop a = x ++ rest) : t.drop (a + x.length) = rest := by
  rw [← List.drop_drop, h, List.drop_left]
/-- .. of what was written so -/
theorem items_enc {α : Type} (g : Nat → α × Nat × Bool) (enc : α → List UInt8) (t : List UInt8) : ∀ (l : List α) (f a : Nat) (out : List α) (rest : List UInt8), (∀ x ∈ l, ∀ a rest, t.drop a = enc x ++ rest → g a = (x, a + (enc x).length, false)) →
    t.drop a = l.flatMap enc ++ rest → l.length ≤ f → itemsI g f a false (l.length : Int) out = (a + (l.flatMap enc).length, false, out ++ l)
  | [], f, a, out, rest, _, _, _ => by
    cases f with
    | zero => simp [itemsI]
    | succ f => simp [itemsI]
  | x :: l, f, a, out, rest, hg, hd, hf => by
    cases f with
    | zero => simp at hf
    | succ f =>
      have h1 : t.drop a = enc x ++ (l.flatMap enc ++ rest) := by rw [hd, List.flatMap_cons, List.append_assoc]
      rw [itemsI, hg x (by simp) a _ h1, decide_eq_true (by simp only [List.length_cons]; omega : ((x :: l).length : Int) > 0)]
      simp only [Bool.not_false, Bool.and_self, cond_true]
      rw [show (((x :: l).length : Nat) : Int) - 1 = ((l.length : Nat) : Int) by simp only [List.length_cons]; omega, items_enc g enc t l f (a + (enc x).length) (out ++ [x]) rest (fun y hy => hg y (by simp [hy])) (drop_enc h1) (by simpa using hf)]
      simp only [List.flatMap_cons, List.length_append, List.append_assoc, List.cons_append, List.nil_append, Nat.add_assoc]
theorem rdN_enc {t rest : List UInt8} {a : Nat} {n : Int} (h : t.drop a = varV n ++ rest) (hn : 0 ≤ n ∧ n ≤ 562949953421311) : rdN t a false = (n, a + (varV n).length, false) := by
  unfold rdN
  rw [h, readV_enc n hn rest]
  simp only [cond_false]
  rw [show ((n.toNat : Nat) : Int) = n by omega]
theorem rdS_enc {t rest x : List UInt8} {a : Nat} (h : t.drop a = pieceV x ++ rest) (hx : x.length ≤ 1048576) (ha : a ≤ t.length) : rdS t a false = (x, a + (pieceV x).length, false) := by
  have h1 : t.drop a = varV (x.length : Int) ++ (x ++ rest) := by rw [h]; unfold pieceV; rw [List.append_assoc]
  have h2 := drop_enc h1
  have hl := congrArg List.length h2
  rw [List.length_drop, List.length_append] at hl
  unfold rdS
  rw [rdN_enc h1 (by omega)]
  unfold rdB
  simp only [Bool.false_or, Int.toNat_natCast]
  by_cases hx0 : x.length = 0
  · have h0 : x = [] := List.eq_nil_of_length_eq_zero hx0
    have hl2 := congrArg List.length h1
    rw [List.length_drop, List.length_append] at hl2
    rw [decide_eq_false (by omega)]
    simp only [cond_false]
    subst h0
    simp [pieceV]
  · rw [decide_eq_false (by omega)]
    simp only [cond_false]
    rw [h2, List.take_left]
    simp only [pieceV, List.length_append, Nat.add_assoc]
theorem fixed4_len (n : Int) (h : 0 ≤ n ∧ n ≤ 4294967295) : (fixedV n 4).length = 4 := by
  unfold fixedV
  have h1 : n.toNat / 256 ^ (4 : Int).toNat = 0 := Nat.div_eq_of_lt (by show n.toNat < 256 ^ 4; omega)
  rw [decide_eq_true h.1, decide_eq_true h1]
  show (fixV n.toNat 4).length = 4
  exact fixV_len _ 4
/-- what the program reads -/
noncomputable def readD (t : List UInt8) : Nat × Bool × List Int := itemsI (fun a => rdN t a false) (t.length + 2) (rdN t 0 false).2.1 (rdN t 0 false).2.2 (rdN t 0 false).1 []
theorem l6V_range (s : List UInt8) : ∀ (n a : Nat), a ≤ s.length → ((l6V s n a).2 = -1 ∨ ∃ b : Nat, (l6V s n a).2 = (b : Int) ∧ b ≤ s.length ∧ (l6V s n a).1.length = n) ∧ ∀ x ∈ (l6V s n a).1, 0 ≤ x ∧ x ≤ 562949953421311
  | 0, a, h => ⟨.inr ⟨a, rfl, h, rfl⟩, fun x hx => by cases hx⟩
  | n + 1, a, h => by
    rw [l6V, decide_eq_false (by omega), cond_false]
    cases hr : readN 7 (s.drop a) with
    | none => exact ⟨.inl rfl, fun x hx => by cases hx⟩
    | some p =>
      obtain ⟨x, k⟩ := p
      obtain ⟨h1, h2, h3⟩ := readN_range hr
      rw [List.length_drop] at h3
      obtain ⟨q1, q2⟩ := l6V_range s n (a + k) (by omega)
      simp only
      refine ⟨?_, fun y hy => ?_⟩
      · rcases q1 with q | ⟨b, q3, q4, q5⟩
        · exact .inl q
        · exact .inr ⟨b, q3, q4, by rw [List.length_cons, q5]⟩
      · rcases List.mem_cons.1 hy with rfl | hy
        · omega
        · exact q2 y hy
theorem l6V_enc (s : List UInt8) : ∀ (l : List Int) (a : Nat) (rest : List UInt8), (∀ x ∈ l, 0 ≤ x ∧ x ≤ 1000000) → a ≤ s.length → s.drop a = l.flatMap varV ++ rest → l6V s l.length a = (l, ((a + (l.flatMap varV).length : Nat) : Int))
  | [], a, rest, _, _, _ => by simp [l6V]
  | x :: l, a, rest, hx, ha, h => by
    have h1 : s.drop a = varV x ++ (l.flatMap varV ++ rest) := by rw [h, List.flatMap_cons, List.append_assoc]
    have h2 := drop_enc h1
    have hx0 := hx x (by simp)
    have hl := congrArg List.length h1
    rw [List.length_drop, List.length_append] at hl
    have hb : a + (varV x).length ≤ s.length := by
      have := List.length_pos_iff.2 (varV_ne (n := x) (by omega))
      omega
    rw [List.length_cons, l6V, decide_eq_false (by omega), cond_false, h1, readV_enc x (by omega)]
    simp only
    rw [l6V_enc s l (a + (varV x).length) rest (fun y hy => hx y (by simp [hy])) hb h2]
    simp only [List.flatMap_cons, List.length_append, Nat.add_assoc]
    rw [show ((x.toNat : Nat) : Int) = x by omega]
theorem spec_l6Vars_neg (s : List UInt8) (n : Int) (hn : 0 < n) : spec_l6Vars s (-1) n = some ([], -1) := by
  unfold spec_l6Vars
  rw [loopO_eq]
  simp only
  rw [if_pos (by simp only [decide_eq_true_eq]; omega), decide_eq_true (by omega : (-1 : Int) < 0)]
  rfl
theorem spec_l6Vars_zero (s : List UInt8) : spec_l6Vars s (-1) 0 = some ([], -1) := by
  unfold spec_l6Vars
  rw [loopO_eq]
  rfl
/-- bytes behind their number -/
def takeB (s : List UInt8) (a : Nat) : List UInt8 × Int := match readN 7 (s.drop a) with
  | none => ([], -1)
  | some (x, k) => bif decide (x ≤ s.length - (a + k)) then ((s.drop (a + k)).take x, ((a + k + x : Nat) : Int)) else ([], -1)
theorem takeB_range (s : List UInt8) (a : Nat) (h : a ≤ s.length) : (takeB s a).2 = -1 ∨ ∃ b : Nat, (takeB s a).2 = (b : Int) ∧ b ≤ s.length := by
  unfold takeB
  cases hr : readN 7 (s.drop a) with
  | none => exact .inl rfl
  | some p =>
    obtain ⟨x, k⟩ := p
    obtain ⟨h1, h2, h3⟩ := readN_range hr
    rw [List.length_drop] at h3
    simp only
    by_cases c : x ≤ s.length - (a + k)
    · rw [decide_eq_true c]; exact .inr ⟨a + k + x, rfl, by omega⟩
    · rw [decide_eq_false c]; exact .inl rfl
theorem spec_l6Take_neg (s : List UInt8) : spec_l6Take s (-1) = some ([], -1) := by
  unfold spec_l6Take
  rw [spec_l6Vars_neg s 1 (by omega)]
  rfl
theorem spec_l6Take_eq (s : List UInt8) (a : Nat) (h : a ≤ s.length) (hs : s.length ≤ 1048576) : spec_l6Take s (a : Int) = some (takeB s a) := by
  unfold spec_l6Take takeB
  rw [show spec_l6Vars s (a : Int) (1 : Int) = some (l6V s 1 a) from spec_l6Vars_eq s a 1 (by omega) (by decide) (by omega)]
  simp only [Option.bind_some, l6V]
  rw [decide_eq_false (by omega : ¬ s.length < a), cond_false]
  cases hr : readN 7 (s.drop a) with
  | none => rfl
  | some p =>
    obtain ⟨x, k⟩ := p
    obtain ⟨h1, h2, h3⟩ := readN_range hr
    rw [List.length_drop] at h3
    simp only
    rw [decide_eq_false (by omega : ¬ ((a + k : Nat) : Int) < 0)]
    have i0 : idx [(x : Int)] (0 : Int) = some (x : Int) := rfl
    simp only [Bool.false_eq_true, if_false, i0, Option.bind_some]
    rw [wrap_ok (n := ((s.length : Nat) : Int) - ((a + k : Nat) : Int)) (by omega) (by omega)]
    by_cases c : x ≤ s.length - (a + k)
    · rw [decide_eq_true c, decide_eq_false (by omega : ¬ (x : Int) > ((s.length : Nat) : Int) - ((a + k : Nat) : Int))]
      simp only [Bool.false_eq_true, if_false, cond_true]
      rw [wrap_ok (by omega) (by omega), show ((a + k : Nat) : Int) + (x : Int) = ((a + k + x : Nat) : Int) by omega, ssub_nat s (a + k) (a + k + x) (by omega) (by omega)]
      simp only [Option.bind_some, Nat.add_sub_cancel_left]
    · rw [decide_eq_false c, decide_eq_true (by omega : (x : Int) > ((s.length : Nat) : Int) - ((a + k : Nat) : Int))]
      rfl
theorem takeB_enc {s x rest : List UInt8} {a : Nat} (h : s.drop a = pieceV x ++ rest) (hx : x.length ≤ 1048576) (ha : a + (pieceV x).length ≤ s.length) : takeB s a = (x, ((a + (pieceV x).length : Nat) : Int)) := by
  have h1 : s.drop a = varV (x.length : Int) ++ (x ++ rest) := by rw [h]; unfold pieceV; rw [List.append_assoc]
  have h2 := drop_enc h1
  have hp : (pieceV x).length = (varV (x.length : Int)).length + x.length := by unfold pieceV; rw [List.length_append]
  unfold takeB
  rw [h1, readV_enc (x.length : Int) (by omega)]
  simp only [Int.toNat_natCast]
  rw [decide_eq_true (by omega)]
  simp only [cond_true]
  rw [h2, List.take_left, hp, Nat.add_assoc]
/-! draws -/
theorem iand255 (p : Int) : 0 ≤ iand .i64 p (255 : Int) ∧ iand .i64 p (255 : Int) ≤ 255 := by
  unfold iand
  have e : (BitVec.ofInt IntKind.i64.bits p &&& BitVec.ofInt IntKind.i64.bits (255 : Int)).toNat ≤ 255 := by
    show (BitVec.ofInt 64 p &&& BitVec.ofInt 64 ((255 : Nat) : Int)).toNat ≤ 255
    rw [BitVec.ofInt_natCast, BitVec.toNat_and, BitVec.toNat_ofNat]
    exact Nat.and_le_right
  generalize (BitVec.ofInt IntKind.i64.bits p &&& BitVec.ofInt IntKind.i64.bits (255 : Int)).toNat = z at e
  rw [wrap_ok (by omega) (by omega)]
  omega
theorem l1New_ok (code : List UInt8) (h : code.length ≤ 1048576) : ∃ q, spec_l1New code = some { b := code, i := 0, h := q } := by
  unfold spec_l1New
  obtain ⟨r, hr, q, rfl⟩ := loopO_total (ρ := Ctl Int L1Cur) (s0 := (IntKind.i64.wrap ((10101 : Int) + ((code.length : Nat) : Int)), (0 : Int))) (body := fun (S1 : Int × Int) => (if (decide (S1.2 < ((code.length : Nat) : Int))) = true then (some (decide (S1.2 < (4000 : Int))))
  else (some false)).bind (fun (T5 : Bool) =>
  if T5 = true then ((idx code S1.2).bind fun E9 =>
  some (.go (iand .i64 (IntKind.i64.wrap (IntKind.i64.wrap (IntKind.i64.wrap (S1.1 * (131 : Int)) + (IntKind.i64.wrap ((E9.toNat : Nat) : Int))) + (7 : Int))) (1073741823 : Int), IntKind.i64.wrap (S1.2 + (1 : Int)))))
  else (some (.done (.go S1.1))))) (fun k S => S.2 = (k : Int)) code.length (fun r => ∃ q, r = .go q) rfl (by
    rintro k ⟨p, i⟩ hk rfl
    simp only
    rw [decide_eq_true (by omega : (k : Int) < ((code.length : Nat) : Int))]
    by_cases c : (k : Int) < 4000
    · left
      rw [decide_eq_true c]
      simp only [if_true, Option.bind_some, idx_nat code k hk]
      exact ⟨_, rfl, by simp only; rw [wrap_ok (by omega) (by omega)]; omega⟩
    · right
      rw [decide_eq_false c]
      exact ⟨.go p, rfl, p, rfl⟩) (by
    rintro ⟨p, i⟩ rfl
    simp only
    rw [decide_eq_false (by omega : ¬ ((code.length : Nat) : Int) < ((code.length : Nat) : Int))]
    exact ⟨.go p, rfl, p, rfl⟩)
  rw [hr]
  exact ⟨q, rfl⟩
theorem l1Byte_ok (b : List UInt8) (i h : Int) (hi : 0 ≤ i ∧ i ≤ b.length) (hb : b.length ≤ 1048576) : ∃ x i' h', spec_l1Byte { b := b, i := i, h := h } = some (x, { b := b, i := i', h := h' }) ∧ (0 ≤ x ∧ x ≤ 255) ∧ (0 ≤ i' ∧ i' ≤ b.length) := by
  unfold spec_l1Byte
  simp only
  by_cases c : i < ((b.length : Nat) : Int)
  · rw [decide_eq_true c]
    simp only [if_true]
    rw [idx_some' hi.1 c]
    simp only [Option.bind_some, bindC_go]
    exact ⟨_, _, _, rfl, iand255 _, by rw [wrap_ok (by omega) (by omega)]; omega⟩
  · rw [decide_eq_false c]
    simp only [Bool.false_eq_true, if_false, bindC_go]
    exact ⟨_, _, _, rfl, iand255 _, hi⟩
theorem l1Below_ok (b : List UInt8) (i h n : Int) (hi : 0 ≤ i ∧ i ≤ b.length) (hb : b.length ≤ 1048576) : ∃ x i' h', spec_l1Below { b := b, i := i, h := h } n = some (x, { b := b, i := i', h := h' }) ∧ (0 ≤ x ∧ (0 < n → x < n) ∧ (n ≤ 0 → x = 0)) ∧ (0 ≤ i' ∧ i' ≤ b.length) := by
  unfold spec_l1Below
  by_cases c : n ≤ 0
  · rw [decide_eq_true c]
    simp only [if_true]
    exact ⟨_, _, _, rfl, ⟨Int.le_refl _, fun h => by omega, fun _ => rfl⟩, hi⟩
  · rw [decide_eq_false c]
    have hnz : nz n = some () := by unfold nz; rw [if_neg (by omega)]
    have hm : ∀ x : Int, 0 ≤ x → 0 ≤ Int.tmod x n ∧ Int.tmod x n < n := fun x hx => ⟨Int.tmod_nonneg _ hx, Int.tmod_lt_of_pos _ (by omega)⟩
    obtain ⟨x1, i1, h1, e1, g1, k1⟩ := l1Byte_ok b i h hi hb
    simp only [Bool.false_eq_true, if_false, e1, Option.bind_some, hnz]
    by_cases c2 : n ≤ 256
    · rw [decide_eq_true c2]
      simp only [if_true]
      have := hm x1 g1.1
      exact ⟨_, _, _, rfl, ⟨this.1, fun _ => this.2, fun h => by omega⟩, k1⟩
    · rw [decide_eq_false c2]
      simp only [Bool.false_eq_true, if_false]
      obtain ⟨x2, i2, h2, e2, g2, k2⟩ := l1Byte_ok b i1 h1 k1 hb
      simp only [e2, Option.bind_some]
      obtain ⟨x3, i3, h3, e3, g3, k3⟩ := l1Byte_ok b i2 h2 k2 hb
      simp only [e3, Option.bind_some]
      obtain ⟨x4, i4, h4, e4, g4, k4⟩ := l1Byte_ok b i3 h3 k3 hb
      simp only [e4, Option.bind_some]
      rw [wrap_ok (n := x1 * 16777216) (by omega) (by omega), wrap_ok (n := x2 * 65536) (by omega) (by omega), wrap_ok (n := x1 * 16777216 + x2 * 65536) (by omega) (by omega), wrap_ok (n := x3 * 256) (by omega) (by omega), wrap_ok (n := x1 * 16777216 + x2 * 65536 + x3 * 256) (by omega) (by omega), wrap_ok (by omega) (by omega)]
      have := hm (x1 * 16777216 + x2 * 65536 + x3 * 256 + x4) (by omega)
      exact ⟨_, _, _, rfl, ⟨this.1, fun _ => this.2, fun h => by omega⟩, k4⟩
theorem l1Once_ok (b : List UInt8) (i h n : Int) (hi : 0 ≤ i ∧ i ≤ b.length) (hb : b.length ≤ 1048576) : ∃ x i' h', spec_l1Once { b := b, i := i, h := h } n = some (x, { b := b, i := i', h := h' }) ∧ (0 ≤ i' ∧ i' ≤ b.length) := by
  unfold spec_l1Once
  obtain ⟨x, i1, h1, e, _, k⟩ := l1Below_ok b i h n hi hb
  simp only [e, Option.bind_some]
  exact ⟨_, _, _, rfl, k⟩
theorem l1PickInt_ok (b : List UInt8) (i h : Int) (l : List Int) (hl : l ≠ []) (hi : 0 ≤ i ∧ i ≤ b.length) (hb : b.length ≤ 1048576) : ∃ x i' h', spec_l1PickInt { b := b, i := i, h := h } l = some (x, { b := b, i := i', h := h' }) ∧ x ∈ l ∧ (0 ≤ i' ∧ i' ≤ b.length) := by
  unfold spec_l1PickInt
  have hp := List.length_pos_iff.2 hl
  obtain ⟨x, i1, h1, e, g, k⟩ := l1Below_ok b i h ((l.length : Nat) : Int) hi hb
  simp only [e, Option.bind_some]
  rw [idx_some' g.1 (g.2.1 (by omega))]
  simp only [Option.bind_some]
  exact ⟨_, _, _, rfl, List.getElem_mem _, k⟩
theorem at_ok (code : List UInt8) (i : Int) (hi : 0 ≤ i ∧ i ≤ 255) (h : code.length ≤ 1048576) : ∃ x, laws_at code i = some x ∧ 0 ≤ x ∧ x ≤ 255 := by
  unfold laws_at
  by_cases c : i < ((code.length : Nat) : Int)
  · rw [decide_eq_true c]
    simp only [if_true]
    rw [idx_some' hi.1 c]
    simp only [Option.bind_some]
    have := (code[i.toNat]'(by omega)).toNat_lt
    exact ⟨_, rfl, by rw [wrap_ok (by omega) (by omega)]; omega⟩
  · rw [decide_eq_false c]
    simp only [Bool.false_eq_true, if_false]
    rw [wrap_ok (n := i * 37) (by omega) (by omega), wrap_ok (n := ((code.length : Nat) : Int) * 11) (by omega) (by omega), wrap_ok (by omega) (by omega)]
    have h1 : 0 ≤ Int.tmod (i * 37 + ((code.length : Nat) : Int) * 11) 256 := Int.tmod_nonneg _ (by omega)
    have h2 : Int.tmod (i * 37 + ((code.length : Nat) : Int) * 11) 256 < 256 := Int.tmod_lt_of_pos _ (by omega)
    exact ⟨_, rfl, h1, by omega⟩
theorem big_eq (code : List UInt8) : laws_big code = some (decide (((code.length : Nat) : Int) > 1048576)) := rfl

theorem l1Text_ok (b : List UInt8) (i h most : Int) (hm : 0 ≤ most ∧ most ≤ 1000) (hi : 0 ≤ i ∧ i ≤ b.length) (hb : b.length ≤ 1048576) : ∃ s i' h', spec_l1Text { b := b, i := i, h := h } most = some (s, { b := b, i := i', h := h' }) ∧ s.length ≤ 1000 ∧ (0 ≤ i' ∧ i' ≤ b.length) := by
  unfold spec_l1Text
  obtain ⟨x1, i1, h1, e1, _, k1⟩ := l1Below_ok b i h 4 hi hb
  simp only [e1, Option.bind_some]
  rw [wrap_ok (n := most + 1) (by omega) (by omega)]
  obtain ⟨x2, i2, h2, e2, g2, k2⟩ := l1Below_ok b i1 h1 (most + 1) k1 hb
  simp only [e2, Option.bind_some]
  have hx2 := g2.2.1 (by omega)
  obtain ⟨r, hr, p, q, s, rfl, hq⟩ := loopO_total (ρ := Ctl (Int × Int × List UInt8) (List UInt8 × L1Cur)) (s0 := (i2, h2, x2, ([] : List UInt8))) (body := fun (S8 : Int × Int × Int × List UInt8) => if (decide (S8.2.2.1 > (0 : Int))) = true then ((spec_l1Byte ({ b := b, i := S8.1, h := S8.2.1 : L1Cur })).bind fun R13 =>
  bindC (if (decide (x1 = (1 : Int))) = true then (some (.go (Int.tmod R13.1 (2 : Int))))
  else (some (.go R13.1)))
  (fun (T16 : Int) => bindC (if (decide (x1 = (2 : Int))) = true then (some (.go (IntKind.i64.wrap ((97 : Int) + (Int.tmod T16 (4 : Int))))))
  else (some (.go T16)))
  (fun (T19 : Int) => (app 1 S8.2.2.2 ([toU8 T19])).bind fun E24 =>
  some (.go (R13.2.i, R13.2.h, IntKind.i64.wrap (S8.2.2.1 - (1 : Int)), E24)))))
  else (some (.done (.go (S8.1, S8.2.1, S8.2.2.2)))))
    (fun k S => (0 ≤ S.1 ∧ S.1 ≤ b.length) ∧ S.2.2.1 = x2 - (k : Int) ∧ S.2.2.2.length = k) x2.toNat (fun r => ∃ p q s, r = .go (p, q, s) ∧ (s.length ≤ 1000 ∧ 0 ≤ p ∧ p ≤ b.length)) ⟨k2, by simp, rfl⟩ (by
      rintro k ⟨p, q, m, s⟩ hk ⟨h3, h4, h5⟩
      simp only at h3 h4 h5
      subst h4
      left
      simp only
      rw [if_pos (by simp only [decide_eq_true_eq]; omega)]
      obtain ⟨x3, i3, h3', e3, _, k3⟩ := l1Byte_ok b p q h3 hb
      rw [e3]
      simp only [Option.bind_some]
      have key : ∃ t : Int, (bindC (if (decide (x1 = (1 : Int))) = true then (some (Ctl.go (Int.tmod x3 (2 : Int)))) else (some (Ctl.go x3)))
        (fun (T16 : Int) => bindC (if (decide (x1 = (2 : Int))) = true then (some (Ctl.go (IntKind.i64.wrap ((97 : Int) + (Int.tmod T16 (4 : Int)))))) else (some (Ctl.go T16)))
        (fun (T19 : Int) => (app 1 s ([toU8 T19])).bind fun E24 => some (Ctl.go (ρ := Ctl (Int × Int × List UInt8) (List UInt8 × L1Cur)) (i3, h3', IntKind.i64.wrap (x2 - (k : Int) - (1 : Int)), E24))))) = some (.go (i3, h3', IntKind.i64.wrap (x2 - (k : Int) - (1 : Int)), s ++ [toU8 t])) := by
        cases decide (x1 = 1) <;> cases decide (x1 = 2) <;> simp only [Bool.false_eq_true, if_false, if_true, bindC_go] <;> rw [app_ok (by simp; omega) (by simp; omega)] <;> exact ⟨_, rfl⟩
      obtain ⟨t, ht⟩ := key
      rw [ht]
      exact ⟨_, rfl, k3, by simp only; rw [wrap_ok (by omega) (by omega)]; omega, by simp; omega⟩) (by
      rintro ⟨p, q, m, s⟩ ⟨h3, h4, h5⟩
      simp only at h3 h4 h5
      subst h4
      simp only
      rw [if_neg (by simp only [decide_eq_true_eq]; omega)]
      exact ⟨_, rfl, p, q, s, rfl, by omega, h3⟩)
  rw [hr]
  exact ⟨s, p, q, rfl, hq.1, hq.2⟩
theorem l1Spoil_ok (b : List UInt8) (i h : Int) (s : List UInt8) (hs : s.length ≤ 1048576) (hi : 0 ≤ i ∧ i ≤ b.length) (hb : b.length ≤ 1048576) : ∃ t i' h', spec_l1Spoil { b := b, i := i, h := h } s = some (t, { b := b, i := i', h := h' }) ∧ t.length ≤ s.length + 1000 ∧ (0 ≤ i' ∧ i' ≤ b.length) := by
  unfold spec_l1Spoil
  by_cases h0 : s.length = 0
  · obtain ⟨t, i1, h1, e1, g1, k1⟩ := l1Text_ok b i h 3 (by omega) hi hb
    rw [decide_eq_true (by omega : ((s.length : Nat) : Int) = 0)]
    simp only [if_true, e1, Option.bind_some]
    exact ⟨t, i1, h1, rfl, by omega, k1⟩
  · rw [decide_eq_false (by omega : ¬ ((s.length : Nat) : Int) = 0)]
    obtain ⟨x1, i1, h1, e1, g1, k1⟩ := l1Below_ok b i h ((s.length : Nat) : Int) hi hb
    have hx1 := g1.2.1 (by omega)
    obtain ⟨x2, i2, h2, e2, g2, k2⟩ := l1Below_ok b i1 h1 4 k1 hb
    simp only [Bool.false_eq_true, if_false, e1, e2, Option.bind_some]
    obtain ⟨n, rfl⟩ : ∃ n : Nat, x1 = (n : Int) := ⟨x1.toNat, by omega⟩
    have s1 : ssub s 0 (n : Int) = some (s.take n) := ssub_nat s 0 n (by omega) (by omega)
    have s2 : ssub s (IntKind.i64.wrap ((n : Int) + (1 : Int))) (s.length : Int) = some (s.drop (n + 1)) := by
      rw [wrap_ok (by omega) (by omega)]; exact ssub_end s (n + 1) (by omega)
    have s3 : ssub s (n : Int) (s.length : Int) = some (s.drop n) := ssub_end s n (by omega)
    simp only [s1, s2, s3, sidx_nat s n (by omega), Option.bind_some]
    by_cases c0 : x2 = 0
    · rw [decide_eq_true c0]
      simp only [if_true]
      rw [cat_ok (by simp; omega)]
      exact ⟨_, _, _, rfl, by simp; omega, k2⟩
    · rw [decide_eq_false c0]
      simp only [Bool.false_eq_true, if_false]
      by_cases c1 : x2 = 1
      · rw [decide_eq_true c1]
        obtain ⟨x3, i3, h3, e3, _, k3⟩ := l1Byte_ok b i2 h2 k2 hb
        simp only [if_true, e3, Option.bind_some]
        rw [cat_ok (by simp; omega)]
        simp only [Option.bind_some]
        rw [cat_ok (by simp; omega)]
        exact ⟨_, _, _, rfl, by simp; omega, k3⟩
      · rw [decide_eq_false c1]
        simp only [Bool.false_eq_true, if_false]
        by_cases c2 : x2 = 2
        · rw [decide_eq_true c2]
          exact ⟨_, _, _, rfl, by simp; omega, k2⟩
        · rw [decide_eq_false c2]
          obtain ⟨x3, i3, h3, e3, _, k3⟩ := l1Below_ok b i2 h2 255 k2 hb
          simp only [Bool.false_eq_true, if_false, e3, Option.bind_some]
          rw [cat_ok (by simp; omega)]
          simp only [Option.bind_some]
          rw [cat_ok (by simp; omega)]
          exact ⟨_, _, _, rfl, by simp; omega, k3⟩
theorem xor_ne (p q : UInt8) (h : q ≠ 0) : p ^^^ q ≠ p := by
  intro e
  apply h
  have := congrArg (fun z => p ^^^ z) e
  simp only [← UInt8.xor_assoc, UInt8.xor_self, UInt8.zero_xor] at this
  exact this
def okS (l : List Int) : Bool := decide (1 ≤ l.length ∧ l.length ≤ 40) && l.all fun x => decide (0 ≤ x ∧ x ≤ 99)
theorem okS_iff {l : List Int} : okS l = true ↔ (1 ≤ l.length ∧ l.length ≤ 40) ∧ ∀ x ∈ l, 0 ≤ x ∧ x ≤ 99 := by
  unfold okS
  simp only [Bool.and_eq_true, decide_eq_true_eq, List.all_eq_true]
theorem setAll_cons (who : Int) (l : List Int) (i : Nat) (g : List Nat) : setAll who l (i :: g) = setAll who (l.set i who) g := rfl
theorem setAll_set (who v : Int) (i : Nat) : ∀ (g : List Nat) (l : List Int), i ∉ g → (setAll who l g).set i v = setAll who (l.set i v) g
  | [], _, _ => rfl
  | j :: g, l, h => by
    have hij : i ≠ j := fun e => h (by rw [e]; simp)
    rw [setAll_cons, setAll_cons, setAll_set who v i g _ (fun e => h (by simp [e])), List.set_comm _ _ (Ne.symm hij)]
theorem setAll_out (who : Int) (i : Nat) : ∀ (g : List Nat) (l : List Int), i ∉ g → (setAll who l g)[i]? = l[i]?
  | [], _, _ => rfl
  | j :: g, l, h => by
    have hij : j ≠ i := fun e => h (by rw [e]; simp)
    rw [setAll_cons, setAll_out who i g _ (fun e => h (by simp [e])), List.getElem?_set_ne hij]
theorem setAll_in (who : Int) (i : Nat) : ∀ (g : List Nat) (l : List Int), i ∈ g → i < l.length → (setAll who l g)[i]? = some who
  | j :: g, l, h, hi => by
    rw [setAll_cons]
    by_cases hg : i ∈ g
    · exact setAll_in who i g _ hg (by rw [List.length_set]; exact hi)
    · have hij : i = j := by
        rcases List.mem_cons.1 h with h | h
        · exact h
        · exact absurd h hg
      subst hij
      rw [setAll_out who i g _ hg, List.getElem?_set_self hi]
theorem give_back (who : Int) (hw : 1 ≤ who) : ∀ (g : List Nat) (l : List Int), g.Nodup → (∀ i ∈ g, l[i]? = some 0) → giveV who (g.map fun (i : Nat) => (i : Int)) (setAll who l g) = some l
  | [], l, _, _ => rfl
  | i :: g, l, hn, h0 => by
    obtain ⟨hi, hg⟩ := List.nodup_cons.1 hn
    have h1 := h0 i (by simp)
    obtain ⟨hlt, hv⟩ := List.getElem?_eq_some_iff.1 h1
    rw [List.map_cons, giveV_cons, setAll_cons]
    have hat : (setAll who (l.set i who) g)[i]? = some who := by rw [setAll_out who i g _ hi, List.getElem?_set_self hlt]
    rw [Int.toNat_natCast, if_pos ⟨by omega, by rw [setAll_length, List.length_set]; omega, hat, hw⟩, setAll_set who 0 i g _ hi, List.set_set]
    have hset : l.set i 0 = l := by
      apply List.ext_getElem?
      intro j
      by_cases e : i = j
      · subst e; rw [List.getElem?_set_self hlt, h1]
      · rw [List.getElem?_set_ne e]
    rw [hset]
    exact give_back who hw g l hg fun j hj => h0 j (by simp [hj])
theorem count_set (who : Int) (hw : 1 ≤ who) (l : List Int) (i : Nat) (h : l[i]? = some 0) : (l.set i who).countP (fun x => decide (x = who)) = l.countP (fun x => decide (x = who)) + 1 := by
  induction l generalizing i with
  | nil => simp at h
  | cons x l ih =>
    cases i with
    | zero =>
      simp only [List.getElem?_cons_zero, Option.some.injEq] at h
      subst h
      rw [List.set_cons_zero, List.countP_cons, List.countP_cons]
      have : ¬ (0 : Int) = who := by omega
      simp [this]
    | succ i =>
      rw [List.set_cons_succ, List.countP_cons, List.countP_cons, ih i (by simpa using h)]
      omega
theorem count_setAll (who : Int) (hw : 1 ≤ who) : ∀ (g : List Nat) (l : List Int), g.Nodup → (∀ i ∈ g, l[i]? = some 0) → (setAll who l g).countP (fun x => decide (x = who)) = l.countP (fun x => decide (x = who)) + g.length
  | [], l, _, _ => rfl
  | i :: g, l, hn, h0 => by
    obtain ⟨hi, hg⟩ := List.nodup_cons.1 hn
    have h1 := h0 i (by simp)
    rw [setAll_cons, count_setAll who hw g _ hg, count_set who hw l i h1, List.length_cons]
    · omega
    · intro j hj
      have hij : i ≠ j := fun e => hi (by rw [e]; exact hj)
      rw [List.getElem?_set_ne hij]
      exact h0 j (by simp [hj])
theorem freeIx_zero (l : List Int) (n : Int) : ∀ k, ∀ i ∈ freeIx l n k, l[i]? = some 0
  | 0, i, h => by simp [freeIx] at h
  | k + 1, i, h => by
    unfold freeIx at h
    split at h
    · rename_i hc
      rcases List.mem_append.1 h with h | h
      · exact freeIx_zero l n k i h
      · have : i = k := by simpa using h
        rw [this]; exact hc.1
    · exact freeIx_zero l n k i h
theorem freeIx_nodup (l : List Int) (n : Int) : ∀ k, (freeIx l n k).Nodup
  | 0 => List.nodup_nil
  | k + 1 => by
    unfold freeIx
    split
    · refine List.nodup_append.2 ⟨freeIx_nodup l n k, by simp, fun x hx y hy e => ?_⟩
      have h1 := freeIx_lt l n k x hx
      have : y = k := by simpa using hy
      omega
    · exact freeIx_nodup l n k
theorem freeIx_le (l : List Int) (n : Int) (hn : 0 ≤ n) : ∀ k, ((freeIx l n k).length : Int) ≤ n
  | 0 => by simpa [freeIx] using hn
  | k + 1 => by
    have := freeIx_le l n hn k
    unfold freeIx
    split
    · rename_i hc
      rw [List.length_append, List.length_singleton]
      omega
    · exact this
theorem okS_setAll {l : List Int} {who : Int} {g : List Nat} (h : okS l = true) (hw : 1 ≤ who ∧ who ≤ 99) : okS (setAll who l g) = true := by
  obtain ⟨h1, h2⟩ := okS_iff.1 h
  rw [okS_iff, setAll_length]
  refine ⟨h1, ?_⟩
  have key : ∀ (g : List Nat) (l : List Int), (∀ x ∈ l, 0 ≤ x ∧ x ≤ 99) → ∀ x ∈ setAll who l g, 0 ≤ x ∧ x ≤ 99 := by
    intro g
    induction g with
    | nil => intro l h x hx; exact h x hx
    | cons i g ih =>
      intro l h x hx
      rw [setAll_cons] at hx
      refine ih _ (fun y hy => ?_) x hx
      rcases List.mem_or_eq_of_mem_set hy with hy | hy
      · exact h y hy
      · omega
  exact key g l h2
theorem okS_wipe {l : List Int} {who : Int} (h : okS l = true) : okS (wipeV who l) = true := by
  obtain ⟨h1, h2⟩ := okS_iff.1 h
  rw [okS_iff]
  unfold wipeV
  rw [List.length_map]
  refine ⟨h1, fun x hx => ?_⟩
  obtain ⟨y, hy, rfl⟩ := List.mem_map.1 hx
  split
  · omega
  · exact h2 y hy
/-! draws of files and edits -/
theorem bindC_ite {τ R : Type} (c : Prop) [Decidable c] (x y : τ) (k : τ → Option R) : bindC (if c then some (.go x) else some (.go y)) k = k (if c then x else y) := by
  split <;> rfl
theorem loopO_G {τ ρ R : Type} {body : τ → Option (Ctl τ (Ctl ρ R))} {s0 : τ} {f : ρ → Option R} (G : Option R → Prop) (I : Nat → τ → Prop) (n : Nat) (Q : Ctl ρ R → Prop) (h0 : I 0 s0)
    (h : ∀ k s, k < n → I k s → (∃ s', body s = some (.go s') ∧ I (k + 1) s') ∨ (∃ r, body s = some (.done r) ∧ Q r)) (hn : ∀ s, I n s → ∃ r, body s = some (.done r) ∧ Q r)
    (hk : ∀ r, Q r → G (bindC (some r) f)) : G (bindC (loopO body s0) f) := by
  obtain ⟨r, hr, hq⟩ := loopO_total I n Q h0 h hn
  rw [hr]
  exact hk r hq
/-! reservations: what fits -/
theorem refuse_ok {p1 p2 : Prop} [Decidable p1] [Decidable p2] {b : Bool} (h : b = true ↔ (p1 ∧ p2)) : (if decide p1 = true then some (!decide (b = decide p2)) else some (!decide (b = false))) = some false := by
  by_cases c1 : p1 <;> by_cases c2 : p2 <;> cases b <;> simp_all
/-! rows of a log -/
def rowOkV (r : LogRow) : Bool := decide (1 ≤ r.Tenant ∧ r.Tenant ≤ 99) && (decide (0 ≤ r.Boot ∧ r.Boot ≤ 1000) && (decide (0 ≤ r.Seq ∧ r.Seq ≤ 999999) && decide (r.Text.length ≤ 300)))
def rowB (r : LogRow) : List UInt8 := varV r.Tenant ++ varV r.Boot ++ varV r.Seq ++ pieceV r.Text
def rowV (r : LogRow) : List UInt8 := bif rowOkV r then fixedV (crcV (rowB r)) 4 ++ rowB r else []
theorem rowB_len {r : LogRow} (h : r.Text.length ≤ 300) : (rowB r).length ≤ 328 := by
  have h1 := varV_len r.Tenant
  have h2 := varV_len r.Boot
  have h3 := varV_len r.Seq
  have h4 := pieceV_len r.Text
  unfold rowB
  simp only [List.length_append]
  omega
theorem rowOk_iff (r : LogRow) : rowOkV r = true ↔ (1 ≤ r.Tenant ∧ r.Tenant ≤ 99) ∧ (0 ≤ r.Boot ∧ r.Boot ≤ 1000) ∧ (0 ≤ r.Seq ∧ r.Seq ≤ 999999) ∧ r.Text.length ≤ 300 := by
  unfold rowOkV
  simp only [Bool.and_eq_true, decide_eq_true_eq]
theorem rowV_ok {r : LogRow} (h : rowV r ≠ []) : rowOkV r = true := by
  cases hc : rowOkV r with
  | true => rfl
  | false => unfold rowV at h; rw [hc] at h; exact absurd rfl h
theorem rowV_of {r : LogRow} (h : rowOkV r = true) : rowV r = fixedV (crcV (rowB r)) 4 ++ rowB r := by unfold rowV; rw [h]; rfl
theorem rowV_len (r : LogRow) : (rowV r).length ≤ 332 := by
  cases hc : rowOkV r with
  | false => unfold rowV; rw [hc]; simp
  | true =>
    have h1 := rowB_len ((rowOk_iff r).1 hc).2.2.2
    have h2 : (fixedV (crcV (rowB r)) 4).length ≤ 4 := fixedV_len (crcV (rowB r)) 4
    rw [rowV_of hc, List.length_append]
    omega
theorem guard_spec (a b c : Prop) [Decidable a] [Decidable b] [Decidable c] (d : Nat) : ((if (!decide a) = true then (some true) else ((if decide b = true then (some (decide c)) else (some false)).bind fun R8 =>
    if (!R8) = true then (some true) else (some (decide ((d : Int) > (300 : Int)))))) : Option Bool) = some (!(decide a && (decide b && (decide c && decide (d ≤ 300))))) := by
  have : decide ((d : Int) > (300 : Int)) = !decide (d ≤ 300) := by
    by_cases h : d ≤ 300 <;> simp [h] <;> omega
  rw [this]
  by_cases ha : a <;> by_cases hb : b <;> by_cases hc : c <;> simp [ha, hb, hc]
theorem spec_ShowRow_eq (r : LogRow) : spec_ShowRow r = some (rowV r) := by
  unfold spec_ShowRow spec_l8At
  simp only [l1In_eq, Option.bind_some]
  rw [show (if (!decide (1 ≤ r.Tenant ∧ r.Tenant ≤ 99)) = true then some true else
      ((if decide (0 ≤ r.Boot ∧ r.Boot ≤ 1000) = true then some (decide (0 ≤ r.Seq ∧ r.Seq ≤ 999999)) else some false).bind fun T1 => some T1).bind fun R8 =>
        if (!R8) = true then some true else some (decide (((r.Text.length : Nat) : Int) > 300))) = some (!rowOkV r) from by
    rw [show ∀ o : Option Bool, (o.bind fun T1 => some T1) = o from fun o => by cases o <;> rfl]
    exact guard_spec _ _ _ _]
  simp only [Option.bind_some]
  cases hc : rowOkV r with
  | false => unfold rowV; rw [hc]; rfl
  | true =>
    obtain ⟨_, _, _, h4⟩ := (rowOk_iff r).1 hc
    have h1 := varV_len r.Tenant
    have h2 := varV_len r.Boot
    have h3 := varV_len r.Seq
    have h5 := pieceV_len r.Text
    have hb := rowB_len h4
    have hr := crcV_range (rowB r)
    have hl : (fixedV (crcV (rowB r)) 4).length ≤ 4 := fixedV_len (crcV (rowB r)) 4
    simp only [Bool.not_true, Bool.false_eq_true, if_false, spec_Var_eq, Option.bind_some]
    rw [cat_ok (by omega)]
    simp only [Option.bind_some]
    rw [cat_ok (by simp only [List.length_append]; omega), spec_l6Piece_eq r.Text (by omega)]
    simp only [Option.bind_some]
    rw [cat_ok (by simp only [List.length_append]; omega)]
    have e : varV r.Tenant ++ varV r.Boot ++ varV r.Seq ++ pieceV r.Text = rowB r := rfl
    rw [e]
    simp only [Option.bind_some]
    rw [spec_Crc_eq (rowB r) (by omega)]
    simp only [Option.bind_some]
    rw [spec_Fixed_eq (crcV (rowB r)) 4 (by omega)]
    simp only [Option.bind_some]
    rw [cat_ok (by have : (fixedV (crcV (rowB r)) 4).length ≤ 4 := hl; omega), rowV_of hc]
    rfl
theorem impl_ShowRow_eq (r : LogRow) : impl_ShowRow r = some (rowV r) := by
  unfold impl_ShowRow impl_isTenant impl_isPlace
  simp only [inRange_eq, Option.bind_some]
  rw [show (if (!decide (1 ≤ r.Tenant ∧ r.Tenant ≤ 99)) = true then some true else
      ((if decide (0 ≤ r.Boot ∧ r.Boot ≤ 1000) = true then some (decide (0 ≤ r.Seq ∧ r.Seq ≤ 999999)) else some false).bind fun T1 => some T1).bind fun R8 =>
        if (!R8) = true then some true else some (decide (((r.Text.length : Nat) : Int) > 300))) = some (!rowOkV r) from by
    rw [show ∀ o : Option Bool, (o.bind fun T1 => some T1) = o from fun o => by cases o <;> rfl]
    exact guard_spec _ _ _ _]
  simp only [Option.bind_some]
  cases hc : rowOkV r with
  | false => unfold rowV; rw [hc]; rfl
  | true =>
    obtain ⟨_, _, _, h4⟩ := (rowOk_iff r).1 hc
    have h1 := varV_len r.Tenant
    have h2 := varV_len r.Boot
    have h3 := varV_len r.Seq
    have h5 := pieceV_len r.Text
    have hb := rowB_len h4
    simp only [Bool.not_true, Bool.false_eq_true, if_false, impl_Var_eq, Option.bind_some]
    rw [cat_ok (by omega)]
    simp only [Option.bind_some]
    rw [cat_ok (by simp only [List.length_append]; omega), impl_short_eq r.Text (by omega)]
    simp only [Option.bind_some]
    rw [cat_ok (by simp only [List.length_append]; omega)]
    have e : varV r.Tenant ++ varV r.Boot ++ varV r.Seq ++ pieceV r.Text = rowB r := rfl
    rw [e]
    simp only [Option.bind_some]
    rw [summed_eq (rowB r) (by omega), rowV_of hc]
    rfl
/-- what lies at the beginning of a row -/
theorem row_parts {r : LogRow} {s : List UInt8} {a : Nat} (h : rowV r ≠ []) (hp : rowV r <+: s.drop a) : a + (rowV r).length ≤ s.length ∧ (fixedV (crcV (rowB r)) 4).length = 4 ∧ (rowV r).length = 4 + ((varV r.Tenant).length + (varV r.Boot).length + (varV r.Seq).length + (pieceV r.Text).length) ∧
    ∃ rest, s.drop (a + 4) = varV r.Tenant ++ (varV r.Boot ++ (varV r.Seq ++ (pieceV r.Text ++ rest))) := by
  have hc := rowV_ok h
  obtain ⟨rest, hr⟩ := hp
  have h4 := fixed4_len (crcV (rowB r)) (crcV_range _)
  have hlen : (rowV r).length = 4 + ((varV r.Tenant).length + (varV r.Boot).length + (varV r.Seq).length + (pieceV r.Text).length) := by
    rw [rowV_of hc, List.length_append, h4]
    unfold rowB
    simp only [List.length_append]
  have hl := congrArg List.length hr
  rw [List.length_append, List.length_drop] at hl
  refine ⟨by omega, h4, hlen, rest, ?_⟩
  rw [rowV_of hc, List.append_assoc] at hr
  have := drop_enc hr.symm
  rw [h4] at this
  rw [this]
  unfold rowB
  simp only [List.append_assoc]
theorem impl_rowAt_sound (s : List UInt8) (hs : s.length ≤ 1048576) : ∃ r n b, impl_rowAt s = some (r, n, b) ∧ (b = true → r.Synced = false ∧ rowV r ≠ [] ∧ ∃ m : Nat, n = (m : Int) ∧ m ≤ s.length ∧ rowV r = s.take m) := by
  unfold impl_rowAt
  obtain ⟨b1, _, _⟩ := rdB_range s 0 false 4 (Nat.zero_le _)
  rw [show impl_reader_bytes { text := s, at_ := (0 : Int), bad := false } 4 = _ from bytes_eq s 0 false 4 (Nat.zero_le _) (by omega) (by omega)]
  simp only [Option.bind_some]
  generalize rdB s 0 false 4 = p1 at b1
  obtain ⟨b2, b3, _⟩ := rdN_range s p1.2.1 p1.2.2 b1
  rw [number_eq s _ _ b1 (by omega)]
  simp only [Option.bind_some]
  generalize rdN s p1.2.1 p1.2.2 = p2 at b2 b3
  obtain ⟨c2, c3, _⟩ := rdN_range s p2.2.1 p2.2.2 b3
  rw [number_eq s _ _ b3 (by omega)]
  simp only [Option.bind_some]
  generalize rdN s p2.2.1 p2.2.2 = p3 at c2 c3
  obtain ⟨d2, d3, _⟩ := rdN_range s p3.2.1 p3.2.2 c3
  rw [number_eq s _ _ c3 (by omega)]
  simp only [Option.bind_some]
  generalize rdN s p3.2.1 p3.2.2 = p4 at d2 d3
  obtain ⟨e3, _⟩ := rdS_range s p4.2.1 p4.2.2 d3
  rw [short_eq s _ _ d3 (by omega)]
  simp only [Option.bind_some]
  generalize rdS s p4.2.1 p4.2.2 = p5 at e3
  cases p5.2.2 with
  | true => exact ⟨_, _, _, rfl, fun h => by cases h⟩
  | false =>
    simp only [Bool.false_eq_true, if_false, impl_ShowRow_eq, Option.bind_some]
    rw [show ssub s 0 (p5.2.1 : Int) = _ from ssub_nat s 0 p5.2.1 (Nat.zero_le _) e3]
    simp only [Option.bind_some, List.drop_zero, Nat.sub_zero]
    generalize hr : ({ Tenant := p2.1, Boot := p3.1, Seq := p4.1, Text := p5.1, Synced := false } : LogRow) = r
    by_cases h1 : rowV r = []
    · rw [decide_eq_true h1]
      exact ⟨_, _, _, rfl, fun h => by cases h⟩
    · rw [decide_eq_false h1]
      by_cases h2 : rowV r = s.take p5.2.1
      · rw [decide_eq_true h2]
        exact ⟨_, _, _, rfl, fun _ => ⟨by rw [← hr], h1, p5.2.1, rfl, e3, h2⟩⟩
      · rw [decide_eq_false h2]
        exact ⟨_, _, _, rfl, fun h => by cases h⟩
theorem impl_rowAt_complete {r : LogRow} {s : List UInt8} (hs : s.length ≤ 1048576) (h0 : r.Synced = false) (h : rowV r ≠ []) (hp : rowV r <+: s) : impl_rowAt s = some (r, ((rowV r).length : Int), true) := by
  have hp0 : rowV r <+: s.drop 0 := hp
  obtain ⟨q1, q2, q3, rest, q4⟩ := row_parts h hp0
  obtain ⟨k1, k2, k3, k4⟩ := (rowOk_iff r).1 (rowV_ok h)
  have p1 := drop_enc q4
  have p2 := drop_enc p1
  have p3 := drop_enc p2
  unfold impl_rowAt
  rw [show impl_reader_bytes { text := s, at_ := (0 : Int), bad := false } 4 = _ from bytes_eq s 0 false 4 (Nat.zero_le _) (by omega) (by omega)]
  have e1 : rdB s 0 false 4 = (s.take 4, 4, false) := by
    unfold rdB
    rw [Bool.false_or, decide_eq_false (by simp; omega)]
    rfl
  rw [e1]
  simp only [Option.bind_some]
  rw [number_eq s 4 false (by omega) (by omega), rdN_enc (a := 4) (by simpa using q4) (by omega)]
  simp only [Option.bind_some]
  rw [number_eq s _ false (by omega) (by omega), rdN_enc (by simpa using p1) (by omega)]
  simp only [Option.bind_some]
  rw [number_eq s _ false (by omega) (by omega), rdN_enc (by simpa using p2) (by omega)]
  simp only [Option.bind_some]
  rw [short_eq s _ false (by omega) (by omega), rdS_enc (by simpa using p3) (by omega) (by omega)]
  simp only [Option.bind_some, Bool.false_eq_true, if_false, impl_ShowRow_eq]
  have er : ({ Tenant := r.Tenant, Boot := r.Boot, Seq := r.Seq, Text := r.Text, Synced := false } : LogRow) = r := by rw [← h0]
  have en : 4 + (varV r.Tenant).length + (varV r.Boot).length + (varV r.Seq).length + (pieceV r.Text).length = (rowV r).length := by omega
  rw [er, en, decide_eq_false h, show ssub s 0 ((rowV r).length : Int) = _ from ssub_nat s 0 (rowV r).length (Nat.zero_le _) (by omega)]
  simp only [Bool.false_eq_true, if_false, Option.bind_some, List.drop_zero, Nat.sub_zero]
  have ep : s.take (rowV r).length = rowV r := (List.prefix_iff_eq_take.1 hp).symm
  rw [ep, decide_eq_true rfl]
  rfl
/-- the row at the beginning -/
noncomputable def rowR (s : List UInt8) : LogRow × Int × Bool := (impl_rowAt s).getD ({ Tenant := 0, Boot := 0, Seq := 0, Text := [], Synced := false }, 0, false)
theorem impl_rowAt_eq (s : List UInt8) (hs : s.length ≤ 1048576) : impl_rowAt s = some (rowR s) := by
  obtain ⟨r, n, b, e, _⟩ := impl_rowAt_sound s hs
  unfold rowR
  rw [e]
  rfl
theorem rowR_sound {s : List UInt8} (hs : s.length ≤ 1048576) (h : (rowR s).2.2 = true) : (rowR s).1.Synced = false ∧ rowV (rowR s).1 ≠ [] ∧ rowV (rowR s).1 <+: s ∧ (rowR s).2.1 = ((rowV (rowR s).1).length : Int) := by
  obtain ⟨r, n, b, e, hb⟩ := impl_rowAt_sound s hs
  unfold rowR at h ⊢
  rw [e] at h ⊢
  simp only [Option.getD_some] at h ⊢
  obtain ⟨h1, h2, m, h3, h4, h5⟩ := hb h
  refine ⟨h1, h2, by rw [h5]; exact List.take_prefix _ _, ?_⟩
  rw [h3, h5, List.length_take]
  omega
theorem rowR_complete {r : LogRow} {s : List UInt8} (hs : s.length ≤ 1048576) (h0 : r.Synced = false) (h : rowV r ≠ []) (hp : rowV r <+: s) : rowR s = (r, ((rowV r).length : Int), true) := by
  unfold rowR
  rw [impl_rowAt_complete hs h0 h hp]
  rfl
theorem rowV_four {r : LogRow} (h : rowV r ≠ []) : 5 ≤ (rowV r).length := by
  have hc := rowV_ok h
  have hl := fixed4_len (crcV (rowB r)) (crcV_range _)
  obtain ⟨k1, _⟩ := (rowOk_iff r).1 hc
  have := varV_ne (n := r.Tenant) (by omega)
  have := List.length_pos_iff.2 this
  rw [rowV_of hc, List.length_append, hl]
  unfold rowB
  simp only [List.length_append]
  omega
/-- rows, till there is none -/
noncomputable def scanN : Nat → List UInt8 → List LogRow × Nat
  | 0, _ => ([], 0)
  | f + 1, s => bif (rowR s).2.2 then ((rowR s).1 :: (scanN f (s.drop (rowV (rowR s).1).length)).1, (rowV (rowR s).1).length + (scanN f (s.drop (rowV (rowR s).1).length)).2) else ([], 0)
theorem scan_loop (s : List UInt8) (hs : s.length ≤ 1048576) (body : Int × List LogRow → Option (Ctl (Int × List LogRow) (Ctl Unit (List LogRow × Int))))
    (hb : ∀ (a : Nat) (out : List LogRow), a ≤ s.length → out.length ≤ a → body ((a : Int), out) = bif (rowR (s.drop a)).2.2 then some (.go (((a + (rowV (rowR (s.drop a)).1).length : Nat) : Int), out ++ [(rowR (s.drop a)).1])) else some (.done (.done (out, (a : Int))))) :
    ∀ (f a : Nat) (out : List LogRow), s.length - a < f → a ≤ s.length → out.length ≤ a → loopO body ((a : Int), out) = some (.done (out ++ (scanN f (s.drop a)).1, ((a + (scanN f (s.drop a)).2 : Nat) : Int))) := by
  intro f
  induction f with
  | zero => intro a out h; omega
  | succ f ih =>
    intro a out hf ha ho
    rw [loopO_eq, hb a out ha ho, scanN]
    cases hc : (rowR (s.drop a)).2.2 with
    | false => simp
    | true =>
      obtain ⟨h1, h2, h3, h4⟩ := rowR_sound (s := s.drop a) (by simp; omega) hc
      have h5 := rowV_four h2
      have h6 := h3.length_le
      rw [List.length_drop] at h6
      simp only [cond_true]
      rw [ih _ _ (by omega) (by omega) (by simp; omega), List.drop_drop, List.append_assoc, List.singleton_append, Nat.add_assoc]
theorem scan_text : ∀ (f : Nat) (s : List UInt8), s.length ≤ 1048576 → (scanN f s).1.flatMap rowV = s.take (scanN f s).2 ∧ (scanN f s).2 ≤ s.length ∧ (scanN f s).1.length ≤ (scanN f s).2 ∧ ∀ r ∈ (scanN f s).1, r.Synced = false
  | 0, s, _ => by simp [scanN]
  | f + 1, s, hs => by
    rw [scanN]
    cases hc : (rowR s).2.2 with
    | false => simp
    | true =>
      obtain ⟨h1, h2, h3, h4⟩ := rowR_sound hs hc
      have h5 := rowV_four h2
      have h6 := h3.length_le
      obtain ⟨i1, i2, i3, i4⟩ := scan_text f (s.drop (rowV (rowR s).1).length) (by simp; omega)
      rw [List.length_drop] at i2
      simp only [cond_true]
      refine ⟨?_, by omega, by simp; omega, fun r hr => ?_⟩
      · rw [List.flatMap_cons, i1, List.take_add, ← List.prefix_iff_eq_take.1 h3]
      · rcases List.mem_cons.1 hr with rfl | h
        · exact h1
        · exact i4 r h
theorem scan_prefix : ∀ (f g k : Nat) (s : List UInt8), s.length ≤ 1048576 → f ≤ g → (scanN f (s.take k)).1 <+: (scanN g s).1
  | 0, g, k, s, _, _ => by simp [scanN]
  | f + 1, 0, k, s, _, h => by omega
  | f + 1, g + 1, k, s, hs, h => by
    rw [scanN]
    cases hc : (rowR (s.take k)).2.2 with
    | false => simp
    | true =>
      obtain ⟨h1, h2, h3, h4⟩ := rowR_sound (s := s.take k) (by simp; omega) hc
      have hp : rowV (rowR (s.take k)).1 <+: s := h3.trans (List.take_prefix _ _)
      have e := rowR_complete hs h1 h2 hp
      have e1 : (rowR s).1 = (rowR (s.take k)).1 := by rw [e]
      have e2 : (rowR s).2.2 = true := by rw [e]
      rw [scanN, e2, e1]
      simp only [cond_true]
      rw [List.drop_take]
      exact List.prefix_cons_inj _ |>.2 (scan_prefix f g _ _ (by simp; omega) (by omega))
theorem impl_ScanRows_eq (s : List UInt8) (hs : s.length ≤ 1048576) : impl_ScanRows s = some ((scanN (s.length + 1) s).1, ((scanN (s.length + 1) s).2 : Int)) := by
  unfold impl_ScanRows
  rw [show ((0 : Int), ([] : List LogRow)) = (((0 : Nat) : Int), []) from rfl, scan_loop s hs _ ?hb (s.length + 1) 0 [] (by omega) (by omega) (by simp)]
  case hb =>
    intro a out ha ho
    simp only
    rw [ssub_end s a ha]
    simp only [Option.bind_some]
    rw [impl_rowAt_eq (s.drop a) (by simp; omega)]
    simp only [Option.bind_some]
    cases hc : (rowR (s.drop a)).2.2 with
    | false => rfl
    | true =>
      obtain ⟨h1, h2, h3, h4⟩ := rowR_sound (s := s.drop a) (by simp; omega) hc
      have h6 := h3.length_le
      rw [List.length_drop] at h6
      rw [app_ok (by simp; omega) (by simp; omega), h4]
      simp only [Bool.not_true, Bool.false_eq_true, if_false, Option.bind_some, cond_true]
      rw [wrap_ok (by omega) (by omega)]
      rfl
  rw [List.drop_zero, List.nil_append, Nat.zero_add]
  rfl
theorem l6V_ge (s : List UInt8) : ∀ (n a b : Nat), (l6V s n a).2 = (b : Int) → a ≤ b
  | 0, a, b, h => by simp only [l6V] at h; omega
  | n + 1, a, b, h => by
    rw [l6V] at h
    cases hd : decide (s.length < a) with
    | true => rw [hd] at h; simp only [cond_true] at h; omega
    | false =>
      rw [hd, cond_false] at h
      cases hr : readN 7 (s.drop a) with
      | none => rw [hr] at h; simp only at h; omega
      | some p =>
        obtain ⟨x, k⟩ := p
        rw [hr] at h
        have := l6V_ge s n (a + k) b h
        omega
theorem takeB_ge (s : List UInt8) (a c : Nat) (h : (takeB s a).2 = (c : Int)) : a ≤ c := by
  unfold takeB at h
  cases hr : readN 7 (s.drop a) with
  | none => rw [hr] at h; simp only at h; omega
  | some p =>
    obtain ⟨x, k⟩ := p
    rw [hr] at h
    cases hd : decide (x ≤ s.length - (a + k)) with
    | true => simp only [hd, cond_true] at h; omega
    | false => simp only [hd, cond_false] at h; omega
theorem spec_ScanRows_eq (s : List UInt8) (hs : s.length ≤ 1048576) : spec_ScanRows s = some ((scanN (s.length + 1) s).1, ((scanN (s.length + 1) s).2 : Int)) := by
  unfold spec_ScanRows
  rw [show ((0 : Int), ([] : List LogRow)) = (((0 : Nat) : Int), []) from rfl, scan_loop s hs _ ?hb (s.length + 1) 0 [] (by omega) (by omega) (by simp)]
  case hb =>
    intro a out ha ho
    simp only
    rw [wrap_ok (n := (a : Int) + 4) (by omega) (by omega), show (a : Int) + 4 = ((a + 4 : Nat) : Int) from rfl, show spec_l6Vars s ((a + 4 : Nat) : Int) (3 : Int) = _ from spec_l6Vars_eq s (a + 4) 3 (by omega) (by decide) (by omega)]
    simp only [Option.bind_some]
    cases hc : (rowR (s.drop a)).2.2 with
    | true =>
      obtain ⟨h1, h2, h3, h4⟩ := rowR_sound (s := s.drop a) (by simp; omega) hc
      generalize (rowR (s.drop a)).1 = r at h1 h2 h3
      obtain ⟨q1, q2, q3, rest, q4⟩ := row_parts h2 h3
      obtain ⟨k1, k2, k3, k4⟩ := (rowOk_iff r).1 (rowV_ok h2)
      have hv := l6V_enc s [r.Tenant, r.Boot, r.Seq] (a + 4) (pieceV r.Text ++ rest) (by
        intro x hx
        simp only [List.mem_cons, List.not_mem_nil, or_false] at hx
        rcases hx with rfl | rfl | rfl <;> omega) (by omega) (by rw [q4]; simp)
      have hd : s.drop (a + 4 + (([r.Tenant, r.Boot, r.Seq] : List Int).flatMap varV).length) = pieceV r.Text ++ rest := by
        refine drop_enc (x := ([r.Tenant, r.Boot, r.Seq] : List Int).flatMap varV) ?_
        rw [q4]; simp
      have hfl : (([r.Tenant, r.Boot, r.Seq] : List Int).flatMap varV).length = (varV r.Tenant).length + (varV r.Boot).length + (varV r.Seq).length := by simp; omega
      rw [show l6V s 3 (a + 4) = l6V s ([r.Tenant, r.Boot, r.Seq] : List Int).length (a + 4) from rfl, hv, spec_l6Take_eq s _ (by omega) hs, takeB_enc hd (by omega) (by omega)]
      have en : a + 4 + (([r.Tenant, r.Boot, r.Seq] : List Int).flatMap varV).length + (pieceV r.Text).length = a + (rowV r).length := by omega
      rw [en]
      simp only [Option.bind_some]
      rw [decide_eq_false (by omega : ¬ ((a + (rowV r).length : Nat) : Int) < 0)]
      have i0 : idx ([r.Tenant, r.Boot, r.Seq] : List Int) (0 : Int) = some r.Tenant := rfl
      have i1 : idx ([r.Tenant, r.Boot, r.Seq] : List Int) (1 : Int) = some r.Boot := rfl
      have i2 : idx ([r.Tenant, r.Boot, r.Seq] : List Int) (2 : Int) = some r.Seq := rfl
      have er : ({ Tenant := r.Tenant, Boot := r.Boot, Seq := r.Seq, Text := r.Text, Synced := false } : LogRow) = r := by rw [← h1]
      simp only [Bool.false_eq_true, if_false, i0, i1, i2, Option.bind_some, spec_ShowRow_eq, er]
      rw [decide_eq_false h2, ssub_nat s a (a + (rowV r).length) (by omega) q1, Nat.add_sub_cancel_left, ← List.prefix_iff_eq_take.1 h3, app_ok (by simp; omega) (by simp; omega)]
      simp
    | false =>
      have hno : ∀ r : LogRow, r.Synced = false → rowV r ≠ [] → ¬ rowV r <+: s.drop a := by
        intro r g0 g1 g2
        rw [rowR_complete (by simp; omega) g0 g1 g2] at hc
        cases hc
      by_cases h4 : a + 4 ≤ s.length
      · obtain ⟨q1, q2⟩ := l6V_range s 3 (a + 4) h4
        rcases q1 with e | ⟨b, e1, e2, e3⟩
        · rw [e, spec_l6Take_neg]; rfl
        · rw [e1, spec_l6Take_eq s b e2 hs]
          simp only [Option.bind_some]
          rcases takeB_range s b e2 with e | ⟨c, c1, c2⟩
          · rw [e]; rfl
          · rw [c1, decide_eq_false (by omega : ¬ (c : Int) < 0), idx_some' (by omega) (by omega), idx_some' (by omega) (by omega), idx_some' (by omega) (by omega)]
            simp only [Bool.false_eq_true, if_false, Option.bind_some, spec_ShowRow_eq]
            generalize hr : ({ Tenant := (l6V s 3 (a + 4)).1[(0 : Int).toNat]'(by omega), Boot := (l6V s 3 (a + 4)).1[(1 : Int).toNat]'(by omega), Seq := (l6V s 3 (a + 4)).1[(2 : Int).toNat]'(by omega), Text := (takeB s b).1, Synced := false } : LogRow) = r
            by_cases h2 : rowV r = []
            · rw [decide_eq_true h2]; rfl
            · rw [decide_eq_false h2]
              have hz : ∃ z, ssub s (a : Int) (c : Int) = some z ∧ rowV r ≠ z := by
                have g1 := l6V_ge s 3 (a + 4) b e1
                have g2 := takeB_ge s b c c1
                refine ⟨_, ssub_nat s a c (by omega) c2, fun e => hno r (by rw [← hr]) h2 ?_⟩
                rw [e]
                exact List.take_prefix _ _
              obtain ⟨z, z1, z2⟩ := hz
              rw [z1]
              simp only [Bool.false_eq_true, if_false, Option.bind_some]
              rw [decide_eq_false z2]
              rfl
      · have e : l6V s 3 (a + 4) = ([], -1) := by rw [l6V, decide_eq_true (by omega)]; rfl
        rw [e, spec_l6Take_neg]; rfl
  rw [List.drop_zero, List.nil_append, Nat.zero_add]
  rfl
theorem sameRows_eq (a b : List LogRow) (h : a.length ≤ 1048576) : laws_sameRows a b = some (decide (a = b)) := by
  unfold laws_sameRows
  have := eqS_of a b (fun x y => some (decide (x.Tenant = y.Tenant) && (decide (x.Boot = y.Boot) && (decide (x.Seq = y.Seq) && (decide (x.Text = y.Text) && (decide (x.Synced = y.Synced) && true)))))) (fun x y _ _ => by
    congr 1
    obtain ⟨x1, x2, x3, x4, x5⟩ := x
    obtain ⟨y1, y2, y3, y4, y5⟩ := y
    simp only [LogRow.mk.injEq, Bool.and_true, Bool.decide_and]) (by omega)
  simp only [Option.bind_some] at this
  exact this
theorem grow_loop (m : Int) (hm : m ≤ 1000) : ∃ w : List UInt8, ∀ {ρ : Type}, loopO (ρ := Ctl (List UInt8) ρ) (fun (S52 : List UInt8) => if (decide (((S52.length : Nat) : Int) < m)) = true then ((app 1 S52 ([(65 : UInt8)])).bind fun E59 =>
    some (.go E59))
    else (some (.done (.go S52)))) ([] : List UInt8) = some (.go w) := by
  refine ⟨List.replicate m.toNat 65, fun {ρ} => ?_⟩
  refine loopO_is (fun k S => S = List.replicate k 65) m.toNat _ rfl ?_ ?_
  · rintro k _ hk rfl
    left
    rw [if_pos (by simp only [decide_eq_true_eq, List.length_replicate]; omega), app_ok (by simp; omega) (by simp; omega)]
    exact ⟨_, rfl, by rw [List.replicate_succ']⟩
  · rintro _ rfl
    rw [if_neg (by simp only [decide_eq_true_eq, List.length_replicate]; omega)]
theorem l8Row_ok (b : List UInt8) (i h : Int) (hi : 0 ≤ i ∧ i ≤ b.length) (hb : b.length ≤ 1048576) : ∃ r i' h', spec_l8Row { b := b, i := i, h := h } = some (r, { b := b, i := i', h := h' }) ∧ (0 ≤ i' ∧ i' ≤ b.length) := by
  unfold spec_l8Row
  obtain ⟨x1, i1, h1, e1, g1, k1⟩ := l1Below_ok b i h 4 hi hb
  simp only [e1, Option.bind_some]
  obtain ⟨x2, i2, h2, e2, g2, k2⟩ := l1Below_ok b i1 h1 3 k1 hb
  simp only [e2, Option.bind_some]
  obtain ⟨x3, i3, h3, e3, g3, k3⟩ := l1Below_ok b i2 h2 300 k2 hb
  simp only [e3, Option.bind_some]
  obtain ⟨x4, i4, h4, e4, g4, k4⟩ := l1Text_ok b i3 h3 9 (by omega) k3 hb
  simp only [e4, Option.bind_some]
  obtain ⟨x5, i5, h5, e5, k5⟩ := l1Once_ok b i4 h4 2 k4 hb
  simp only [e5, Option.bind_some]
  obtain ⟨x6, i6, h6, e6, k6⟩ := l1Once_ok b i5 h5 10 k5 hb
  simp only [e6, Option.bind_some]
  cases x6 with
  | false =>
    simp only [Bool.false_eq_true, if_false, bindC_go]
    exact ⟨_, _, _, rfl, k6⟩
  | true =>
    obtain ⟨x7, i7, h7, e7, g7, k7⟩ := l1Below_ok b i6 h6 4 k6 hb
    simp only [if_true, e7, Option.bind_some]
    by_cases c0 : x7 = 0
    · rw [decide_eq_true c0]
      obtain ⟨x8, i8, h8, e8, g8, k8⟩ := l1PickInt_ok b i7 h7 [0, 99, 100] (by simp) k7 hb
      simp only [if_true, e8, Option.bind_some, bindC_go]
      exact ⟨_, _, _, rfl, k8⟩
    · rw [decide_eq_false c0]
      simp only [Bool.false_eq_true, if_false]
      by_cases c1 : x7 = 1
      · rw [decide_eq_true c1]
        obtain ⟨x8, i8, h8, e8, g8, k8⟩ := l1PickInt_ok b i7 h7 [-1, 1000, 1001] (by simp) k7 hb
        simp only [if_true, e8, Option.bind_some, bindC_go]
        exact ⟨_, _, _, rfl, k8⟩
      · rw [decide_eq_false c1]
        simp only [Bool.false_eq_true, if_false]
        by_cases c2 : x7 = 2
        · rw [decide_eq_true c2]
          obtain ⟨x8, i8, h8, e8, g8, k8⟩ := l1PickInt_ok b i7 h7 [-1, 999999, 1000000] (by simp) k7 hb
          simp only [if_true, e8, Option.bind_some, bindC_go]
          exact ⟨_, _, _, rfl, k8⟩
        · rw [decide_eq_false c2]
          obtain ⟨x8, i8, h8, e8, g8, k8⟩ := l1Below_ok b i7 h7 2 k7 hb
          have hx := g8.2.1 (by omega)
          simp only [Bool.false_eq_true, if_false, e8, Option.bind_some]
          rw [wrap_ok (n := 300 + x8) (by omega) (by omega)]
          obtain ⟨w, hw⟩ := grow_loop (300 + x8) (by omega)
          rw [hw]
          simp only [bindC_go]
          exact ⟨_, _, _, rfl, k8⟩
theorem DrawScanRows_ok (code : List UInt8) (hb : code.length ≤ 1048576) : ∃ s, spec_DrawScanRows code = some s ∧ s.length ≤ 1048576 := by
  unfold spec_DrawScanRows
  obtain ⟨q, hq⟩ := l1New_ok code hb
  obtain ⟨x1, i1, h1, e1, g1, k1⟩ := l1Below_ok code 0 q 6 (by omega) hb
  have hx1 := g1.2.1 (by omega)
  simp only [hq, Option.bind_some, e1]
  refine loopO_G (τ := Int × Int × List UInt8 × Int) (ρ := Int × Int × List UInt8) (R := List UInt8) (G := fun o => ∃ s, o = some s ∧ s.length ≤ 1048576) (I := fun k S => (0 ≤ S.1 ∧ S.1 ≤ code.length) ∧ S.2.2.2 = x1 - (k : Int) ∧ S.2.2.1.length ≤ 332 * k) x1.toNat (Q := fun r => ∃ p q a, r = .go (p, q, a) ∧ (0 ≤ p ∧ p ≤ code.length) ∧ a.length ≤ 2000) ⟨k1, by simp, by simp⟩ ?_ ?_ ?_
  · rintro k ⟨p, q, d, c⟩ hk ⟨b1, b2, b3⟩
    simp only at b1 b2 b3
    subst b2
    left
    obtain ⟨r, i2, h2, e2, k2⟩ := l8Row_ok code p q b1 hb
    have hr := rowV_len r
    simp only [e2, Option.bind_some, spec_ShowRow_eq]
    rw [if_pos (by simp only [decide_eq_true_eq]; omega), cat_ok (by omega), wrap_ok (n := x1 - (k : Int) - 1) (by omega) (by omega)]
    exact ⟨_, rfl, k2, by simp only; omega, by simp only [List.length_append]; omega⟩
  · rintro ⟨p, q, d, c⟩ ⟨b1, b2, b3⟩
    simp only at b1 b2 b3
    exact ⟨_, by simp only; rw [if_neg (by simp only [decide_eq_true_eq]; omega)], p, q, d, rfl, b1, by omega⟩
  rintro _ ⟨p, q, d, rfl, b1, b3⟩
  obtain ⟨x2, i2, h2, e2, g2, k2⟩ := l1Below_ok code p q 5 b1 hb
  simp only [bindC_go, e2, Option.bind_some]
  by_cases c0 : x2 = 0
  · rw [decide_eq_true c0]
    obtain ⟨t, i3, h3, e3, g3, k3⟩ := l1Spoil_ok code i2 h2 d (by omega) k2 hb
    simp only [if_true, e3, Option.bind_some]
    exact ⟨_, rfl, by omega⟩
  · rw [decide_eq_false c0]
    simp only [Bool.false_eq_true, if_false]
    by_cases c1 : x2 = 1
    · rw [decide_eq_true c1]
      obtain ⟨t, i3, h3, e3, g3, k3⟩ := l1Text_ok code i2 h2 9 (by omega) k2 hb
      simp only [if_true, e3, Option.bind_some]
      rw [cat_ok (by omega)]
      exact ⟨_, rfl, by simp only [List.length_append]; omega⟩
    · rw [decide_eq_false c1]
      simp only [Bool.false_eq_true, if_false]
      by_cases c2 : x2 = 2
      · rw [decide_eq_true c2]
        rw [wrap_ok (n := ((d.length : Nat) : Int) + 1) (by omega) (by omega)]
        obtain ⟨t, i3, h3, e3, g3, k3⟩ := l1Below_ok code i2 h2 (((d.length : Nat) : Int) + 1) k2 hb
        have ht := g3.2.1 (by omega)
        simp only [if_true, e3, Option.bind_some]
        obtain ⟨m, rfl⟩ : ∃ m : Nat, t = (m : Int) := ⟨t.toNat, by omega⟩
        rw [show ssub d 0 (m : Int) = _ from ssub_nat d 0 m (by omega) (by omega)]
        exact ⟨_, rfl, by simp; omega⟩
      · rw [decide_eq_false c2]
        simp only [Bool.false_eq_true, if_false]
        exact ⟨_, rfl, by omega⟩
theorem FnRows_pure (code : List UInt8) : laws_FnRows code = some true := by
  unfold laws_FnRows
  rw [big_eq]
  simp only [Option.bind_some]
  by_cases hc : ((code.length : Nat) : Int) > 1048576
  · rw [decide_eq_true hc]; rfl
  rw [decide_eq_false hc]
  have hb : code.length ≤ 1048576 := by omega
  obtain ⟨s, es, hs⟩ := DrawScanRows_ok code hb
  obtain ⟨t1, t2, t3, t4⟩ := scan_text (s.length + 1) s hs
  have hI := impl_ScanRows_eq s hs
  have hS := spec_ScanRows_eq s hs
  have hpre : ∀ k : Nat, (scanN ((s.take k).length + 1) (s.take k)).1 <+: (scanN (s.length + 1) s).1 := fun k => scan_prefix _ _ k s hs (by rw [List.length_take]; omega)
  generalize scanN (s.length + 1) s = o at t1 t2 t3 t4 hI hS hpre
  obtain ⟨l, e⟩ := o
  simp only at t1 t2 t3 t4 hI hS hpre
  simp only [Bool.false_eq_true, if_false, es, Option.bind_some, hI, hS, decide_true, Bool.not_true, sameRows_eq l l (by omega)]
  rw [loopO_count (fun k => ((l.take k).flatMap rowV, (k : Int))) l.length (r := Ctl.go (l.flatMap rowV)) ?h0]
  case h0 => simp
  · simp only [bindC_go]
    rw [show ssub s 0 (e : Int) = _ from ssub_nat s 0 e (by omega) t2]
    simp only [Option.bind_some, List.drop_zero, Nat.sub_zero, t1, decide_true, Bool.not_true, Bool.false_eq_true, if_false]
    obtain ⟨x, hx, g1, g2⟩ := at_ok code 0 (by omega) hb
    have hnz : nz ((e : Int) + 1) = some () := by unfold nz; rw [if_neg (by omega)]
    rw [wrap_ok (n := (e : Int) + 1) (by omega) (by omega)]
    simp only [hx, Option.bind_some, hnz]
    have h1 := Int.tmod_nonneg (a := x) ((e : Int) + 1) g1
    have h2 := Int.tmod_lt_of_pos x (b := (e : Int) + 1) (by omega)
    obtain ⟨k, hk⟩ : ∃ k : Nat, Int.tmod x ((e : Int) + 1) = (k : Int) := ⟨(Int.tmod x ((e : Int) + 1)).toNat, by omega⟩
    rw [hk] at h2 ⊢
    rw [show ssub s 0 (k : Int) = _ from ssub_nat s 0 k (by omega) (by omega)]
    simp only [Option.bind_some, List.drop_zero, Nat.sub_zero]
    have hkl : (s.take k).length = k := by rw [List.length_take]; omega
    obtain ⟨u1, u2, u3, u4⟩ := scan_text ((s.take k).length + 1) (s.take k) (by omega)
    have hpk := hpre k
    rw [impl_ScanRows_eq (s.take k) (by omega)]
    generalize scanN ((s.take k).length + 1) (s.take k) = o2 at u1 u2 u3 u4 hpk
    obtain ⟨p, cut⟩ := o2
    simp only at u1 u2 u3 u4 hpk
    have hpl := hpk.length_le
    simp only [Option.bind_some]
    rw [decide_eq_true (by omega : (cut : Int) ≤ (k : Int)), piece_nat l 0 p.length 0 _ rfl rfl (by omega) hpl]
    simp only [if_true, Option.bind_some, List.drop_zero, Nat.sub_zero]
    rw [← List.prefix_iff_eq_take.1 hpk, sameRows_eq p p (by omega), impl_ShowRow_eq]
    have hne : rowV ({ Tenant := 1, Boot := 0, Seq := 0, Text := [], Synced := false } : LogRow) ≠ [] := by
      rw [rowV_of (by decide)]
      intro h
      have := (List.append_eq_nil_iff.1 h).2
      unfold rowB at this
      have := (List.append_eq_nil_iff.1 (List.append_eq_nil_iff.1 (List.append_eq_nil_iff.1 this).1).1).1
      exact varV_ne (n := 1) (by omega) this
    simp only [decide_true, if_true, Option.bind_some]
    rw [decide_eq_false hne]
    rfl
  · intro k hk
    have hl : ((l.take k).flatMap rowV).length ≤ 332 * (l.take k).length := flat_len rowV 332 _ fun x _ => rowV_len x
    have hr := rowV_len l[k]
    have hlk : (l.take k).length ≤ k := List.length_take_le _ _
    simp only [idx_nat l k hk, Option.bind_some, impl_ShowRow_eq]
    rw [if_pos (by simpa using hk), cat_ok (by omega), wrap_ok (n := (k : Int) + 1) (by omega) (by omega), flat_take rowV l k hk]
    rfl
  · simp only [List.take_length]
    rw [if_neg (by simp)]
theorem FnRows_proved : Rows.FnRowsSaid := FnRows_over fun code _ => FnRows_pure code

end Go.Proofs.Ytldbnjgpcilgiaa
