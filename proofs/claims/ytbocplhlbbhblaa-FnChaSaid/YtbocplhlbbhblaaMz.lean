/-
  The plain laws: what the pure functions come to, and the statements. Conditions: none.
-/
import Derived.Test.YtbocplhlbbhblaaPm
import Derived.Test.YtbocplhlbbhblaaC5
set_option linter.unusedVariables false
set_option linter.unusedSimpArgs false
namespace Go.Proofs.Ytbocplhlbbhblaa
open Go Sl

theorem inRange_eq (n a b : Int) : impl_inRange n a b = some (decide (a ≤ n ∧ n ≤ b)) := by
  unfold impl_inRange
  by_cases h : n ≥ a <;> simp [h]
theorem l1In_eq (n a b : Int) : spec_l1In n a b = some (decide (a ≤ n ∧ n ≤ b)) := by
  unfold spec_l1In
  by_cases h : n ≥ a <;> simp [h]
/-! ### SpaceOk -/
theorem all_range (l : List Int) (p : Int → Bool) (f : Int → Option Bool) (hf : ∀ x, f x = some (p x)) (hl : l.length ≤ 1048576) :
    loopO (ρ := Ctl Unit Bool) (fun (S6 : Int) => if (decide (S6 < ((l.length : Nat) : Int))) = true then ((idx l S6).bind fun E11 =>
  (f E11).bind fun R13 =>
  if (!R13) = true then (some (.done (.done false)))
  else (some (.go (IntKind.i64.wrap (S6 + (1 : Int))))))
  else (some (.done (.go ())))) (0 : Int) = some (if l.all p then .go () else .done false) := by
  rw [loopO_list l (fun k (_ : Unit) => (k : Int)) (fun _ x _ => if p x then some (Ctl.go ()) else some (Ctl.done (Ctl.done false))) (fun _ => some (Ctl.go ())) () ?h0 ?hs ?hf]
  case h0 => rfl
  case hs =>
    intro k hk _
    simp only [idx_nat l k hk, Option.bind_some, hf]
    rw [wrap_ok (by omega) (by omega)]
    by_cases he : p l[k] = true
    · simp [he, Ctl.mapGo, hk]
    · simp [he, Ctl.mapGo, hk]
  case hf => intro _; simp
  rw [runL_all p (Ctl.done false) _ _ (by intro k x _; rfl)]
  split <;> rfl
/-- giving blocks back, one by one -/
def giveV (who : Int) : List Int → List Int → Option (List Int)
  | [], s => some s
  | b :: bs, s => if 0 ≤ b ∧ b < s.length ∧ s[b.toNat]? = some who ∧ 1 ≤ who then giveV who bs (s.set b.toNat 0) else none
theorem giveV_cons (who b : Int) (bs s : List Int) : giveV who (b :: bs) s = if 0 ≤ b ∧ b < s.length ∧ s[b.toNat]? = some who ∧ 1 ≤ who then giveV who bs (s.set b.toNat 0) else none := rfl
theorem giveV_nil (who : Int) (s : List Int) : giveV who [] s = some s := rfl
theorem giveV_length (who : Int) : ∀ (bs s r : List Int), giveV who bs s = some r → r.length = s.length
  | [], s, r, h => by simp [giveV] at h; rw [h]
  | b :: bs, s, r, h => by
    unfold giveV at h
    split at h
    · rw [giveV_length who bs _ r h, List.length_set]
    · cases h
theorem idx_some' {α : Type} {l : List α} {i : Int} (h0 : 0 ≤ i) (h1 : i < l.length) : idx l i = some (l[i.toNat]'(by omega)) := by
  unfold idx; rw [if_pos h0, List.getElem?_eq_getElem]
/-- what a quota needs -/
def needV (q : Int) : Int := if 0 ≤ q ∧ q ≤ 1000 then 2 + 2 * ((q + 49) / 50) else 0
theorem needV_range (q : Int) : 0 ≤ needV q ∧ needV q ≤ 42 := by
  unfold needV; split <;> omega
theorem markText_loop (m : Nat) : ∀ s : List UInt8, s.length + m ≤ 9223372036854775806 → ∃ r : List UInt8, loopO (ρ := Ctl (List UInt8) (List UInt8)) (fun (S2 : Int × List UInt8) => if (decide (S2.1 > (0 : Int))) = true then ((cat ([toU8 (IntKind.i64.wrap ((48 : Int) + (Int.tmod S2.1 (10 : Int))))]) S2.2).bind fun E8 =>
  some (.go (IntKind.i64.wrap (Int.tdiv S2.1 (10 : Int)), E8)))
  else (some (.done (.go S2.2)))) ((m : Int), s) = some (.go r) ∧ r.length ≤ s.length + m := by
  induction m using Nat.strongRecOn with
  | _ m ih =>
    intro s hs
    rw [loopO_eq]
    by_cases h0 : m = 0
    · subst h0
      exact ⟨s, by simp, by omega⟩
    · simp only
      rw [if_pos (by simp; omega), cat_ok (by simp; omega)]
      have hd : Int.tdiv (m : Int) 10 = ((m / 10 : Nat) : Int) := rfl
      rw [hd, wrap_ok (n := ((m / 10 : Nat) : Int)) (by omega) (by omega)]
      simp only [Option.bind_some]
      obtain ⟨r, hr, hl⟩ := ih (m / 10) (by omega) ([toU8 (IntKind.i64.wrap ((48 : Int) + (Int.tmod (m : Int) (10 : Int))))] ++ s) (by simp; omega)
      exact ⟨r, hr, by simp at hl; omega⟩
def wgt_L1Cur (x : L1Cur) : Nat := x.b.length + 0

/-- a list turned up to a place -/
def preM {α : Type} (f : α → α) (l : List α) (k : Nat) : List α := (l.take k).map f ++ l.drop k
theorem preM_length {α : Type} (f : α → α) (l : List α) (k : Nat) : (preM f l k).length = l.length := by unfold preM; simp; omega
theorem preM_get {α : Type} (f : α → α) (l : List α) (k : Nat) (h : k < l.length) : idx (preM f l k) (k : Int) = some l[k] := by
  rw [idx_nat _ k (by rw [preM_length]; exact h)]
  congr 1
  have hl : ((l.take k).map f).length = k := by rw [List.length_map, List.length_take]; omega
  unfold preM
  rw [List.getElem_append_right (by omega)]
  simp only [hl, Nat.sub_self]
  simp
theorem preM_set {α : Type} (f : α → α) (l : List α) (k : Nat) (h : k < l.length) : (preM f l k).set k (f l[k]) = preM f l (k + 1) := by
  have hl : ((l.take k).map f).length = k := by rw [List.length_map, List.length_take]; omega
  have htk : l.take (k + 1) = l.take k ++ [l[k]] := by rw [List.take_add_one, List.getElem?_eq_getElem h]; rfl
  unfold preM
  rw [List.set_append_right _ _ (by omega), hl, Nat.sub_self, htk, List.drop_eq_getElem_cons h, List.set_cons_zero, List.map_append, List.append_assoc]
  rfl
theorem preM_same {α : Type} (f : α → α) (l : List α) (k : Nat) (h : k < l.length) (hf : f l[k] = l[k]) : preM f l (k + 1) = preM f l k := by
  rw [← preM_set f l k h, hf]
  apply List.ext_getElem?
  intro j
  rw [List.getElem?_set]
  split
  · rename_i he
    subst he
    have := preM_get f l k h
    unfold idx at this
    rw [if_pos (by omega), Int.toNat_natCast] at this
    rw [if_pos (by rw [preM_length]; exact h), this]
  · rfl
theorem preM_all {α : Type} (f : α → α) (l : List α) : preM f l l.length = l.map f := by unfold preM; simp
/-- a tenant's blocks, wiped -/
def wipeV (who : Int) (l : List Int) : List Int := l.map fun x => if x = who then 0 else x
/-- the first n free blocks of the first k -/
def freeIx (l : List Int) (n : Int) : Nat → List Nat
  | 0 => []
  | k + 1 => if l[k]? = some 0 ∧ ((freeIx l n k).length : Int) < n then freeIx l n k ++ [k] else freeIx l n k
theorem freeIx_lt (l : List Int) (n : Int) : ∀ k, ∀ i ∈ freeIx l n k, i < k
  | 0, i, h => by simp [freeIx] at h
  | k + 1, i, h => by
    unfold freeIx at h
    split at h
    · rcases List.mem_append.1 h with h | h
      · have := freeIx_lt l n k i h; omega
      · have : i = k := by simpa using h
        omega
    · have := freeIx_lt l n k i h; omega
theorem freeIx_length (l : List Int) (n : Int) : ∀ k, (freeIx l n k).length ≤ k
  | 0 => by simp [freeIx]
  | k + 1 => by
    have := freeIx_length l n k
    unfold freeIx
    split
    · simp; omega
    · omega
theorem freeIx_sat (l : List Int) (n : Int) (k : Nat) (h : ¬ ((freeIx l n k).length : Int) < n) : ∀ d, freeIx l n (k + d) = freeIx l n k
  | 0 => rfl
  | d + 1 => by
    have := freeIx_sat l n k h d
    have e : freeIx l n (k + (d + 1)) = if l[k + d]? = some 0 ∧ ((freeIx l n (k + d)).length : Int) < n then freeIx l n (k + d) ++ [k + d] else freeIx l n (k + d) := rfl
    rw [e, this, if_neg (fun h2 => h h2.2)]
theorem freeIx_count (l : List Int) (n : Int) (hn : 1 ≤ n) : ∀ k, k ≤ l.length → (((freeIx l n k).length : Int) < n ↔ (((l.take k).countP fun x => decide (x = 0) : Nat) : Int) < n) ∧ ((((l.take k).countP fun x => decide (x = 0) : Nat) : Int) < n → (freeIx l n k).length = ((l.take k).countP fun x => decide (x = 0))) ∧
    ((((l.take k).countP fun x => decide (x = 0) : Nat) : Int) = n → ((freeIx l n k).length : Int) = n)
  | 0, _ => by simp [freeIx]
  | k + 1, hk => by
    obtain ⟨h1, h2, h3⟩ := freeIx_count l n hn k (by omega)
    have hk' : k < l.length := by omega
    have htk : l.take (k + 1) = l.take k ++ [l[k]] := by rw [List.take_add_one, List.getElem?_eq_getElem hk']; rfl
    unfold freeIx
    rw [htk, List.countP_append, List.getElem?_eq_getElem hk']
    by_cases hx : l[k] = 0
    · simp only [hx, true_and, List.countP_cons, List.countP_nil, decide_true, if_true, Nat.zero_add]
      by_cases hc : ((freeIx l n k).length : Int) < n
      · rw [if_pos hc]
        have := h2 (h1.1 hc)
        simp only [List.length_append, List.length_cons, List.length_nil]
        omega
      · rw [if_neg hc]
        have : ¬ (((l.take k).countP fun x => decide (x = 0) : Nat) : Int) < n := fun h => hc (h1.2 h)
        omega
    · simp only [List.countP_cons, List.countP_nil, hx, decide_false, Bool.false_eq_true, if_false, Nat.add_zero]
      rw [if_neg (by simp [hx])]
      exact ⟨h1, h2, h3⟩
/-- blocks given to somebody -/
def setAll (who : Int) (l : List Int) (g : List Nat) : List Int := g.foldl (fun s i => s.set i who) l
theorem setAll_length (who : Int) (g : List Nat) : ∀ l, (setAll who l g).length = l.length := by
  induction g with
  | nil => intro l; rfl
  | cons i g ih => intro l; show (setAll who (l.set i who) g).length = _; rw [ih, List.length_set]
theorem setAll_snoc (who : Int) (l : List Int) (g : List Nat) (i : Nat) : setAll who l (g ++ [i]) = (setAll who l g).set i who := by
  unfold setAll; rw [List.foldl_append]; rfl
theorem sLt_nil (a : List UInt8) : sLt a [] = false := by cases a <;> rfl
theorem sLt_compl : ∀ a b : List UInt8, (sLt b a || decide (b = a)) = !sLt a b
  | [], [] => rfl
  | [], b :: y => by simp [sLt, Op.bytesLess]
  | a :: x, [] => by simp [sLt, Op.bytesLess]
  | a :: x, b :: y => by
    have ih := sLt_compl x y
    simp only [sLt] at ih
    simp only [sLt, Op.bytesLess]
    by_cases h1 : a < b
    · have h2 : ¬ b < a := fun h => absurd (UInt8.lt_trans h1 h) (UInt8.lt_irrefl _)
      have h3 : ¬ b = a := fun h => by subst h; exact UInt8.lt_irrefl _ h1
      simp [h1, h2, h3]
    · by_cases h2 : b < a
      · have h3 : ¬ a = b := fun h => by subst h; exact UInt8.lt_irrefl _ h2
        simp [h1, h2, h3]
      · have h3 : a = b := by
          rw [UInt8.lt_iff_toNat_lt] at h1 h2
          apply UInt8.toNat_inj.1
          omega
        subst h3
        simp only [h1, decide_false, Bool.false_or, beq_self_eq_true, Bool.true_and, List.cons.injEq, true_and]
        exact ih
theorem scan_up (p : Nat → Bool) (n : Nat) : ∀ d a, a + d = n → ∃ j, a ≤ j ∧ j ≤ n ∧ (∀ i, a ≤ i → i < j → p i = false) ∧ (j < n → p j = true)
  | 0, a, h => ⟨a, Nat.le_refl _, by omega, fun i h1 h2 => by omega, fun h => by omega⟩
  | d + 1, a, h => by
    cases hp : p a with
    | true => exact ⟨a, Nat.le_refl _, by omega, fun i h1 h2 => by omega, fun _ => hp⟩
    | false =>
      obtain ⟨j, h1, h2, h3, h4⟩ := scan_up p n d (a + 1) (by omega)
      refine ⟨j, by omega, h2, fun i h5 h6 => ?_, h4⟩
      by_cases e : i = a
      · rw [e]; exact hp
      · exact h3 i (by omega) h6
theorem down_stop (p : Nat → Bool) : ∀ n : Nat, ∃ j : Nat, j ≤ n ∧ (∀ i, j ≤ i → i < n → p i = false) ∧ (0 < j → p (j - 1) = true)
  | 0 => ⟨0, Nat.le_refl _, fun i h1 h2 => by omega, fun h => by omega⟩
  | n + 1 => by
    cases hp : p n with
    | true => exact ⟨n + 1, Nat.le_refl _, fun i h1 h2 => by omega, fun _ => by simpa using hp⟩
    | false =>
      obtain ⟨j, h1, h2, h3⟩ := down_stop p n
      refine ⟨j, by omega, fun i h4 h5 => ?_, h3⟩
      by_cases e : i = n
      · rw [e]; exact hp
      · exact h2 i h4 (by omega)
theorem all_loop {body : Int → Option (Ctl Int (Ctl Unit Bool))} (pass : Nat → Bool) (n : Nat) (h : ∀ k, k < n → body (k : Int) = some (if pass k = true then .go ((k : Int) + 1) else .done (.done false))) (hn : body (n : Int) = some (.done (.go ()))) :
    loopO body 0 = some (if (List.range n).all pass = true then .go () else .done false) := by
  have key : ∀ d k, k + d = n → loopO body (k : Int) = some (if ((List.range n).drop k).all pass = true then .go () else .done false) := by
    intro d
    induction d with
    | zero =>
      intro k hk
      obtain rfl : k = n := by omega
      rw [loopO_eq, hn, List.drop_of_length_le (by simp)]
      rfl
    | succ d ih =>
      intro k hk
      have hd : (List.range n).drop k = k :: (List.range n).drop (k + 1) := by rw [List.drop_eq_getElem_cons (by simp; omega)]; simp
      rw [loopO_eq, h k (by omega), hd, List.all_cons]
      cases hp : pass k with
      | true =>
        have := ih (k + 1) (by omega)
        rw [show ((k + 1 : Nat) : Int) = (k : Int) + 1 by omega] at this
        simpa using this
      | false => simp
  have := key n 0 (by omega)
  simpa using this
theorem sLt_compl' (a b : List UInt8) : (!sLt a b) = (sLt b a || decide (b = a)) := (sLt_compl a b).symm
theorem sLt_nil_iff (b : List UInt8) : sLt [] b = !decide (b = []) := by cases b <;> rfl
theorem len0 (out : List Int) : decide (((out.length : Nat) : Int) = 0) = decide (out = []) := by
  cases out with
  | nil => rfl
  | cons a l => simp; omega
theorem sMin_eq (a b : List UInt8) : sMin a b = if sLt b a = true then b else a := by
  unfold sMin
  rw [sLt_compl]
  cases sLt b a <;> simp
theorem sMax_eq (a b : List UInt8) : sMax a b = if sLt a b = true then b else a := by
  unfold sMax
  cases sLt a b <;> simp
theorem sLt_irr (a : List UInt8) : sLt a a = false := by
  have := sLt_compl a a
  simpa using this
theorem sLt_trans : ∀ {a b c : List UInt8}, sLt a b = true → sLt b c = true → sLt a c = true
  | [], [], _, h, _ => by simp [sLt, Op.bytesLess] at h
  | [], _ :: _, [], _, h => by simp [sLt, Op.bytesLess] at h
  | [], _ :: _, _ :: _, _, _ => rfl
  | _ :: _, [], _, h, _ => by simp [sLt, Op.bytesLess] at h
  | _ :: _, _ :: _, [], _, h => by simp [sLt, Op.bytesLess] at h
  | x :: a, y :: b, z :: c, h1, h2 => by
    simp only [sLt, Op.bytesLess, Bool.or_eq_true, decide_eq_true_eq, Bool.and_eq_true, beq_iff_eq] at h1 h2 ⊢
    rcases h1 with h1 | ⟨rfl, h1⟩
    · rcases h2 with h2 | ⟨rfl, _⟩
      · exact .inl (UInt8.lt_trans h1 h2)
      · exact .inl h1
    · rcases h2 with h2 | ⟨rfl, h2⟩
      · exact .inl h2
      · exact .inr ⟨rfl, sLt_trans h1 h2⟩
theorem sLt_irrefl (a : List UInt8) : sLt a a = false := by
  have := sLt_compl a a
  simpa using this
theorem all_loop' {body : Int → Option (Ctl Int (Ctl Unit Bool))} (pass : Nat → Bool) (n : Nat) (h : ∀ k, k < n → body (k : Int) = some (if pass k = true then .go ((k : Int) + 1) else .done (.done false))) (hn : body (n : Int) = some (.done (.go ()))) :
    bindC (loopO body 0) (fun (_ : Unit) => some true) = some ((List.range n).all pass) := by
  rw [all_loop pass n h hn]
  cases (List.range n).all pass <;> rfl
/-- snapshots in order -/
def snapP (seq : Int) (l : List Int) (k : Nat) : Bool := match l[k]? with
  | some s => decide (0 ≤ s ∧ s ≤ seq) && (match k with | 0 => true | j + 1 => match l[j]? with | some d => decide (d < s) | none => true)
  | none => true
theorem snapP_at (seq : Int) (l : List Int) (k : Nat) (h : k < l.length) : snapP seq l k = (decide (0 ≤ l[k] ∧ l[k] ≤ seq) && (if h0 : 0 < k then decide (l[k - 1]'(by omega) < l[k]) else true)) := by
  unfold snapP
  rw [List.getElem?_eq_getElem h]
  cases k with
  | zero => rfl
  | succ j =>
    simp only [Nat.zero_lt_succ, dif_pos, Nat.add_sub_cancel]
    rw [List.getElem?_eq_getElem (by omega)]
def snapsV (seq : Int) (l : List Int) : Bool := (List.range l.length).all (snapP seq l)
theorem snaps_at {seq : Int} {l : List Int} (hv : snapsV seq l = true) (k : Nat) (hk : k < l.length) : (0 ≤ l[k] ∧ l[k] ≤ seq) ∧ (0 < k → l[k - 1]'(by omega) < l[k]) := by
  unfold snapsV at hv
  rw [List.all_eq_true] at hv
  have := hv k (by simpa using hk)
  rw [snapP_at seq l k hk, Bool.and_eq_true] at this
  refine ⟨of_decide_eq_true this.1, fun h0 => ?_⟩
  have h2 := this.2
  rw [dif_pos h0] at h2
  exact of_decide_eq_true h2
theorem snaps_last {seq : Int} {l : List Int} (hv : snapsV seq l = true) (h0 : 0 < l.length) : (seq ∈ l) ↔ l[l.length - 1]'(by omega) = seq := by
  constructor
  · intro hm
    obtain ⟨i, hi, he⟩ := List.getElem_of_mem hm
    by_cases e : i = l.length - 1
    · subst e; exact he
    · have h1 := (snaps_at hv (i + 1) (by omega)).2 (by omega)
      have h2 := (snaps_at hv (i + 1) (by omega)).1
      simp only [Nat.add_sub_cancel] at h1
      omega
  · intro h
    rw [← h]
    exact List.getElem_mem _
theorem piece_nat {α : Type} (l : List α) (a b : Nat) (lo hi : Int) (h1 : lo = (a : Int)) (h2 : hi = (b : Int)) (h3 : a ≤ b) (h4 : b ≤ l.length) : piece l lo hi = some ((l.drop a).take (b - a)) := by
  subst h1 h2
  unfold piece
  rw [if_pos ⟨by omega, by omega, by omega⟩, Int.toNat_natCast, Int.toNat_natCast]
theorem filter_one {α : Type} (l : List α) (p : α → Bool) (j : Nat) (hj : j < l.length) (h1 : p l[j] = false) (h2 : ∀ i (h : i < l.length), i ≠ j → p l[i] = true) : l.filter p = l.take j ++ l.drop (j + 1) := by
  have hs : l = l.take j ++ l[j] :: l.drop (j + 1) := by rw [← List.drop_eq_getElem_cons hj, List.take_append_drop]
  have ha : (l.take j).filter p = l.take j := by
    rw [List.filter_eq_self]
    intro x hx
    obtain ⟨i, hi, rfl⟩ := List.getElem_of_mem hx
    have hi' : i < j := by simp at hi; omega
    simp only [List.getElem_take]
    exact h2 i (by omega) (by omega)
  have hb : (l.drop (j + 1)).filter p = l.drop (j + 1) := by
    rw [List.filter_eq_self]
    intro x hx
    obtain ⟨i, hi, rfl⟩ := List.getElem_of_mem hx
    have hi' : j + 1 + i < l.length := by simp at hi; omega
    simp only [List.getElem_drop]
    exact h2 (j + 1 + i) hi' (by omega)
  conv => lhs; rw [hs]
  rw [List.filter_append, List.filter_cons_of_neg (by simpa using h1), ha, hb]
theorem filter_take {α : Type} (p : α → Bool) (l : List α) (k : Nat) (h : k < l.length) : (l.take (k + 1)).filter p = (l.take k).filter p ++ if p l[k] = true then [l[k]] else [] := by
  rw [show l.take (k + 1) = l.take k ++ [l[k]] by rw [List.take_add_one, List.getElem?_eq_getElem h]; rfl, List.filter_append]
  congr 1
  by_cases c : p l[k] = true
  · rw [if_pos c, List.filter_cons_of_pos c]; rfl
  · rw [if_neg c, List.filter_cons_of_neg c]; rfl
theorem filter_len {α : Type} (p : α → Bool) (l : List α) (k : Nat) : ((l.take k).filter p).length ≤ k := Nat.le_trans (List.length_filter_le _ _) (by simp; omega)
theorem snaps_lt {seq : Int} {l : List Int} (hv : snapsV seq l = true) : ∀ (j : Nat) (hj : j < l.length) (i : Nat) (hi : i < j), l[i]'(by omega) < l[j] := by
  intro j
  induction j with
  | zero => intro _ i hi; omega
  | succ j ih =>
    intro hj i hi
    have h1 := (snaps_at hv (j + 1) hj).2 (by omega)
    simp only [Nat.add_sub_cancel] at h1
    by_cases e : i = j
    · subst e; exact h1
    · have := ih (by omega) i (by omega); omega
def dropS (l : List Int) (x : Int) : List Int := l.filter fun s => !decide (s = x)
theorem dropS_at {seq : Int} {l : List Int} (hv : snapsV seq l = true) (j : Nat) (hj : j < l.length) : dropS l l[j] = l.take j ++ l.drop (j + 1) := by
  unfold dropS
  refine filter_one l _ j hj (by simp) fun i hi hij => ?_
  have : ¬ l[i] = l[j] := by
    rcases Nat.lt_or_ge i j with h | h
    · have := snaps_lt hv j hj i h; omega
    · have := snaps_lt hv i hi j (by omega); omega
  simp [this]
theorem sLt_asymm {a b : List UInt8} (h : sLt a b = true) : sLt b a = false := by
  have := sLt_compl a b
  rw [h] at this
  simp only [Bool.not_true, Bool.or_eq_false_iff] at this
  exact this.1
theorem sLt_same {a b : List UInt8} (h1 : sLt a b = false) (h2 : sLt b a = false) : a = b := by
  have := sLt_compl a b
  rw [h1, h2] at this
  have h : decide (b = a) = true := by simpa using this
  exact (of_decide_eq_true h).symm
theorem any_loop {α : Type} {body : Int → Option (Ctl Int (Ctl Unit Bool))} (l : List α) (p : α → Bool) (h : ∀ k (hk : k < l.length), body (k : Int) = some (if p l[k] = true then .done (.done true) else .go ((k : Int) + 1))) (hn : body (l.length : Int) = some (.done (.go ()))) :
    bindC (loopO body 0) (fun (_ : Unit) => some false) = some (l.any p) := by
  rw [loopO_is (fun k s => s = (k : Int) ∧ l.any p = (l.drop k).any p) l.length (if l.any p = true then Ctl.done true else Ctl.go ()) ?h0 ?h1 ?h2]
  · cases l.any p <;> rfl
  case h0 => exact ⟨rfl, rfl⟩
  · rintro k s hk ⟨rfl, he⟩
    rw [h k hk, he, List.drop_eq_getElem_cons hk, List.any_cons]
    cases hp : p l[k] with
    | true => right; rfl
    | false =>
      left
      refine ⟨(k : Int) + 1, rfl, by omega, ?_⟩
      rw [Bool.false_or]
  · rintro s ⟨rfl, he⟩
    rw [he, List.drop_length, hn]
    rfl
theorem half_eq {a : Int} (h0 : 0 ≤ a) (h1 : a ≤ 4611686018427387904) : IntKind.i64.wrap (ishr .u64 (IntKind.u64.wrap (IntKind.i64.wrap a)) (1 : Int)) = a / 2 := by
  have hu : IntKind.u64.wrap a = a := by simp [IntKind.wrap, IntKind.bits, IntKind.signed]; omega
  have hs : ishr .u64 a (1 : Int) = a / 2 := by
    unfold ishr
    show a.fdiv (2 ^ 1) = a / 2
    rw [Int.fdiv_eq_ediv_of_nonneg a (by decide)]
    rfl
  rw [wrap_ok (n := a) (by omega) (by omega), hu, hs, wrap_ok (by omega) (by omega)]
/-- a search by halves: the place where it ends -/
theorem bisect {α ρ : Type} (x : List α) (cf : α → Option Int) (c : α → Int) (hcf : ∀ e ∈ x, cf e = some (c e)) (hx : x.length ≤ 1048576) :
    ∃ j, j ≤ x.length ∧ loopO (ρ := Ctl Int ρ) (fun (S2 : Int × Int) => if (decide (S2.1 < S2.2)) = true then ((idx x (IntKind.i64.wrap (ishr .u64 (IntKind.u64.wrap (IntKind.i64.wrap (S2.1 + S2.2))) (1 : Int)))).bind fun E7 =>
  (cf E7).bind fun R9 =>
  bindC (if (decide (R9 < (0 : Int))) = true then (some (.go (IntKind.i64.wrap (IntKind.i64.wrap (ishr .u64 (IntKind.u64.wrap (IntKind.i64.wrap (S2.1 + S2.2))) (1 : Int)) + (1 : Int)), S2.2)))
  else (some (.go (S2.1, IntKind.i64.wrap (ishr .u64 (IntKind.u64.wrap (IntKind.i64.wrap (S2.1 + S2.2))) (1 : Int))))))
  (fun (T12 : Int × Int) => some (.go (T12.1, T12.2))))
  else (some (.done (.go S2.1)))) ((0 : Int), ((x.length : Nat) : Int)) = some (.go (j : Int)) ∧ (∀ i (hi : i < x.length), i + 1 = j → c x[i] < 0) ∧ (∀ hj : j < x.length, 0 ≤ c x[j]) := by
  obtain ⟨r, hr, j, rfl, h1, h2, h3⟩ := loopO_total (ρ := Ctl Int ρ) (s0 := ((0 : Int), ((x.length : Nat) : Int))) (body := fun (S2 : Int × Int) => if (decide (S2.1 < S2.2)) = true then ((idx x (IntKind.i64.wrap (ishr .u64 (IntKind.u64.wrap (IntKind.i64.wrap (S2.1 + S2.2))) (1 : Int)))).bind fun E7 =>
  (cf E7).bind fun R9 =>
  bindC (if (decide (R9 < (0 : Int))) = true then (some (.go (IntKind.i64.wrap (IntKind.i64.wrap (ishr .u64 (IntKind.u64.wrap (IntKind.i64.wrap (S2.1 + S2.2))) (1 : Int)) + (1 : Int)), S2.2)))
  else (some (.go (S2.1, IntKind.i64.wrap (ishr .u64 (IntKind.u64.wrap (IntKind.i64.wrap (S2.1 + S2.2))) (1 : Int))))))
  (fun (T12 : Int × Int) => some (.go (T12.1, T12.2))))
  else (some (.done (.go S2.1))))
    (fun k s => ∃ a b : Nat, s = ((a : Int), (b : Int)) ∧ a ≤ b ∧ b ≤ x.length ∧ b - a + k ≤ x.length ∧ (∀ i (hi : i < x.length), i + 1 = a → c x[i] < 0) ∧ (∀ hj : b < x.length, 0 ≤ c x[b])) x.length
    (fun r => ∃ j : Nat, r = .go (j : Int) ∧ j ≤ x.length ∧ (∀ i (hi : i < x.length), i + 1 = j → c x[i] < 0) ∧ (∀ hj : j < x.length, 0 ≤ c x[j]))
    ⟨0, x.length, rfl, Nat.zero_le _, Nat.le_refl _, by omega, fun i hi h => by omega, fun h => by omega⟩ (by
      rintro k s hk ⟨a, b, rfl, hab, hb, hd, h1, h2⟩
      by_cases hlt : a < b
      · left
        have hm : ((a : Int) + (b : Int)) / 2 = (((a + b) / 2 : Nat) : Int) := by omega
        have hmx : (a + b) / 2 < x.length := by omega
        simp only [half_eq (a := (a : Int) + (b : Int)) (by omega) (by omega), hm, idx_nat x _ hmx, Option.bind_some, hcf _ (List.getElem_mem hmx)]
        rw [if_pos (by simpa using hlt)]
        by_cases hc : c x[(a + b) / 2] < 0
        · rw [if_pos (by simpa using hc), wrap_ok (by omega) (by omega)]
          refine ⟨_, rfl, (a + b) / 2 + 1, b, rfl, by omega, hb, by omega, fun i hi h => ?_, h2⟩
          obtain rfl : i = (a + b) / 2 := by omega
          exact hc
        · rw [if_neg (by simpa using hc)]
          exact ⟨_, rfl, a, (a + b) / 2, rfl, by omega, by omega, by omega, h1, fun _ => by omega⟩
      · right
        obtain rfl : a = b := by omega
        exact ⟨.go (a : Int), by simp, a, rfl, hb, h1, h2⟩) (by
      rintro s ⟨a, b, rfl, hab, hb, hd, h1, h2⟩
      obtain rfl : a = b := by omega
      exact ⟨.go (a : Int), by simp, a, rfl, hb, h1, h2⟩)
  exact ⟨j, h1, hr, h2, h3⟩
theorem snapsV_up {seq seq' : Int} {l : List Int} (h2 : seq ≤ seq') (h : snapsV seq l = true) : snapsV seq' l = true := by
  unfold snapsV
  rw [List.all_eq_true]
  intro k hk
  have hk' : k < l.length := by simpa using hk
  obtain ⟨a, b⟩ := snaps_at h k hk'
  rw [snapP_at seq' l k hk', Bool.and_eq_true]
  refine ⟨decide_eq_true ⟨a.1, by omega⟩, ?_⟩
  by_cases h0 : 0 < k
  · rw [dif_pos h0]; exact decide_eq_true (b h0)
  · rw [dif_neg h0]
/-! words of bits -/
theorem iand64 {a b : Nat} (ha : a < 2 ^ 63) (hb : b < 2 ^ 63) : iand .i64 (a : Int) (b : Int) = ((a &&& b : Nat) : Int) := by
  unfold iand
  have h1 : a &&& b ≤ a := Nat.and_le_left
  have e : (BitVec.ofInt IntKind.i64.bits (a : Int) &&& BitVec.ofInt IntKind.i64.bits (b : Int)).toNat = a &&& b := by
    show (BitVec.ofInt 64 (a : Int) &&& BitVec.ofInt 64 (b : Int)).toNat = a &&& b
    rw [BitVec.ofInt_natCast, BitVec.ofInt_natCast, BitVec.toNat_and, BitVec.toNat_ofNat, BitVec.toNat_ofNat, Nat.mod_eq_of_lt (by omega), Nat.mod_eq_of_lt (by omega)]
  rw [e]
  exact wrap_ok (by omega) (by omega)
theorem ior64 {a b : Nat} (ha : a < 2 ^ 63) (hb : b < 2 ^ 63) : ior .i64 (a : Int) (b : Int) = ((a ||| b : Nat) : Int) := by
  unfold ior
  have h1 : a ||| b < 2 ^ 63 := Nat.or_lt_two_pow ha hb
  have e : (BitVec.ofInt IntKind.i64.bits (a : Int) ||| BitVec.ofInt IntKind.i64.bits (b : Int)).toNat = a ||| b := by
    show (BitVec.ofInt 64 (a : Int) ||| BitVec.ofInt 64 (b : Int)).toNat = a ||| b
    rw [BitVec.ofInt_natCast, BitVec.ofInt_natCast, BitVec.toNat_or, BitVec.toNat_ofNat, BitVec.toNat_ofNat, Nat.mod_eq_of_lt (by omega), Nat.mod_eq_of_lt (by omega)]
  rw [e]
  exact wrap_ok (by omega) (by omega)
theorem ixor64 {a b : Nat} (ha : a < 2 ^ 63) (hb : b < 2 ^ 63) : ixor .i64 (a : Int) (b : Int) = ((a ^^^ b : Nat) : Int) := by
  unfold ixor
  have h1 : a ^^^ b < 2 ^ 63 := Nat.xor_lt_two_pow ha hb
  have e : (BitVec.ofInt IntKind.i64.bits (a : Int) ^^^ BitVec.ofInt IntKind.i64.bits (b : Int)).toNat = a ^^^ b := by
    show (BitVec.ofInt 64 (a : Int) ^^^ BitVec.ofInt 64 (b : Int)).toNat = a ^^^ b
    rw [BitVec.ofInt_natCast, BitVec.ofInt_natCast, BitVec.toNat_xor, BitVec.toNat_ofNat, BitVec.toNat_ofNat, Nat.mod_eq_of_lt (by omega), Nat.mod_eq_of_lt (by omega)]
  rw [e]
  exact wrap_ok (by omega) (by omega)
theorem wrap32 (n : Int) : IntKind.u32.wrap n = n % 4294967296 := by simp [IntKind.wrap, IntKind.bits, IntKind.signed]
theorem wrap64u (n : Int) : IntKind.u64.wrap n = n % 18446744073709551616 := by simp [IntKind.wrap, IntKind.bits, IntKind.signed]
theorem ior32 {a b : Nat} (ha : a < 2 ^ 32) (hb : b < 2 ^ 32) : ior .u32 (a : Int) (b : Int) = ((a ||| b : Nat) : Int) := by
  unfold ior
  have h1 : a ||| b < 2 ^ 32 := Nat.or_lt_two_pow ha hb
  have e : (BitVec.ofInt IntKind.u32.bits (a : Int) ||| BitVec.ofInt IntKind.u32.bits (b : Int)).toNat = a ||| b := by
    show (BitVec.ofInt 32 (a : Int) ||| BitVec.ofInt 32 (b : Int)).toNat = a ||| b
    rw [BitVec.ofInt_natCast, BitVec.ofInt_natCast, BitVec.toNat_or, BitVec.toNat_ofNat, BitVec.toNat_ofNat, Nat.mod_eq_of_lt (by omega), Nat.mod_eq_of_lt (by omega)]
  rw [e, wrap32]
  omega
theorem ixor32 {a b : Nat} (ha : a < 2 ^ 32) (hb : b < 2 ^ 32) : ixor .u32 (a : Int) (b : Int) = ((a ^^^ b : Nat) : Int) := by
  unfold ixor
  have h1 : a ^^^ b < 2 ^ 32 := Nat.xor_lt_two_pow ha hb
  have e : (BitVec.ofInt IntKind.u32.bits (a : Int) ^^^ BitVec.ofInt IntKind.u32.bits (b : Int)).toNat = a ^^^ b := by
    show (BitVec.ofInt 32 (a : Int) ^^^ BitVec.ofInt 32 (b : Int)).toNat = a ^^^ b
    rw [BitVec.ofInt_natCast, BitVec.ofInt_natCast, BitVec.toNat_xor, BitVec.toNat_ofNat, BitVec.toNat_ofNat, Nat.mod_eq_of_lt (by omega), Nat.mod_eq_of_lt (by omega)]
  rw [e, wrap32]
  omega
theorem iand8 {a b : Nat} (ha : a < 2 ^ 8) (hb : b < 2 ^ 8) : iand .u8 (a : Int) (b : Int) = ((a &&& b : Nat) : Int) := by
  unfold iand
  have h1 : a &&& b ≤ a := Nat.and_le_left
  have e : (BitVec.ofInt IntKind.u8.bits (a : Int) &&& BitVec.ofInt IntKind.u8.bits (b : Int)).toNat = a &&& b := by
    show (BitVec.ofInt 8 (a : Int) &&& BitVec.ofInt 8 (b : Int)).toNat = a &&& b
    rw [BitVec.ofInt_natCast, BitVec.ofInt_natCast, BitVec.toNat_and, BitVec.toNat_ofNat, BitVec.toNat_ofNat, Nat.mod_eq_of_lt (by omega), Nat.mod_eq_of_lt (by omega)]
  rw [e]
  simp [IntKind.wrap, IntKind.bits, IntKind.signed]
  omega
theorem ishr_nat {k : IntKind} {a n : Nat} (hn : n ≤ k.bits) : ishr k (a : Int) (n : Int) = ((a / 2 ^ n : Nat) : Int) := by
  unfold ishr
  rw [Int.toNat_natCast, Nat.min_eq_left hn, Int.fdiv_eq_ediv_of_nonneg _ (by exact_mod_cast Nat.zero_le _)]
  norm_cast
theorem ishl64 {a n : Nat} (hn : n ≤ 64) (h : a * 2 ^ n < 2 ^ 63) : ishl .i64 (a : Int) (n : Int) = ((a * 2 ^ n : Nat) : Int) := by
  unfold ishl
  have hb : IntKind.i64.bits = 64 := rfl
  rw [Int.toNat_natCast, hb, Nat.min_eq_left hn]
  have e : (a : Int) * 2 ^ n = ((a * 2 ^ n : Nat) : Int) := by norm_cast
  rw [e]
  exact wrap_ok (by omega) (by omega)
theorem ishl32 {a n : Nat} (hn : n ≤ 32) : ishl .u32 (a : Int) (n : Int) = ((a * 2 ^ n % 4294967296 : Nat) : Int) := by
  unfold ishl
  have hb : IntKind.u32.bits = 32 := rfl
  have e : (a : Int) * 2 ^ n = ((a * 2 ^ n : Nat) : Int) := by norm_cast
  rw [Int.toNat_natCast, hb, Nat.min_eq_left hn, wrap32, e]
  generalize a * 2 ^ n = z
  omega
theorem l3Word_eq {x : Nat} (h : x < 2 ^ 63) : spec_l3Word (x : Int) = some ((x % 4294967296 : Nat) : Int) := by
  unfold spec_l3Word
  rw [show (4294967295 : Int) = ((4294967295 : Nat) : Int) from rfl, iand64 h (by decide), show x &&& 4294967295 = x % 4294967296 from Nat.and_two_pow_sub_one_eq_mod x 32]
/-- the bits of a word turned to the left -/
def rotN (x n : Nat) : Nat := x * 2 ^ n % 4294967296 ||| x / 2 ^ (32 - n)
theorem rotN_lt {x n : Nat} (h : x < 4294967296) : rotN x n < 4294967296 := by
  unfold rotN
  refine Nat.or_lt_two_pow (n := 32) (Nat.mod_lt _ (by decide)) ?_
  exact Nat.lt_of_le_of_lt (Nat.div_le_self _ _) h
theorem l3Left_eq {x n : Nat} (h : x < 4294967296) (hn : n ≤ 16) : spec_l3Left (x : Int) (n : Int) = some (rotN x n : Int) := by
  unfold spec_l3Left nn
  have h1 : x * 2 ^ n < 2 ^ 63 := by
    have : 2 ^ n ≤ 2 ^ 16 := Nat.pow_le_pow_right (by decide) hn
    calc x * 2 ^ n ≤ x * 2 ^ 16 := Nat.mul_le_mul_left _ this
      _ < 2 ^ 63 := by omega
  have h2 : x / 2 ^ (32 - n) < 2 ^ 32 := Nat.lt_of_le_of_lt (Nat.div_le_self _ _) h
  have h3 : IntKind.u64.wrap ((32 : Int) - (n : Int)) = ((32 - n : Nat) : Int) := by rw [wrap64u]; omega
  rw [if_neg (by omega), h3, ishl64 (by omega) h1, ishr_nat (by show 32 - n ≤ 64; omega), ior64 h1 (by omega)]
  simp only [Option.bind_some]
  rw [l3Word_eq (Nat.or_lt_two_pow h1 (by omega))]
  simp only [Option.bind_some]
  unfold rotN
  rw [show (4294967296 : Nat) = 2 ^ 32 from rfl, Nat.or_mod_two_pow, Nat.mod_eq_of_lt h2]
theorem rot32_eq {x n : Nat} (h : x < 4294967296) (hn : n ≤ 16) : math_bits_RotateLeft32 (x : Int) (n : Int) = some (rotN x n : Int) := by
  unfold math_bits_RotateLeft32 nn
  have h0 : iand .u64 (IntKind.u64.wrap (n : Int)) (31 : Int) = (n : Int) := by
    have e : IntKind.u64.wrap (n : Int) = (n : Int) := by rw [wrap64u]; omega
    rw [e]
    unfold iand
    have e2 : (BitVec.ofInt IntKind.u64.bits (n : Int) &&& BitVec.ofInt IntKind.u64.bits (31 : Int)).toNat = n := by
      show (BitVec.ofInt 64 (n : Int) &&& BitVec.ofInt 64 ((31 : Nat) : Int)).toNat = n
      rw [BitVec.ofInt_natCast, BitVec.ofInt_natCast, BitVec.toNat_and, BitVec.toNat_ofNat, BitVec.toNat_ofNat, Nat.mod_eq_of_lt (by omega), Nat.mod_eq_of_lt (by omega)]
      rw [show n &&& 31 = n % 32 from Nat.and_two_pow_sub_one_eq_mod n 5]
      omega
    rw [e2, wrap64u]
    omega
  have h2 : x / 2 ^ (32 - n) < 2 ^ 32 := Nat.lt_of_le_of_lt (Nat.div_le_self _ _) h
  have h3 : IntKind.u64.wrap ((32 : Int) - (n : Int)) = ((32 - n : Nat) : Int) := by rw [wrap64u]; omega
  rw [h0, if_neg (by omega), h3, ishl32 (by omega), ishr_nat (by show 32 - n ≤ 32; omega), ior32 (Nat.mod_lt _ (by decide)) h2]
  rfl
theorem ior_same {p q : Int} (hp : 0 ≤ p ∧ p < 4294967296) (hq : 0 ≤ q ∧ q < 4294967296) : ior .u32 p q = ior .i64 p q ∧ 0 ≤ ior .i64 p q ∧ ior .i64 p q < 4294967296 := by
  have e1 : p = (p.toNat : Int) := by omega
  have e2 : q = (q.toNat : Int) := by omega
  have h1 : p.toNat < 2 ^ 32 := by omega
  have h2 : q.toNat < 2 ^ 32 := by omega
  have h3 := Nat.or_lt_two_pow h1 h2
  rw [e1, e2, ior32 h1 h2, ior64 (by omega) (by omega)]
  generalize p.toNat ||| q.toNat = z at h3
  exact ⟨rfl, by omega, by omega⟩
theorem ishl_same (x : UInt8) (n : Nat) (hn : n ≤ 24) : ishl .u32 (IntKind.u32.wrap ((x.toNat : Nat) : Int)) (n : Int) = ishl .i64 (IntKind.i64.wrap ((x.toNat : Nat) : Int)) (n : Int) ∧ 0 ≤ ishl .i64 (IntKind.i64.wrap ((x.toNat : Nat) : Int)) (n : Int) ∧ ishl .i64 (IntKind.i64.wrap ((x.toNat : Nat) : Int)) (n : Int) < 4294967296 := by
  have hx := x.toNat_lt
  have w1 : IntKind.u32.wrap ((x.toNat : Nat) : Int) = ((x.toNat : Nat) : Int) := by rw [wrap32]; omega
  have w2 : IntKind.i64.wrap ((x.toNat : Nat) : Int) = ((x.toNat : Nat) : Int) := wrap_ok (by omega) (by omega)
  have hp : 2 ^ n ≤ 2 ^ 24 := Nat.pow_le_pow_right (by decide) hn
  have hm : x.toNat * 2 ^ n ≤ x.toNat * 2 ^ 24 := Nat.mul_le_mul_left _ hp
  rw [w1, w2, ishl32 (by omega), ishl64 (by omega) (by omega)]
  generalize x.toNat * 2 ^ n = z at hm
  have hz : z < 4294967296 := by omega
  rw [Nat.mod_eq_of_lt hz]
  exact ⟨rfl, by omega, by omega⟩
theorem ishl_samei (x : UInt8) (n : Int) (hn : 0 ≤ n ∧ n ≤ 24) : ishl .u32 (IntKind.u32.wrap ((x.toNat : Nat) : Int)) n = ishl .i64 (IntKind.i64.wrap ((x.toNat : Nat) : Int)) n ∧ 0 ≤ ishl .i64 (IntKind.i64.wrap ((x.toNat : Nat) : Int)) n ∧ ishl .i64 (IntKind.i64.wrap ((x.toNat : Nat) : Int)) n < 4294967296 := by
  have e : n = (n.toNat : Int) := by omega
  rw [e]
  exact ishl_same x n.toNat (by omega)
theorem bind_same {α β : Type} {x : Option α} {f g : α → Option β} (h : ∀ a, f a = g a) : x.bind f = x.bind g := by
  cases x with
  | none => rfl
  | some a => exact h a
theorem little_val (a b c d : UInt8) : ior .u32 (ior .u32 (ior .u32 (IntKind.u32.wrap ((a.toNat : Nat) : Int)) (ishl .u32 (IntKind.u32.wrap ((b.toNat : Nat) : Int)) (8 : Int))) (ishl .u32 (IntKind.u32.wrap ((c.toNat : Nat) : Int)) (16 : Int))) (ishl .u32 (IntKind.u32.wrap ((d.toNat : Nat) : Int)) (24 : Int)) =
      ior .i64 (ior .i64 (ior .i64 (IntKind.i64.wrap ((a.toNat : Nat) : Int)) (ishl .i64 (IntKind.i64.wrap ((b.toNat : Nat) : Int)) (8 : Int))) (ishl .i64 (IntKind.i64.wrap ((c.toNat : Nat) : Int)) (16 : Int))) (ishl .i64 (IntKind.i64.wrap ((d.toNat : Nat) : Int)) (24 : Int)) ∧
      0 ≤ ior .i64 (ior .i64 (ior .i64 (IntKind.i64.wrap ((a.toNat : Nat) : Int)) (ishl .i64 (IntKind.i64.wrap ((b.toNat : Nat) : Int)) (8 : Int))) (ishl .i64 (IntKind.i64.wrap ((c.toNat : Nat) : Int)) (16 : Int))) (ishl .i64 (IntKind.i64.wrap ((d.toNat : Nat) : Int)) (24 : Int)) ∧
      ior .i64 (ior .i64 (ior .i64 (IntKind.i64.wrap ((a.toNat : Nat) : Int)) (ishl .i64 (IntKind.i64.wrap ((b.toNat : Nat) : Int)) (8 : Int))) (ishl .i64 (IntKind.i64.wrap ((c.toNat : Nat) : Int)) (16 : Int))) (ishl .i64 (IntKind.i64.wrap ((d.toNat : Nat) : Int)) (24 : Int)) < 4294967296 := by
  have ha := a.toNat_lt
  have a1 : IntKind.u32.wrap ((a.toNat : Nat) : Int) = IntKind.i64.wrap ((a.toNat : Nat) : Int) := by rw [wrap32, wrap_ok (by omega) (by omega)]; omega
  have a2 : 0 ≤ IntKind.i64.wrap ((a.toNat : Nat) : Int) ∧ IntKind.i64.wrap ((a.toNat : Nat) : Int) < 4294967296 := by rw [wrap_ok (by omega) (by omega)]; omega
  obtain ⟨b1, b2⟩ := ishl_samei b 8 (by omega)
  obtain ⟨c1, c2⟩ := ishl_samei c 16 (by omega)
  obtain ⟨d1, d2⟩ := ishl_samei d 24 (by omega)
  obtain ⟨o1, o2⟩ := ior_same a2 b2
  obtain ⟨p1, p2⟩ := ior_same o2 c2
  obtain ⟨q1, q2⟩ := ior_same p2 d2
  refine ⟨?_, q2⟩
  rw [a1, b1, c1, d1, o1, p1, q1]
/-- a word of four bytes -/
theorem little_eq (s : List UInt8) (at_ : Int) : impl_little s at_ = spec_l3Little s at_ := by
  unfold impl_little spec_l3Little
  exact bind_same fun a => bind_same fun b => bind_same fun c => bind_same fun d => congrArg some (little_val a b c d).1
theorem little_range (s : List UInt8) (at_ r : Int) (h : spec_l3Little s at_ = some r) : 0 ≤ r ∧ r < 4294967296 := by
  unfold spec_l3Little at h
  obtain ⟨a, _, h⟩ := Option.bind_eq_some_iff.1 h
  obtain ⟨b, _, h⟩ := Option.bind_eq_some_iff.1 h
  obtain ⟨c, _, h⟩ := Option.bind_eq_some_iff.1 h
  obtain ⟨d, _, h⟩ := Option.bind_eq_some_iff.1 h
  rw [← Option.some.inj h]
  exact (little_val a b c d).2
theorem sidx_nat (s : List UInt8) (i : Nat) (h : i < s.length) : sidx s (i : Int) = some s[i] := by
  unfold sidx
  rw [if_pos (by omega), Int.toNat_natCast, List.getElem?_eq_getElem h]
theorem little_some (s : List UInt8) (i : Nat) (h : i + 3 < s.length) (hs : s.length ≤ 1048576) : ∃ n : Nat, spec_l3Little s (i : Int) = some (n : Int) ∧ impl_little s (i : Int) = some (n : Int) ∧ n < 4294967296 := by
  have h1 := little_eq s (i : Int)
  have h2 := little_range s (i : Int)
  have hs' : ∃ r, spec_l3Little s (i : Int) = some r := by
    unfold spec_l3Little
    have w : ∀ d : Nat, d ≤ 3 → IntKind.i64.wrap ((i : Int) + (d : Int)) = ((i + d : Nat) : Int) := fun d hd => by rw [wrap_ok (by omega) (by omega)]; omega
    have w1 : IntKind.i64.wrap ((i : Int) + (1 : Int)) = ((i + 1 : Nat) : Int) := w 1 (by omega)
    have w2 : IntKind.i64.wrap ((i : Int) + (2 : Int)) = ((i + 2 : Nat) : Int) := w 2 (by omega)
    have w3 : IntKind.i64.wrap ((i : Int) + (3 : Int)) = ((i + 3 : Nat) : Int) := w 3 (by omega)
    rw [w1, w2, w3, sidx_nat s i (by omega), sidx_nat s (i + 1) (by omega), sidx_nat s (i + 2) (by omega), sidx_nat s (i + 3) (by omega)]
    exact ⟨_, rfl⟩
  obtain ⟨r, hr⟩ := hs'
  obtain ⟨p, q⟩ := h2 r hr
  refine ⟨r.toNat, ?_, ?_, by omega⟩
  · rw [hr]; congr 1; omega
  · rw [h1, hr]; congr 1; omega
/-- words of 32 bits -/
def okW (l : List Wrd) : Prop := ∀ x ∈ l, 0 ≤ x.v ∧ x.v < 4294967296
theorem okW_set {l : List Wrd} {i : Nat} {x : Wrd} (h : okW l) (hx : 0 ≤ x.v ∧ x.v < 4294967296) : okW (l.set i x) := by
  intro y hy
  rcases List.mem_or_eq_of_mem_set hy with h1 | h1
  · exact h y h1
  · rw [h1]; exact hx
/-- half of a step: one word added to another, and a third one changed and turned -/
noncomputable def qi (l : List Wrd) (x y z : Int) (r : Int) : Option (List Wrd) :=
  (idx l x).bind fun E1 => (idx l y).bind fun E3 => (idx (l.set x.toNat (Wrd.mk (IntKind.u32.wrap (E1.v + E3.v)))) z).bind fun E7 => (idx (l.set x.toNat (Wrd.mk (IntKind.u32.wrap (E1.v + E3.v)))) x).bind fun E9 =>
  (math_bits_RotateLeft32 (ixor .u32 E7.v E9.v) r).bind fun R11 => some ((l.set x.toNat (Wrd.mk (IntKind.u32.wrap (E1.v + E3.v)))).set z.toNat (Wrd.mk R11))
noncomputable def qs (l : List Int) (x y z : Int) (r : Int) : Option (List Int) :=
  (idx l x).bind fun E1 => (idx l y).bind fun E3 => (spec_l3Word (IntKind.i64.wrap (E1 + E3))).bind fun R5 => (idx (l.set x.toNat R5) z).bind fun E10 => (idx (l.set x.toNat R5) x).bind fun E12 =>
  (spec_l3Left (ixor .i64 E10 E12) r).bind fun R14 => some ((l.set x.toNat R5).set z.toNat R14)
theorem impl_quarter_steps (l : List Wrd) (a b c d : Int) : impl_quarter l a b c d = (qi l a b d 16).bind fun l2 => (qi l2 c d b 12).bind fun l3 => (qi l3 a b d 8).bind fun l4 => qi l4 c d b 7 := by
  unfold impl_quarter qi
  simp only [Option.bind_assoc, Option.bind_some]
theorem spec_quarter_steps (l : List Int) (a b c d : Int) : spec_l3Quarter l a b c d = (qs l a b d 16).bind fun l2 => (qs l2 c d b 12).bind fun l3 => (qs l3 a b d 8).bind fun l4 => qs l4 c d b 7 := by
  unfold spec_l3Quarter qs
  simp only [Option.bind_assoc, Option.bind_some]
theorem okW_nat {l : List Wrd} (h : okW l) (k : Nat) (hk : k < l.length) : ∃ n : Nat, l[k].v = (n : Int) ∧ n < 4294967296 := by
  obtain ⟨h1, h2⟩ := h _ (List.getElem_mem hk)
  exact ⟨l[k].v.toNat, by omega, by omega⟩
theorem step_eq (l : List Wrd) (x y z r : Nat) (hl : l.length = 16) (hw : okW l) (hx : x < 16) (hy : y < 16) (hz : z < 16) (hr : r ≤ 16) :
    ∃ l', qi l (x : Int) (y : Int) (z : Int) (r : Int) = some l' ∧ qs (l.map Wrd.v) (x : Int) (y : Int) (z : Int) (r : Int) = some (l'.map Wrd.v) ∧ l'.length = 16 ∧ okW l' := by
  obtain ⟨nx, ex, hnx⟩ := okW_nat hw x (by omega)
  obtain ⟨ny, ey, hny⟩ := okW_nat hw y (by omega)
  have hsum : IntKind.u32.wrap ((nx : Int) + (ny : Int)) = (((nx + ny) % 4294967296 : Nat) : Int) := by rw [wrap32]; omega
  have hlt : (nx + ny) % 4294967296 < 4294967296 := Nat.mod_lt _ (by decide)
  have hl1 : (l.set x (Wrd.mk (((nx + ny) % 4294967296 : Nat) : Int))).length = 16 := by rw [List.length_set]; exact hl
  have hw1 : okW (l.set x (Wrd.mk (((nx + ny) % 4294967296 : Nat) : Int))) := okW_set hw ⟨by show (0 : Int) ≤ (((nx + ny) % 4294967296 : Nat) : Int); omega, by show (((nx + ny) % 4294967296 : Nat) : Int) < _; omega⟩
  obtain ⟨nz, ez, hnz⟩ := okW_nat hw1 z (by omega)
  obtain ⟨nw, ew, hnw⟩ := okW_nat hw1 x (by omega)
  have hxor := Nat.xor_lt_two_pow (n := 32) hnz hnw
  have hrl := rotN_lt (n := r) (show nz ^^^ nw < 4294967296 from hxor)
  refine ⟨(l.set x (Wrd.mk (((nx + ny) % 4294967296 : Nat) : Int))).set z (Wrd.mk (rotN (nz ^^^ nw) r : Int)), ?_, ?_, by rw [List.length_set]; exact hl1, okW_set hw1 ⟨by show (0 : Int) ≤ (rotN (nz ^^^ nw) r : Int); omega, by show (rotN (nz ^^^ nw) r : Int) < _; omega⟩⟩
  · unfold qi
    simp only [idx_nat l x (by omega), idx_nat l y (by omega), Option.bind_some, ex, ey, hsum, Int.toNat_natCast, idx_nat _ z (by omega : z < (l.set x (Wrd.mk (((nx + ny) % 4294967296 : Nat) : Int))).length), idx_nat _ x (by omega : x < (l.set x (Wrd.mk (((nx + ny) % 4294967296 : Nat) : Int))).length), ez, ew, ixor32 hnz hnw, rot32_eq hxor hr]
  · unfold qs
    have m1 : idx (l.map Wrd.v) (x : Int) = some (nx : Int) := by rw [idx_nat _ x (by simp; omega)]; simp [ex]
    have m2 : idx (l.map Wrd.v) (y : Int) = some (ny : Int) := by rw [idx_nat _ y (by simp; omega)]; simp [ey]
    have m3 : IntKind.i64.wrap ((nx : Int) + (ny : Int)) = ((nx + ny : Nat) : Int) := by rw [wrap_ok (by omega) (by omega)]; omega
    have m4 : (l.map Wrd.v).set x (((nx + ny) % 4294967296 : Nat) : Int) = (l.set x (Wrd.mk (((nx + ny) % 4294967296 : Nat) : Int))).map Wrd.v := by rw [List.map_set]
    simp only [m1, m2, Option.bind_some, m3, l3Word_eq (show nx + ny < 2 ^ 63 by omega), Int.toNat_natCast, m4]
    have m5 : idx ((l.set x (Wrd.mk (((nx + ny) % 4294967296 : Nat) : Int))).map Wrd.v) (z : Int) = some (nz : Int) := by rw [idx_nat _ z (by simp; omega)]; simp only [List.getElem_map, ez]
    have m6 : idx ((l.set x (Wrd.mk (((nx + ny) % 4294967296 : Nat) : Int))).map Wrd.v) (x : Int) = some (nw : Int) := by rw [idx_nat _ x (by simp; omega)]; simp only [List.getElem_map, ew]
    simp only [m5, m6, Option.bind_some, ixor64 (show nz < 2 ^ 63 by omega) (show nw < 2 ^ 63 by omega), l3Left_eq hxor hr]
    exact congrArg some List.map_set.symm
theorem quarter_eq (l : List Wrd) (a b c d : Nat) (hl : l.length = 16) (hw : okW l) (ha : a < 16) (hb : b < 16) (hc : c < 16) (hd : d < 16) :
    ∃ l', impl_quarter l (a : Int) (b : Int) (c : Int) (d : Int) = some l' ∧ spec_l3Quarter (l.map Wrd.v) (a : Int) (b : Int) (c : Int) (d : Int) = some (l'.map Wrd.v) ∧ l'.length = 16 ∧ okW l' := by
  obtain ⟨l1, p1, q1, r1, w1⟩ := step_eq l a b d 16 hl hw ha hb hd (by omega)
  obtain ⟨l2, p2, q2, r2, w2⟩ := step_eq l1 c d b 12 r1 w1 hc hd hb (by omega)
  obtain ⟨l3, p3, q3, r3, w3⟩ := step_eq l2 a b d 8 r2 w2 ha hb hd (by omega)
  obtain ⟨l4, p4, q4, r4, w4⟩ := step_eq l3 c d b 7 r3 w3 hc hd hb (by omega)
  refine ⟨l4, ?_, ?_, r4, w4⟩
  · rw [impl_quarter_steps, show (16 : Int) = ((16 : Nat) : Int) from rfl, p1]
    simp only [Option.bind_some]
    rw [show (12 : Int) = ((12 : Nat) : Int) from rfl, p2]
    simp only [Option.bind_some]
    rw [show (8 : Int) = ((8 : Nat) : Int) from rfl, p3]
    simp only [Option.bind_some]
    exact p4
  · rw [spec_quarter_steps, show (16 : Int) = ((16 : Nat) : Int) from rfl, q1]
    simp only [Option.bind_some]
    rw [show (12 : Int) = ((12 : Nat) : Int) from rfl, q2]
    simp only [Option.bind_some]
    rw [show (8 : Int) = ((8 : Nat) : Int) from rfl, q3]
    simp only [Option.bind_some]
    exact q4

/-- sixteen words -/
def goodW (l : List Wrd) : Prop := l.length = 16 ∧ okW l
noncomputable def qv (l : List Wrd) (a b c d : Nat) : List Wrd := (impl_quarter l (a : Int) (b : Int) (c : Int) (d : Int)).getD []
theorem qv_ok {l : List Wrd} (h : goodW l) (a b c d : Nat) (ha : a < 16) (hb : b < 16) (hc : c < 16) (hd : d < 16) :
    impl_quarter l (a : Int) (b : Int) (c : Int) (d : Int) = some (qv l a b c d) ∧ spec_l3Quarter (l.map Wrd.v) (a : Int) (b : Int) (c : Int) (d : Int) = some ((qv l a b c d).map Wrd.v) ∧ goodW (qv l a b c d) := by
  obtain ⟨l', h1, h2, h3, h4⟩ := quarter_eq l a b c d h.1 h.2 ha hb hc hd
  unfold qv
  rw [h1, h2]
  exact ⟨rfl, rfl, h3, h4⟩
noncomputable def colW (l : List Wrd) : Nat → List Wrd
  | 0 => l
  | k + 1 => qv (colW l k) k (4 + k) (8 + k) (12 + k)
noncomputable def diagW (l : List Wrd) : Nat → List Wrd
  | 0 => l
  | k + 1 => qv (diagW l k) k (4 + (k + 1) % 4) (8 + (k + 2) % 4) (12 + (k + 3) % 4)
noncomputable def roundW (l : List Wrd) : List Wrd := diagW (colW l 4) 4
noncomputable def roundsW (l : List Wrd) : Nat → List Wrd
  | 0 => l
  | k + 1 => roundW (roundsW l k)
theorem colW_good {l : List Wrd} (h : goodW l) : ∀ k, k ≤ 4 → goodW (colW l k)
  | 0, _ => h
  | k + 1, hk => (qv_ok (colW_good h k (by omega)) k (4 + k) (8 + k) (12 + k) (by omega) (by omega) (by omega) (by omega)).2.2
theorem diagW_good {l : List Wrd} (h : goodW l) : ∀ k, k ≤ 4 → goodW (diagW l k)
  | 0, _ => h
  | k + 1, hk => (qv_ok (diagW_good h k (by omega)) k (4 + (k + 1) % 4) (8 + (k + 2) % 4) (12 + (k + 3) % 4) (by omega) (by omega) (by omega) (by omega)).2.2
theorem roundW_good {l : List Wrd} (h : goodW l) : goodW (roundW l) := diagW_good (colW_good h 4 (by omega)) 4 (by omega)
theorem roundsW_good {l : List Wrd} (h : goodW l) : ∀ k, goodW (roundsW l k)
  | 0 => h
  | k + 1 => roundW_good (roundsW_good h k)
theorem col_loop {ρ : Type} {l : List Wrd} (h : goodW l) : loopO (ρ := Ctl (List Wrd) ρ) (fun (S17 : Int × List Wrd) => if (decide (S17.1 < (4 : Int))) = true then ((impl_quarter S17.2 S17.1 (IntKind.i64.wrap ((4 : Int) + S17.1)) (IntKind.i64.wrap ((8 : Int) + S17.1)) (IntKind.i64.wrap ((12 : Int) + S17.1))).bind fun R22 =>
  some (.go (IntKind.i64.wrap (S17.1 + (1 : Int)), R22)))
  else (some (.done (.go S17.2))))
  ((0 : Int), l) = some (.go (colW l 4)) := by
  rw [loopO_count (fun k => ((k : Int), colW l k)) 4 (r := Ctl.go (colW l 4)) ?h0]
  case h0 => rfl
  · intro k hk
    have e4 : IntKind.i64.wrap ((4 : Int) + (k : Int)) = ((4 + k : Nat) : Int) := by rw [wrap_ok (by omega) (by omega)]; omega
    have e8 : IntKind.i64.wrap ((8 : Int) + (k : Int)) = ((8 + k : Nat) : Int) := by rw [wrap_ok (by omega) (by omega)]; omega
    have e12 : IntKind.i64.wrap ((12 : Int) + (k : Int)) = ((12 + k : Nat) : Int) := by rw [wrap_ok (by omega) (by omega)]; omega
    simp only [e4, e8, e12, (qv_ok (colW_good h k (by omega)) k (4 + k) (8 + k) (12 + k) (by omega) (by omega) (by omega) (by omega)).1, Option.bind_some]
    rw [if_pos (by simp only [decide_eq_true_eq]; omega), wrap_ok (by omega) (by omega)]
    rfl
  · simp
theorem diag_loop {ρ : Type} {l : List Wrd} (h : goodW l) : loopO (ρ := Ctl (List Wrd) ρ) (fun (S25 : Int × List Wrd) => if (decide (S25.1 < (4 : Int))) = true then ((impl_quarter S25.2 S25.1 (IntKind.i64.wrap ((4 : Int) + (Int.tmod (IntKind.i64.wrap (S25.1 + (1 : Int))) (4 : Int)))) (IntKind.i64.wrap ((8 : Int) + (Int.tmod (IntKind.i64.wrap (S25.1 + (2 : Int))) (4 : Int)))) (IntKind.i64.wrap ((12 : Int) + (Int.tmod (IntKind.i64.wrap (S25.1 + (3 : Int))) (4 : Int))))).bind fun R30 =>
  some (.go (IntKind.i64.wrap (S25.1 + (1 : Int)), R30)))
  else (some (.done (.go S25.2))))
  ((0 : Int), l) = some (.go (diagW l 4)) := by
  rw [loopO_count (fun k => ((k : Int), diagW l k)) 4 (r := Ctl.go (diagW l 4)) ?h0]
  case h0 => rfl
  · intro k hk
    have e : ∀ (a d : Nat), a ≤ 12 → d ≤ 3 → IntKind.i64.wrap ((a : Int) + (Int.tmod (IntKind.i64.wrap ((k : Int) + (d : Int))) (4 : Int))) = ((a + (k + d) % 4 : Nat) : Int) := by
      intro a d ha hd
      rw [wrap_ok (n := (k : Int) + (d : Int)) (by omega) (by omega), show (k : Int) + (d : Int) = ((k + d : Nat) : Int) by omega, show (4 : Int) = ((4 : Nat) : Int) from rfl, ← Int.ofNat_tmod, wrap_ok (by omega) (by omega)]
      omega
    have e4 : IntKind.i64.wrap ((4 : Int) + (Int.tmod (IntKind.i64.wrap ((k : Int) + (1 : Int))) (4 : Int))) = _ := e 4 1 (by omega) (by omega)
    have e8 : IntKind.i64.wrap ((8 : Int) + (Int.tmod (IntKind.i64.wrap ((k : Int) + (2 : Int))) (4 : Int))) = _ := e 8 2 (by omega) (by omega)
    have e12 : IntKind.i64.wrap ((12 : Int) + (Int.tmod (IntKind.i64.wrap ((k : Int) + (3 : Int))) (4 : Int))) = _ := e 12 3 (by omega) (by omega)
    simp only [e4, e8, e12, (qv_ok (diagW_good h k (by omega)) k (4 + (k + 1) % 4) (8 + (k + 2) % 4) (12 + (k + 3) % 4) (by omega) (by omega) (by omega) (by omega)).1, Option.bind_some]
    rw [if_pos (by simp only [decide_eq_true_eq]; omega), wrap_ok (by omega) (by omega)]
    rfl
  · simp
theorem spec_round {l : List Wrd} (h : goodW l) {β : Type} (f : List Int → Option β) : ((spec_l3Quarter (l.map Wrd.v) (0 : Int) (4 : Int) (8 : Int) (12 : Int)).bind fun R36 =>
  (spec_l3Quarter R36 (1 : Int) (5 : Int) (9 : Int) (13 : Int)).bind fun R39 =>
  (spec_l3Quarter R39 (2 : Int) (6 : Int) (10 : Int) (14 : Int)).bind fun R42 =>
  (spec_l3Quarter R42 (3 : Int) (7 : Int) (11 : Int) (15 : Int)).bind fun R45 =>
  (spec_l3Quarter R45 (0 : Int) (5 : Int) (10 : Int) (15 : Int)).bind fun R48 =>
  (spec_l3Quarter R48 (1 : Int) (6 : Int) (11 : Int) (12 : Int)).bind fun R51 =>
  (spec_l3Quarter R51 (2 : Int) (7 : Int) (8 : Int) (13 : Int)).bind fun R54 =>
  (spec_l3Quarter R54 (3 : Int) (4 : Int) (9 : Int) (14 : Int)).bind fun R57 => f R57) = f ((roundW l).map Wrd.v) := by
  have c0 : spec_l3Quarter (l.map Wrd.v) (0 : Int) (4 : Int) (8 : Int) (12 : Int) = some ((colW l 1).map Wrd.v) := (qv_ok h 0 4 8 12 (by omega) (by omega) (by omega) (by omega)).2.1
  have c1 : spec_l3Quarter ((colW l 1).map Wrd.v) (1 : Int) (5 : Int) (9 : Int) (13 : Int) = some ((colW l 2).map Wrd.v) := (qv_ok (colW_good h 1 (by omega)) 1 5 9 13 (by omega) (by omega) (by omega) (by omega)).2.1
  have c2 : spec_l3Quarter ((colW l 2).map Wrd.v) (2 : Int) (6 : Int) (10 : Int) (14 : Int) = some ((colW l 3).map Wrd.v) := (qv_ok (colW_good h 2 (by omega)) 2 6 10 14 (by omega) (by omega) (by omega) (by omega)).2.1
  have c3 : spec_l3Quarter ((colW l 3).map Wrd.v) (3 : Int) (7 : Int) (11 : Int) (15 : Int) = some ((colW l 4).map Wrd.v) := (qv_ok (colW_good h 3 (by omega)) 3 7 11 15 (by omega) (by omega) (by omega) (by omega)).2.1
  have g := colW_good h 4 (by omega)
  have d0 : spec_l3Quarter ((colW l 4).map Wrd.v) (0 : Int) (5 : Int) (10 : Int) (15 : Int) = some ((diagW (colW l 4) 1).map Wrd.v) := (qv_ok g 0 5 10 15 (by omega) (by omega) (by omega) (by omega)).2.1
  have d1 : spec_l3Quarter ((diagW (colW l 4) 1).map Wrd.v) (1 : Int) (6 : Int) (11 : Int) (12 : Int) = some ((diagW (colW l 4) 2).map Wrd.v) := (qv_ok (diagW_good g 1 (by omega)) 1 6 11 12 (by omega) (by omega) (by omega) (by omega)).2.1
  have d2 : spec_l3Quarter ((diagW (colW l 4) 2).map Wrd.v) (2 : Int) (7 : Int) (8 : Int) (13 : Int) = some ((diagW (colW l 4) 3).map Wrd.v) := (qv_ok (diagW_good g 2 (by omega)) 2 7 8 13 (by omega) (by omega) (by omega) (by omega)).2.1
  have d3 : spec_l3Quarter ((diagW (colW l 4) 3).map Wrd.v) (3 : Int) (4 : Int) (9 : Int) (14 : Int) = some ((diagW (colW l 4) 4).map Wrd.v) := (qv_ok (diagW_good g 3 (by omega)) 3 4 9 14 (by omega) (by omega) (by omega) (by omega)).2.1
  simp only [c0, c1, c2, c3, d0, d1, d2, d3, Option.bind_some]
  rfl
/-- the words of a string -/
noncomputable def kN (s : List UInt8) (i : Nat) : Nat := ((spec_l3Little s ((4 * i : Nat) : Int)).getD 0).toNat
theorem kN_ok (s : List UInt8) (i : Nat) (h : 4 * i + 3 < s.length) (hs : s.length ≤ 1048576) : spec_l3Little s ((4 * i : Nat) : Int) = some (kN s i : Int) ∧ impl_little s ((4 * i : Nat) : Int) = some (kN s i : Int) ∧ kN s i < 4294967296 := by
  obtain ⟨n, h1, h2, h3⟩ := little_some s (4 * i) h hs
  have e : kN s i = n := by unfold kN; rw [h1]; rfl
  rw [e]
  exact ⟨h1, h2, h3⟩
noncomputable def selW (k : Nat) (i : Nat) (n : Nat) : Wrd := bif Nat.blt i k then Wrd.mk (n : Int) else Wrd.mk 0
noncomputable def firstK (key : List UInt8) (k : Nat) : List Wrd := [Wrd.mk 1634760805, Wrd.mk 857760878, Wrd.mk 2036477234, Wrd.mk 1797285236, selW k 0 (kN key 0), selW k 1 (kN key 1), selW k 2 (kN key 2), selW k 3 (kN key 3), selW k 4 (kN key 4), selW k 5 (kN key 5), selW k 6 (kN key 6), selW k 7 (kN key 7), Wrd.mk 0, Wrd.mk 0, Wrd.mk 0, Wrd.mk 0]
noncomputable def firstN (key : List UInt8) (counter : Int) (nonce : List UInt8) (k : Nat) : List Wrd := [Wrd.mk 1634760805, Wrd.mk 857760878, Wrd.mk 2036477234, Wrd.mk 1797285236, Wrd.mk (kN key 0 : Int), Wrd.mk (kN key 1 : Int), Wrd.mk (kN key 2 : Int), Wrd.mk (kN key 3 : Int), Wrd.mk (kN key 4 : Int), Wrd.mk (kN key 5 : Int), Wrd.mk (kN key 6 : Int), Wrd.mk (kN key 7 : Int), Wrd.mk counter, selW k 0 (kN nonce 0), selW k 1 (kN nonce 1), selW k 2 (kN nonce 2)]
theorem firstWords_eq (key : List UInt8) (counter : Int) (nonce : List UInt8) (hk : key.length = 32) (hc : 0 ≤ counter ∧ counter ≤ 4294967295) (hn : nonce.length = 12) : impl_firstWords key counter nonce = some (firstN key counter nonce 3) := by
  unfold impl_firstWords
  have hw : IntKind.u32.wrap counter = counter := by rw [wrap32]; omega
  have hl : ∀ l : List Wrd, l.length = 16 → lenIs 16 l = some () := fun l h => by unfold lenIs; rw [if_pos h]
  rw [hl _ rfl]
  simp only [Option.bind_some]
  rw [loopO_count (fun k => ((k : Int), firstK key k)) 8 (r := Ctl.go (firstK key 8)) ?h0]
  case h0 => rfl
  · simp only [bindC_go]
    rw [show (12 : Int) = ((12 : Nat) : Int) from rfl, idx_nat (firstK key 8) 12 (by show 12 < 16; omega)]
    simp only [Option.bind_some, Int.toNat_natCast, hw]
    rw [loopO_count (fun k => ((k : Int), firstN key counter nonce k)) 3 (r := Ctl.go (firstN key counter nonce 3)) ?h1]
    case h1 => rfl
    · simp only [bindC_go]
      rw [hl _ rfl]
      rfl
    · intro k h3
      have e4 : IntKind.i64.wrap ((4 : Int) * (k : Int)) = ((4 * k : Nat) : Int) := by rw [wrap_ok (by omega) (by omega)]; omega
      have e13 : IntKind.i64.wrap ((13 : Int) + (k : Int)) = ((13 + k : Nat) : Int) := by rw [wrap_ok (by omega) (by omega)]; omega
      simp only [e4, e13, (kN_ok nonce k (by omega) (by omega)).2.1, Option.bind_some, idx_nat (firstN key counter nonce k) (13 + k) (by show 13 + k < 16; omega), Int.toNat_natCast]
      rw [if_pos (by simp only [decide_eq_true_eq]; omega), wrap_ok (by omega) (by omega)]
      have h4 : k = 0 ∨ k = 1 ∨ k = 2 := by omega
      rcases h4 with rfl | rfl | rfl <;> rfl
    · rfl
  · intro k h8
    have e4 : IntKind.i64.wrap ((4 : Int) * (k : Int)) = ((4 * k : Nat) : Int) := by rw [wrap_ok (by omega) (by omega)]; omega
    have e44 : IntKind.i64.wrap ((4 : Int) + (k : Int)) = ((4 + k : Nat) : Int) := by rw [wrap_ok (by omega) (by omega)]; omega
    simp only [e4, e44, (kN_ok key k (by omega) (by omega)).2.1, Option.bind_some, idx_nat (firstK key k) (4 + k) (by show 4 + k < 16; omega), Int.toNat_natCast]
    rw [if_pos (by simp only [decide_eq_true_eq]; omega), wrap_ok (by omega) (by omega)]
    have h4 : k = 0 ∨ k = 1 ∨ k = 2 ∨ k = 3 ∨ k = 4 ∨ k = 5 ∨ k = 6 ∨ k = 7 := by omega
    rcases h4 with rfl | rfl | rfl | rfl | rfl | rfl | rfl | rfl <;> rfl
  · rfl
theorem firstN_good (key : List UInt8) (counter : Int) (nonce : List UInt8) (hk : key.length = 32) (hc : 0 ≤ counter ∧ counter ≤ 4294967295) (hn : nonce.length = 12) : goodW (firstN key counter nonce 3) := by
  refine ⟨rfl, ?_⟩
  have a : ∀ i, i < 8 → kN key i < 4294967296 := fun i hi => (kN_ok key i (by omega) (by omega)).2.2
  have b : ∀ i, i < 3 → kN nonce i < 4294967296 := fun i hi => (kN_ok nonce i (by omega) (by omega)).2.2
  have a0 := a 0 (by omega)
  have a1 := a 1 (by omega)
  have a2 := a 2 (by omega)
  have a3 := a 3 (by omega)
  have a4 := a 4 (by omega)
  have a5 := a 5 (by omega)
  have a6 := a 6 (by omega)
  have a7 := a 7 (by omega)
  have b0 := b 0 (by omega)
  have b1 := b 1 (by omega)
  have b2 := b 2 (by omega)
  have s0 : selW 3 0 (kN nonce 0) = Wrd.mk (kN nonce 0 : Int) := rfl
  have s1 : selW 3 1 (kN nonce 1) = Wrd.mk (kN nonce 1 : Int) := rfl
  have s2 : selW 3 2 (kN nonce 2) = Wrd.mk (kN nonce 2 : Int) := rfl
  intro x hx
  unfold firstN at hx
  rw [s0, s1, s2] at hx
  simp only [List.mem_cons, List.not_mem_nil, or_false] at hx
  rcases hx with rfl | rfl | rfl | rfl | rfl | rfl | rfl | rfl | rfl | rfl | rfl | rfl | rfl | rfl | rfl | rfl <;> simp only <;> omega
def bytes4 (n : Nat) : List UInt8 := [toU8 (n : Int), toU8 ((n / 256 : Nat) : Int), toU8 ((n / 65536 : Nat) : Int), toU8 ((n / 16777216 : Nat) : Int)]
/-- the bytes of the first k words -/
noncomputable def outW (w s : List Wrd) : Nat → List UInt8
  | 0 => []
  | k + 1 => outW w s k ++ (match w[k]?, s[k]? with | some x, some y => bytes4 ((x.v + y.v).toNat % 4294967296) | _, _ => [])
theorem outW_succ (w s : List Wrd) (k : Nat) (hw : k < w.length) (hs : k < s.length) : outW w s (k + 1) = outW w s k ++ bytes4 ((w[k].v + s[k].v).toNat % 4294967296) := by
  show outW w s k ++ (match w[k]?, s[k]? with | some x, some y => _ | _, _ => _) = _
  rw [List.getElem?_eq_getElem hw, List.getElem?_eq_getElem hs]
theorem outW_len (w s : List Wrd) (hw : w.length = 16) (hs : s.length = 16) : ∀ k, k ≤ 16 → (outW w s k).length = 4 * k
  | 0, _ => rfl
  | k + 1, hk => by
    rw [outW_succ w s k (by omega) (by omega), List.length_append, outW_len w s hw hs k (by omega)]
    show 4 * k + 4 = _
    omega
theorem toU8_mod (n : Nat) : toU8 ((n % 256 : Nat) : Int) = toU8 (n : Int) := by
  unfold toU8
  congr 1
  omega
noncomputable def chaR (key : List UInt8) (counter : Int) (nonce : List UInt8) : List UInt8 := outW (roundsW (firstN key counter nonce 3) 10) (firstN key counter nonce 3) 16
def chaOk (key : List UInt8) (counter : Int) (nonce : List UInt8) : Bool := decide (key.length = 32) && (decide (nonce.length = 12) && decide (0 ≤ counter ∧ counter ≤ 4294967295))
noncomputable def chaV (key : List UInt8) (counter : Int) (nonce : List UInt8) : List UInt8 := bif chaOk key counter nonce then chaR key counter nonce else []
theorem chaOk_iff {key : List UInt8} {counter : Int} {nonce : List UInt8} (h : chaOk key counter nonce = true) : key.length = 32 ∧ nonce.length = 12 ∧ 0 ≤ counter ∧ counter ≤ 4294967295 := by
  unfold chaOk at h
  simp only [Bool.and_eq_true, decide_eq_true_eq] at h
  exact h
theorem chaV_len (key : List UInt8) (counter : Int) (nonce : List UInt8) (h : chaOk key counter nonce = true) : (chaV key counter nonce).length = 64 := by
  obtain ⟨h1, h2, h3⟩ := chaOk_iff h
  have g := firstN_good key counter nonce h1 h3 h2
  unfold chaV chaR
  rw [h]
  exact outW_len _ _ (roundsW_good g 10).1 g.1 16 (Nat.le_refl _)
theorem impl_isCha_eq (key : List UInt8) (counter : Int) (nonce : List UInt8) : impl_isCha key counter nonce = some (chaOk key counter nonce) := by
  unfold impl_isCha chaOk
  have e1 : decide (((key.length : Nat) : Int) = 32) = decide (key.length = 32) := decide_eq_decide.2 (by omega)
  have e2 : decide (((nonce.length : Nat) : Int) = 12) = decide (nonce.length = 12) := decide_eq_decide.2 (by omega)
  rw [e1, e2, inRange_eq]
  cases decide (key.length = 32) <;> cases decide (nonce.length = 12) <;> cases decide (0 ≤ counter ∧ counter ≤ 4294967295) <;> rfl
theorem impl_ChaBlock_eq (key : List UInt8) (counter : Int) (nonce : List UInt8) : impl_ChaBlock key counter nonce = some (chaV key counter nonce) := by
  unfold impl_ChaBlock chaV
  rw [impl_isCha_eq]
  cases hok : chaOk key counter nonce with
  | false => rfl
  | true =>
    obtain ⟨h1, h2, h3⟩ := chaOk_iff hok
    have g := firstN_good key counter nonce h1 h3 h2
    have hl : ∀ l : List Wrd, l.length = 16 → lenIs 16 l = some () := fun l h => by unfold lenIs; rw [if_pos h]
    simp only [Option.bind_some, Bool.not_true, Bool.false_eq_true, if_false, cond_true, firstWords_eq key counter nonce h1 h3 h2, hl _ g.1]
    unfold chaR
    generalize firstN key counter nonce 3 = s at g
    rw [loopO_count (fun k => ((k : Int), roundsW s k)) 10 (r := Ctl.go (roundsW s 10)) ?h0]
    case h0 => rfl
    · have gw := roundsW_good g 10
      simp only [bindC_go, show mkLen 1 (64 : Int) = some 64 from rfl, Option.bind_some]
      rw [loopO_count (fun k => ((k : Int), outW (roundsW s 10) s k)) 16 (r := Ctl.go (outW (roundsW s 10) s 16)) ?h1]
      case h1 => rfl
      · rfl
      · intro k hk
        obtain ⟨n, en, hn⟩ := okW_nat gw.2 k (by rw [gw.1]; exact hk)
        obtain ⟨m, em, hm⟩ := okW_nat g.2 k (by rw [g.1]; exact hk)
        have ho := outW_len (roundsW s 10) s gw.1 g.1 k (by omega)
        simp only [hl _ gw.1, idx_nat (roundsW s 10) k (by rw [gw.1]; exact hk), idx_nat s k (by rw [g.1]; exact hk), Option.bind_some, en, em]
        have e0 : IntKind.u32.wrap ((n : Int) + (m : Int)) = (((n + m) % 4294967296 : Nat) : Int) := by rw [wrap32]; omega
        rw [e0, show (8 : Int) = ((8 : Nat) : Int) from rfl, show (24 : Int) = ((24 : Nat) : Int) from rfl, ishr_nat (by decide), ishr_nat (by decide)]
        rw [show ishr .u32 (((n + m) % 4294967296 : Nat) : Int) (16 : Int) = _ from ishr_nat (n := 16) (by decide)]
        rw [if_pos (by simp only [decide_eq_true_eq]; omega), wrap_ok (by omega) (by omega), app_ok (by rw [ho]; simp; omega) (by rw [ho]; simp; omega)]
        simp only [Option.bind_some]
        rw [outW_succ _ _ k (by rw [gw.1]; exact hk) (by rw [g.1]; exact hk), en, em]
        rfl
      · simp
    · intro k hk
      have gk := roundsW_good g k
      simp only [col_loop gk, bindC_go, diag_loop (colW_good gk 4 (by omega))]
      rw [if_pos (by simp only [decide_eq_true_eq]; omega), wrap_ok (by omega) (by omega)]
      rfl
    · simp
theorem bind_of {α β : Type} {x : Option α} {a : α} {f : α → Option β} {r : Option β} (h : x = some a) (h2 : f a = r) : x.bind f = r := by rw [h]; exact h2
theorem spec_ChaBlock_eq (key : List UInt8) (counter : Int) (nonce : List UInt8) : spec_ChaBlock key counter nonce = some (chaV key counter nonce) := by
  unfold spec_ChaBlock chaV
  have e1 : decide (((key.length : Nat) : Int) = 32) = decide (key.length = 32) := decide_eq_decide.2 (by omega)
  have e2 : decide (((nonce.length : Nat) : Int) = 12) = decide (nonce.length = 12) := decide_eq_decide.2 (by omega)
  rw [e1, e2, l1In_eq]
  cases hok : chaOk key counter nonce with
  | false =>
    unfold chaOk at hok
    cases a1 : decide (key.length = 32) with
    | false => rfl
    | true =>
      cases a2 : decide (nonce.length = 12) with
      | false => rfl
      | true =>
        rw [a1, a2] at hok
        cases a3 : decide (0 ≤ counter ∧ counter ≤ 4294967295) with
        | false => rfl
        | true => rw [a3] at hok; cases hok
  | true =>
    obtain ⟨h1, h2, h3⟩ := chaOk_iff hok
    have g := firstN_good key counter nonce h1 h3 h2
    rw [decide_eq_true h1, decide_eq_true h2, decide_eq_true h3]
    simp only [Option.bind_some, Bool.not_true, Bool.false_eq_true, if_false, cond_true]
    unfold spec_l3Block chaR
    rw [loopO_count (fun k => ((k : Int), ((firstN key counter nonce 3).map Wrd.v).take (4 + k))) 8 (r := Ctl.go (((firstN key counter nonce 3).map Wrd.v).take 12)) ?h0]
    case h0 => rfl
    · have n0 : spec_l3Little nonce (0 : Int) = some (kN nonce 0 : Int) := (kN_ok nonce 0 (by omega) (by omega)).1
      have n1 : spec_l3Little nonce (4 : Int) = some (kN nonce 1 : Int) := (kN_ok nonce 1 (by omega) (by omega)).1
      have n2 : spec_l3Little nonce (8 : Int) = some (kN nonce 2 : Int) := (kN_ok nonce 2 (by omega) (by omega)).1
      have t1 : app 8 (((firstN key counter nonce 3).map Wrd.v).take 12) [counter, (kN nonce 0 : Int), (kN nonce 1 : Int), (kN nonce 2 : Int)] = some ((firstN key counter nonce 3).map Wrd.v) := by
        rw [app_ok (by show (12 + 4) * 8 ≤ _; omega) (by show 12 + 4 ≤ _; omega)]
        unfold firstN
        generalize kN nonce 0 = x0
        generalize kN nonce 1 = x1
        generalize kN nonce 2 = x2
        generalize kN key 0 = y0
        generalize kN key 1 = y1
        generalize kN key 2 = y2
        generalize kN key 3 = y3
        generalize kN key 4 = y4
        generalize kN key 5 = y5
        generalize kN key 6 = y6
        generalize kN key 7 = y7
        rfl
      have t2 : app 8 ([] : List Int) ((firstN key counter nonce 3).map Wrd.v) = some ((firstN key counter nonce 3).map Wrd.v) := by
        rw [app_ok (by show (0 + 16) * 8 ≤ _; omega) (by show 0 + 16 ≤ _; omega)]
        rfl
      simp only [bindC_go, n0, n1, n2, Option.bind_some, t1, t2]
      generalize firstN key counter nonce 3 = s at g
      rw [loopO_count (fun k => ((k : Int), (roundsW s k).map Wrd.v)) 10 (r := Ctl.go ((roundsW s 10).map Wrd.v)) ?h1]
      case h1 => rfl
      · have gw := roundsW_good g 10
        simp only [bindC_go]
        generalize roundsW s 10 = w at gw
        rw [loopO_count (fun k => ((k : Int), outW (w) s k)) 16 (r := Ctl.go (outW (w) s 16)) ?h2]
        case h2 => rfl
        · rfl
        · intro k hk
          have hkw : k < (w).length := by rw [gw.1]; exact hk
          have hks : k < s.length := by rw [g.1]; exact hk
          obtain ⟨n, en, hn⟩ := okW_nat gw.2 k hkw
          obtain ⟨m, em, hm⟩ := okW_nat g.2 k hks
          have ho := outW_len (w) s gw.1 g.1 k (by omega)
          have i1 : idx ((w).map Wrd.v) (k : Int) = some (n : Int) := by rw [idx_nat _ k (by simpa using hkw)]; simp only [List.getElem_map, en]
          have i2 : idx (s.map Wrd.v) (k : Int) = some (m : Int) := by rw [idx_nat _ k (by simpa using hks)]; simp only [List.getElem_map, em]
          have e0 : IntKind.i64.wrap ((n : Int) + (m : Int)) = ((n + m : Nat) : Int) := by rw [wrap_ok (by omega) (by omega)]; omega
          have hx : (n + m) % 4294967296 < 4294967296 := Nat.mod_lt _ (by decide)
          have hw : spec_l3Word (IntKind.i64.wrap ((n : Int) + (m : Int))) = some (((n + m) % 4294967296 : Nat) : Int) := by rw [e0]; exact l3Word_eq (by omega)
          generalize hxe : (n + m) % 4294967296 = x at hx hw
          rw [if_pos (by simp only [decide_eq_true_eq]; omega)]
          refine bind_of i1 (bind_of i2 (bind_of hw ?_))
          have a0 : toU8 (iand .i64 (x : Int) (255 : Int)) = toU8 (x : Int) := by
            rw [show (255 : Int) = ((255 : Nat) : Int) from rfl, iand64 (by omega) (by decide), show x &&& 255 = x % 256 from Nat.and_two_pow_sub_one_eq_mod x 8, toU8_mod]
          have a1 : toU8 (iand .i64 (ishr .i64 (x : Int) (8 : Int)) (255 : Int)) = toU8 ((x / 256 : Nat) : Int) := by
            rw [show ishr .i64 (x : Int) (8 : Int) = ((x / 256 : Nat) : Int) from ishr_nat (n := 8) (by decide), show (255 : Int) = ((255 : Nat) : Int) from rfl, iand64 (by omega) (by decide), show x / 256 &&& 255 = x / 256 % 256 from Nat.and_two_pow_sub_one_eq_mod _ 8, toU8_mod]
          have a2 : toU8 (iand .i64 (ishr .i64 (x : Int) (16 : Int)) (255 : Int)) = toU8 ((x / 65536 : Nat) : Int) := by
            rw [show ishr .i64 (x : Int) (16 : Int) = ((x / 65536 : Nat) : Int) from ishr_nat (n := 16) (by decide), show (255 : Int) = ((255 : Nat) : Int) from rfl, iand64 (by omega) (by decide), show x / 65536 &&& 255 = x / 65536 % 256 from Nat.and_two_pow_sub_one_eq_mod _ 8, toU8_mod]
          have a3 : ishr .i64 (x : Int) (24 : Int) = ((x / 16777216 : Nat) : Int) := ishr_nat (n := 24) (by decide)
          rw [a0, a1, a2, a3, wrap_ok (by omega) (by omega), app_ok (by rw [ho]; simp; omega) (by rw [ho]; simp; omega)]
          simp only [Option.bind_some]
          rw [outW_succ _ _ k hkw hks, en, em, show ((n : Int) + (m : Int)).toNat = n + m by omega, hxe]
          rfl
        · simp
      · intro k hk
        simp only
        rw [if_pos (by simp only [decide_eq_true_eq]; omega), wrap_ok (n := (k : Int) + 1) (by omega) (by omega)]
        exact spec_round (roundsW_good g k) (fun R57 => some (Ctl.go ((k : Int) + 1, R57)))
      · simp
    · intro k hk
      have e4 : IntKind.i64.wrap ((4 : Int) * (k : Int)) = ((4 * k : Nat) : Int) := by rw [wrap_ok (by omega) (by omega)]; omega
      simp only [e4, (kN_ok key k (by omega) (by omega)).1, Option.bind_some]
      rw [if_pos (by simp only [decide_eq_true_eq]; omega), wrap_ok (by omega) (by omega), app_ok (by rw [List.length_take]; simp; omega) (by rw [List.length_take]; simp; omega)]
      have h4 : k = 0 ∨ k = 1 ∨ k = 2 ∨ k = 3 ∨ k = 4 ∨ k = 5 ∨ k = 6 ∨ k = 7 := by omega
      unfold firstN
      rcases h4 with rfl | rfl | rfl | rfl | rfl | rfl | rfl | rfl
      · generalize kN nonce 0 = x0
        generalize kN nonce 1 = x1
        generalize kN nonce 2 = x2
        generalize kN key 0 = y0
        generalize kN key 1 = y1
        generalize kN key 2 = y2
        generalize kN key 3 = y3
        generalize kN key 4 = y4
        generalize kN key 5 = y5
        generalize kN key 6 = y6
        generalize kN key 7 = y7
        rfl
      · generalize kN nonce 0 = x0
        generalize kN nonce 1 = x1
        generalize kN nonce 2 = x2
        generalize kN key 0 = y0
        generalize kN key 1 = y1
        generalize kN key 2 = y2
        generalize kN key 3 = y3
        generalize kN key 4 = y4
        generalize kN key 5 = y5
        generalize kN key 6 = y6
        generalize kN key 7 = y7
        rfl
      · generalize kN nonce 0 = x0
        generalize kN nonce 1 = x1
        generalize kN nonce 2 = x2
        generalize kN key 0 = y0
        generalize kN key 1 = y1
        generalize kN key 2 = y2
        generalize kN key 3 = y3
        generalize kN key 4 = y4
        generalize kN key 5 = y5
        generalize kN key 6 = y6
        generalize kN key 7 = y7
        rfl
      · generalize kN nonce 0 = x0
        generalize kN nonce 1 = x1
        generalize kN nonce 2 = x2
        generalize kN key 0 = y0
        generalize kN key 1 = y1
        generalize kN key 2 = y2
        generalize kN key 3 = y3
        generalize kN key 4 = y4
        generalize kN key 5 = y5
        generalize kN key 6 = y6
        generalize kN key 7 = y7
        rfl
      · generalize kN nonce 0 = x0
        generalize kN nonce 1 = x1
        generalize kN nonce 2 = x2
        generalize kN key 0 = y0
        generalize kN key 1 = y1
        generalize kN key 2 = y2
        generalize kN key 3 = y3
        generalize kN key 4 = y4
        generalize kN key 5 = y5
        generalize kN key 6 = y6
        generalize kN key 7 = y7
        rfl
      · generalize kN nonce 0 = x0
        generalize kN nonce 1 = x1
        generalize kN nonce 2 = x2
        generalize kN key 0 = y0
        generalize kN key 1 = y1
        generalize kN key 2 = y2
        generalize kN key 3 = y3
        generalize kN key 4 = y4
        generalize kN key 5 = y5
        generalize kN key 6 = y6
        generalize kN key 7 = y7
        rfl
      · generalize kN nonce 0 = x0
        generalize kN nonce 1 = x1
        generalize kN nonce 2 = x2
        generalize kN key 0 = y0
        generalize kN key 1 = y1
        generalize kN key 2 = y2
        generalize kN key 3 = y3
        generalize kN key 4 = y4
        generalize kN key 5 = y5
        generalize kN key 6 = y6
        generalize kN key 7 = y7
        rfl
      · generalize kN nonce 0 = x0
        generalize kN nonce 1 = x1
        generalize kN nonce 2 = x2
        generalize kN key 0 = y0
        generalize kN key 1 = y1
        generalize kN key 2 = y2
        generalize kN key 3 = y3
        generalize kN key 4 = y4
        generalize kN key 5 = y5
        generalize kN key 6 = y6
        generalize kN key 7 = y7
        rfl
    · simp

/-- bytes of a number, the highest first -/
def fixV (n : Nat) : Nat → List UInt8
  | 0 => []
  | j + 1 => toU8 ((n / 256 ^ j : Nat) : Int) :: fixV n j
theorem fixV_len (n : Nat) : ∀ j, (fixV n j).length = j
  | 0 => rfl
  | j + 1 => by rw [fixV, List.length_cons, fixV_len n j]
theorem div_pow_succ (n b j : Nat) : n / b ^ j / b = n / b ^ (j + 1) := by rw [Nat.div_div_eq_div_mul, Nat.pow_succ]
def fixedV (n w : Int) : List UInt8 := bif decide (1 ≤ w ∧ w ≤ 7) && (decide (0 ≤ n) && decide (n.toNat / 256 ^ w.toNat = 0)) then fixV n.toNat w.toNat else []
theorem spec_Fixed_eq (n w : Int) (hn : n ≤ 4611686018427387904) : spec_Fixed n w = some (fixedV n w) := by
  unfold spec_Fixed fixedV
  rw [l1In_eq]
  by_cases h1 : 1 ≤ w ∧ w ≤ 7
  · rw [decide_eq_true h1]
    by_cases h2 : 0 ≤ n
    · obtain ⟨m, rfl⟩ : ∃ m : Nat, n = (m : Int) := ⟨n.toNat, by omega⟩
      obtain ⟨u, rfl⟩ : ∃ u : Nat, w = (u : Int) := ⟨w.toNat, by omega⟩
      rw [decide_eq_true h2, decide_eq_false (by omega : ¬ (m : Int) < 0)]
      simp only [Option.bind_some, Bool.not_true, Bool.false_eq_true, if_false, Int.toNat_natCast]
      rw [loopO_count (fun j => (((m / 256 ^ j : Nat) : Int), fixV m j, (j : Int))) u (r := Ctl.go (((m / 256 ^ u : Nat) : Int), fixV m u)) ?h0]
      case h0 => simp [fixV]
      · simp only [bindC_go]
        by_cases h3 : m / 256 ^ u = 0
        · rw [decide_eq_true h3, decide_eq_false (by rw [h3]; decide : ¬ ((m / 256 ^ u : Nat) : Int) > 0)]; rfl
        · have h4 : ((m / 256 ^ u : Nat) : Int) > 0 := Int.ofNat_lt.2 (Nat.pos_of_ne_zero h3)
          rw [decide_eq_false h3, decide_eq_true h4]; rfl
      · intro j hj
        have e1 : Int.tmod ((m / 256 ^ j : Nat) : Int) (256 : Int) = ((m / 256 ^ j % 256 : Nat) : Int) := by rw [show (256 : Int) = ((256 : Nat) : Int) from rfl, ← Int.ofNat_tmod]
        have e2 : Int.tdiv ((m / 256 ^ j : Nat) : Int) (256 : Int) = ((m / 256 ^ (j + 1) : Nat) : Int) := by rw [show (256 : Int) = ((256 : Nat) : Int) from rfl, ← Int.ofNat_tdiv, div_pow_succ]
        have e3 : ((m / 256 ^ (j + 1) : Nat) : Int) ≤ (m : Int) := Int.ofNat_le.2 (Nat.div_le_self _ _)
        have e4 : (0 : Int) ≤ ((m / 256 ^ (j + 1) : Nat) : Int) := Int.natCast_nonneg _
        have hl := fixV_len m j
        simp only [e1, e2, toU8_mod]
        rw [if_pos (by simp only [decide_eq_true_eq]; omega), wrap_ok (n := (j : Int) + 1) (by omega) (by omega), wrap_ok (by omega) (by omega)]
        rw [cat_ok (by rw [hl]; simp; omega)]
        rfl
      · simp
    · rw [decide_eq_false h2, decide_eq_true (by omega : n < 0)]
      rfl
  · rw [decide_eq_false h1]
    rfl
theorem impl_Fixed_eq (n w : Int) (hn : n ≤ 4611686018427387904) : impl_Fixed n w = some (fixedV n w) := by
  unfold impl_Fixed fixedV
  rw [inRange_eq]
  by_cases h1 : 1 ≤ w ∧ w ≤ 7
  · rw [decide_eq_true h1]
    by_cases h2 : 0 ≤ n
    · obtain ⟨m, rfl⟩ : ∃ m : Nat, n = (m : Int) := ⟨n.toNat, by omega⟩
      obtain ⟨u, rfl⟩ : ∃ u : Nat, w = (u : Int) := ⟨w.toNat, by omega⟩
      have e0 : IntKind.u64.wrap (IntKind.i64.wrap ((8 : Int) * (u : Int))) = ((8 * u : Nat) : Int) := by rw [wrap_ok (by omega) (by omega), wrap64u]; omega
      have e5 : ishr .i64 (m : Int) ((8 * u : Nat) : Int) = ((m / 256 ^ u : Nat) : Int) := by
        rw [ishr_nat (by show 8 * u ≤ 64; omega), Nat.pow_mul]
      have e6 : decide (((m / 256 ^ u : Nat) : Int) = 0) = decide (m / 256 ^ u = 0) := decide_eq_decide.2 (by omega)
      rw [decide_eq_true h2, decide_eq_false (by omega : ¬ (m : Int) < 0)]
      simp only [Option.bind_some, Bool.not_true, Bool.false_eq_true, if_false, Int.toNat_natCast, e0, e5, e6]
      by_cases h3 : m / 256 ^ u = 0
      · rw [decide_eq_true h3]
        simp only [Bool.not_true, Bool.false_eq_true, if_false, Bool.true_and, cond_true]
        rw [mkLen_ok (by omega) (by omega)]
        simp only [Option.bind_some]
        rw [loopO_count (fun j => (((m / 256 ^ j : Nat) : Int), (u : Int) - 1 - (j : Int), List.replicate (u - j) (0 : UInt8) ++ fixV m j)) u (r := Ctl.go (fixV m u)) ?h0]
        case h0 => rw [wrap_ok (by omega) (by omega)]; simp [fixV]
        · rfl
        · intro j hj
          have e1 : ishr .i64 ((m / 256 ^ j : Nat) : Int) (8 : Int) = ((m / 256 ^ (j + 1) : Nat) : Int) := by
            rw [show ishr .i64 ((m / 256 ^ j : Nat) : Int) (8 : Int) = ((m / 256 ^ j / 256 : Nat) : Int) from ishr_nat (n := 8) (by decide), div_pow_succ]
          have hl := fixV_len m j
          have hi : (u : Int) - 1 - (j : Int) = ((u - 1 - j : Nat) : Int) := by omega
          have hlen : u - 1 - j < (List.replicate (u - j) (0 : UInt8) ++ fixV m j).length := by simp; omega
          have hset : (List.replicate (u - j) (0 : UInt8) ++ fixV m j).set (u - 1 - j) (toU8 ((m / 256 ^ j : Nat) : Int)) = List.replicate (u - (j + 1)) (0 : UInt8) ++ fixV m (j + 1) := by
            rw [show u - j = (u - (j + 1)) + 1 by omega, List.replicate_succ', List.append_assoc, show u - 1 - j = u - (j + 1) by omega, List.set_append_right _ _ (by simp)]
            simp [fixV]
          simp only [hi, e1, idx_nat _ _ hlen, Option.bind_some, Int.toNat_natCast, hset]
          rw [if_pos (by simp only [decide_eq_true_eq]; omega), wrap_ok (by omega) (by omega)]
          rw [show ((u - 1 - j : Nat) : Int) - 1 = (u : Int) - 1 - ((j + 1 : Nat) : Int) by omega]
        · rw [if_neg (by simp only [decide_eq_true_eq]; omega)]
          simp
      · rw [decide_eq_false h3]
        rfl
    · rw [decide_eq_false h2, decide_eq_true (by omega : n < 0)]
      rfl
  · rw [decide_eq_false h1]
    rfl
/-- a number in bytes of seven bits, the lowest first -/
def varN : Nat → Nat → List UInt8
  | 0, n => [toU8 (n : Int)]
  | f + 1, n => bif decide (n < 128) then [toU8 (n : Int)] else toU8 ((128 + n % 128 : Nat) : Int) :: varN f (n / 128)
theorem varN_lt {f n : Nat} (h : n < 128) : varN f n = [toU8 (n : Int)] := by
  cases f with
  | zero => rfl
  | succ f => rw [varN, decide_eq_true h]; rfl
theorem varN_ge {f n : Nat} (h : 128 ≤ n) : varN (f + 1) n = toU8 ((128 + n % 128 : Nat) : Int) :: varN f (n / 128) := by
  rw [varN, decide_eq_false (by omega)]; rfl
/-- a loop that takes seven bits at a time -/
theorem var_loop {body : Int × List UInt8 → Option (Ctl (Int × List UInt8) (Ctl (Int × List UInt8) (List UInt8)))}
    (h1 : ∀ (n : Nat) (out : List UInt8), 128 ≤ n → n < 562949953421312 → out.length ≤ 100 → body ((n : Int), out) = some (.go (((n / 128 : Nat) : Int), out ++ [toU8 ((128 + n % 128 : Nat) : Int)])))
    (h2 : ∀ (n : Nat) (out : List UInt8), n < 128 → body ((n : Int), out) = some (.done (.go ((n : Int), out)))) :
    ∀ (f n : Nat) (out : List UInt8), n < 128 ^ (f + 1) → n < 562949953421312 → out.length + f ≤ 100 → ∃ (m : Nat) (out' : List UInt8), loopO body ((n : Int), out) = some (.go ((m : Int), out')) ∧ out' ++ [toU8 (m : Int)] = out ++ varN f n ∧ out'.length ≤ 100 := by
  intro f
  induction f with
  | zero =>
    intro n out hn _ ho
    have hn' : n < 128 := by simpa using hn
    exact ⟨n, out, by rw [loopO_eq, h2 n out hn'], by rw [varN_lt hn'], by omega⟩
  | succ f ih =>
    intro n out hn hb ho
    by_cases h : n < 128
    · exact ⟨n, out, by rw [loopO_eq, h2 n out h], by rw [varN_lt h], by omega⟩
    · have hn2 : n / 128 < 128 ^ (f + 1) := by
        rw [Nat.div_lt_iff_lt_mul (by decide)]
        rw [Nat.pow_succ] at hn
        exact hn
      obtain ⟨m, out', e1, e2, e3⟩ := ih (n / 128) (out ++ [toU8 ((128 + n % 128 : Nat) : Int)]) hn2 (by omega) (by simp; omega)
      refine ⟨m, out', ?_, ?_, e3⟩
      · rw [loopO_eq, h1 n out (by omega) hb (by omega)]
        exact e1
      · rw [e2, varN_ge (by omega), List.append_assoc]; rfl
def varV (n : Int) : List UInt8 := bif decide (0 ≤ n ∧ n ≤ 562949953421311) then varN 6 n.toNat else []
theorem or128 (m : Nat) (h : m < 128) : 128 ||| m = 128 + m := by
  have := Nat.two_pow_add_eq_or_of_lt (i := 7) (b := m) h 1
  rw [show 2 ^ 7 * 1 = 128 from rfl] at this
  exact this.symm
/-- the number that bytes of seven bits come to -/
def numV : List UInt8 → Nat
  | [] => 0
  | x :: l => x.toNat % 128 + 128 * numV l
theorem numV_lt : ∀ (l : List UInt8), numV l < 128 ^ l.length
  | [] => by decide
  | x :: l => by
    have := numV_lt l
    have hx : x.toNat % 128 < 128 := Nat.mod_lt _ (by decide)
    rw [numV, List.length_cons, Nat.pow_succ]
    omega
theorem numV_snoc : ∀ (l : List UInt8) (x : UInt8), numV (l ++ [x]) = numV l + 128 ^ l.length * (x.toNat % 128)
  | [], x => by simp [numV]
  | y :: l, x => by
    rw [List.cons_append, numV, numV, numV_snoc l x, List.length_cons, Nat.pow_succ, Nat.mul_add, Nat.mul_comm (128 ^ l.length) 128, Nat.mul_assoc]
    omega
/-- reading: the number and how many bytes -/
def readN : Nat → List UInt8 → Option (Nat × Nat)
  | 0, _ => none
  | _ + 1, [] => none
  | f + 1, x :: l => bif decide (x.toNat < 128) then some (x.toNat, 1) else match readN f l with
    | some (m, k) => bif decide (m = 0) then none else some (x.toNat % 128 + 128 * m, k + 1)
    | none => none
theorem toU8_toNat (n : Nat) : (toU8 (n : Int)).toNat = n % 256 := by
  unfold toU8
  rw [UInt8.toNat_ofNat']
  omega
theorem toU8_of (x : UInt8) : toU8 ((x.toNat : Nat) : Int) = x := by
  have := x.toNat_lt
  apply UInt8.toNat_inj.1
  rw [toU8_toNat]
  omega
/-- a beginning that is the form of its number -/
def goodN (l : List UInt8) : Prop := ∃ f, l.length ≤ f + 1 ∧ varN f (numV l) = l
theorem varN_more : ∀ (f g n : Nat), n < 128 ^ (f + 1) → n < 128 ^ (g + 1) → varN f n = varN g n
  | f, g, n, h1, h2 => by
    by_cases h : n < 128
    · rw [varN_lt h, varN_lt h]
    · cases f with
      | zero => simp at h1; omega
      | succ f =>
        cases g with
        | zero => simp at h2; omega
        | succ g =>
          rw [varN_ge (by omega), varN_ge (by omega), varN_more f g (n / 128) ?_ ?_]
          · rw [Nat.div_lt_iff_lt_mul (by decide)]; rw [Nat.pow_succ] at h1; exact h1
          · rw [Nat.div_lt_iff_lt_mul (by decide)]; rw [Nat.pow_succ] at h2; exact h2
theorem take_ne {α : Type} {l : List α} {j : Nat} (h1 : 1 ≤ j) (h2 : j ≤ l.length) : l.take j ≠ [] := by
  intro e
  have := congrArg List.length e
  rw [List.length_take, List.length_nil] at this
  omega
theorem good_one (f : Nat) (x : UInt8) : varN f (numV [x]) = [x] ↔ x.toNat < 128 := by
  have hx : x.toNat % 128 < 128 := Nat.mod_lt _ (by decide)
  rw [show numV [x] = x.toNat % 128 by simp [numV], varN_lt hx]
  constructor
  · intro h
    have h2 : toU8 ((x.toNat % 128 : Nat) : Int) = x := by simpa using h
    have h3 := congrArg UInt8.toNat h2
    rw [toU8_toNat] at h3
    omega
  · intro h
    rw [Nat.mod_eq_of_lt h, toU8_of]
theorem good_more (f : Nat) (x : UInt8) (l : List UInt8) (hl : l ≠ []) : varN (f + 1) (numV (x :: l)) = x :: l ↔ 128 ≤ x.toNat ∧ numV l ≠ 0 ∧ varN f (numV l) = l := by
  have hx : x.toNat % 128 < 128 := Nat.mod_lt _ (by decide)
  have hx2 := x.toNat_lt
  have hm : (x.toNat % 128 + 128 * numV l) % 128 = x.toNat % 128 := by omega
  have hd : (x.toNat % 128 + 128 * numV l) / 128 = numV l := by omega
  by_cases h0 : numV l = 0
  · rw [numV, h0, varN_lt (by omega)]
    constructor
    · intro h
      have : [] = l := by simpa using (List.cons.inj h).2
      exact absurd this.symm hl
    · rintro ⟨_, h, _⟩
      exact absurd rfl h
  · rw [numV, varN_ge (by omega), hm, hd]
    constructor
    · intro h
      obtain ⟨h1, h2⟩ := List.cons.inj h
      have h3 := congrArg UInt8.toNat h1
      rw [toU8_toNat] at h3
      exact ⟨by omega, h0, h2⟩
    · rintro ⟨h1, _, h2⟩
      rw [h2, show 128 + x.toNat % 128 = x.toNat by omega, toU8_of]
theorem readN_some : ∀ (f : Nat) (s : List UInt8) (n k : Nat), readN f s = some (n, k) → 1 ≤ k ∧ k ≤ f ∧ k ≤ s.length ∧ n = numV (s.take k) ∧ varN (f - 1) n = s.take k ∧ ∀ g j, 1 ≤ j → j ≤ g + 1 → j ≤ s.length → varN g (numV (s.take j)) = s.take j → j = k
  | 0, s, n, k, h => by cases h
  | f + 1, [], n, k, h => by cases h
  | f + 1, x :: l, n, k, h => by
    rw [readN] at h
    by_cases hx : x.toNat < 128
    · rw [decide_eq_true hx] at h
      simp only [cond_true, Option.some.injEq, Prod.mk.injEq] at h
      obtain ⟨rfl, rfl⟩ := h
      have hm : x.toNat % 128 = x.toNat := Nat.mod_eq_of_lt hx
      refine ⟨Nat.le_refl _, by omega, by simp, by simp [numV, hm], ?_, fun g j hj1 hjg hjl he => ?_⟩
      · have := (good_one (f + 1 - 1) x).2 hx
        rw [show numV [x] = x.toNat by simp [numV, hm]] at this
        exact this
      · cases j with
        | zero => omega
        | succ j =>
          cases j with
          | zero => rfl
          | succ j =>
            cases g with
            | zero => omega
            | succ g =>
              rw [List.take_succ_cons] at he
              have := (good_more g x (l.take (j + 1)) (take_ne (by omega) (by rw [List.length_cons] at hjl; omega))).1 he
              omega
    · rw [decide_eq_false hx] at h
      simp only [cond_false] at h
      cases hr : readN f l with
      | none => rw [hr] at h; cases h
      | some p =>
        obtain ⟨m, k'⟩ := p
        rw [hr] at h
        simp only at h
        by_cases hm : m = 0
        · rw [decide_eq_true hm] at h; cases h
        · rw [decide_eq_false hm] at h
          simp only [cond_false, Option.some.injEq, Prod.mk.injEq] at h
          obtain ⟨rfl, rfl⟩ := h
          obtain ⟨h1, h2, h3, h4, h5, h6⟩ := readN_some f l m k' hr
          have hne : l.take k' ≠ [] := take_ne h1 h3
          refine ⟨by omega, by omega, by simp; omega, by rw [List.take_succ_cons, numV, ← h4], ?_, fun g j hj1 hjg hjl he => ?_⟩
          · rw [List.take_succ_cons, Nat.add_sub_cancel]
            obtain ⟨f', rfl⟩ : ∃ f', f = f' + 1 := ⟨f - 1, by omega⟩
            rw [Nat.add_sub_cancel] at h5
            have := (good_more f' x (l.take k') hne).2 ⟨by omega, by rw [← h4]; exact hm, by rw [← h4]; exact h5⟩
            rw [numV, ← h4] at this
            exact this
          · cases j with
            | zero => omega
            | succ j =>
              cases j with
              | zero =>
                rw [List.take_succ_cons, List.take_zero] at he
                exact absurd ((good_one g x).1 he) hx
              | succ j =>
                cases g with
                | zero => omega
                | succ g =>
                  rw [List.take_succ_cons] at he
                  have hjl' : j + 1 ≤ l.length := by simp at hjl; omega
                  have := (good_more g x (l.take (j + 1)) (take_ne (by omega) hjl')).1 he
                  have := h6 g (j + 1) (by omega) (by omega) hjl' this.2.2
                  omega
theorem readN_none : ∀ (f : Nat) (s : List UInt8), readN f s = none → ∀ g j, 1 ≤ j → j ≤ f → j ≤ g + 1 → j ≤ s.length → varN g (numV (s.take j)) ≠ s.take j
  | 0, s, h => fun g j h1 h2 => by omega
  | f + 1, [], h => fun g j h1 h2 h3 h4 => by simp at h4; omega
  | f + 1, x :: l, h => by
    intro g j hj1 hjf hjg hjl he
    rw [readN] at h
    by_cases hx : x.toNat < 128
    · rw [decide_eq_true hx] at h; cases h
    · rw [decide_eq_false hx] at h
      simp only [cond_false] at h
      cases j with
      | zero => omega
      | succ j =>
        cases j with
        | zero =>
          rw [List.take_succ_cons, List.take_zero] at he
          exact hx ((good_one g x).1 he)
        | succ j =>
          cases g with
          | zero => omega
          | succ g =>
            rw [List.take_succ_cons] at he
            have hjl' : j + 1 ≤ l.length := by simp at hjl; omega
            obtain ⟨q1, q2, q3⟩ := (good_more g x (l.take (j + 1)) (take_ne (by omega) hjl')).1 he
            cases hr : readN f l with
            | none => exact readN_none f l hr g (j + 1) (by omega) (by omega) (by omega) hjl' q3
            | some p =>
              obtain ⟨m, k'⟩ := p
              rw [hr] at h
              simp only at h
              by_cases hm : m = 0
              · obtain ⟨h1, h2, h3, h4, h5, h6⟩ := readN_some f l m k' hr
                have := h6 g (j + 1) (by omega) (by omega) hjl' q3
                rw [← this] at h4
                exact q2 (by rw [← h4]; exact hm)
              · rw [decide_eq_false hm] at h; cases h
def readR : Option (Nat × Nat) → Int × Int
  | some (n, k) => ((n : Int), (k : Int))
  | none => (0, 0)
/-- reading of what comes behind i bytes -/
def readI (n i : Nat) : Option (Nat × Nat) → Int × Int
  | some (m, k) => bif decide (m = 0 ∧ 0 < i) then (0, 0) else (((n + 128 ^ i * m : Nat) : Int), ((i + k : Nat) : Int))
  | none => (0, 0)
theorem readI_zero (p : Option (Nat × Nat)) : readI 0 0 p = readR p := by
  cases p with
  | none => rfl
  | some p => simp [readI, readR]
theorem readI_step (n i f : Nat) (x : UInt8) (l : List UInt8) (hx : ¬ x.toNat < 128) : readI n i (readN (f + 1) (x :: l)) = readI (n + 128 ^ i * (x.toNat % 128)) (i + 1) (readN f l) := by
  rw [readN, decide_eq_false hx]
  simp only [cond_false]
  cases readN f l with
  | none => rfl
  | some p =>
    obtain ⟨m, k⟩ := p
    simp only
    by_cases hm : m = 0
    · simp [hm, readI]
    · rw [decide_eq_false hm]
      simp only [cond_false, readI]
      rw [decide_eq_false (by omega), decide_eq_false (by omega)]
      simp only [cond_false]
      have e : n + 128 ^ i * (x.toNat % 128 + 128 * m) = n + 128 ^ i * (x.toNat % 128) + 128 ^ i * 128 * m := by rw [Nat.mul_add, Nat.mul_assoc, Nat.add_assoc]
      rw [Nat.pow_succ, e, show i + (k + 1) = i + 1 + k by omega]
theorem or_add (n d i : Nat) (h : n < 2 ^ (7 * i)) : n ||| d * 2 ^ (7 * i) = n + 2 ^ (7 * i) * d := by
  rw [Nat.or_comm, Nat.mul_comm, ← Nat.two_pow_add_eq_or_of_lt h]
  omega
theorem pow128 (i : Nat) : 128 ^ i = 2 ^ (7 * i) := by rw [Nat.pow_mul]
theorem ssub_nat (s : List UInt8) (a b : Nat) (h1 : a ≤ b) (h2 : b ≤ s.length) : ssub s (a : Int) (b : Int) = some ((s.drop a).take (b - a)) := by
  unfold ssub
  rw [if_pos ⟨by omega, by omega, by omega⟩, Int.toNat_natCast, Int.toNat_natCast]
theorem ssub_end (s : List UInt8) (a : Nat) (h : a ≤ s.length) : ssub s (a : Int) (s.length : Int) = some (s.drop a) := by
  rw [ssub_nat s a s.length h (Nat.le_refl _), List.take_of_length_le (by simp)]
theorem num_loop {ρ : Type} (s : List UInt8) (k : Nat) (h1 : 1 ≤ k) (h7 : k ≤ 7) (hk : k ≤ s.length) :
    loopO (ρ := Ctl Int ρ) (fun (S9 : Int × Int) => if (decide (S9.2 ≥ (0 : Int))) = true then ((sidx s S9.2).bind fun E14 =>
  some (.go (IntKind.i64.wrap (IntKind.i64.wrap (S9.1 * (128 : Int)) + (Int.tmod (IntKind.i64.wrap ((E14.toNat : Nat) : Int)) (128 : Int))), IntKind.i64.wrap (S9.2 - (1 : Int)))))
  else (some (.done (.go S9.1))))
  ((0 : Int), (k : Int) - 1) = some (.go (numV (s.take k) : Int)) := by
  have hlen : (s.take k).length = k := by rw [List.length_take]; omega
  rw [loopO_count (fun t => ((numV ((s.take k).drop (k - t)) : Int), (k : Int) - 1 - (t : Int))) k (r := Ctl.go (numV (s.take k) : Int)) ?h0]
  case h0 => rw [show k - 0 = k by omega, List.drop_of_length_le (by omega)]; simp [numV]
  · intro t ht
    have hi : (k : Int) - 1 - (t : Int) = ((k - 1 - t : Nat) : Int) := by omega
    have hd : (s.take k).drop (k - (t + 1)) = s[k - 1 - t] :: (s.take k).drop (k - t) := by
      rw [show k - (t + 1) = k - 1 - t by omega, List.drop_eq_getElem_cons (by omega), List.getElem_take]
      rw [show k - 1 - t + 1 = k - t by omega]
    have hx := (s[k - 1 - t]).toNat_lt
    have hn := numV_lt ((s.take k).drop (k - t))
    have hl : ((s.take k).drop (k - t)).length = t := by rw [List.length_drop, hlen]; omega
    rw [hl] at hn
    have hp : 128 ^ t ≤ 128 ^ 6 := Nat.pow_le_pow_right (by decide) (by omega)
    have hm : Int.tmod (((s[k - 1 - t]).toNat : Nat) : Int) (128 : Int) = (((s[k - 1 - t]).toNat % 128 : Nat) : Int) := by rw [show (128 : Int) = ((128 : Nat) : Int) from rfl, ← Int.ofNat_tmod]
    simp only [hi, sidx_nat s (k - 1 - t) (by omega), Option.bind_some]
    rw [if_pos (by simp only [decide_eq_true_eq]; omega), wrap_ok (n := (((s[k - 1 - t]).toNat : Nat) : Int)) (by omega) (by omega), hm, hd, numV]
    generalize numV ((s.take k).drop (k - t)) = z at hn
    rw [wrap_ok (n := (z : Int) * 128) (by omega) (by omega), wrap_ok (by omega) (by omega), wrap_ok (by omega) (by omega)]
    congr 3
    · omega
    · omega
  · rw [if_neg (by simp only [decide_eq_true_eq]; omega)]
    simp
/-- so many numbers read from a place on -/
def l6V (s : List UInt8) : Nat → Nat → List Int × Int
  | 0, a => ([], (a : Int))
  | n + 1, a => bif decide (s.length < a) then ([], -1) else match readN 7 (s.drop a) with
    | some (x, k) => ((x : Int) :: (l6V s n (a + k)).1, (l6V s n (a + k)).2)
    | none => ([], -1)
def nonceV (kind n : Int) : List UInt8 := bif decide (0 ≤ kind ∧ kind ≤ 255) && decide (0 ≤ n ∧ n ≤ 562949953421311) then [toU8 kind, 0, 0, 0, 0] ++ fixedV n 7 else []
theorem fixedV_len (n : Int) (w : Nat) : (fixedV n w).length ≤ w := by
  unfold fixedV
  cases decide (1 ≤ (w : Int) ∧ (w : Int) ≤ 7) && (decide (0 ≤ n) && decide (n.toNat / 256 ^ (w : Int).toNat = 0))
  · simp
  · rw [cond_true, fixV_len]; simp
theorem fixedV_len7 (n : Int) (h : 0 ≤ n ∧ n ≤ 562949953421311) : (fixedV n 7).length = 7 := by
  unfold fixedV
  have h1 : n.toNat / 256 ^ (7 : Int).toNat = 0 := Nat.div_eq_of_lt (by show n.toNat < 256 ^ 7; omega)
  rw [decide_eq_true h.1, decide_eq_true h1]
  show (fixV n.toNat 7).length = 7
  exact fixV_len _ 7
theorem spec_NonceOf_eq (kind n : Int) : spec_NonceOf kind n = some (nonceV kind n) := by
  unfold spec_NonceOf nonceV
  rw [l1In_eq, l1In_eq]
  by_cases h1 : 0 ≤ kind ∧ kind ≤ 255
  · by_cases h2 : 0 ≤ n ∧ n ≤ 562949953421311
    · rw [decide_eq_true h1, decide_eq_true h2]
      simp only [Option.bind_some, Bool.not_true, Bool.false_eq_true, if_false, Bool.and_self, cond_true, spec_Fixed_eq n 7 (by omega)]
      rw [cat_ok (by rw [fixedV_len7 n h2]; show 5 + 7 ≤ 9223372036854775807; decide)]
      rfl
    · rw [decide_eq_true h1, decide_eq_false h2]
      rfl
  · rw [decide_eq_false h1]
    rfl
theorem impl_NonceOf_eq (kind n : Int) : impl_NonceOf kind n = some (nonceV kind n) := by
  unfold impl_NonceOf nonceV
  rw [inRange_eq, inRange_eq]
  by_cases h1 : 0 ≤ kind ∧ kind ≤ 255
  · by_cases h2 : 0 ≤ n ∧ n ≤ 562949953421311
    · rw [decide_eq_true h1, decide_eq_true h2]
      simp only [Option.bind_some, Bool.not_true, Bool.false_eq_true, if_false, Bool.and_self, cond_true, impl_Fixed_eq n 7 (by omega)]
      rw [cat_ok (by rw [fixedV_len7 n h2]; show 5 + 7 ≤ 9223372036854775807; decide)]
      rfl
    · rw [decide_eq_true h1, decide_eq_false h2]
      rfl
  · rw [decide_eq_false h1]
    rfl
theorem varN_len : ∀ (f n : Nat), (varN f n).length ≤ f + 1
  | 0, n => Nat.le_refl _
  | f + 1, n => by
    by_cases h : n < 128
    · rw [varN_lt h]; simp
    · rw [varN_ge (by omega), List.length_cons]
      have := varN_len f (n / 128)
      omega
theorem varV_len (n : Int) : (varV n).length ≤ 7 := by
  unfold varV
  cases decide (0 ≤ n ∧ n ≤ 562949953421311)
  · simp
  · exact varN_len 6 _
def mintOk (secret : List UInt8) (t e : Int) : Bool := decide (secret.length = 32) && (decide (1 ≤ t ∧ t ≤ 99) && decide (0 ≤ e ∧ e ≤ 1000000))
theorem mintOk_iff {secret : List UInt8} {t e : Int} (h : mintOk secret t e = true) : secret.length = 32 ∧ (1 ≤ t ∧ t ≤ 99) ∧ 0 ≤ e ∧ e ≤ 1000000 := by
  unfold mintOk at h
  simp only [Bool.and_eq_true, decide_eq_true_eq] at h
  exact h
noncomputable def mintV (secret : List UInt8) (t e : Int) : List UInt8 := bif mintOk secret t e then varV t ++ varV e ++ (chaV secret e (nonceV 2 t)).take 8 else []
theorem mint_cha {secret : List UInt8} {t e : Int} (h : mintOk secret t e = true) : (chaV secret e (nonceV 2 t)).length = 64 := by
  obtain ⟨h1, h2, h3⟩ := mintOk_iff h
  refine chaV_len _ _ _ ?_
  have hn : (nonceV 2 t).length = 12 := by
    unfold nonceV
    rw [decide_eq_true (by omega : (0 : Int) ≤ 2 ∧ (2 : Int) ≤ 255), decide_eq_true (by omega : 0 ≤ t ∧ t ≤ 562949953421311)]
    simp only [Bool.and_self, cond_true, List.length_append, fixedV_len7 t (by omega)]
    rfl
  unfold chaOk
  rw [decide_eq_true h1, decide_eq_true hn, decide_eq_true (by omega)]
  rfl
theorem readN_var {s : List UInt8} {n k : Nat} (h : readN 7 s = some (n, k)) : varV (n : Int) = s.take k ∧ k ≤ s.length ∧ 1 ≤ k ∧ k ≤ 7 := by
  obtain ⟨h1, h2, h3, h4, h5, _⟩ := readN_some 7 s n k h
  have hn := numV_lt (s.take k)
  rw [List.length_take, Nat.min_eq_left h3, ← h4] at hn
  have hp : 128 ^ k ≤ 128 ^ 7 := Nat.pow_le_pow_right (by decide) h2
  refine ⟨?_, h3, h1, h2⟩
  unfold varV
  rw [decide_eq_true (by omega), cond_true, Int.toNat_natCast]
  exact h5
/-- what a token says -/
noncomputable def tokR (secret s : List UInt8) : Int × Int × Bool := match readN 7 s with
  | none => (0, 0, false)
  | some (t, k1) => match readN 7 (s.drop k1) with
    | none => (0, 0, false)
    | some (e, _) => bif decide (mintV secret t e = s) then ((t : Int), (e : Int), true) else (0, 0, false)
theorem mint_len {secret s : List UInt8} {t k1 e k2 : Nat} (h1 : readN 7 s = some (t, k1)) (h2 : readN 7 (s.drop k1) = some (e, k2)) (hm : mintV secret t e = s) : s.length = k1 + k2 + 8 := by
  obtain ⟨v1, b1, c1, _⟩ := readN_var h1
  obtain ⟨v2, b2, c2, _⟩ := readN_var h2
  rw [List.length_drop] at b2
  unfold mintV at hm
  cases hok : mintOk secret t e with
  | false =>
    rw [hok] at hm
    have := congrArg List.length hm
    simp at this
    omega
  | true =>
    rw [hok] at hm
    have hc := mint_cha hok
    have := congrArg List.length hm
    rw [cond_true, v1, v2, List.length_append, List.length_append, List.length_take, List.length_take, List.length_take, hc, List.length_drop] at this
    omega
theorem tokR_false {secret s : List UInt8} (h : (tokR secret s).2.2 = false) : (tokR secret s).1 = 0 := by
  unfold tokR at h ⊢
  cases h1 : readN 7 s with
  | none => rfl
  | some p =>
    obtain ⟨t, k1⟩ := p
    rw [h1] at h
    simp only at h ⊢
    cases h2 : readN 7 (s.drop k1) with
    | none => rfl
    | some q =>
      obtain ⟨e, k2⟩ := q
      rw [h2] at h
      simp only at h ⊢
      cases hd : decide (mintV secret (t : Int) (e : Int) = s) with
      | false => rfl
      | true => rw [hd] at h; cases h
theorem skip_eq (w tenant k t : Int) : (if (!(decide (w = (0 : Int)))) = true then (if (!(decide (w = tenant))) = true then (some true)
  else (if (decide (k = (13 : Int))) = true then (some (!(decide (t = tenant))))
  else (some false)))
  else (if (decide (k = (13 : Int))) = true then (some (!(decide (t = tenant))))
  else (some false))) = some ((!decide (w = 0) && !decide (w = tenant)) || (decide (k = 13) && !decide (t = tenant))) := by
  cases decide (w = 0) <;> cases decide (w = tenant) <;> cases decide (k = 13) <;> cases decide (t = tenant) <;> rfl
theorem iand32 {a b : Nat} (ha : a < 2 ^ 32) (hb : b < 2 ^ 32) : iand .u32 (a : Int) (b : Int) = ((a &&& b : Nat) : Int) := by
  unfold iand
  have h1 : a &&& b ≤ a := Nat.and_le_left
  have e : (BitVec.ofInt IntKind.u32.bits (a : Int) &&& BitVec.ofInt IntKind.u32.bits (b : Int)).toNat = a &&& b := by
    show (BitVec.ofInt 32 (a : Int) &&& BitVec.ofInt 32 (b : Int)).toNat = a &&& b
    rw [BitVec.ofInt_natCast, BitVec.ofInt_natCast, BitVec.toNat_and, BitVec.toNat_ofNat, BitVec.toNat_ofNat, Nat.mod_eq_of_lt (by omega), Nat.mod_eq_of_lt (by omega)]
  rw [e, wrap32]
  omega
/-- a step of the checksum -/
def crcS (c : Nat) : Nat := bif decide (c % 2 = 1) then (c / 2) ^^^ 2197175160 else c / 2
theorem crcS_lt {c : Nat} (h : c < 2 ^ 32) : crcS c < 2 ^ 32 := by
  unfold crcS
  have h2 : c / 2 < 2 ^ 32 := by omega
  cases decide (c % 2 = 1)
  · exact h2
  · exact Nat.xor_lt_two_pow h2 (by decide)
def crcR : Nat → Nat → Nat
  | 0, c => c
  | k + 1, c => crcS (crcR k c)
theorem crcR_lt {c : Nat} (h : c < 2 ^ 32) : ∀ k, crcR k c < 2 ^ 32
  | 0 => h
  | k + 1 => crcS_lt (crcR_lt h k)
def crcN (s : List UInt8) : Nat → Nat
  | 0 => 4294967295
  | k + 1 => match s[k]? with
    | some x => crcR 8 (crcN s k ^^^ x.toNat)
    | none => crcN s k
theorem crcN_succ (s : List UInt8) (k : Nat) (h : k < s.length) : crcN s (k + 1) = crcR 8 (crcN s k ^^^ s[k].toNat) := by
  show (match s[k]? with | some x => _ | none => _) = _
  rw [List.getElem?_eq_getElem h]
theorem byte_lt (x : UInt8) : x.toNat < 2 ^ 32 := by have := x.toNat_lt; omega
theorem crcN_lt (s : List UInt8) : ∀ k, k ≤ s.length → crcN s k < 2 ^ 32
  | 0, _ => by show 4294967295 < 2 ^ 32; decide
  | k + 1, h => by rw [crcN_succ s k (by omega)]; exact crcR_lt (Nat.xor_lt_two_pow (crcN_lt s k (by omega)) (byte_lt _)) 8
def crcV (s : List UInt8) : Int := 4294967295 - (crcN s s.length : Int)
theorem crcV_range (s : List UInt8) : 0 ≤ crcV s ∧ crcV s ≤ 4294967295 := by
  have := crcN_lt s s.length (Nat.le_refl _)
  unfold crcV
  omega
/-- an edit as required -/
def numV1 (n : Int) : Bool := decide (0 ≤ n ∧ n ≤ 1000000)
theorem passes {ρ α : Type} (l : List α) (p : α → Bool) (body : Int → Option (Ctl Int (Ctl Unit Bool))) (h : ∀ k (hk : k < l.length), body (k : Int) = some (if p l[k] = true then .go ((k : Int) + 1) else .done (.done false))) (hn : body (l.length : Int) = some (.done (.go ()))) :
    loopO body 0 = some (if l.all p = true then .go () else .done false) := by
  rw [loopO_is (fun k s => s = (k : Int) ∧ l.all p = (l.drop k).all p) l.length (if l.all p = true then Ctl.go () else Ctl.done false) ?h0 ?h1 ?h2]
  case h0 => exact ⟨rfl, rfl⟩
  · rintro k s hk ⟨rfl, he⟩
    rw [h k hk, he, List.drop_eq_getElem_cons hk, List.all_cons]
    cases p l[k] with
    | false => right; rfl
    | true => left; exact ⟨(k : Int) + 1, rfl, by omega, by simp⟩
  · rintro s ⟨rfl, he⟩
    rw [he, List.drop_length, hn]
    rfl
theorem lens_eq (a b : Nat) : (if (decide ((a : Int) > (12 : Int))) = true then (some true) else (some (decide ((b : Int) > (12 : Int))))) = some (!(decide (a ≤ 12) && decide (b ≤ 12))) := by
  by_cases h : a ≤ 12
  · rw [decide_eq_true h, decide_eq_false (by omega : ¬ (a : Int) > 12)]
    by_cases h2 : b ≤ 12
    · rw [decide_eq_true h2, decide_eq_false (by omega : ¬ (b : Int) > 12)]; rfl
    · rw [decide_eq_false h2, decide_eq_true (by omega : (b : Int) > 12)]; rfl
  · rw [decide_eq_false h, decide_eq_true (by omega : (a : Int) > 12)]; rfl
/-- a string behind its length -/
def pieceV (s : List UInt8) : List UInt8 := varV (s.length : Int) ++ s
theorem pieceV_len (s : List UInt8) : (pieceV s).length ≤ 7 + s.length := by
  have := varV_len (s.length : Int)
  unfold pieceV
  rw [List.length_append]; omega
theorem flat_len {α : Type} (g : α → List UInt8) (m : Nat) : ∀ (l : List α), (∀ x ∈ l, (g x).length ≤ m) → (l.flatMap g).length ≤ m * l.length
  | [], _ => by simp
  | x :: l, h => by
    have h1 := h x (by simp)
    have h2 := flat_len g m l fun y hy => h y (by simp [hy])
    rw [List.flatMap_cons, List.length_append, List.length_cons, Nat.mul_succ]
    omega
theorem flat_take {α : Type} (g : α → List UInt8) (l : List α) (k : Nat) (h : k < l.length) : (l.take (k + 1)).flatMap g = (l.take k).flatMap g ++ g l[k] := by
  rw [List.take_add_one, List.getElem?_eq_getElem h, List.flatMap_append]
  simp
theorem flat_take_len {α : Type} (g : α → List UInt8) (m : Nat) (l : List α) (k : Nat) (h : ∀ x ∈ l, (g x).length ≤ m) : ((l.take k).flatMap g).length ≤ m * l.length := by
  have h1 := flat_len g m (l.take k) fun x hx => h x (List.mem_of_mem_take hx)
  have h2 : m * (l.take k).length ≤ m * l.length := Nat.mul_le_mul_left _ (by simp; omega)
  omega
theorem varN_ne (f n : Nat) : varN f n ≠ [] := by
  by_cases h : n < 128
  · rw [varN_lt h]; simp
  · cases f with
    | zero => simp [varN]
    | succ f => rw [varN_ge (by omega)]; simp
theorem varV_ne {n : Int} (h : 0 ≤ n ∧ n ≤ 562949953421311) : varV n ≠ [] := by
  unfold varV
  rw [decide_eq_true h]
  exact varN_ne 6 _
theorem readN_enc : ∀ (f n : Nat) (rest : List UInt8), n < 128 ^ (f + 1) → readN (f + 1) (varN f n ++ rest) = some (n, (varN f n).length)
  | 0, n, rest, h => by
    have hn : n < 128 := by simpa using h
    rw [varN_lt hn]
    show readN 1 (toU8 (n : Int) :: rest) = _
    rw [readN, toU8_toNat, Nat.mod_eq_of_lt (by omega), decide_eq_true hn]
    rfl
  | f + 1, n, rest, h => by
    by_cases hn : n < 128
    · rw [varN_lt hn]
      show readN (f + 2) (toU8 (n : Int) :: rest) = _
      rw [readN, toU8_toNat, Nat.mod_eq_of_lt (by omega), decide_eq_true hn]
      rfl
    · have h2 : n / 128 < 128 ^ (f + 1) := by
        rw [Nat.div_lt_iff_lt_mul (by decide)]; rw [Nat.pow_succ] at h; exact h
      rw [varN_ge (by omega), List.cons_append, readN, toU8_toNat, Nat.mod_eq_of_lt (by omega), decide_eq_false (by omega), readN_enc f (n / 128) rest h2]
      simp only [cond_false]
      rw [decide_eq_false (by omega)]
      simp only [cond_false, List.length_cons]
      congr 2
      omega
theorem readV_enc (n : Int) (h : 0 ≤ n ∧ n ≤ 562949953421311) (rest : List UInt8) : readN 7 (varV n ++ rest) = some (n.toNat, (varV n).length) := by
  unfold varV
  rw [decide_eq_true h]
  exact readN_enc 6 n.toNat rest (by show n.toNat < 562949953421312; omega)
theorem readN_range {s : List UInt8} {n k : Nat} (h : readN 7 s = some (n, k)) : n < 562949953421312 ∧ 1 ≤ k ∧ k ≤ s.length := by
  obtain ⟨h1, h2, h3, h4, _, _⟩ := readN_some 7 s n k h
  have hn := numV_lt (s.take k)
  rw [List.length_take, Nat.min_eq_left h3, ← h4] at hn
  have hp : 128 ^ k ≤ 128 ^ 7 := Nat.pow_le_pow_right (by decide) h2
  exact ⟨Nat.lt_of_lt_of_le hn hp, h1, h3⟩
/-- a number read on -/
def rdN (t : List UInt8) (a : Nat) (bad : Bool) : Int × Nat × Bool := bif bad then (0, a, true) else match readN 7 (t.drop a) with
  | none => (0, a, true)
  | some (x, k) => ((x : Int), a + k, false)
theorem rdN_range (t : List UInt8) (a : Nat) (bad : Bool) (h : a ≤ t.length) : (0 ≤ (rdN t a bad).1 ∧ (rdN t a bad).1 ≤ 562949953421311) ∧ (rdN t a bad).2.1 ≤ t.length ∧ ((rdN t a bad).2.2 = false → bad = false ∧ a < (rdN t a bad).2.1) := by
  unfold rdN
  cases bad with
  | true => exact ⟨⟨by simp, by simp⟩, h, fun e => by cases e⟩
  | false =>
    simp only [cond_false]
    cases hr : readN 7 (t.drop a) with
    | none => exact ⟨⟨by simp, by simp⟩, h, fun e => by cases e⟩
    | some p =>
      obtain ⟨x, k⟩ := p
      obtain ⟨h1, h2, h3⟩ := readN_range hr
      rw [List.length_drop] at h3
      refine ⟨⟨by simp, by simp only; omega⟩, by simp only; omega, fun _ => ?_⟩
      exact ⟨trivial, show a < a + k by omega⟩
/-- bytes read on -/
def rdB (t : List UInt8) (a : Nat) (bad : Bool) (n : Int) : List UInt8 × Nat × Bool := bif bad || decide (t.length < a + n.toNat) then ([], a, true) else ((t.drop a).take n.toNat, a + n.toNat, false)
theorem rdB_range (t : List UInt8) (a : Nat) (bad : Bool) (n : Int) (h : a ≤ t.length) : (rdB t a bad n).2.1 ≤ t.length ∧ a ≤ (rdB t a bad n).2.1 ∧ ((rdB t a bad n).2.2 = false → bad = false) := by
  unfold rdB
  cases bad with
  | true => exact ⟨h, Nat.le_refl _, fun e => by cases e⟩
  | false =>
    by_cases c : t.length < a + n.toNat
    · rw [decide_eq_true c]; exact ⟨h, Nat.le_refl _, fun e => by cases e⟩
    · rw [decide_eq_false c]; exact ⟨by simp only [Bool.or_self, cond_false]; omega, by simp, fun _ => rfl⟩
def rdS (t : List UInt8) (a : Nat) (bad : Bool) : List UInt8 × Nat × Bool := rdB t (rdN t a bad).2.1 (rdN t a bad).2.2 (rdN t a bad).1
theorem rdS_range (t : List UInt8) (a : Nat) (bad : Bool) (h : a ≤ t.length) : (rdS t a bad).2.1 ≤ t.length ∧ ((rdS t a bad).2.2 = false → bad = false ∧ a < (rdS t a bad).2.1) := by
  obtain ⟨h1, h2, h3⟩ := rdN_range t a bad h
  obtain ⟨h4, h5, h6⟩ := rdB_range t (rdN t a bad).2.1 (rdN t a bad).2.2 (rdN t a bad).1 h2
  unfold rdS
  refine ⟨h4, fun e => ?_⟩
  obtain ⟨h7, h8⟩ := h3 (h6 e)
  exact ⟨h7, by omega⟩
/-- items read on, as many as are said, up to one that is bad -/
def itemsI {α : Type} (g : Nat → α × Nat × Bool) : Nat → Nat → Bool → Int → List α → Nat × Bool × List α
  | 0, a, bad, _, out => (a, bad, out)
  | f + 1, a, bad, n, out => bif decide (n > 0) && !bad then itemsI g f (g a).2.1 (g a).2.2 (n - 1) (out ++ [(g a).1]) else (a, bad, out)
theorem items_loop {α ρ : Type} (t : List UInt8) (g : Nat → α × Nat × Bool) (body : List UInt8 × Int × Bool × Int × List α → Option (Ctl (List UInt8 × Int × Bool × Int × List α) (Ctl (List UInt8 × Int × Bool × List α) ρ)))
    (hg : ∀ a, a ≤ t.length → (g a).2.1 ≤ t.length ∧ ((g a).2.2 = false → a < (g a).2.1))
    (h1 : ∀ (a : Nat) (n : Int) (out : List α), a ≤ t.length → 0 < n → n ≤ 562949953421311 → out.length ≤ 4194304 → body (t, (a : Int), false, n, out) = some (.go (t, ((g a).2.1 : Int), (g a).2.2, n - 1, out ++ [(g a).1])))
    (h2 : ∀ (a : Nat) (bad : Bool) (n : Int) (out : List α), n ≤ 0 ∨ bad = true → body (t, (a : Int), bad, n, out) = some (.done (.go (t, (a : Int), bad, out)))) :
    ∀ (f a : Nat) (bad : Bool) (n : Int) (out : List α), a ≤ t.length → n ≤ 562949953421311 → (bad = true ∨ t.length - a + 1 ≤ f) → out.length + f ≤ 4194304 →
      loopO body (t, (a : Int), bad, n, out) = some (.go (t, ((itemsI g (f + 1) a bad n out).1 : Int), (itemsI g (f + 1) a bad n out).2.1, (itemsI g (f + 1) a bad n out).2.2)) := by
  intro f
  induction f with
  | zero =>
    intro a bad n out ha hn hf ho
    obtain rfl : bad = true := by rcases hf with h | h; exact h; omega
    rw [loopO_eq, h2 a true n out (.inr rfl)]
    simp [itemsI]
  | succ f ih =>
    intro a bad n out ha hn hf ho
    rw [loopO_eq]
    by_cases c : 0 < n ∧ bad = false
    · obtain ⟨c1, rfl⟩ := c
      obtain ⟨g1, g2⟩ := hg a ha
      rw [h1 a n out ha c1 hn (by omega)]
      simp only
      rw [itemsI, decide_eq_true (by omega : n > 0)]
      simp only [Bool.not_false, Bool.and_self, cond_true]
      refine ih _ _ _ _ g1 (by omega) ?_ (by simp; omega)
      cases hb : (g a).2.2 with
      | true => exact .inl rfl
      | false =>
        have := g2 hb
        rcases hf with h | h
        · cases h
        · right; omega
    · have c2 : n ≤ 0 ∨ bad = true := by
        cases bad with
        | true => exact .inr rfl
        | false => left; have : ¬ 0 < n := fun h => c ⟨h, rfl⟩; omega
      rw [h2 a bad n out c2, itemsI]
      have : (decide (n > 0) && !bad) = false := by
        rcases c2 with h | h
        · rw [decide_eq_false (by omega)]; rfl
        · rw [h]; simp
      rw [this]
      rfl
theorem itemsI_out {α : Type} (g : Nat → α × Nat × Bool) (t : List UInt8) (hg : ∀ a, a ≤ t.length → (g a).2.1 ≤ t.length ∧ ((g a).2.2 = false → a < (g a).2.1)) : ∀ (f a : Nat) (bad : Bool) (n : Int) (out : List α), a ≤ t.length → (itemsI g f a bad n out).1 ≤ t.length
  | 0, a, bad, n, out, h => h
  | f + 1, a, bad, n, out, h => by
    rw [itemsI]
    cases decide (n > 0) && !bad
    · exact h
    · exact itemsI_out g t hg f _ _ _ _ (hg a h).1
theorem drop_enc {t x rest : List UInt8} {a : Nat} (h : t.drop a = x ++ rest) : t.drop (a + x.length) = rest := by
  rw [← List.drop_drop, h, List.drop_left]
/-- .. of what was written so -/
theorem items_enc {α : Type} (g : Nat → α × Nat × Bool) (enc : α → List UInt8) (t : List UInt8) : ∀ (l : List α) (f a : Nat) (out : List α) (rest : List UInt8), (∀ x ∈ l, ∀ a rest, t.drop a = enc x ++ rest → g a = (x, a + (enc x).length, false)) →
    t.drop a = l.flatMap enc ++ rest → l.length ≤ f → itemsI g f a false (l.length : Int) out = (a + (l.flatMap enc).length, false, out ++ l)
  | [], f, a, out, rest, _, _, _ => by
    cases f with
    | zero => simp [itemsI]
    | succ f => simp [itemsI]
  | x :: l, f, a, out, rest, hg, hd, hf => by
    cases f with
    | zero => simp at hf
    | succ f =>
      have h1 : t.drop a = enc x ++ (l.flatMap enc ++ rest) := by rw [hd, List.flatMap_cons, List.append_assoc]
      rw [itemsI, hg x (by simp) a _ h1, decide_eq_true (by simp only [List.length_cons]; omega : ((x :: l).length : Int) > 0)]
      simp only [Bool.not_false, Bool.and_self, cond_true]
      rw [show (((x :: l).length : Nat) : Int) - 1 = ((l.length : Nat) : Int) by simp only [List.length_cons]; omega, items_enc g enc t l f (a + (enc x).length) (out ++ [x]) rest (fun y hy => hg y (by simp [hy])) (drop_enc h1) (by simpa using hf)]
      simp only [List.flatMap_cons, List.length_append, List.append_assoc, List.cons_append, List.nil_append, Nat.add_assoc]
theorem rdN_enc {t rest : List UInt8} {a : Nat} {n : Int} (h : t.drop a = varV n ++ rest) (hn : 0 ≤ n ∧ n ≤ 562949953421311) : rdN t a false = (n, a + (varV n).length, false) := by
  unfold rdN
  rw [h, readV_enc n hn rest]
  simp only [cond_false]
  rw [show ((n.toNat : Nat) : Int) = n by omega]
theorem rdS_enc {t rest x : List UInt8} {a : Nat} (h : t.drop a = pieceV x ++ rest) (hx : x.length ≤ 1048576) (ha : a ≤ t.length) : rdS t a false = (x, a + (pieceV x).length, false) := by
  have h1 : t.drop a = varV (x.length : Int) ++ (x ++ rest) := by rw [h]; unfold pieceV; rw [List.append_assoc]
  have h2 := drop_enc h1
  have hl := congrArg List.length h2
  rw [List.length_drop, List.length_append] at hl
  unfold rdS
  rw [rdN_enc h1 (by omega)]
  unfold rdB
  simp only [Bool.false_or, Int.toNat_natCast]
  by_cases hx0 : x.length = 0
  · have h0 : x = [] := List.eq_nil_of_length_eq_zero hx0
    have hl2 := congrArg List.length h1
    rw [List.length_drop, List.length_append] at hl2
    rw [decide_eq_false (by omega)]
    simp only [cond_false]
    subst h0
    simp [pieceV]
  · rw [decide_eq_false (by omega)]
    simp only [cond_false]
    rw [h2, List.take_left]
    simp only [pieceV, List.length_append, Nat.add_assoc]
theorem fixed4_len (n : Int) (h : 0 ≤ n ∧ n ≤ 4294967295) : (fixedV n 4).length = 4 := by
  unfold fixedV
  have h1 : n.toNat / 256 ^ (4 : Int).toNat = 0 := Nat.div_eq_of_lt (by show n.toNat < 256 ^ 4; omega)
  rw [decide_eq_true h.1, decide_eq_true h1]
  show (fixV n.toNat 4).length = 4
  exact fixV_len _ 4
/-- what the program reads -/
noncomputable def readD (t : List UInt8) : Nat × Bool × List Int := itemsI (fun a => rdN t a false) (t.length + 2) (rdN t 0 false).2.1 (rdN t 0 false).2.2 (rdN t 0 false).1 []
theorem l6V_range (s : List UInt8) : ∀ (n a : Nat), a ≤ s.length → ((l6V s n a).2 = -1 ∨ ∃ b : Nat, (l6V s n a).2 = (b : Int) ∧ b ≤ s.length ∧ (l6V s n a).1.length = n) ∧ ∀ x ∈ (l6V s n a).1, 0 ≤ x ∧ x ≤ 562949953421311
  | 0, a, h => ⟨.inr ⟨a, rfl, h, rfl⟩, fun x hx => by cases hx⟩
  | n + 1, a, h => by
    rw [l6V, decide_eq_false (by omega), cond_false]
    cases hr : readN 7 (s.drop a) with
    | none => exact ⟨.inl rfl, fun x hx => by cases hx⟩
    | some p =>
      obtain ⟨x, k⟩ := p
      obtain ⟨h1, h2, h3⟩ := readN_range hr
      rw [List.length_drop] at h3
      obtain ⟨q1, q2⟩ := l6V_range s n (a + k) (by omega)
      simp only
      refine ⟨?_, fun y hy => ?_⟩
      · rcases q1 with q | ⟨b, q3, q4, q5⟩
        · exact .inl q
        · exact .inr ⟨b, q3, q4, by rw [List.length_cons, q5]⟩
      · rcases List.mem_cons.1 hy with rfl | hy
        · omega
        · exact q2 y hy
theorem l6V_enc (s : List UInt8) : ∀ (l : List Int) (a : Nat) (rest : List UInt8), (∀ x ∈ l, 0 ≤ x ∧ x ≤ 1000000) → a ≤ s.length → s.drop a = l.flatMap varV ++ rest → l6V s l.length a = (l, ((a + (l.flatMap varV).length : Nat) : Int))
  | [], a, rest, _, _, _ => by simp [l6V]
  | x :: l, a, rest, hx, ha, h => by
    have h1 : s.drop a = varV x ++ (l.flatMap varV ++ rest) := by rw [h, List.flatMap_cons, List.append_assoc]
    have h2 := drop_enc h1
    have hx0 := hx x (by simp)
    have hl := congrArg List.length h1
    rw [List.length_drop, List.length_append] at hl
    have hb : a + (varV x).length ≤ s.length := by
      have := List.length_pos_iff.2 (varV_ne (n := x) (by omega))
      omega
    rw [List.length_cons, l6V, decide_eq_false (by omega), cond_false, h1, readV_enc x (by omega)]
    simp only
    rw [l6V_enc s l (a + (varV x).length) rest (fun y hy => hx y (by simp [hy])) hb h2]
    simp only [List.flatMap_cons, List.length_append, Nat.add_assoc]
    rw [show ((x.toNat : Nat) : Int) = x by omega]
/-- bytes behind their number -/
def takeB (s : List UInt8) (a : Nat) : List UInt8 × Int := match readN 7 (s.drop a) with
  | none => ([], -1)
  | some (x, k) => bif decide (x ≤ s.length - (a + k)) then ((s.drop (a + k)).take x, ((a + k + x : Nat) : Int)) else ([], -1)
theorem takeB_range (s : List UInt8) (a : Nat) (h : a ≤ s.length) : (takeB s a).2 = -1 ∨ ∃ b : Nat, (takeB s a).2 = (b : Int) ∧ b ≤ s.length := by
  unfold takeB
  cases hr : readN 7 (s.drop a) with
  | none => exact .inl rfl
  | some p =>
    obtain ⟨x, k⟩ := p
    obtain ⟨h1, h2, h3⟩ := readN_range hr
    rw [List.length_drop] at h3
    simp only
    by_cases c : x ≤ s.length - (a + k)
    · rw [decide_eq_true c]; exact .inr ⟨a + k + x, rfl, by omega⟩
    · rw [decide_eq_false c]; exact .inl rfl
theorem takeB_enc {s x rest : List UInt8} {a : Nat} (h : s.drop a = pieceV x ++ rest) (hx : x.length ≤ 1048576) (ha : a + (pieceV x).length ≤ s.length) : takeB s a = (x, ((a + (pieceV x).length : Nat) : Int)) := by
  have h1 : s.drop a = varV (x.length : Int) ++ (x ++ rest) := by rw [h]; unfold pieceV; rw [List.append_assoc]
  have h2 := drop_enc h1
  have hp : (pieceV x).length = (varV (x.length : Int)).length + x.length := by unfold pieceV; rw [List.length_append]
  unfold takeB
  rw [h1, readV_enc (x.length : Int) (by omega)]
  simp only [Int.toNat_natCast]
  rw [decide_eq_true (by omega)]
  simp only [cond_true]
  rw [h2, List.take_left, hp, Nat.add_assoc]
/-! draws -/
theorem iand255 (p : Int) : 0 ≤ iand .i64 p (255 : Int) ∧ iand .i64 p (255 : Int) ≤ 255 := by
  unfold iand
  have e : (BitVec.ofInt IntKind.i64.bits p &&& BitVec.ofInt IntKind.i64.bits (255 : Int)).toNat ≤ 255 := by
    show (BitVec.ofInt 64 p &&& BitVec.ofInt 64 ((255 : Nat) : Int)).toNat ≤ 255
    rw [BitVec.ofInt_natCast, BitVec.toNat_and, BitVec.toNat_ofNat]
    exact Nat.and_le_right
  generalize (BitVec.ofInt IntKind.i64.bits p &&& BitVec.ofInt IntKind.i64.bits (255 : Int)).toNat = z at e
  rw [wrap_ok (by omega) (by omega)]
  omega
theorem l1New_ok (code : List UInt8) (h : code.length ≤ 1048576) : ∃ q, spec_l1New code = some { b := code, i := 0, h := q } := by
  unfold spec_l1New
  obtain ⟨r, hr, q, rfl⟩ := loopO_total (ρ := Ctl Int L1Cur) (s0 := (IntKind.i64.wrap ((10101 : Int) + ((code.length : Nat) : Int)), (0 : Int))) (body := fun (S1 : Int × Int) => (if (decide (S1.2 < ((code.length : Nat) : Int))) = true then (some (decide (S1.2 < (4000 : Int))))
  else (some false)).bind (fun (T5 : Bool) =>
  if T5 = true then ((idx code S1.2).bind fun E9 =>
  some (.go (iand .i64 (IntKind.i64.wrap (IntKind.i64.wrap (IntKind.i64.wrap (S1.1 * (131 : Int)) + (IntKind.i64.wrap ((E9.toNat : Nat) : Int))) + (7 : Int))) (1073741823 : Int), IntKind.i64.wrap (S1.2 + (1 : Int)))))
  else (some (.done (.go S1.1))))) (fun k S => S.2 = (k : Int)) code.length (fun r => ∃ q, r = .go q) rfl (by
    rintro k ⟨p, i⟩ hk rfl
    simp only
    rw [decide_eq_true (by omega : (k : Int) < ((code.length : Nat) : Int))]
    by_cases c : (k : Int) < 4000
    · left
      rw [decide_eq_true c]
      simp only [if_true, Option.bind_some, idx_nat code k hk]
      exact ⟨_, rfl, by simp only; rw [wrap_ok (by omega) (by omega)]; omega⟩
    · right
      rw [decide_eq_false c]
      exact ⟨.go p, rfl, p, rfl⟩) (by
    rintro ⟨p, i⟩ rfl
    simp only
    rw [decide_eq_false (by omega : ¬ ((code.length : Nat) : Int) < ((code.length : Nat) : Int))]
    exact ⟨.go p, rfl, p, rfl⟩)
  rw [hr]
  exact ⟨q, rfl⟩
theorem l1Byte_ok (b : List UInt8) (i h : Int) (hi : 0 ≤ i ∧ i ≤ b.length) (hb : b.length ≤ 1048576) : ∃ x i' h', spec_l1Byte { b := b, i := i, h := h } = some (x, { b := b, i := i', h := h' }) ∧ (0 ≤ x ∧ x ≤ 255) ∧ (0 ≤ i' ∧ i' ≤ b.length) := by
  unfold spec_l1Byte
  simp only
  by_cases c : i < ((b.length : Nat) : Int)
  · rw [decide_eq_true c]
    simp only [if_true]
    rw [idx_some' hi.1 c]
    simp only [Option.bind_some, bindC_go]
    exact ⟨_, _, _, rfl, iand255 _, by rw [wrap_ok (by omega) (by omega)]; omega⟩
  · rw [decide_eq_false c]
    simp only [Bool.false_eq_true, if_false, bindC_go]
    exact ⟨_, _, _, rfl, iand255 _, hi⟩
theorem l1Below_ok (b : List UInt8) (i h n : Int) (hi : 0 ≤ i ∧ i ≤ b.length) (hb : b.length ≤ 1048576) : ∃ x i' h', spec_l1Below { b := b, i := i, h := h } n = some (x, { b := b, i := i', h := h' }) ∧ (0 ≤ x ∧ (0 < n → x < n) ∧ (n ≤ 0 → x = 0)) ∧ (0 ≤ i' ∧ i' ≤ b.length) := by
  unfold spec_l1Below
  by_cases c : n ≤ 0
  · rw [decide_eq_true c]
    simp only [if_true]
    exact ⟨_, _, _, rfl, ⟨Int.le_refl _, fun h => by omega, fun _ => rfl⟩, hi⟩
  · rw [decide_eq_false c]
    have hnz : nz n = some () := by unfold nz; rw [if_neg (by omega)]
    have hm : ∀ x : Int, 0 ≤ x → 0 ≤ Int.tmod x n ∧ Int.tmod x n < n := fun x hx => ⟨Int.tmod_nonneg _ hx, Int.tmod_lt_of_pos _ (by omega)⟩
    obtain ⟨x1, i1, h1, e1, g1, k1⟩ := l1Byte_ok b i h hi hb
    simp only [Bool.false_eq_true, if_false, e1, Option.bind_some, hnz]
    by_cases c2 : n ≤ 256
    · rw [decide_eq_true c2]
      simp only [if_true]
      have := hm x1 g1.1
      exact ⟨_, _, _, rfl, ⟨this.1, fun _ => this.2, fun h => by omega⟩, k1⟩
    · rw [decide_eq_false c2]
      simp only [Bool.false_eq_true, if_false]
      obtain ⟨x2, i2, h2, e2, g2, k2⟩ := l1Byte_ok b i1 h1 k1 hb
      simp only [e2, Option.bind_some]
      obtain ⟨x3, i3, h3, e3, g3, k3⟩ := l1Byte_ok b i2 h2 k2 hb
      simp only [e3, Option.bind_some]
      obtain ⟨x4, i4, h4, e4, g4, k4⟩ := l1Byte_ok b i3 h3 k3 hb
      simp only [e4, Option.bind_some]
      rw [wrap_ok (n := x1 * 16777216) (by omega) (by omega), wrap_ok (n := x2 * 65536) (by omega) (by omega), wrap_ok (n := x1 * 16777216 + x2 * 65536) (by omega) (by omega), wrap_ok (n := x3 * 256) (by omega) (by omega), wrap_ok (n := x1 * 16777216 + x2 * 65536 + x3 * 256) (by omega) (by omega), wrap_ok (by omega) (by omega)]
      have := hm (x1 * 16777216 + x2 * 65536 + x3 * 256 + x4) (by omega)
      exact ⟨_, _, _, rfl, ⟨this.1, fun _ => this.2, fun h => by omega⟩, k4⟩
theorem l1Once_ok (b : List UInt8) (i h n : Int) (hi : 0 ≤ i ∧ i ≤ b.length) (hb : b.length ≤ 1048576) : ∃ x i' h', spec_l1Once { b := b, i := i, h := h } n = some (x, { b := b, i := i', h := h' }) ∧ (0 ≤ i' ∧ i' ≤ b.length) := by
  unfold spec_l1Once
  obtain ⟨x, i1, h1, e, _, k⟩ := l1Below_ok b i h n hi hb
  simp only [e, Option.bind_some]
  exact ⟨_, _, _, rfl, k⟩
theorem l1PickInt_ok (b : List UInt8) (i h : Int) (l : List Int) (hl : l ≠ []) (hi : 0 ≤ i ∧ i ≤ b.length) (hb : b.length ≤ 1048576) : ∃ x i' h', spec_l1PickInt { b := b, i := i, h := h } l = some (x, { b := b, i := i', h := h' }) ∧ x ∈ l ∧ (0 ≤ i' ∧ i' ≤ b.length) := by
  unfold spec_l1PickInt
  have hp := List.length_pos_iff.2 hl
  obtain ⟨x, i1, h1, e, g, k⟩ := l1Below_ok b i h ((l.length : Nat) : Int) hi hb
  simp only [e, Option.bind_some]
  rw [idx_some' g.1 (g.2.1 (by omega))]
  simp only [Option.bind_some]
  exact ⟨_, _, _, rfl, List.getElem_mem _, k⟩
theorem at_ok (code : List UInt8) (i : Int) (hi : 0 ≤ i ∧ i ≤ 255) (h : code.length ≤ 1048576) : ∃ x, laws_at code i = some x ∧ 0 ≤ x ∧ x ≤ 255 := by
  unfold laws_at
  by_cases c : i < ((code.length : Nat) : Int)
  · rw [decide_eq_true c]
    simp only [if_true]
    rw [idx_some' hi.1 c]
    simp only [Option.bind_some]
    have := (code[i.toNat]'(by omega)).toNat_lt
    exact ⟨_, rfl, by rw [wrap_ok (by omega) (by omega)]; omega⟩
  · rw [decide_eq_false c]
    simp only [Bool.false_eq_true, if_false]
    rw [wrap_ok (n := i * 37) (by omega) (by omega), wrap_ok (n := ((code.length : Nat) : Int) * 11) (by omega) (by omega), wrap_ok (by omega) (by omega)]
    have h1 : 0 ≤ Int.tmod (i * 37 + ((code.length : Nat) : Int) * 11) 256 := Int.tmod_nonneg _ (by omega)
    have h2 : Int.tmod (i * 37 + ((code.length : Nat) : Int) * 11) 256 < 256 := Int.tmod_lt_of_pos _ (by omega)
    exact ⟨_, rfl, h1, by omega⟩
theorem big_eq (code : List UInt8) : laws_big code = some (decide (((code.length : Nat) : Int) > 1048576)) := rfl

theorem l1Text_ok (b : List UInt8) (i h most : Int) (hm : 0 ≤ most ∧ most ≤ 1000) (hi : 0 ≤ i ∧ i ≤ b.length) (hb : b.length ≤ 1048576) : ∃ s i' h', spec_l1Text { b := b, i := i, h := h } most = some (s, { b := b, i := i', h := h' }) ∧ s.length ≤ 1000 ∧ (0 ≤ i' ∧ i' ≤ b.length) := by
  unfold spec_l1Text
  obtain ⟨x1, i1, h1, e1, _, k1⟩ := l1Below_ok b i h 4 hi hb
  simp only [e1, Option.bind_some]
  rw [wrap_ok (n := most + 1) (by omega) (by omega)]
  obtain ⟨x2, i2, h2, e2, g2, k2⟩ := l1Below_ok b i1 h1 (most + 1) k1 hb
  simp only [e2, Option.bind_some]
  have hx2 := g2.2.1 (by omega)
  obtain ⟨r, hr, p, q, s, rfl, hq⟩ := loopO_total (ρ := Ctl (Int × Int × List UInt8) (List UInt8 × L1Cur)) (s0 := (i2, h2, x2, ([] : List UInt8))) (body := fun (S8 : Int × Int × Int × List UInt8) => if (decide (S8.2.2.1 > (0 : Int))) = true then ((spec_l1Byte ({ b := b, i := S8.1, h := S8.2.1 : L1Cur })).bind fun R13 =>
  bindC (if (decide (x1 = (1 : Int))) = true then (some (.go (Int.tmod R13.1 (2 : Int))))
  else (some (.go R13.1)))
  (fun (T16 : Int) => bindC (if (decide (x1 = (2 : Int))) = true then (some (.go (IntKind.i64.wrap ((97 : Int) + (Int.tmod T16 (4 : Int))))))
  else (some (.go T16)))
  (fun (T19 : Int) => (app 1 S8.2.2.2 ([toU8 T19])).bind fun E24 =>
  some (.go (R13.2.i, R13.2.h, IntKind.i64.wrap (S8.2.2.1 - (1 : Int)), E24)))))
  else (some (.done (.go (S8.1, S8.2.1, S8.2.2.2)))))
    (fun k S => (0 ≤ S.1 ∧ S.1 ≤ b.length) ∧ S.2.2.1 = x2 - (k : Int) ∧ S.2.2.2.length = k) x2.toNat (fun r => ∃ p q s, r = .go (p, q, s) ∧ (s.length ≤ 1000 ∧ 0 ≤ p ∧ p ≤ b.length)) ⟨k2, by simp, rfl⟩ (by
      rintro k ⟨p, q, m, s⟩ hk ⟨h3, h4, h5⟩
      simp only at h3 h4 h5
      subst h4
      left
      simp only
      rw [if_pos (by simp only [decide_eq_true_eq]; omega)]
      obtain ⟨x3, i3, h3', e3, _, k3⟩ := l1Byte_ok b p q h3 hb
      rw [e3]
      simp only [Option.bind_some]
      have key : ∃ t : Int, (bindC (if (decide (x1 = (1 : Int))) = true then (some (Ctl.go (Int.tmod x3 (2 : Int)))) else (some (Ctl.go x3)))
        (fun (T16 : Int) => bindC (if (decide (x1 = (2 : Int))) = true then (some (Ctl.go (IntKind.i64.wrap ((97 : Int) + (Int.tmod T16 (4 : Int)))))) else (some (Ctl.go T16)))
        (fun (T19 : Int) => (app 1 s ([toU8 T19])).bind fun E24 => some (Ctl.go (ρ := Ctl (Int × Int × List UInt8) (List UInt8 × L1Cur)) (i3, h3', IntKind.i64.wrap (x2 - (k : Int) - (1 : Int)), E24))))) = some (.go (i3, h3', IntKind.i64.wrap (x2 - (k : Int) - (1 : Int)), s ++ [toU8 t])) := by
        cases decide (x1 = 1) <;> cases decide (x1 = 2) <;> simp only [Bool.false_eq_true, if_false, if_true, bindC_go] <;> rw [app_ok (by simp; omega) (by simp; omega)] <;> exact ⟨_, rfl⟩
      obtain ⟨t, ht⟩ := key
      rw [ht]
      exact ⟨_, rfl, k3, by simp only; rw [wrap_ok (by omega) (by omega)]; omega, by simp; omega⟩) (by
      rintro ⟨p, q, m, s⟩ ⟨h3, h4, h5⟩
      simp only at h3 h4 h5
      subst h4
      simp only
      rw [if_neg (by simp only [decide_eq_true_eq]; omega)]
      exact ⟨_, rfl, p, q, s, rfl, by omega, h3⟩)
  rw [hr]
  exact ⟨s, p, q, rfl, hq.1, hq.2⟩
theorem l3Key_ok (b : List UInt8) (i h : Int) (hi : 0 ≤ i ∧ i ≤ b.length) (hb : b.length ≤ 1048576) : ∃ s i' h', spec_l3Key { b := b, i := i, h := h } = some (s, { b := b, i := i', h := h' }) ∧ s.length ≤ 32 ∧ (0 ≤ i' ∧ i' ≤ b.length) := by
  unfold spec_l3Key
  obtain ⟨x1, i1, h1, e1, _, k1⟩ := l1Byte_ok b i h hi hb
  simp only [e1, Option.bind_some]
  obtain ⟨r, hr, s, rfl, hq⟩ := loopO_total (ρ := Ctl (List UInt8) (List UInt8 × L1Cur)) (s0 := ((0 : Int), ([] : List UInt8))) (body := fun (S5 : Int × List UInt8) => if (decide (S5.1 < (32 : Int))) = true then ((app 1 S5.2 ([toU8 (IntKind.i64.wrap (IntKind.i64.wrap (x1 * S5.1) + (Int.tmod S5.1 (3 : Int))))])).bind fun E12 =>
  some (.go (IntKind.i64.wrap (S5.1 + (1 : Int)), E12)))
  else (some (.done (.go S5.2)))) (fun k S => S.1 = (k : Int) ∧ S.2.length = k) 32 (fun r => ∃ s, r = .go s ∧ s.length = 32) ⟨rfl, rfl⟩ (by
      rintro k ⟨p, s⟩ hk ⟨h4, h5⟩
      simp only at h4 h5
      subst h4
      left
      simp only
      rw [if_pos (by simp only [decide_eq_true_eq]; omega), app_ok (by simp; omega) (by simp; omega), wrap_ok (n := (k : Int) + 1) (by omega) (by omega)]
      exact ⟨_, rfl, by simp only; omega, by simp; omega⟩) (by
      rintro ⟨p, s⟩ ⟨h4, h5⟩
      simp only at h4 h5
      subst h4
      exact ⟨.go s, by simp, s, rfl, h5⟩)
  rw [hr]
  simp only [bindC_go]
  obtain ⟨x2, i2, h2, e2, k2⟩ := l1Once_ok b i1 h1 15 k1 hb
  simp only [e2, Option.bind_some]
  cases x2 with
  | false => exact ⟨s, i2, h2, rfl, by omega, k2⟩
  | true =>
    obtain ⟨x3, i3, h3, e3, g3, k3⟩ := l1Below_ok b i2 h2 32 k2 hb
    have := g3.2.1 (by omega)
    simp only [if_true, e3, Option.bind_some]
    rw [piece_nat s 0 x3.toNat (0 : Int) x3 rfl (by omega) (Nat.zero_le _) (by omega)]
    exact ⟨_, i3, h3, rfl, by simp; omega, k3⟩
theorem mintV_len (secret : List UInt8) (t e : Int) : (mintV secret t e).length ≤ 22 := by
  have h1 := varV_len t
  have h2 := varV_len e
  unfold mintV
  cases mintOk secret t e
  · simp
  · simp only [cond_true, List.length_append, List.length_take]
    omega
theorem tokR_mint {secret s : List UInt8} (h : (tokR secret s).2.2 = true) : mintV secret (tokR secret s).1 (tokR secret s).2.1 = s := by
  unfold tokR at h ⊢
  cases h1 : readN 7 s with
  | none => rw [h1] at h; cases h
  | some p =>
    obtain ⟨t, k1⟩ := p
    rw [h1] at h
    simp only at h ⊢
    cases h2 : readN 7 (s.drop k1) with
    | none => rw [h2] at h; cases h
    | some q =>
      obtain ⟨e, k2⟩ := q
      rw [h2] at h
      simp only at h ⊢
      by_cases hd : mintV secret (t : Int) (e : Int) = s
      · rw [decide_eq_true hd]; exact hd
      · rw [decide_eq_false hd] at h; cases h
theorem tokR_of {secret : List UInt8} {n o : Int} (hok : mintOk secret n o = true) (tag : List UInt8) : tokR secret (varV n ++ varV o ++ tag) = bif decide (mintV secret n o = varV n ++ varV o ++ tag) then (n, o, true) else (0, 0, false) := by
  obtain ⟨h1, h2, h3⟩ := mintOk_iff hok
  unfold tokR
  rw [List.append_assoc, readV_enc n (by omega)]
  simp only
  rw [List.drop_left, readV_enc o (by omega)]
  simp only
  rw [show ((n.toNat : Nat) : Int) = n by omega, show ((o.toNat : Nat) : Int) = o by omega]
theorem xor_ne (p q : UInt8) (h : q ≠ 0) : p ^^^ q ≠ p := by
  intro e
  apply h
  have := congrArg (fun z => p ^^^ z) e
  simp only [← UInt8.xor_assoc, UInt8.xor_self, UInt8.zero_xor] at this
  exact this
def okS (l : List Int) : Bool := decide (1 ≤ l.length ∧ l.length ≤ 40) && l.all fun x => decide (0 ≤ x ∧ x ≤ 99)
theorem okS_iff {l : List Int} : okS l = true ↔ (1 ≤ l.length ∧ l.length ≤ 40) ∧ ∀ x ∈ l, 0 ≤ x ∧ x ≤ 99 := by
  unfold okS
  simp only [Bool.and_eq_true, decide_eq_true_eq, List.all_eq_true]
theorem setAll_cons (who : Int) (l : List Int) (i : Nat) (g : List Nat) : setAll who l (i :: g) = setAll who (l.set i who) g := rfl
theorem setAll_set (who v : Int) (i : Nat) : ∀ (g : List Nat) (l : List Int), i ∉ g → (setAll who l g).set i v = setAll who (l.set i v) g
  | [], _, _ => rfl
  | j :: g, l, h => by
    have hij : i ≠ j := fun e => h (by rw [e]; simp)
    rw [setAll_cons, setAll_cons, setAll_set who v i g _ (fun e => h (by simp [e])), List.set_comm _ _ (Ne.symm hij)]
theorem setAll_out (who : Int) (i : Nat) : ∀ (g : List Nat) (l : List Int), i ∉ g → (setAll who l g)[i]? = l[i]?
  | [], _, _ => rfl
  | j :: g, l, h => by
    have hij : j ≠ i := fun e => h (by rw [e]; simp)
    rw [setAll_cons, setAll_out who i g _ (fun e => h (by simp [e])), List.getElem?_set_ne hij]
theorem setAll_in (who : Int) (i : Nat) : ∀ (g : List Nat) (l : List Int), i ∈ g → i < l.length → (setAll who l g)[i]? = some who
  | j :: g, l, h, hi => by
    rw [setAll_cons]
    by_cases hg : i ∈ g
    · exact setAll_in who i g _ hg (by rw [List.length_set]; exact hi)
    · have hij : i = j := by
        rcases List.mem_cons.1 h with h | h
        · exact h
        · exact absurd h hg
      subst hij
      rw [setAll_out who i g _ hg, List.getElem?_set_self hi]
theorem give_back (who : Int) (hw : 1 ≤ who) : ∀ (g : List Nat) (l : List Int), g.Nodup → (∀ i ∈ g, l[i]? = some 0) → giveV who (g.map fun (i : Nat) => (i : Int)) (setAll who l g) = some l
  | [], l, _, _ => rfl
  | i :: g, l, hn, h0 => by
    obtain ⟨hi, hg⟩ := List.nodup_cons.1 hn
    have h1 := h0 i (by simp)
    obtain ⟨hlt, hv⟩ := List.getElem?_eq_some_iff.1 h1
    rw [List.map_cons, giveV_cons, setAll_cons]
    have hat : (setAll who (l.set i who) g)[i]? = some who := by rw [setAll_out who i g _ hi, List.getElem?_set_self hlt]
    rw [Int.toNat_natCast, if_pos ⟨by omega, by rw [setAll_length, List.length_set]; omega, hat, hw⟩, setAll_set who 0 i g _ hi, List.set_set]
    have hset : l.set i 0 = l := by
      apply List.ext_getElem?
      intro j
      by_cases e : i = j
      · subst e; rw [List.getElem?_set_self hlt, h1]
      · rw [List.getElem?_set_ne e]
    rw [hset]
    exact give_back who hw g l hg fun j hj => h0 j (by simp [hj])
theorem count_set (who : Int) (hw : 1 ≤ who) (l : List Int) (i : Nat) (h : l[i]? = some 0) : (l.set i who).countP (fun x => decide (x = who)) = l.countP (fun x => decide (x = who)) + 1 := by
  induction l generalizing i with
  | nil => simp at h
  | cons x l ih =>
    cases i with
    | zero =>
      simp only [List.getElem?_cons_zero, Option.some.injEq] at h
      subst h
      rw [List.set_cons_zero, List.countP_cons, List.countP_cons]
      have : ¬ (0 : Int) = who := by omega
      simp [this]
    | succ i =>
      rw [List.set_cons_succ, List.countP_cons, List.countP_cons, ih i (by simpa using h)]
      omega
theorem count_setAll (who : Int) (hw : 1 ≤ who) : ∀ (g : List Nat) (l : List Int), g.Nodup → (∀ i ∈ g, l[i]? = some 0) → (setAll who l g).countP (fun x => decide (x = who)) = l.countP (fun x => decide (x = who)) + g.length
  | [], l, _, _ => rfl
  | i :: g, l, hn, h0 => by
    obtain ⟨hi, hg⟩ := List.nodup_cons.1 hn
    have h1 := h0 i (by simp)
    rw [setAll_cons, count_setAll who hw g _ hg, count_set who hw l i h1, List.length_cons]
    · omega
    · intro j hj
      have hij : i ≠ j := fun e => hi (by rw [e]; exact hj)
      rw [List.getElem?_set_ne hij]
      exact h0 j (by simp [hj])
theorem freeIx_zero (l : List Int) (n : Int) : ∀ k, ∀ i ∈ freeIx l n k, l[i]? = some 0
  | 0, i, h => by simp [freeIx] at h
  | k + 1, i, h => by
    unfold freeIx at h
    split at h
    · rename_i hc
      rcases List.mem_append.1 h with h | h
      · exact freeIx_zero l n k i h
      · have : i = k := by simpa using h
        rw [this]; exact hc.1
    · exact freeIx_zero l n k i h
theorem freeIx_nodup (l : List Int) (n : Int) : ∀ k, (freeIx l n k).Nodup
  | 0 => List.nodup_nil
  | k + 1 => by
    unfold freeIx
    split
    · refine List.nodup_append.2 ⟨freeIx_nodup l n k, by simp, fun x hx y hy e => ?_⟩
      have h1 := freeIx_lt l n k x hx
      have : y = k := by simpa using hy
      omega
    · exact freeIx_nodup l n k
theorem freeIx_le (l : List Int) (n : Int) (hn : 0 ≤ n) : ∀ k, ((freeIx l n k).length : Int) ≤ n
  | 0 => by simpa [freeIx] using hn
  | k + 1 => by
    have := freeIx_le l n hn k
    unfold freeIx
    split
    · rename_i hc
      rw [List.length_append, List.length_singleton]
      omega
    · exact this
theorem okS_setAll {l : List Int} {who : Int} {g : List Nat} (h : okS l = true) (hw : 1 ≤ who ∧ who ≤ 99) : okS (setAll who l g) = true := by
  obtain ⟨h1, h2⟩ := okS_iff.1 h
  rw [okS_iff, setAll_length]
  refine ⟨h1, ?_⟩
  have key : ∀ (g : List Nat) (l : List Int), (∀ x ∈ l, 0 ≤ x ∧ x ≤ 99) → ∀ x ∈ setAll who l g, 0 ≤ x ∧ x ≤ 99 := by
    intro g
    induction g with
    | nil => intro l h x hx; exact h x hx
    | cons i g ih =>
      intro l h x hx
      rw [setAll_cons] at hx
      refine ih _ (fun y hy => ?_) x hx
      rcases List.mem_or_eq_of_mem_set hy with hy | hy
      · exact h y hy
      · omega
  exact key g l h2
theorem okS_wipe {l : List Int} {who : Int} (h : okS l = true) : okS (wipeV who l) = true := by
  obtain ⟨h1, h2⟩ := okS_iff.1 h
  rw [okS_iff]
  unfold wipeV
  rw [List.length_map]
  refine ⟨h1, fun x hx => ?_⟩
  obtain ⟨y, hy, rfl⟩ := List.mem_map.1 hx
  split
  · omega
  · exact h2 y hy
/-! draws of files and edits -/
theorem bindC_ite {τ R : Type} (c : Prop) [Decidable c] (x y : τ) (k : τ → Option R) : bindC (if c then some (.go x) else some (.go y)) k = k (if c then x else y) := by
  split <;> rfl
theorem loopO_G {τ ρ R : Type} {body : τ → Option (Ctl τ (Ctl ρ R))} {s0 : τ} {f : ρ → Option R} (G : Option R → Prop) (I : Nat → τ → Prop) (n : Nat) (Q : Ctl ρ R → Prop) (h0 : I 0 s0)
    (h : ∀ k s, k < n → I k s → (∃ s', body s = some (.go s') ∧ I (k + 1) s') ∨ (∃ r, body s = some (.done r) ∧ Q r)) (hn : ∀ s, I n s → ∃ r, body s = some (.done r) ∧ Q r)
    (hk : ∀ r, Q r → G (bindC (some r) f)) : G (bindC (loopO body s0) f) := by
  obtain ⟨r, hr, hq⟩ := loopO_total I n Q h0 h hn
  rw [hr]
  exact hk r hq
/-! reservations: what fits -/
theorem refuse_ok {p1 p2 : Prop} [Decidable p1] [Decidable p2] {b : Bool} (h : b = true ↔ (p1 ∧ p2)) : (if decide p1 = true then some (!decide (b = decide p2)) else some (!decide (b = false))) = some false := by
  by_cases c1 : p1 <;> by_cases c2 : p2 <;> cases b <;> simp_all
/-! rows of a log -/
theorem guard_spec (a b c : Prop) [Decidable a] [Decidable b] [Decidable c] (d : Nat) : ((if (!decide a) = true then (some true) else ((if decide b = true then (some (decide c)) else (some false)).bind fun R8 =>
    if (!R8) = true then (some true) else (some (decide ((d : Int) > (300 : Int)))))) : Option Bool) = some (!(decide a && (decide b && (decide c && decide (d ≤ 300))))) := by
  have : decide ((d : Int) > (300 : Int)) = !decide (d ≤ 300) := by
    by_cases h : d ≤ 300 <;> simp [h] <;> omega
  rw [this]
  by_cases ha : a <;> by_cases hb : b <;> by_cases hc : c <;> simp [ha, hb, hc]
theorem l6V_ge (s : List UInt8) : ∀ (n a b : Nat), (l6V s n a).2 = (b : Int) → a ≤ b
  | 0, a, b, h => by simp only [l6V] at h; omega
  | n + 1, a, b, h => by
    rw [l6V] at h
    cases hd : decide (s.length < a) with
    | true => rw [hd] at h; simp only [cond_true] at h; omega
    | false =>
      rw [hd, cond_false] at h
      cases hr : readN 7 (s.drop a) with
      | none => rw [hr] at h; simp only at h; omega
      | some p =>
        obtain ⟨x, k⟩ := p
        rw [hr] at h
        have := l6V_ge s n (a + k) b h
        omega
theorem takeB_ge (s : List UInt8) (a c : Nat) (h : (takeB s a).2 = (c : Int)) : a ≤ c := by
  unfold takeB at h
  cases hr : readN 7 (s.drop a) with
  | none => rw [hr] at h; simp only at h; omega
  | some p =>
    obtain ⟨x, k⟩ := p
    rw [hr] at h
    cases hd : decide (x ≤ s.length - (a + k)) with
    | true => simp only [hd, cond_true] at h; omega
    | false => simp only [hd, cond_false] at h; omega
theorem grow_loop (m : Int) (hm : m ≤ 1000) : ∃ w : List UInt8, ∀ {ρ : Type}, loopO (ρ := Ctl (List UInt8) ρ) (fun (S52 : List UInt8) => if (decide (((S52.length : Nat) : Int) < m)) = true then ((app 1 S52 ([(65 : UInt8)])).bind fun E59 =>
    some (.go E59))
    else (some (.done (.go S52)))) ([] : List UInt8) = some (.go w) := by
  refine ⟨List.replicate m.toNat 65, fun {ρ} => ?_⟩
  refine loopO_is (fun k S => S = List.replicate k 65) m.toNat _ rfl ?_ ?_
  · rintro k _ hk rfl
    left
    rw [if_pos (by simp only [decide_eq_true_eq, List.length_replicate]; omega), app_ok (by simp; omega) (by simp; omega)]
    exact ⟨_, rfl, by rw [List.replicate_succ']⟩
  · rintro _ rfl
    rw [if_neg (by simp only [decide_eq_true_eq, List.length_replicate]; omega)]
/-! streams -/
noncomputable def strB (key : List UInt8) (counter : Int) (nonce : List UInt8) (i : Nat) : UInt8 := (chaV key (counter + ((i / 64 : Nat) : Int)) nonce).getD (i % 64) 0
noncomputable def xorV (key : List UInt8) (counter : Int) (nonce text : List UInt8) : List UInt8 := text.mapIdx fun i x => x ^^^ strB key counter nonce i
def streamOk (key : List UInt8) (counter : Int) (nonce : List UInt8) (n : Nat) : Bool := chaOk key counter nonce && decide (n = 0 ∨ counter + (((n - 1) / 64 : Nat) : Int) ≤ 4294967295)
noncomputable def streamV (key : List UInt8) (counter : Int) (nonce text : List UInt8) : List UInt8 := bif streamOk key counter nonce text.length then xorV key counter nonce text else []
theorem xorV_len (key : List UInt8) (counter : Int) (nonce text : List UInt8) : (xorV key counter nonce text).length = text.length := by unfold xorV; rw [List.length_mapIdx]
theorem xorV_at (key : List UInt8) (counter : Int) (nonce text : List UInt8) (i : Nat) (h : i < text.length) : (xorV key counter nonce text)[i]'(by rw [xorV_len]; exact h) = text[i] ^^^ strB key counter nonce i := by
  unfold xorV
  rw [List.getElem_mapIdx]
theorem xor_back (x y : UInt8) : x ^^^ y ^^^ y = x := by rw [UInt8.xor_assoc, UInt8.xor_self, UInt8.xor_zero]
theorem xorV_twice (key : List UInt8) (counter : Int) (nonce text : List UInt8) : xorV key counter nonce (xorV key counter nonce text) = text := by
  apply List.ext_getElem
  · rw [xorV_len, xorV_len]
  · intro i h1 h2
    rw [xorV_at _ _ _ _ i (by rw [xorV_len]; exact h2), xorV_at _ _ _ _ i h2, xor_back]
theorem chaOk_at {key : List UInt8} {counter : Int} {nonce : List UInt8} (h : chaOk key counter nonce = true) (k : Nat) (hk : counter + (k : Int) ≤ 4294967295) : chaOk key (counter + (k : Int)) nonce = true := by
  obtain ⟨h1, h2, h3, h4⟩ := chaOk_iff h
  unfold chaOk
  rw [decide_eq_true h1, decide_eq_true h2, decide_eq_true (by omega)]
  rfl
theorem chaV_no {key : List UInt8} {counter : Int} {nonce : List UInt8} (h : chaOk key counter nonce = false) : chaV key counter nonce = [] := by unfold chaV; rw [h]; rfl
theorem chaV_ne {key : List UInt8} {counter : Int} {nonce : List UInt8} (h : chaOk key counter nonce = true) : chaV key counter nonce ≠ [] := by
  intro e
  have := chaV_len key counter nonce h
  rw [e] at this
  cases this
theorem strB_at {key : List UInt8} {counter : Int} {nonce : List UInt8} (k j : Nat) (hj : j < 64) (h : chaOk key (counter + (k : Int)) nonce = true) : strB key counter nonce (64 * k + j) = (chaV key (counter + (k : Int)) nonce)[j]'(by rw [chaV_len _ _ _ h]; exact hj) := by
  unfold strB
  have e1 : (64 * k + j) / 64 = k := by omega
  have e2 : (64 * k + j) % 64 = j := by omega
  rw [e1, e2, List.getD_eq_getElem?_getD, List.getElem?_eq_getElem (by rw [chaV_len _ _ _ h]; exact hj)]
  rfl
theorem take_next {α : Type} (z : List α) (m : Nat) (h : m < z.length) : z.take (m + 1) = z.take m ++ [z[m]] := by
  rw [List.take_add_one, List.getElem?_eq_getElem h]; rfl
/-- one block of a stream, written behind -/
theorem spec_inner {ρ : Type} (key : List UInt8) (counter : Int) (nonce text : List UInt8) (ht : text.length ≤ 1099511627776) (k : Nat) (hk : 64 * k < text.length) (h : chaOk key (counter + (k : Int)) nonce = true) :
    loopO (ρ := Ctl (List UInt8) ρ) (fun (S15 : Int × List UInt8) => (if (decide (S15.1 < ((text.length : Nat) : Int))) = true then (some (decide (S15.1 < ((64 * k + 64 : Nat) : Int))))
      else (some false)).bind (fun (T19 : Bool) =>
      if T19 = true then ((sidx text S15.1).bind fun E23 =>
      (sidx (chaV key (counter + (k : Int)) nonce) (IntKind.i64.wrap (S15.1 - ((64 * k : Nat) : Int)))).bind fun E25 =>
      (app 1 S15.2 ([(E23 ^^^ E25)])).bind fun E29 =>
      some (.go (IntKind.i64.wrap (S15.1 + (1 : Int)), E29)))
      else (some (.done (.go S15.2))))) (((64 * k : Nat) : Int), (xorV key counter nonce text).take (64 * k)) = some (.go ((xorV key counter nonce text).take (64 * (k + 1)))) := by
  have hz := xorV_len key counter nonce text
  refine loopO_is (fun j S => S = (((64 * k + j : Nat) : Int), (xorV key counter nonce text).take (64 * k + j))) (min 64 (text.length - 64 * k)) _ rfl ?_ ?_
  · rintro j _ hj rfl
    left
    have hi : 64 * k + j < text.length := by omega
    simp only
    rw [decide_eq_true (by omega : ((64 * k + j : Nat) : Int) < ((text.length : Nat) : Int)), decide_eq_true (by omega : ((64 * k + j : Nat) : Int) < ((64 * k + 64 : Nat) : Int))]
    have e1 : ((64 * k + j : Nat) : Int) - ((64 * k : Nat) : Int) = (j : Int) := by omega
    have hl : ((xorV key counter nonce text).take (64 * k + j)).length = 64 * k + j := by rw [List.length_take]; omega
    rw [e1, wrap_ok (n := (j : Int)) (by omega) (by omega)]
    simp only [if_true, Option.bind_some]
    rw [sidx_nat text _ hi]
    simp only [Option.bind_some]
    rw [sidx_nat _ j (by rw [chaV_len _ _ _ h]; omega)]
    simp only [Option.bind_some]
    rw [app_ok (by simp only [List.length_singleton]; omega) (by simp only [List.length_singleton]; omega), wrap_ok (by omega) (by omega)]
    refine ⟨_, rfl, ?_⟩
    rw [show 64 * k + (j + 1) = (64 * k + j) + 1 from rfl, take_next _ _ (by rw [hz]; exact hi), xorV_at _ _ _ _ _ hi, strB_at k j (by omega) h]
    rfl
  · rintro _ rfl
    simp only
    by_cases c : 64 * k + 64 ≤ text.length
    · have e : 64 * k + min 64 (text.length - 64 * k) = 64 * k + 64 := by omega
      rw [e, decide_eq_false (by omega : ¬ ((64 * k + 64 : Nat) : Int) < ((64 * k + 64 : Nat) : Int)), show 64 * (k + 1) = 64 * k + 64 from rfl]
      split <;> rfl
    · have e : 64 * k + min 64 (text.length - 64 * k) = text.length := by omega
      rw [e, decide_eq_false (by omega : ¬ ((text.length : Nat) : Int) < ((text.length : Nat) : Int)), List.take_of_length_le (by omega), List.take_of_length_le (by omega)]
      rfl
theorem spec_ChaStream_eq (key : List UInt8) (counter : Int) (nonce text : List UInt8) (ht : text.length ≤ 1099511627776) : spec_ChaStream key counter nonce text = some (streamV key counter nonce text) := by
  unfold spec_ChaStream streamV streamOk
  rw [spec_ChaBlock_eq]
  simp only [Option.bind_some]
  cases h0 : chaOk key counter nonce with
  | false => rw [chaV_no h0]; rfl
  | true =>
    rw [decide_eq_false (chaV_ne h0)]
    simp only [Bool.false_eq_true, if_false, Bool.true_and]
    obtain ⟨_, _, hc1, hc2⟩ := chaOk_iff h0
    obtain ⟨r, hr, hq⟩ := loopO_total (ρ := Ctl (List UInt8) (List UInt8)) (s0 := ((0 : Int), ([] : List UInt8))) (body := fun (S6 : Int × List UInt8) => if (decide (S6.1 < ((text.length : Nat) : Int))) = true then ((spec_ChaBlock key (IntKind.i64.wrap (counter + (IntKind.i64.wrap (Int.tdiv S6.1 (64 : Int))))) nonce).bind fun R11 =>
      if (decide (R11 = ([]))) = true then (some (.done (.done ([]))))
      else (bindC (loopO (fun (S15 : Int × List UInt8) => (if (decide (S15.1 < ((text.length : Nat) : Int))) = true then (some (decide (S15.1 < IntKind.i64.wrap (S6.1 + (64 : Int)))))
      else (some false)).bind (fun (T19 : Bool) =>
      if T19 = true then ((sidx text S15.1).bind fun E23 =>
      (sidx R11 (IntKind.i64.wrap (S15.1 - S6.1))).bind fun E25 =>
      (app 1 S15.2 ([(E23 ^^^ E25)])).bind fun E29 =>
      some (.go (IntKind.i64.wrap (S15.1 + (1 : Int)), E29)))
      else (some (.done (.go S15.2)))))
      (S6.1, S6.2))
      (fun (T17 : List UInt8) => some (.go (IntKind.i64.wrap (S6.1 + (64 : Int)), T17)))))
      else (some (.done (.go S6.2))))
      (fun k S => S = (((64 * k : Nat) : Int), (xorV key counter nonce text).take (64 * k)) ∧ (k = 0 ∨ counter + ((k - 1 : Nat) : Int) ≤ 4294967295)) ((text.length + 63) / 64)
      (fun r => r = bif decide (text.length = 0 ∨ counter + (((text.length - 1) / 64 : Nat) : Int) ≤ 4294967295) then .go (xorV key counter nonce text) else .done []) ⟨rfl, .inl rfl⟩ (by
      rintro k _ hk ⟨rfl, hb⟩
      have hlt : 64 * k < text.length := by omega
      have e1 : Int.tdiv ((64 * k : Nat) : Int) 64 = (k : Int) := by rw [Int.tdiv_eq_ediv_of_nonneg (by omega)]; omega
      simp only
      rw [e1, wrap_ok (n := (k : Int)) (by omega) (by omega), wrap_ok (n := counter + (k : Int)) (by omega) (by omega), wrap_ok (n := ((64 * k : Nat) : Int) + 64) (by omega) (by omega), decide_eq_true (by omega : ((64 * k : Nat) : Int) < ((text.length : Nat) : Int)), spec_ChaBlock_eq]
      simp only [if_true, Option.bind_some]
      by_cases hm : counter + (k : Int) ≤ 4294967295
      · left
        have hk2 := chaOk_at h0 k hm
        rw [decide_eq_false (chaV_ne hk2)]
        simp only [Bool.false_eq_true, if_false]
        have e2 : ((64 * k : Nat) : Int) + 64 = ((64 * k + 64 : Nat) : Int) := by omega
        rw [e2, spec_inner key counter nonce text ht k hlt hk2]
        exact ⟨_, rfl, rfl, .inr (by simpa using hm)⟩
      · right
        have hk2 : chaOk key (counter + (k : Int)) nonce = false := by
          unfold chaOk
          rw [decide_eq_false (by omega : ¬ (0 ≤ counter + (k : Int) ∧ counter + (k : Int) ≤ 4294967295)), Bool.and_false, Bool.and_false]
        rw [chaV_no hk2]
        refine ⟨_, rfl, ?_⟩
        rw [decide_eq_false (by omega)]
        rfl) (by
      rintro _ ⟨rfl, hb⟩
      simp only
      rw [decide_eq_false (by omega : ¬ ((64 * ((text.length + 63) / 64) : Nat) : Int) < ((text.length : Nat) : Int)), List.take_of_length_le (by rw [xorV_len]; omega), decide_eq_true (by omega)]
      exact ⟨_, rfl, rfl⟩)
    rw [hr, hq]
    cases decide (text.length = 0 ∨ counter + (((text.length - 1) / 64 : Nat) : Int) ≤ 4294967295) <;> rfl
/-- one block of a stream, in place -/
theorem impl_inner {ρ : Type} (key : List UInt8) (counter : Int) (nonce text : List UInt8) (ht : text.length ≤ 1099511627776) (k : Nat) (hk : 64 * k < text.length) (h : chaOk key (counter + (k : Int)) nonce = true) :
    loopO (ρ := Ctl (List UInt8) ρ) (fun (S20 : Int × List UInt8) => (if (decide (S20.1 < (64 : Int))) = true then (some (decide (IntKind.i64.wrap (((64 * k : Nat) : Int) + S20.1) < ((S20.2.length : Nat) : Int))))
      else (some false)).bind (fun (T24 : Bool) =>
      if T24 = true then ((sidx (chaV key (counter + (k : Int)) nonce) S20.1).bind fun E28 =>
      (idx S20.2 (IntKind.i64.wrap (((64 * k : Nat) : Int) + S20.1))).bind fun E30 =>
      some (.go (IntKind.i64.wrap (S20.1 + (1 : Int)), (S20.2.set ((IntKind.i64.wrap (((64 * k : Nat) : Int) + S20.1)).toNat) (E30 ^^^ E28)))))
      else (some (.done (.go S20.2))))) ((0 : Int), (xorV key counter nonce text).take (64 * k) ++ text.drop (64 * k)) = some (.go ((xorV key counter nonce text).take (64 * (k + 1)) ++ text.drop (64 * (k + 1)))) := by
  have hz := xorV_len key counter nonce text
  refine loopO_is (fun j S => S = ((j : Int), (xorV key counter nonce text).take (64 * k + j) ++ text.drop (64 * k + j))) (min 64 (text.length - 64 * k)) _ rfl ?_ ?_
  · rintro j _ hj rfl
    left
    have hi : 64 * k + j < text.length := by omega
    have e1 : ((64 * k : Nat) : Int) + (j : Int) = ((64 * k + j : Nat) : Int) := by omega
    have hl : ((xorV key counter nonce text).take (64 * k + j)).length = 64 * k + j := by rw [List.length_take]; omega
    have hll : ((xorV key counter nonce text).take (64 * k + j) ++ text.drop (64 * k + j)).length = text.length := by rw [List.length_append, hl, List.length_drop]; omega
    simp only
    rw [e1, wrap_ok (n := ((64 * k + j : Nat) : Int)) (by omega) (by omega), decide_eq_true (by omega : (j : Int) < 64), hll, decide_eq_true (by omega : ((64 * k + j : Nat) : Int) < ((text.length : Nat) : Int))]
    simp only [if_true, Option.bind_some]
    rw [sidx_nat _ j (by rw [chaV_len _ _ _ h]; omega)]
    simp only [Option.bind_some]
    rw [idx_nat _ (64 * k + j) (by rw [hll]; exact hi)]
    simp only [Option.bind_some]
    rw [wrap_ok (by omega) (by omega), Int.toNat_natCast]
    refine ⟨_, rfl, ?_⟩
    have e2 : ((xorV key counter nonce text).take (64 * k + j) ++ text.drop (64 * k + j))[64 * k + j]'(by rw [hll]; exact hi) = text[64 * k + j] := by
      rw [List.getElem_append_right (by omega)]
      simp only [List.getElem_drop]
      congr 1
      omega
    rw [e2, show 64 * k + (j + 1) = (64 * k + j) + 1 from rfl, take_next _ _ (by rw [hz]; exact hi), xorV_at _ _ _ _ _ hi, strB_at k j (by omega) h, List.set_append_right _ _ (by omega), hl, Nat.sub_self, List.drop_eq_getElem_cons hi, List.append_assoc]
    rfl
  · rintro _ rfl
    simp only
    by_cases c : 64 * k + 64 ≤ text.length
    · have e : min 64 (text.length - 64 * k) = 64 := by omega
      rw [e, decide_eq_false (by omega : ¬ ((64 : Nat) : Int) < 64)]
      rfl
    · have e : 64 * k + min 64 (text.length - 64 * k) = text.length := by omega
      have e3 : (xorV key counter nonce text).take (64 * k + min 64 (text.length - 64 * k)) ++ text.drop (64 * k + min 64 (text.length - 64 * k)) = xorV key counter nonce text := by
        rw [e, List.take_of_length_le (by omega), List.drop_of_length_le (Nat.le_refl _), List.append_nil]
      rw [e3, hz, List.take_of_length_le (by omega), List.drop_of_length_le (by omega), List.append_nil]
      have e1 : ((64 * k : Nat) : Int) + ((min 64 (text.length - 64 * k) : Nat) : Int) = ((text.length : Nat) : Int) := by omega
      rw [e1, wrap_ok (by omega) (by omega), decide_eq_false (by omega : ¬ ((text.length : Nat) : Int) < ((text.length : Nat) : Int))]
      split <;> rfl
theorem impl_ChaStream_eq (key : List UInt8) (counter : Int) (nonce text : List UInt8) (ht : text.length ≤ 1099511627776) : impl_ChaStream key counter nonce text = some (streamV key counter nonce text) := by
  unfold impl_ChaStream streamV streamOk
  rw [impl_isCha_eq]
  simp only [Option.bind_some]
  cases h0 : chaOk key counter nonce with
  | false => rfl
  | true =>
    obtain ⟨_, _, hc1, hc2⟩ := chaOk_iff h0
    have hbr : byteRoom text = some () := by unfold byteRoom; rw [if_pos (by omega)]
    have e0 : Int.tdiv (((text.length : Nat) : Int) + 63) 64 = (((text.length + 63) / 64 : Nat) : Int) := by rw [Int.tdiv_eq_ediv_of_nonneg (by omega)]; omega
    simp only [Bool.not_true, Bool.false_eq_true, if_false, hbr, Option.bind_some, Bool.true_and]
    rw [wrap_ok (n := ((text.length : Nat) : Int) + 63) (by omega) (by omega), e0, wrap_ok (n := (((text.length + 63) / 64 : Nat) : Int)) (by omega) (by omega), wrap_ok (n := counter + (((text.length + 63) / 64 : Nat) : Int)) (by omega) (by omega), wrap_ok (n := counter + (((text.length + 63) / 64 : Nat) : Int) - 1) (by omega) (by omega)]
    have hg : (if decide ((((text.length + 63) / 64 : Nat) : Int) > 0) = true then (some (decide (counter + (((text.length + 63) / 64 : Nat) : Int) - 1 > 4294967295))) else (some false)) = some (!decide (text.length = 0 ∨ counter + (((text.length - 1) / 64 : Nat) : Int) ≤ 4294967295)) := by
      by_cases c : text.length = 0
      · rw [decide_eq_false (by omega), decide_eq_true (show text.length = 0 ∨ counter + (((text.length - 1) / 64 : Nat) : Int) ≤ 4294967295 from .inl c)]; rfl
      · rw [decide_eq_true (by omega)]
        by_cases c2 : counter + (((text.length - 1) / 64 : Nat) : Int) ≤ 4294967295
        · rw [decide_eq_false (by omega), decide_eq_true (by omega)]; rfl
        · rw [decide_eq_true (by omega), decide_eq_false (by omega)]; rfl
    rw [hg]
    cases hd : decide (text.length = 0 ∨ counter + (((text.length - 1) / 64 : Nat) : Int) ≤ 4294967295) with
    | false => rfl
    | true =>
      have hd' := of_decide_eq_true hd
      simp only [Option.bind_some, Bool.not_true, Bool.false_eq_true, if_false, cond_true]
      rw [loopO_is (ρ := Ctl (List UInt8) (List UInt8)) (s0 := (counter, (0 : Int), text)) (fun k S => S = (counter + (k : Int), ((64 * k : Nat) : Int), (xorV key counter nonce text).take (64 * k) ++ text.drop (64 * k))) ((text.length + 63) / 64) (.go (xorV key counter nonce text)) (by simp) ?_ ?_]
      · rfl
      · rintro k _ hk rfl
        left
        have hlt : 64 * k < text.length := by omega
        have hk2 := chaOk_at h0 k (by omega)
        have hl : ((xorV key counter nonce text).take (64 * k) ++ text.drop (64 * k)).length = text.length := by rw [List.length_append, List.length_take, List.length_drop, xorV_len]; omega
        simp only
        rw [hl, decide_eq_true (by omega : ((64 * k : Nat) : Int) < ((text.length : Nat) : Int)), impl_ChaBlock_eq]
        simp only [if_true, Option.bind_some]
        rw [impl_inner key counter nonce text ht k hlt hk2]
        simp only [bindC_go]
        rw [wrap_ok (n := counter + (k : Int) + 1) (by omega) (by omega), wrap_ok (n := ((64 * k : Nat) : Int) + 64) (by omega) (by omega)]
        exact ⟨_, rfl, by rw [show counter + (k : Int) + 1 = counter + ((k + 1 : Nat) : Int) by omega, show ((64 * k : Nat) : Int) + 64 = ((64 * (k + 1) : Nat) : Int) by omega]⟩
      · rintro _ rfl
        simp only
        rw [List.take_of_length_le (by rw [xorV_len]; omega), List.drop_of_length_le (by omega), List.append_nil, xorV_len, decide_eq_false (by omega)]
        rfl

/-! files sealed -/
theorem testBit_crcS {c : Nat} (h : c < 2 ^ 32) : (crcS c).testBit 31 = decide (c % 2 = 1) := by
  unfold crcS
  have h2 : c / 2 < 2 ^ 31 := by omega
  have e1 : (c / 2).testBit 31 = false := Nat.testBit_lt_two_pow h2
  cases hd : decide (c % 2 = 1) with
  | true => simp only [cond_true]; rw [Nat.testBit_xor, e1]; decide
  | false => simp only [cond_false]; exact e1
theorem xor_right_inj {a b p : Nat} (h : a ^^^ p = b ^^^ p) : a = b := by
  have := congrArg (· ^^^ p) h
  simpa [Nat.xor_assoc] using this
theorem crcS_inj {c d : Nat} (hc : c < 2 ^ 32) (hd : d < 2 ^ 32) (h : crcS c = crcS d) : c = d := by
  have hb : decide (c % 2 = 1) = decide (d % 2 = 1) := by rw [← testBit_crcS hc, ← testBit_crcS hd, h]
  unfold crcS at h
  cases h1 : decide (c % 2 = 1) with
  | true =>
    rw [← hb, h1] at h
    simp only [cond_true] at h
    have := xor_right_inj h
    have h2 := of_decide_eq_true h1
    rw [h1] at hb
    have h3 := of_decide_eq_true hb.symm
    omega
  | false =>
    rw [← hb, h1] at h
    simp only [cond_false] at h
    have h2 := of_decide_eq_false h1
    rw [h1] at hb
    have h3 := of_decide_eq_false hb.symm
    omega
theorem crcR_inj {c d : Nat} (hc : c < 2 ^ 32) (hd : d < 2 ^ 32) : ∀ k, crcR k c = crcR k d → c = d
  | 0, h => h
  | k + 1, h => crcR_inj hc hd k (crcS_inj (crcR_lt hc k) (crcR_lt hd k) h)
theorem crcN_agree {s t : List UInt8} : ∀ k, (∀ i, i < k → s[i]? = t[i]?) → crcN s k = crcN t k
  | 0, _ => rfl
  | k + 1, h => by
    show (match s[k]? with | some x => _ | none => _) = (match t[k]? with | some x => _ | none => _)
    rw [h k (by omega), crcN_agree k fun i hi => h i (by omega)]
theorem crcN_differ {s t : List UInt8} (hl : s.length = t.length) (j : Nat) (hj : j < s.length) (hne : s[j] ≠ t[j]'(by omega)) (ho : ∀ i, i ≠ j → s[i]? = t[i]?) : ∀ d, j + 1 + d ≤ s.length → crcN s (j + 1 + d) ≠ crcN t (j + 1 + d)
  | 0, h => by
    rw [Nat.add_zero, crcN_succ s j hj, crcN_succ t j (by omega), crcN_agree (s := s) (t := t) j fun i hi => ho i (by omega)]
    intro e
    have h1 := crcN_lt t j (by omega)
    have := crcR_inj (Nat.xor_lt_two_pow h1 (byte_lt _)) (Nat.xor_lt_two_pow h1 (byte_lt _)) 8 e
    rw [Nat.xor_comm, Nat.xor_comm (crcN t j)] at this
    exact hne (UInt8.toNat_inj.1 (xor_right_inj this))
  | d + 1, h => by
    have ih := crcN_differ hl j hj hne ho d (by omega)
    have hk : j + 1 + d < s.length := by omega
    have hk2 : j + 1 + d < t.length := by omega
    have hs := ho (j + 1 + d) (by omega)
    rw [List.getElem?_eq_getElem hk, List.getElem?_eq_getElem hk2, Option.some.injEq] at hs
    rw [← Nat.add_assoc, crcN_succ s _ hk, crcN_succ t _ hk2, hs]
    intro e
    have := crcR_inj (Nat.xor_lt_two_pow (crcN_lt s _ (by omega)) (byte_lt _)) (Nat.xor_lt_two_pow (crcN_lt t _ (by omega)) (byte_lt _)) 8 e
    exact ih (xor_right_inj this)
theorem crcV_differ {s t : List UInt8} (hl : s.length = t.length) (j : Nat) (hj : j < s.length) (hne : s[j] ≠ t[j]'(by omega)) (ho : ∀ i, i ≠ j → s[i]? = t[i]?) : crcV s ≠ crcV t := by
  have := crcN_differ hl j hj hne ho (s.length - (j + 1)) (by omega)
  rw [show j + 1 + (s.length - (j + 1)) = s.length by omega] at this
  unfold crcV
  rw [← hl]
  omega
theorem fixed4_inj {n m : Int} (hn : 0 ≤ n ∧ n ≤ 4294967295) (hm : 0 ≤ m ∧ m ≤ 4294967295) (h : fixedV n 4 = fixedV m 4) : n = m := by
  have key : ∀ x : Int, 0 ≤ x ∧ x ≤ 4294967295 → fixedV x 4 = [toU8 ((x.toNat / 16777216 : Nat) : Int), toU8 ((x.toNat / 65536 : Nat) : Int), toU8 ((x.toNat / 256 : Nat) : Int), toU8 ((x.toNat / 1 : Nat) : Int)] := by
    intro x hx
    unfold fixedV
    have e : (4 : Int).toNat = 4 := rfl
    rw [e, decide_eq_true (by omega : 0 ≤ x), decide_eq_true (by omega : x.toNat / 256 ^ 4 = 0), decide_eq_true (by omega)]
    rfl
  rw [key n hn, key m hm] at h
  simp only [List.cons.injEq, and_true] at h
  obtain ⟨h1, h2, h3, h4⟩ := h
  have g1 := congrArg UInt8.toNat h1
  have g2 := congrArg UInt8.toNat h2
  have g3 := congrArg UInt8.toNat h3
  have g4 := congrArg UInt8.toNat h4
  simp only [toU8_toNat] at g1 g2 g3 g4
  omega
noncomputable def keyV (key : List UInt8) (n : Int) : List UInt8 := (chaV key 0 (nonceV 4 n)).take 32
theorem nonceV_len {k n : Int} (hk : 0 ≤ k ∧ k ≤ 255) (hn : 0 ≤ n ∧ n ≤ 562949953421311) : (nonceV k n).length = 12 := by
  unfold nonceV
  rw [decide_eq_true hk, decide_eq_true hn]
  simp only [Bool.and_self, cond_true, List.length_append, fixedV_len7 n hn]
  rfl
theorem keyV_cases (key : List UInt8) (n : Int) : keyV key n = [] ∨ ((keyV key n).length = 32 ∧ (0 ≤ n ∧ n ≤ 562949953421311)) := by
  unfold keyV
  cases h : chaOk key 0 (nonceV 4 n) with
  | false => rw [chaV_no h]; exact .inl rfl
  | true =>
    refine .inr ⟨by rw [List.length_take, chaV_len _ _ _ h]; rfl, ?_⟩
    obtain ⟨_, h2, _⟩ := chaOk_iff h
    by_cases hn : 0 ≤ n ∧ n ≤ 562949953421311
    · exact hn
    · unfold nonceV at h2
      rw [decide_eq_false hn, Bool.and_false] at h2
      cases h2
/-- the stream of a file -/
noncomputable def fileS (key : List UInt8) (n : Int) (text : List UInt8) : List UInt8 := streamV (keyV key n) 1 (nonceV 5 n) text
theorem fileS_eq {key : List UInt8} {n : Int} (hk : keyV key n ≠ []) (text : List UInt8) (ht : text.length ≤ 100000000000) : fileS key n text = xorV (keyV key n) 1 (nonceV 5 n) text := by
  rcases keyV_cases key n with h | ⟨h1, h2⟩
  · exact absurd h hk
  · unfold fileS streamV streamOk chaOk
    rw [decide_eq_true h1, decide_eq_true (nonceV_len (by omega) h2), decide_eq_true (by omega : (0 : Int) ≤ 1 ∧ (1 : Int) ≤ 4294967295), decide_eq_true (by omega)]
    simp only [Bool.and_self, cond_true]
theorem fileS_len {key : List UInt8} {n : Int} (hk : keyV key n ≠ []) (text : List UInt8) (ht : text.length ≤ 100000000000) : (fileS key n text).length = text.length := by rw [fileS_eq hk text ht, xorV_len]
theorem fileS_twice {key : List UInt8} {n : Int} (hk : keyV key n ≠ []) (text : List UInt8) (ht : text.length ≤ 100000000000) : fileS key n (fileS key n text) = text := by
  have := fileS_len hk text ht
  rw [fileS_eq hk (fileS key n text) (by omega), fileS_eq hk text ht, xorV_twice]
noncomputable def sealV (key : List UInt8) (n : Int) (text : List UInt8) : List UInt8 := bif decide (keyV key n = []) || decide (2000 < text.length) then [] else fixedV (crcV (fileS key n text)) 4 ++ fileS key n text
theorem guard2 (p : Prop) [Decidable p] (l : Nat) : (if decide p = true then (some true) else (some (decide (((l : Nat) : Int) > (2000 : Int))))) = some (decide p || decide (2000 < l)) := by
  have : decide (((l : Nat) : Int) > (2000 : Int)) = decide (2000 < l) := decide_eq_decide.2 (by omega)
  rw [this]
  cases decide p <;> rfl
/-- what is sealed is right, and short -/
noncomputable def openOk (key : List UInt8) (n : Int) (s : List UInt8) : Bool := (decide (4 ≤ s.length) && decide (fixedV (crcV (s.drop 4)) 4 = s.take 4)) && !(decide (keyV key n = []) || decide (2000 < (s.drop 4).length))
noncomputable def openV (key : List UInt8) (n : Int) (s : List UInt8) : List UInt8 × Bool := bif openOk key n s then (fileS key n (s.drop 4), true) else ([], false)
theorem open_ite {α : Type} {p : Prop} [Decidable p] (a b : α) : (if (!decide p) = true then a else b) = bif decide p then b else a := by
  cases decide p <;> rfl
/-- a byte that was turned shows -/
theorem bent_no (key : List UInt8) (n : Int) (s : List UInt8) (j : Nat) (hj : j < s.length) (y : UInt8) (hy : y ≠ s[j]) (h : openOk key n s = true) : openOk key n (s.set j y) = false := by
  unfold openOk at h ⊢
  simp only [Bool.and_eq_true, decide_eq_true_eq] at h
  obtain ⟨⟨h4, hc⟩, _⟩ := h
  have key2 : ¬ fixedV (crcV ((s.set j y).drop 4)) 4 = (s.set j y).take 4 := by
    intro e
    by_cases c : j < 4
    · rw [List.drop_set_of_lt c, hc, List.take_set] at e
      have h5 : (s.take 4)[j]? = ((s.take 4).set j y)[j]? := congrArg (fun l => l[j]?) e
      rw [List.getElem?_set_self (by rw [List.length_take]; omega), List.getElem?_take, if_pos c, List.getElem?_eq_getElem hj, Option.some.injEq] at h5
      exact hy h5.symm
    · rw [List.take_set_of_le (by omega), ← hc] at e
      have := fixed4_inj (crcV_range _) (crcV_range _) e
      rw [List.drop_set, if_neg c] at this
      refine crcV_differ (s := (s.drop 4).set (j - 4) y) (t := s.drop 4) (by simp) (j - 4) (by simp; omega) ?_ ?_ this
      · rw [List.getElem_set_self, List.getElem_drop]
        have e4 : 4 + (j - 4) = j := by omega
        simp only [e4]
        exact hy
      · intro i hi
        rw [List.getElem?_set_ne (by omega)]
  rw [decide_eq_false key2, Bool.and_false, Bool.false_and]
theorem xor_ne2 (x : UInt8) (m : Int) (hm : 1 ≤ m ∧ m ≤ 255) : x ^^^ toU8 m ≠ x := by
  intro e
  have h1 : toU8 m = 0 := by
    have : x ^^^ (x ^^^ toU8 m) = x ^^^ x := by rw [e]
    rwa [← UInt8.xor_assoc, UInt8.xor_self, UInt8.zero_xor] at this
  obtain ⟨k, rfl⟩ : ∃ k : Nat, m = (k : Int) := ⟨m.toNat, by omega⟩
  have h2 := congrArg UInt8.toNat h1
  rw [toU8_toNat] at h2
  have h3 : (0 : UInt8).toNat = 0 := rfl
  omega
/-! a known block -/
def stepN (l : List Nat) (x y z r : Nat) : List Nat := (l.set x ((l.getD x 0 + l.getD y 0) % 4294967296)).set z (rotN ((l.set x ((l.getD x 0 + l.getD y 0) % 4294967296)).getD z 0 ^^^ ((l.getD x 0 + l.getD y 0) % 4294967296)) r)
def quarterN (l : List Nat) (a b c d : Nat) : List Nat := stepN (stepN (stepN (stepN l a b d 16) c d b 12) a b d 8) c d b 7
def colN (l : List Nat) : Nat → List Nat
  | 0 => l
  | k + 1 => quarterN (colN l k) k (4 + k) (8 + k) (12 + k)
def diagN (l : List Nat) : Nat → List Nat
  | 0 => l
  | k + 1 => quarterN (diagN l k) k (4 + (k + 1) % 4) (8 + (k + 2) % 4) (12 + (k + 3) % 4)
def roundN (l : List Nat) : List Nat := diagN (colN l 4) 4
def wL (l : List Nat) : List Wrd := l.map fun (n : Nat) => Wrd.mk (n : Int)
def goodL (l : List Nat) : Prop := l.length = 16 ∧ ∀ n ∈ l, n < 4294967296
theorem wL_good {l : List Nat} (h : goodL l) : goodW (wL l) := by
  refine ⟨by unfold wL; rw [List.length_map]; exact h.1, fun x hx => ?_⟩
  obtain ⟨n, hn, rfl⟩ := List.mem_map.1 hx
  have := h.2 n hn
  show (0 : Int) ≤ (n : Int) ∧ (n : Int) < 4294967296
  omega
theorem wL_set (l : List Nat) (i n : Nat) : (wL l).set i (Wrd.mk (n : Int)) = wL (l.set i n) := by unfold wL; rw [List.map_set]
theorem wL_at (l : List Nat) (i : Nat) (h : i < l.length) : idx (wL l) (i : Int) = some (Wrd.mk ((l.getD i 0 : Nat) : Int)) := by
  rw [idx_nat _ i (by unfold wL; rw [List.length_map]; exact h)]
  unfold wL
  rw [List.getElem_map, List.getD_eq_getElem?_getD, List.getElem?_eq_getElem h]
  rfl
theorem getD_lt {l : List Nat} (h : ∀ n ∈ l, n < 4294967296) (i : Nat) : l.getD i 0 < 4294967296 := by
  rw [List.getD_eq_getElem?_getD]
  rcases Nat.lt_or_ge i l.length with c | c
  · rw [List.getElem?_eq_getElem c]; exact h _ (List.getElem_mem c)
  · rw [List.getElem?_eq_none c]; decide
theorem setN_lt {l : List Nat} (h : ∀ n ∈ l, n < 4294967296) (i m : Nat) (hm : m < 4294967296) : ∀ n ∈ l.set i m, n < 4294967296 := by
  intro n hn
  rcases List.mem_or_eq_of_mem_set hn with c | c
  · exact h n c
  · rw [c]; exact hm
theorem stepN_eq {l : List Nat} (h : goodL l) (x y z r : Nat) (hx : x < 16) (hy : y < 16) (hz : z < 16) (hr : r ≤ 16) : qi (wL l) (x : Int) (y : Int) (z : Int) (r : Int) = some (wL (stepN l x y z r)) ∧ goodL (stepN l x y z r) := by
  obtain ⟨hl, hw⟩ := h
  have hsum : IntKind.u32.wrap (((l.getD x 0 : Nat) : Int) + ((l.getD y 0 : Nat) : Int)) = (((l.getD x 0 + l.getD y 0) % 4294967296 : Nat) : Int) := by rw [wrap32]; omega
  have hlt : (l.getD x 0 + l.getD y 0) % 4294967296 < 4294967296 := Nat.mod_lt _ (by decide)
  have e1 := wL_at l x (by omega)
  have e2 := wL_at l y (by omega)
  unfold stepN
  generalize hs : (l.getD x 0 + l.getD y 0) % 4294967296 = m at hsum hlt
  have hl1 : (l.set x m).length = 16 := by rw [List.length_set]; exact hl
  have hw1 := setN_lt hw x m hlt
  have hz1 := getD_lt hw1 z
  have e3 := wL_at (l.set x m) z (by omega)
  have e4 := wL_at (l.set x m) x (by omega)
  have e5 : (l.set x m).getD x 0 = m := by rw [List.getD_eq_getElem?_getD, List.getElem?_set_self (by omega)]; rfl
  rw [e5] at e4
  have hxor := Nat.xor_lt_two_pow (n := 32) hz1 hlt
  have hrl := rotN_lt (n := r) (show (l.set x m).getD z 0 ^^^ m < 4294967296 from hxor)
  refine ⟨?_, by rw [List.length_set]; exact hl1, setN_lt hw1 _ _ hrl⟩
  unfold qi
  simp only [e1, e2, Option.bind_some, hsum, Int.toNat_natCast, wL_set, e3, e4, ixor32 hz1 hlt, rot32_eq hxor hr]
theorem quarterN_eq {l : List Nat} (h : goodL l) (a b c d : Nat) (ha : a < 16) (hb : b < 16) (hc : c < 16) (hd : d < 16) : qv (wL l) a b c d = wL (quarterN l a b c d) ∧ goodL (quarterN l a b c d) := by
  obtain ⟨p1, g1⟩ := stepN_eq h a b d 16 ha hb hd (by omega)
  obtain ⟨p2, g2⟩ := stepN_eq g1 c d b 12 hc hd hb (by omega)
  obtain ⟨p3, g3⟩ := stepN_eq g2 a b d 8 ha hb hd (by omega)
  obtain ⟨p4, g4⟩ := stepN_eq g3 c d b 7 hc hd hb (by omega)
  refine ⟨?_, g4⟩
  unfold qv
  rw [impl_quarter_steps, show (16 : Int) = ((16 : Nat) : Int) from rfl, p1]
  simp only [Option.bind_some]
  rw [show (12 : Int) = ((12 : Nat) : Int) from rfl, p2]
  simp only [Option.bind_some]
  rw [show (8 : Int) = ((8 : Nat) : Int) from rfl, p3]
  simp only [Option.bind_some]
  rw [show (7 : Int) = ((7 : Nat) : Int) from rfl, p4]
  rfl
theorem colN_eq {l : List Nat} (h : goodL l) : ∀ k, k ≤ 4 → colW (wL l) k = wL (colN l k) ∧ goodL (colN l k)
  | 0, _ => ⟨rfl, h⟩
  | k + 1, hk => by
    obtain ⟨e, g⟩ := colN_eq h k (by omega)
    show qv (colW (wL l) k) k (4 + k) (8 + k) (12 + k) = wL (quarterN (colN l k) k (4 + k) (8 + k) (12 + k)) ∧ goodL (quarterN (colN l k) k (4 + k) (8 + k) (12 + k))
    rw [e]
    exact quarterN_eq g _ _ _ _ (by omega) (by omega) (by omega) (by omega)
theorem diagN_eq {l : List Nat} (h : goodL l) : ∀ k, k ≤ 4 → diagW (wL l) k = wL (diagN l k) ∧ goodL (diagN l k)
  | 0, _ => ⟨rfl, h⟩
  | k + 1, hk => by
    obtain ⟨e, g⟩ := diagN_eq h k (by omega)
    show qv (diagW (wL l) k) k (4 + (k + 1) % 4) (8 + (k + 2) % 4) (12 + (k + 3) % 4) = wL (quarterN (diagN l k) k (4 + (k + 1) % 4) (8 + (k + 2) % 4) (12 + (k + 3) % 4)) ∧ goodL (quarterN (diagN l k) k (4 + (k + 1) % 4) (8 + (k + 2) % 4) (12 + (k + 3) % 4))
    rw [e]
    exact quarterN_eq g _ _ _ _ (by omega) (by omega) (by omega) (by omega)
theorem roundN_eq {l l' : List Nat} (h : goodL l) (e : roundN l = l') : roundW (wL l) = wL l' ∧ goodL l' := by
  obtain ⟨e1, g1⟩ := colN_eq h 4 (by omega)
  obtain ⟨e2, g2⟩ := diagN_eq g1 4 (by omega)
  subst e
  unfold roundW
  rw [e1, e2]
  exact ⟨rfl, g2⟩
def outN (w s : List Nat) : Nat → List UInt8
  | 0 => []
  | k + 1 => outN w s k ++ bytes4 ((w.getD k 0 + s.getD k 0) % 4294967296)
theorem outN_eq (w s : List Nat) (hw : w.length = 16) (hs : s.length = 16) : ∀ k, k ≤ 16 → outW (wL w) (wL s) k = outN w s k
  | 0, _ => rfl
  | k + 1, hk => by
    have l1 : k < (wL w).length := by unfold wL; rw [List.length_map]; omega
    have l2 : k < (wL s).length := by unfold wL; rw [List.length_map]; omega
    have a1 : ∀ (l : List Nat) (h : k < l.length) (h2 : k < (wL l).length), (wL l)[k].v = ((l.getD k 0 : Nat) : Int) := by
      intro l h h2
      have := wL_at l k h
      rw [idx_nat _ k h2, Option.some.injEq] at this
      rw [this]
    rw [outW_succ _ _ k l1 l2, outN_eq w s hw hs k (by omega), a1 w (by omega) l1, a1 s (by omega) l2]
    have : (((w.getD k 0 : Nat) : Int) + ((s.getD k 0 : Nat) : Int)).toNat = w.getD k 0 + s.getD k 0 := by omega
    rw [this]
    rfl
def keyK : List UInt8 := [0, 1, 2, 3, 4, 5, 6, 7, 8, 9, 10, 11, 12, 13, 14, 15, 16, 17, 18, 19, 20, 21, 22, 23, 24, 25, 26, 27, 28, 29, 30, 31]
def nonceK : List UInt8 := [0, 0, 0, 9, 0, 0, 0, 74, 0, 0, 0, 0]
def LK0 : List Nat := [1634760805, 857760878, 2036477234, 1797285236, 50462976, 117835012, 185207048, 252579084, 319951120, 387323156, 454695192, 522067228, 1, 150994944, 1241513984, 0]
def LK1 : List Nat := [3444762903, 2242577332, 3007673237, 4184729565, 3300379938, 1546524794, 3378426977, 829194266, 2079840064, 2128467524, 4053908981, 1980909258, 1796036771, 1738032922, 3610767719, 4050880653]
def LK2 : List Nat := [3474617732, 76097516, 1409621978, 3259301672, 2417831744, 2037692444, 932040628, 3444047118, 766489110, 667458774, 3443301024, 2046593479, 279900557, 371296101, 1761044229, 81194530]
def LK3 : List Nat := [60899378, 1722898727, 2641062722, 3092005129, 2803120864, 2694525917, 2782572424, 802757235, 3373034264, 1512055827, 3255697846, 1926065012, 3124090743, 3009475007, 2172137819, 751901466]
def LK4 : List Nat := [2586654089, 186907726, 1085225835, 3471475012, 169607110, 1582928887, 2567226087, 221464344, 3832308564, 3377476137, 83817898, 4170399602, 646435958, 1424380465, 898957253, 725332682]
def LK5 : List Nat := [3308460229, 3392298390, 2122125771, 872735434, 651677555, 1619579769, 3237013949, 3809529273, 2922162395, 1123449970, 1902549706, 2539394845, 2657010216, 2105911795, 538773334, 1677355347]
def LK6 : List Nat := [77796122, 1712808713, 68532913, 1639481506, 919373511, 3213509733, 4152219424, 4228635792, 131152586, 3943426479, 1633260689, 2441417436, 867592301, 2036123249, 3221526898, 2695371742]
def LK7 : List Nat := [2607871263, 2124983313, 568675753, 3392748335, 2477819526, 1783386286, 421603930, 2600675672, 3627619934, 1275519626, 3556632990, 648855869, 2785670485, 740582729, 2501187667, 746879501]
def LK8 : List Nat := [3395061213, 2477062414, 3656441688, 652051165, 2552587256, 1898621439, 664429032, 2534372029, 472224538, 1367390992, 2006722535, 1409777160, 2847363579, 942619874, 2377217405, 3426224139]
def LK9 : List Nat := [3065544166, 2583781704, 2475005973, 1226172108, 3694379298, 2564919203, 1610344700, 4145367947, 683801779, 3300102045, 2212689367, 2099558795, 554142498, 2979260323, 3002373001, 1826512934]
def LK10 : List Nat := [2205644971, 3795375971, 2793071134, 1498463023, 3304247495, 4234328879, 2409634044, 1063176119, 861041090, 4069820915, 3938298108, 2196008637, 3516666548, 2957907678, 2659438795, 1312575650]
theorem LK0_good : goodL LK0 := ⟨rfl, by decide⟩
theorem LK_step0 : roundN LK0 = LK1 := by decide +kernel
theorem LK_step1 : roundN LK1 = LK2 := by decide +kernel
theorem LK_step2 : roundN LK2 = LK3 := by decide +kernel
theorem LK_step3 : roundN LK3 = LK4 := by decide +kernel
theorem LK_step4 : roundN LK4 = LK5 := by decide +kernel
theorem LK_step5 : roundN LK5 = LK6 := by decide +kernel
theorem LK_step6 : roundN LK6 = LK7 := by decide +kernel
theorem LK_step7 : roundN LK7 = LK8 := by decide +kernel
theorem LK_step8 : roundN LK8 = LK9 := by decide +kernel
theorem LK_step9 : roundN LK9 = LK10 := by decide +kernel
theorem firstK_eq : firstN keyK 1 nonceK 3 = wL LK0 := by
  have k0 : kN keyK 0 = 50462976 := by decide +kernel
  have k1 : kN keyK 1 = 117835012 := by decide +kernel
  have k2 : kN keyK 2 = 185207048 := by decide +kernel
  have k3 : kN keyK 3 = 252579084 := by decide +kernel
  have k4 : kN keyK 4 = 319951120 := by decide +kernel
  have k5 : kN keyK 5 = 387323156 := by decide +kernel
  have k6 : kN keyK 6 = 454695192 := by decide +kernel
  have k7 : kN keyK 7 = 522067228 := by decide +kernel
  have n0 : kN nonceK 0 = 150994944 := by decide +kernel
  have n1 : kN nonceK 1 = 1241513984 := by decide +kernel
  have n2 : kN nonceK 2 = 0 := by decide +kernel
  unfold firstN selW
  rw [k0, k1, k2, k3, k4, k5, k6, k7, n0, n1, n2]
  rfl
theorem roundsK : roundsW (wL LK0) 10 = wL LK10 ∧ goodL LK10 := by
  have g0 := LK0_good
  obtain ⟨e1, g1⟩ := roundN_eq g0 LK_step0
  obtain ⟨e2, g2⟩ := roundN_eq g1 LK_step1
  obtain ⟨e3, g3⟩ := roundN_eq g2 LK_step2
  obtain ⟨e4, g4⟩ := roundN_eq g3 LK_step3
  obtain ⟨e5, g5⟩ := roundN_eq g4 LK_step4
  obtain ⟨e6, g6⟩ := roundN_eq g5 LK_step5
  obtain ⟨e7, g7⟩ := roundN_eq g6 LK_step6
  obtain ⟨e8, g8⟩ := roundN_eq g7 LK_step7
  obtain ⟨e9, g9⟩ := roundN_eq g8 LK_step8
  obtain ⟨e10, g10⟩ := roundN_eq g9 LK_step9
  refine ⟨?_, g10⟩
  simp only [roundsW, e1, e2, e3, e4, e5, e6, e7, e8, e9, e10]
def outK : List UInt8 := [16, 241, 231, 228, 209, 59, 89, 21, 80, 15, 221, 31, 163, 32, 113, 196, 199, 209, 244, 199, 51, 192, 104, 3, 4, 34, 170, 154, 195, 212, 108, 78, 210, 130, 100, 70, 7, 159, 170, 9, 20, 194, 215, 5, 217, 139, 2, 162, 181, 18, 156, 209, 222, 22, 78, 185, 203, 208, 131, 232, 162, 80, 60, 78]
theorem outK_eq : outN LK10 LK0 16 = outK := by decide +kernel
theorem chaK : chaV keyK 1 nonceK = outK := by
  have hok : chaOk keyK 1 nonceK = true := by decide
  unfold chaV chaR
  rw [hok, firstK_eq, roundsK.1, outN_eq LK10 LK0 rfl rfl 16 (Nat.le_refl _), outK_eq]
  rfl
def digitV (k : Nat) : UInt8 := ([48, 49, 50, 51, 52, 53, 54, 55, 56, 57, 97, 98, 99, 100, 101, 102] : List UInt8).getD k 0
def hexB (x : UInt8) : List UInt8 := [digitV (x.toNat / 16), digitV (x.toNat % 16)]
theorem spec_l1Digit_eq (k : Nat) (h : k < 16) : spec_l1Digit (k : Int) = some (digitV k) := by
  unfold spec_l1Digit digitV
  rw [sidx_nat _ k (by simpa using h), List.getD_eq_getElem?_getD, List.getElem?_eq_getElem (by simpa using h)]
  rfl
theorem spec_Hex_eq (s : List UInt8) (h : s.length ≤ 1048576) : spec_Hex s = some (s.flatMap hexB) := by
  unfold spec_Hex
  rw [loopO_count (fun k => ((k : Int), (s.take k).flatMap hexB)) s.length (r := Ctl.go (s.flatMap hexB)) ?h0]
  case h0 => rfl
  · rfl
  · intro k hk
    have hx := s[k].toNat_lt
    have hl : ((s.take k).flatMap hexB).length ≤ 2 * (s.take k).length := flat_len hexB 2 _ fun x _ => Nat.le_refl _
    have hlk : (s.take k).length ≤ k := List.length_take_le _ _
    simp only
    rw [if_pos (by simpa using hk), sidx_nat s k hk]
    simp only [Option.bind_some]
    rw [wrap_ok (n := ((s[k].toNat : Nat) : Int)) (by omega) (by omega)]
    have e1 : Int.tdiv ((s[k].toNat : Nat) : Int) 16 = ((s[k].toNat / 16 : Nat) : Int) := by rw [Int.tdiv_eq_ediv_of_nonneg (by omega)]; omega
    have e2 : Int.tmod ((s[k].toNat : Nat) : Int) 16 = ((s[k].toNat % 16 : Nat) : Int) := by rw [Int.tmod_eq_emod_of_nonneg (by omega)]; omega
    rw [e1, e2, wrap_ok (n := ((s[k].toNat / 16 : Nat) : Int)) (by omega) (by omega), spec_l1Digit_eq _ (by omega), spec_l1Digit_eq _ (by omega)]
    simp only [Option.bind_some]
    rw [app_ok (by simp only [List.length_cons, List.length_nil]; omega) (by simp only [List.length_cons, List.length_nil]; omega), wrap_ok (by omega) (by omega), flat_take hexB s k hk]
    rfl
  · simp only [List.take_length]
    rw [if_neg (by simp)]
theorem DrawChaStream_ok (code : List UInt8) (hb : code.length ≤ 1048576) : ∃ k n z t, spec_DrawChaStream code = some (k, n, z, t) ∧ t.length ≤ 2000 := by
  unfold spec_DrawChaStream
  obtain ⟨q, hq⟩ := l1New_ok code hb
  obtain ⟨x1, i1, h1, e1, g1, k1⟩ := l3Key_ok code 0 q (by omega) hb
  obtain ⟨x2, i2, h2, e2, g2, k2⟩ := l1PickInt_ok code i1 h1 [0, 1, 7, 4294967295] (by simp) k1 hb
  obtain ⟨x3, i3, h3, e3, g3, k3⟩ := l1Below_ok code i2 h2 4 k2 hb
  obtain ⟨x4, i4, h4, e4, g4, k4⟩ := l1Below_ok code i3 h3 9 k3 hb
  obtain ⟨x5, i5, h5, e5, g5, k5⟩ := l1Text_ok code i4 h4 70 (by omega) k4 hb
  obtain ⟨x6, i6, h6, e6, k6⟩ := l1Once_ok code i5 h5 4 k5 hb
  simp only [hq, Option.bind_some, e1, e2, e3, e4, spec_NonceOf_eq, e5, e6]
  cases x6 with
  | false => exact ⟨_, _, _, _, rfl, by omega⟩
  | true =>
    obtain ⟨x7, i7, h7, e7, g7, k7⟩ := l1Text_ok code i6 h6 70 (by omega) k6 hb
    simp only [if_true, e7, Option.bind_some]
    rw [cat_ok (by omega)]
    simp only [Option.bind_some, bindC_go]
    exact ⟨_, _, _, _, rfl, by rw [List.length_append]; omega⟩
theorem stream_back {k : List UInt8} {n : Int} {z t : List UInt8} (h : streamV k n z t ≠ []) : (streamV k n z t).length = t.length ∧ streamV k n z (streamV k n z t) = t := by
  have ho : streamOk k n z t.length = true := by
    cases hc : streamOk k n z t.length with
    | true => rfl
    | false => unfold streamV at h; rw [hc] at h; exact absurd rfl h
  have e : streamV k n z t = xorV k n z t := by unfold streamV; rw [ho]; rfl
  rw [e]
  refine ⟨xorV_len _ _ _ _, ?_⟩
  unfold streamV
  rw [xorV_len, ho]
  exact xorV_twice _ _ _ _
theorem stream_next {k : List UInt8} {n : Int} {z t : List UInt8} (h : streamV k n z t ≠ []) (ht : 64 < t.length) : (streamV k n z t).drop 64 = streamV k (n + 1) z (t.drop 64) := by
  have ho : streamOk k n z t.length = true := by
    cases hc : streamOk k n z t.length with
    | true => rfl
    | false => unfold streamV at h; rw [hc] at h; exact absurd rfl h
  have e : streamV k n z t = xorV k n z t := by unfold streamV; rw [ho]; rfl
  unfold streamOk at ho
  rw [Bool.and_eq_true, decide_eq_true_eq] at ho
  obtain ⟨ho, hn⟩ := ho
  have hn' : n + (((t.length - 1) / 64 : Nat) : Int) ≤ 4294967295 := by omega
  have ho2 : streamOk k (n + 1) z (t.drop 64).length = true := by
    unfold streamOk
    rw [show n + 1 = n + ((1 : Nat) : Int) from rfl, chaOk_at ho 1 (by omega), Bool.true_and, List.length_drop]
    exact decide_eq_true (.inr (by omega))
  rw [e]
  unfold streamV
  rw [ho2]
  simp only [cond_true]
  apply List.ext_getElem
  · rw [List.length_drop, xorV_len, xorV_len, List.length_drop]
  · intro i h1 h2
    rw [xorV_len] at h2
    have h3 : 64 + i < t.length := by rw [List.length_drop] at h2; omega
    rw [List.getElem_drop, xorV_at _ _ _ _ (64 + i) h3, xorV_at _ _ _ _ i h2, List.getElem_drop]
    congr 1
    unfold strB
    have d1 : (64 + i) / 64 = 1 + i / 64 := by omega
    have d2 : (64 + i) % 64 = i % 64 := by omega
    rw [d1, d2, show n + ((1 + i / 64 : Nat) : Int) = n + 1 + ((i / 64 : Nat) : Int) by omega]
theorem key_loop {ρ : Type} : loopO (ρ := Ctl (List UInt8) ρ) (fun (S36 : Int × List UInt8) => if (decide (S36.1 < (32 : Int))) = true then ((app 1 S36.2 ([toU8 S36.1])).bind fun E43 =>
    some (.go (IntKind.i64.wrap (S36.1 + (1 : Int)), E43)))
    else (some (.done (.go S36.2)))) ((0 : Int), ([] : List UInt8)) = some (.go keyK) := by
  rw [show keyK = (List.range 32).map fun (k : Nat) => toU8 (k : Int) from by decide +kernel]
  refine loopO_is (fun k S => S = ((k : Int), (List.range k).map fun (k : Nat) => toU8 (k : Int))) 32 _ rfl ?_ ?_
  · rintro k _ hk rfl
    left
    simp only
    rw [if_pos (by simp only [decide_eq_true_eq]; omega), app_ok (by simp; omega) (by simp; omega), wrap_ok (by omega) (by omega)]
    exact ⟨_, rfl, by rw [List.range_succ, List.map_append]; rfl⟩
  · rintro _ rfl
    rfl
theorem FnCha_pure (code : List UInt8) : laws_FnCha code = some true := by
  unfold laws_FnCha
  rw [big_eq]
  simp only [Option.bind_some]
  by_cases hc : ((code.length : Nat) : Int) > 1048576
  · rw [decide_eq_true hc]; rfl
  rw [decide_eq_false hc]
  have hb : code.length ≤ 1048576 := by omega
  obtain ⟨k, n, z, t, es, ht⟩ := DrawChaStream_ok code hb
  obtain ⟨x, hx, g1, g2⟩ := at_ok code 0 (by omega) hb
  simp only [Bool.false_eq_true, if_false, es, Option.bind_some]
  rw [impl_ChaStream_eq k n z t (by omega), spec_ChaStream_eq k n z t (by omega)]
  simp only [Option.bind_some, decide_true, Bool.not_true, Bool.false_eq_true, if_false]
  have hA : (if (!decide (streamV k n z t = [])) = true then
      (if (!decide (((streamV k n z t).length : Int) = (t.length : Int))) = true then (some true) else ((impl_ChaStream k n z (streamV k n z t)).bind fun R19 => some (!decide (R19 = t))))
      else (some false)) = some false := by
    by_cases h : streamV k n z t = []
    · rw [decide_eq_true h]; rfl
    · obtain ⟨s1, s2⟩ := stream_back h
      rw [decide_eq_false h, impl_ChaStream_eq k n z _ (by omega), s2, decide_eq_true (by omega : ((streamV k n z t).length : Int) = (t.length : Int))]
      simp
  have hn1 : streamV k n z t ≠ [] → IntKind.i64.wrap (n + 1) = n + 1 := by
    intro h
    have : chaOk k n z = true := by
      cases hcc : chaOk k n z with
      | true => rfl
      | false => unfold streamV streamOk at h; rw [hcc] at h; exact absurd rfl h
    obtain ⟨_, _, c1, c2⟩ := chaOk_iff this
    exact wrap_ok (by omega) (by omega)
  have hB : (if decide ((t.length : Int) > 64) = true then (if (!decide (streamV k n z t = [])) = true then
      ((ssub (streamV k n z t) (64 : Int) ((streamV k n z t).length : Int)).bind fun E27 => (ssub t (64 : Int) (t.length : Int)).bind fun E29 =>
      (impl_ChaStream k (IntKind.i64.wrap (n + (1 : Int))) z E29).bind fun R31 => some (!decide (E27 = R31))) else (some false)) else (some false)) = some false := by
    by_cases h64 : (t.length : Int) > 64
    · rw [decide_eq_true h64]
      by_cases h : streamV k n z t = []
      · rw [decide_eq_true h]; rfl
      · obtain ⟨s1, s2⟩ := stream_back h
        rw [decide_eq_false h, hn1 h, show ssub (streamV k n z t) (64 : Int) _ = _ from ssub_end (streamV k n z t) 64 (by omega), show ssub t (64 : Int) _ = _ from ssub_end t 64 (by omega)]
        simp only [Option.bind_some, if_true, Bool.not_false]
        rw [impl_ChaStream_eq _ _ _ _ (by rw [List.length_drop]; omega), stream_next h (by omega)]
        simp
    · rw [decide_eq_false h64]; rfl
  rw [hA]
  simp only [Option.bind_some, Bool.false_eq_true, if_false]
  rw [hB]
  simp only [Option.bind_some, Bool.false_eq_true, if_false]
  rw [key_loop]
  simp only [bindC_go]
  rw [show impl_ChaBlock keyK (1 : Int) [0, 0, 0, 9, 0, 0, 0, 74, 0, 0, 0, 0] = some outK from by rw [impl_ChaBlock_eq]; exact congrArg some chaK]
  simp only [Option.bind_some]
  rw [spec_Hex_eq outK (by decide)]
  have hh : outK.flatMap hexB = [49, 48, 102, 49, 101, 55, 101, 52, 100, 49, 51, 98, 53, 57, 49, 53, 53, 48, 48, 102, 100, 100, 49, 102, 97, 51, 50, 48, 55, 49, 99, 52, 99, 55, 100, 49, 102, 52, 99, 55, 51, 51, 99, 48, 54, 56, 48, 51, 48, 52, 50, 50, 97, 97, 57, 97, 99, 51, 100, 52, 54, 99, 52, 101, 100, 50, 56, 50, 54, 52, 52, 54, 48, 55, 57, 102, 97, 97, 48, 57, 49, 52, 99, 50, 100, 55, 48, 53, 100, 57, 56, 98, 48, 50, 97, 50, 98, 53, 49, 50, 57, 99, 100, 49, 100, 101, 49, 54, 52, 101, 98, 57, 99, 98, 100, 48, 56, 51, 101, 56, 97, 50, 53, 48, 51, 99, 52, 101] := by decide +kernel
  simp only [Option.bind_some]
  rw [hh]
  simp only [decide_true, if_true, hx, Option.bind_some, impl_NonceOf_eq, nonceV_len (k := 3) (n := x) (by omega) (by omega)]
  rfl
theorem FnCha_proved : Rows.FnChaSaid := FnCha_over fun code _ => FnCha_pure code

end Go.Proofs.Ytbocplhlbbhblaa
