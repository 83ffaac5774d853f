/-
  The plain laws: what the pure functions come to, and the statements. Conditions: none.
-/
import Derived.Test.YtahennbogdbnmaaPm
import Derived.Test.YtahennbogdbnmaaK4
set_option linter.unusedVariables false
set_option linter.unusedSimpArgs false
namespace Go.Proofs.Ytahennbogdbnmaa
open Go Sl

theorem inRange_eq (n a b : Int) : impl_inRange n a b = some (decide (a ≤ n ∧ n ≤ b)) := by
  unfold impl_inRange
  by_cases h : n ≥ a <;> simp [h]
theorem l1In_eq (n a b : Int) : spec_l1In n a b = some (decide (a ≤ n ∧ n ≤ b)) := by
  unfold spec_l1In
  by_cases h : n ≥ a <;> simp [h]
/-! ### SpaceOk -/
theorem all_range (l : List Int) (p : Int → Bool) (f : Int → Option Bool) (hf : ∀ x, f x = some (p x)) (hl : l.length ≤ 1048576) :
    loopO (ρ := Ctl Unit Bool) (fun (S6 : Int) => if (decide (S6 < ((l.length : Nat) : Int))) = true then ((idx l S6).bind fun E11 =>
  (f E11).bind fun R13 =>
  if (!R13) = true then (some (.done (.done false)))
  else (some (.go (IntKind.i64.wrap (S6 + (1 : Int))))))
  else (some (.done (.go ())))) (0 : Int) = some (if l.all p then .go () else .done false) := by
  rw [loopO_list l (fun k (_ : Unit) => (k : Int)) (fun _ x _ => if p x then some (Ctl.go ()) else some (Ctl.done (Ctl.done false))) (fun _ => some (Ctl.go ())) () ?h0 ?hs ?hf]
  case h0 => rfl
  case hs =>
    intro k hk _
    simp only [idx_nat l k hk, Option.bind_some, hf]
    rw [wrap_ok (by omega) (by omega)]
    by_cases he : p l[k] = true
    · simp [he, Ctl.mapGo, hk]
    · simp [he, Ctl.mapGo, hk]
  case hf => intro _; simp
  rw [runL_all p (Ctl.done false) _ _ (by intro k x _; rfl)]
  split <;> rfl
/-- giving blocks back, one by one -/
def giveV (who : Int) : List Int → List Int → Option (List Int)
  | [], s => some s
  | b :: bs, s => if 0 ≤ b ∧ b < s.length ∧ s[b.toNat]? = some who ∧ 1 ≤ who then giveV who bs (s.set b.toNat 0) else none
theorem giveV_cons (who b : Int) (bs s : List Int) : giveV who (b :: bs) s = if 0 ≤ b ∧ b < s.length ∧ s[b.toNat]? = some who ∧ 1 ≤ who then giveV who bs (s.set b.toNat 0) else none := rfl
theorem giveV_nil (who : Int) (s : List Int) : giveV who [] s = some s := rfl
theorem giveV_length (who : Int) : ∀ (bs s r : List Int), giveV who bs s = some r → r.length = s.length
  | [], s, r, h => by simp [giveV] at h; rw [h]
  | b :: bs, s, r, h => by
    unfold giveV at h
    split at h
    · rw [giveV_length who bs _ r h, List.length_set]
    · cases h
theorem idx_some' {α : Type} {l : List α} {i : Int} (h0 : 0 ≤ i) (h1 : i < l.length) : idx l i = some (l[i.toNat]'(by omega)) := by
  unfold idx; rw [if_pos h0, List.getElem?_eq_getElem]
/-- what a quota needs -/
def needV (q : Int) : Int := if 0 ≤ q ∧ q ≤ 1000 then 2 + 2 * ((q + 49) / 50) else 0
theorem needV_range (q : Int) : 0 ≤ needV q ∧ needV q ≤ 42 := by
  unfold needV; split <;> omega
theorem markText_loop (m : Nat) : ∀ s : List UInt8, s.length + m ≤ 9223372036854775806 → ∃ r : List UInt8, loopO (ρ := Ctl (List UInt8) (List UInt8)) (fun (S2 : Int × List UInt8) => if (decide (S2.1 > (0 : Int))) = true then ((cat ([toU8 (IntKind.i64.wrap ((48 : Int) + (Int.tmod S2.1 (10 : Int))))]) S2.2).bind fun E8 =>
  some (.go (IntKind.i64.wrap (Int.tdiv S2.1 (10 : Int)), E8)))
  else (some (.done (.go S2.2)))) ((m : Int), s) = some (.go r) ∧ r.length ≤ s.length + m := by
  induction m using Nat.strongRecOn with
  | _ m ih =>
    intro s hs
    rw [loopO_eq]
    by_cases h0 : m = 0
    · subst h0
      exact ⟨s, by simp, by omega⟩
    · simp only
      rw [if_pos (by simp; omega), cat_ok (by simp; omega)]
      have hd : Int.tdiv (m : Int) 10 = ((m / 10 : Nat) : Int) := rfl
      rw [hd, wrap_ok (n := ((m / 10 : Nat) : Int)) (by omega) (by omega)]
      simp only [Option.bind_some]
      obtain ⟨r, hr, hl⟩ := ih (m / 10) (by omega) ([toU8 (IntKind.i64.wrap ((48 : Int) + (Int.tmod (m : Int) (10 : Int))))] ++ s) (by simp; omega)
      exact ⟨r, hr, by simp at hl; omega⟩
def wgt_L1Cur (x : L1Cur) : Nat := x.b.length + 0
def wgt_Op (x : Op) : Nat := x.Key.length + (x.Val.length + 0)
def wgt_Ent (x : Ent) : Nat := x.Key.length + (x.Val.length + 0)
def wgt_KV (x : KV) : Nat := x.Key.length + (x.Val.length + 0)

/-- a list turned up to a place -/
def preM {α : Type} (f : α → α) (l : List α) (k : Nat) : List α := (l.take k).map f ++ l.drop k
theorem preM_length {α : Type} (f : α → α) (l : List α) (k : Nat) : (preM f l k).length = l.length := by unfold preM; simp; omega
theorem preM_get {α : Type} (f : α → α) (l : List α) (k : Nat) (h : k < l.length) : idx (preM f l k) (k : Int) = some l[k] := by
  rw [idx_nat _ k (by rw [preM_length]; exact h)]
  congr 1
  have hl : ((l.take k).map f).length = k := by rw [List.length_map, List.length_take]; omega
  unfold preM
  rw [List.getElem_append_right (by omega)]
  simp only [hl, Nat.sub_self]
  simp
theorem preM_set {α : Type} (f : α → α) (l : List α) (k : Nat) (h : k < l.length) : (preM f l k).set k (f l[k]) = preM f l (k + 1) := by
  have hl : ((l.take k).map f).length = k := by rw [List.length_map, List.length_take]; omega
  have htk : l.take (k + 1) = l.take k ++ [l[k]] := by rw [List.take_add_one, List.getElem?_eq_getElem h]; rfl
  unfold preM
  rw [List.set_append_right _ _ (by omega), hl, Nat.sub_self, htk, List.drop_eq_getElem_cons h, List.set_cons_zero, List.map_append, List.append_assoc]
  rfl
theorem preM_same {α : Type} (f : α → α) (l : List α) (k : Nat) (h : k < l.length) (hf : f l[k] = l[k]) : preM f l (k + 1) = preM f l k := by
  rw [← preM_set f l k h, hf]
  apply List.ext_getElem?
  intro j
  rw [List.getElem?_set]
  split
  · rename_i he
    subst he
    have := preM_get f l k h
    unfold idx at this
    rw [if_pos (by omega), Int.toNat_natCast] at this
    rw [if_pos (by rw [preM_length]; exact h), this]
  · rfl
theorem preM_all {α : Type} (f : α → α) (l : List α) : preM f l l.length = l.map f := by unfold preM; simp
/-- a tenant's blocks, wiped -/
def wipeV (who : Int) (l : List Int) : List Int := l.map fun x => if x = who then 0 else x
/-- the first n free blocks of the first k -/
def freeIx (l : List Int) (n : Int) : Nat → List Nat
  | 0 => []
  | k + 1 => if l[k]? = some 0 ∧ ((freeIx l n k).length : Int) < n then freeIx l n k ++ [k] else freeIx l n k
theorem freeIx_lt (l : List Int) (n : Int) : ∀ k, ∀ i ∈ freeIx l n k, i < k
  | 0, i, h => by simp [freeIx] at h
  | k + 1, i, h => by
    unfold freeIx at h
    split at h
    · rcases List.mem_append.1 h with h | h
      · have := freeIx_lt l n k i h; omega
      · have : i = k := by simpa using h
        omega
    · have := freeIx_lt l n k i h; omega
theorem freeIx_length (l : List Int) (n : Int) : ∀ k, (freeIx l n k).length ≤ k
  | 0 => by simp [freeIx]
  | k + 1 => by
    have := freeIx_length l n k
    unfold freeIx
    split
    · simp; omega
    · omega
theorem freeIx_sat (l : List Int) (n : Int) (k : Nat) (h : ¬ ((freeIx l n k).length : Int) < n) : ∀ d, freeIx l n (k + d) = freeIx l n k
  | 0 => rfl
  | d + 1 => by
    have := freeIx_sat l n k h d
    have e : freeIx l n (k + (d + 1)) = if l[k + d]? = some 0 ∧ ((freeIx l n (k + d)).length : Int) < n then freeIx l n (k + d) ++ [k + d] else freeIx l n (k + d) := rfl
    rw [e, this, if_neg (fun h2 => h h2.2)]
theorem freeIx_count (l : List Int) (n : Int) (hn : 1 ≤ n) : ∀ k, k ≤ l.length → (((freeIx l n k).length : Int) < n ↔ (((l.take k).countP fun x => decide (x = 0) : Nat) : Int) < n) ∧ ((((l.take k).countP fun x => decide (x = 0) : Nat) : Int) < n → (freeIx l n k).length = ((l.take k).countP fun x => decide (x = 0))) ∧
    ((((l.take k).countP fun x => decide (x = 0) : Nat) : Int) = n → ((freeIx l n k).length : Int) = n)
  | 0, _ => by simp [freeIx]
  | k + 1, hk => by
    obtain ⟨h1, h2, h3⟩ := freeIx_count l n hn k (by omega)
    have hk' : k < l.length := by omega
    have htk : l.take (k + 1) = l.take k ++ [l[k]] := by rw [List.take_add_one, List.getElem?_eq_getElem hk']; rfl
    unfold freeIx
    rw [htk, List.countP_append, List.getElem?_eq_getElem hk']
    by_cases hx : l[k] = 0
    · simp only [hx, true_and, List.countP_cons, List.countP_nil, decide_true, if_true, Nat.zero_add]
      by_cases hc : ((freeIx l n k).length : Int) < n
      · rw [if_pos hc]
        have := h2 (h1.1 hc)
        simp only [List.length_append, List.length_cons, List.length_nil]
        omega
      · rw [if_neg hc]
        have : ¬ (((l.take k).countP fun x => decide (x = 0) : Nat) : Int) < n := fun h => hc (h1.2 h)
        omega
    · simp only [List.countP_cons, List.countP_nil, hx, decide_false, Bool.false_eq_true, if_false, Nat.add_zero]
      rw [if_neg (by simp [hx])]
      exact ⟨h1, h2, h3⟩
/-- blocks given to somebody -/
def setAll (who : Int) (l : List Int) (g : List Nat) : List Int := g.foldl (fun s i => s.set i who) l
theorem setAll_length (who : Int) (g : List Nat) : ∀ l, (setAll who l g).length = l.length := by
  induction g with
  | nil => intro l; rfl
  | cons i g ih => intro l; show (setAll who (l.set i who) g).length = _; rw [ih, List.length_set]
theorem setAll_snoc (who : Int) (l : List Int) (g : List Nat) (i : Nat) : setAll who l (g ++ [i]) = (setAll who l g).set i who := by
  unfold setAll; rw [List.foldl_append]; rfl
theorem sLt_nil (a : List UInt8) : sLt a [] = false := by cases a <;> rfl
theorem sLt_compl : ∀ a b : List UInt8, (sLt b a || decide (b = a)) = !sLt a b
  | [], [] => rfl
  | [], b :: y => by simp [sLt, Op.bytesLess]
  | a :: x, [] => by simp [sLt, Op.bytesLess]
  | a :: x, b :: y => by
    have ih := sLt_compl x y
    simp only [sLt] at ih
    simp only [sLt, Op.bytesLess]
    by_cases h1 : a < b
    · have h2 : ¬ b < a := fun h => absurd (UInt8.lt_trans h1 h) (UInt8.lt_irrefl _)
      have h3 : ¬ b = a := fun h => by subst h; exact UInt8.lt_irrefl _ h1
      simp [h1, h2, h3]
    · by_cases h2 : b < a
      · have h3 : ¬ a = b := fun h => by subst h; exact UInt8.lt_irrefl _ h2
        simp [h1, h2, h3]
      · have h3 : a = b := by
          rw [UInt8.lt_iff_toNat_lt] at h1 h2
          apply UInt8.toNat_inj.1
          omega
        subst h3
        simp only [h1, decide_false, Bool.false_or, beq_self_eq_true, Bool.true_and, List.cons.injEq, true_and]
        exact ih
theorem isKey_eq (s : List UInt8) : impl_isKey s = some (decide (1 ≤ (s.length : Int) ∧ (s.length : Int) ≤ 10)) := by
  unfold impl_isKey; rw [inRange_eq]; rfl
theorem scan_up (p : Nat → Bool) (n : Nat) : ∀ d a, a + d = n → ∃ j, a ≤ j ∧ j ≤ n ∧ (∀ i, a ≤ i → i < j → p i = false) ∧ (j < n → p j = true)
  | 0, a, h => ⟨a, Nat.le_refl _, by omega, fun i h1 h2 => by omega, fun h => by omega⟩
  | d + 1, a, h => by
    cases hp : p a with
    | true => exact ⟨a, Nat.le_refl _, by omega, fun i h1 h2 => by omega, fun _ => hp⟩
    | false =>
      obtain ⟨j, h1, h2, h3, h4⟩ := scan_up p n d (a + 1) (by omega)
      refine ⟨j, by omega, h2, fun i h5 h6 => ?_, h4⟩
      by_cases e : i = a
      · rw [e]; exact hp
      · exact h3 i (by omega) h6
theorem down_stop (p : Nat → Bool) : ∀ n : Nat, ∃ j : Nat, j ≤ n ∧ (∀ i, j ≤ i → i < n → p i = false) ∧ (0 < j → p (j - 1) = true)
  | 0 => ⟨0, Nat.le_refl _, fun i h1 h2 => by omega, fun h => by omega⟩
  | n + 1 => by
    cases hp : p n with
    | true => exact ⟨n + 1, Nat.le_refl _, fun i h1 h2 => by omega, fun _ => by simpa using hp⟩
    | false =>
      obtain ⟨j, h1, h2, h3⟩ := down_stop p n
      refine ⟨j, by omega, fun i h4 h5 => ?_, h3⟩
      by_cases e : i = n
      · rw [e]; exact hp
      · exact h2 i h4 (by omega)
theorem all_loop {body : Int → Option (Ctl Int (Ctl Unit Bool))} (pass : Nat → Bool) (n : Nat) (h : ∀ k, k < n → body (k : Int) = some (if pass k = true then .go ((k : Int) + 1) else .done (.done false))) (hn : body (n : Int) = some (.done (.go ()))) :
    loopO body 0 = some (if (List.range n).all pass = true then .go () else .done false) := by
  have key : ∀ d k, k + d = n → loopO body (k : Int) = some (if ((List.range n).drop k).all pass = true then .go () else .done false) := by
    intro d
    induction d with
    | zero =>
      intro k hk
      obtain rfl : k = n := by omega
      rw [loopO_eq, hn, List.drop_of_length_le (by simp)]
      rfl
    | succ d ih =>
      intro k hk
      have hd : (List.range n).drop k = k :: (List.range n).drop (k + 1) := by rw [List.drop_eq_getElem_cons (by simp; omega)]; simp
      rw [loopO_eq, h k (by omega), hd, List.all_cons]
      cases hp : pass k with
      | true =>
        have := ih (k + 1) (by omega)
        rw [show ((k + 1 : Nat) : Int) = (k : Int) + 1 by omega] at this
        simpa using this
      | false => simp
  have := key n 0 (by omega)
  simpa using this
theorem cmpI_eq (x y : Int) : cmp_Compare_26527 x y = some (if x < y then -1 else if x > y then 1 else 0) := by
  unfold cmp_Compare_26527 cmp_isNaN_26527
  by_cases h1 : x < y <;> by_cases h2 : x > y <;> simp [h1, h2]
theorem cmpS_eq (x y : List UInt8) : cmp_Compare_83645 x y = some (if sLt x y = true then -1 else if (!(sLt x y || decide (x = y))) = true then 1 else 0) := by
  unfold cmp_Compare_83645 cmp_isNaN_83645
  simp only [decide_true, Bool.not_true, Option.bind_some, Bool.false_eq_true, if_false]
  split
  · rfl
  · split <;> rfl
theorem sLt_compl' (a b : List UInt8) : (!sLt a b) = (sLt b a || decide (b = a)) := (sLt_compl a b).symm
theorem sLt_nil_iff (b : List UInt8) : sLt [] b = !decide (b = []) := by cases b <;> rfl
theorem len0 (out : List Int) : decide (((out.length : Nat) : Int) = 0) = decide (out = []) := by
  cases out with
  | nil => rfl
  | cons a l => simp; omega
theorem sMin_eq (a b : List UInt8) : sMin a b = if sLt b a = true then b else a := by
  unfold sMin
  rw [sLt_compl]
  cases sLt b a <;> simp
theorem sMax_eq (a b : List UInt8) : sMax a b = if sLt a b = true then b else a := by
  unfold sMax
  cases sLt a b <;> simp
theorem sLt_irr (a : List UInt8) : sLt a a = false := by
  have := sLt_compl a a
  simpa using this
theorem sLt_trans : ∀ {a b c : List UInt8}, sLt a b = true → sLt b c = true → sLt a c = true
  | [], [], _, h, _ => by simp [sLt, Op.bytesLess] at h
  | [], _ :: _, [], _, h => by simp [sLt, Op.bytesLess] at h
  | [], _ :: _, _ :: _, _, _ => rfl
  | _ :: _, [], _, h, _ => by simp [sLt, Op.bytesLess] at h
  | _ :: _, _ :: _, [], _, h => by simp [sLt, Op.bytesLess] at h
  | x :: a, y :: b, z :: c, h1, h2 => by
    simp only [sLt, Op.bytesLess, Bool.or_eq_true, decide_eq_true_eq, Bool.and_eq_true, beq_iff_eq] at h1 h2 ⊢
    rcases h1 with h1 | ⟨rfl, h1⟩
    · rcases h2 with h2 | ⟨rfl, _⟩
      · exact .inl (UInt8.lt_trans h1 h2)
      · exact .inl h1
    · rcases h2 with h2 | ⟨rfl, h2⟩
      · exact .inl h2
      · exact .inr ⟨rfl, sLt_trans h1 h2⟩
theorem sLt_irrefl (a : List UInt8) : sLt a a = false := by
  have := sLt_compl a a
  simpa using this
/-- an entry as required -/
def entV (e : Ent) : Bool := decide (1 ≤ (e.Key.length : Int) ∧ (e.Key.length : Int) ≤ 10) && (decide (0 ≤ e.Seq ∧ e.Seq ≤ 1000000) && (decide ((e.Val.length : Int) ≤ 16) && (!e.Del || decide (e.Val = []))))
/-- one entry ahead of another -/
def entLt (a b : Ent) : Bool := sLt a.Key b.Key || (decide (a.Key = b.Key) && decide (a.Seq > b.Seq))
/-- the entry at a place, and the one ahead of it -/
def entP (l : List Ent) (k : Nat) : Bool := match l[k]? with
  | some e => entV e && (match k with | 0 => true | j + 1 => match l[j]? with | some d => entLt d e | none => true)
  | none => true
theorem entP_at (l : List Ent) (k : Nat) (h : k < l.length) : entP l k = (entV l[k] && (if h0 : 0 < k then entLt (l[k - 1]'(by omega)) l[k] else true)) := by
  unfold entP
  rw [List.getElem?_eq_getElem h]
  cases k with
  | zero => rfl
  | succ j =>
    simp only [Nat.zero_lt_succ, dif_pos, Nat.add_sub_cancel]
    rw [List.getElem?_eq_getElem (by omega)]
/-- entries in order -/
def entsV (l : List Ent) : Bool := (List.range l.length).all (entP l)
theorem spec_l9Ent_eq (e : Ent) : spec_l9Ent e = some (entV e) := by
  unfold spec_l9Ent spec_l7Op entV
  simp only [l1In_eq, Option.bind_some]
  by_cases h1 : 1 ≤ (e.Key.length : Int) ∧ (e.Key.length : Int) ≤ 10 <;> by_cases h2 : 0 ≤ e.Seq ∧ e.Seq ≤ 1000000 <;> by_cases h3 : (e.Val.length : Int) ≤ 16 <;> cases h4 : e.Del <;>
    simp only [h1, h2, h3, and_self, decide_true, decide_false, if_true, if_false, Option.bind_some, Bool.true_and, Bool.false_and, Bool.not_true, Bool.not_false, Bool.false_eq_true, Bool.true_or, Bool.false_or, Bool.and_true, Bool.and_false] <;> cases decide (e.Val = []) <;> rfl
theorem entOk_eq (e : Ent) : impl_entOk e = some (entV e) := by
  unfold impl_entOk impl_isKey impl_isNumber impl_isVal entV
  simp only [inRange_eq, Option.bind_some]
  by_cases h1 : 1 ≤ (e.Key.length : Int) ∧ (e.Key.length : Int) ≤ 10 <;> by_cases h2 : 0 ≤ e.Seq ∧ e.Seq ≤ 1000000 <;> by_cases h3 : (e.Val.length : Int) ≤ 16 <;> cases h4 : e.Del <;>
    simp only [h1, h2, h3, and_self, decide_true, decide_false, if_true, if_false, Option.bind_some, Bool.true_and, Bool.false_and, Bool.not_true, Bool.not_false, Bool.false_eq_true, Bool.true_or, Bool.false_or, Bool.and_true, Bool.and_false, Bool.not_not] <;> cases decide (e.Val = []) <;> rfl
theorem spec_l9Ahead_eq (a b : Ent) : spec_l9Ahead a b = some (entLt a b) := by
  unfold spec_l9Ahead entLt
  cases sLt a.Key b.Key <;> by_cases h : a.Key = b.Key <;> simp [h]
theorem cmpOr_eq (x y : Int) : cmp_Or_26527 [x, y] = some (if x ≠ 0 then x else y) := by
  unfold cmp_Or_26527
  by_cases hx : x = 0
  · by_cases hy : y = 0
    · rw [loopO_count (fun k => (k : Int)) 2 (r := Ctl.go ()) ?h0]
      case h0 => rfl
      · simp [hx, hy]
      · intro k hk
        have : k = 0 ∨ k = 1 := by omega
        rcases this with rfl | rfl
        · simp [idx, hx]; rfl
        · simp [idx, hy]; rfl
      · rfl
    · rw [loopO_eq]
      simp only [idx, hx]
      simp
      rw [loopO_eq]
      have : IntKind.i64.wrap 1 = 1 := by decide
      simp [this, hy]
  · rw [loopO_eq]
    simp [idx, hx]
theorem compareEnts_eq (a b : Ent) : ∃ r, impl_compareEnts a b = some r ∧ decide (r ≥ 0) = !entLt a b := by
  unfold impl_compareEnts entLt
  rw [cmpS_eq, cmpI_eq]
  simp only [Option.bind_some, cmpOr_eq]
  refine ⟨_, rfl, ?_⟩
  by_cases c : sLt a.Key b.Key = true
  · simp [c]
  · have c' : sLt a.Key b.Key = false := by simpa using c
    rw [if_neg c, c']
    by_cases c2 : a.Key = b.Key
    · rw [decide_eq_true c2]
      by_cases c3 : b.Seq < a.Seq
      · simp [c3]
      · by_cases c4 : b.Seq > a.Seq <;> simp [c3, c4]
    · rw [decide_eq_false c2]
      rfl
theorem all_loop' {body : Int → Option (Ctl Int (Ctl Unit Bool))} (pass : Nat → Bool) (n : Nat) (h : ∀ k, k < n → body (k : Int) = some (if pass k = true then .go ((k : Int) + 1) else .done (.done false))) (hn : body (n : Int) = some (.done (.go ()))) :
    bindC (loopO body 0) (fun (_ : Unit) => some true) = some ((List.range n).all pass) := by
  rw [all_loop pass n h hn]
  cases (List.range n).all pass <;> rfl
theorem spec_l9Ents_eq (l : List Ent) (h : l.length ≤ 1048576) : spec_l9Ents l = some (entsV l) := by
  unfold spec_l9Ents entsV
  refine all_loop' (entP l) l.length ?_ (by simp)
  intro k hk
  simp only [idx_nat l k hk, Option.bind_some, spec_l9Ent_eq]
  rw [if_pos (by simpa using hk), wrap_ok (n := (k : Int) + 1) (by omega) (by omega), entP_at l k hk]
  cases hf : entV l[k] with
  | false => simp
  | true =>
    by_cases h0 : 0 < k
    · have hw : IntKind.i64.wrap ((k : Int) - 1) = ((k - 1 : Nat) : Int) := by rw [wrap_ok (by omega) (by omega)]; omega
      rw [dif_pos h0, if_neg (by simp), if_pos (by simp; omega)]
      simp only [hw, idx_nat l (k - 1) (by omega), Option.bind_some, spec_l9Ahead_eq]
      cases entLt (l[k - 1]'(by omega)) l[k] <;> simp
    · have hk0 : k = 0 := by omega
      subst hk0
      simp
theorem impl_inOrder_eq (l : List Ent) (h : l.length ≤ 1048576) : impl_inOrder l = some (entsV l) := by
  unfold impl_inOrder entsV
  refine all_loop' (entP l) l.length ?_ (by simp)
  intro k hk
  simp only [idx_nat l k hk, Option.bind_some, entOk_eq]
  rw [if_pos (by simpa using hk), wrap_ok (n := (k : Int) + 1) (by omega) (by omega), entP_at l k hk]
  cases hf : entV l[k] with
  | false => simp
  | true =>
    by_cases h0 : 0 < k
    · have hw : IntKind.i64.wrap ((k : Int) - 1) = ((k - 1 : Nat) : Int) := by rw [wrap_ok (by omega) (by omega)]; omega
      obtain ⟨c, hc, hc2⟩ := compareEnts_eq (l[k - 1]'(by omega)) l[k]
      rw [dif_pos h0, if_neg (by simp), if_pos (by simp; omega)]
      simp only [hw, idx_nat l (k - 1) (by omega), Option.bind_some, hc, hc2]
      cases entLt (l[k - 1]'(by omega)) l[k] <;> simp
    · have hk0 : k = 0 := by omega
      subst hk0
      simp
/-- of two entries in order: the key is less, or the same and newer -/
theorem ents_lt {l : List Ent} (hv : entsV l = true) : ∀ (j : Nat) (hj : j < l.length) (i : Nat) (hi : i < j), sLt (l[i]'(by omega)).Key l[j].Key = true ∨ ((l[i]'(by omega)).Key = l[j].Key ∧ (l[i]'(by omega)).Seq > l[j].Seq) := by
  intro j
  induction j with
  | zero => intro _ i hi; omega
  | succ j ih =>
    intro hj i hi
    have hp : entLt (l[j]'(by omega)) l[j + 1] = true := by
      unfold entsV at hv
      rw [List.all_eq_true] at hv
      have := hv (j + 1) (by simp; omega)
      rw [entP_at l (j + 1) hj, dif_pos (by omega), Bool.and_eq_true] at this
      exact this.2
    unfold entLt at hp
    simp only [Bool.or_eq_true, Bool.and_eq_true, decide_eq_true_eq] at hp
    by_cases e : i = j
    · subst e; exact hp
    · rcases ih (by omega) i (by omega) with h1 | ⟨h1, h2⟩
      · rcases hp with h3 | ⟨h3, _⟩
        · exact .inl (sLt_trans h1 h3)
        · rw [← h3]; exact .inl h1
      · rcases hp with h3 | ⟨h3, h4⟩
        · rw [h1]; exact .inl h3
        · exact .inr ⟨h1.trans h3, by omega⟩
/-- visible at a number: no newer one of its key is -/
def visE (l : List Ent) (seq : Int) (k : Nat) : Bool := match l[k]? with
  | some e => decide (e.Seq ≤ seq) && (l.take k).all fun d => !(decide (d.Key = e.Key) && decide (d.Seq ≤ seq))
  | none => false
theorem visE_at (l : List Ent) (seq : Int) (k : Nat) (h : k < l.length) : visE l seq k = (decide (l[k].Seq ≤ seq) && (l.take k).all fun d => !(decide (d.Key = l[k].Key) && decide (d.Seq ≤ seq))) := by
  unfold visE; rw [List.getElem?_eq_getElem h]
/-- what a number sees, of the first k entries -/
def visL (l : List Ent) (seq : Int) : Nat → List KV
  | 0 => []
  | k + 1 => visL l seq k ++ (match l[k]? with | some e => if visE l seq k = true ∧ e.Del = false then [{ Key := e.Key, Val := e.Val }] else [] | none => [])
theorem visL_succ (l : List Ent) (seq : Int) (k : Nat) (h : k < l.length) : visL l seq (k + 1) = visL l seq k ++ if visE l seq k = true ∧ l[k].Del = false then [{ Key := l[k].Key, Val := l[k].Val }] else [] := by
  show visL l seq k ++ (match l[k]? with | some e => _ | none => _) = _
  rw [List.getElem?_eq_getElem h]
theorem visL_len (l : List Ent) (seq : Int) : ∀ k, k ≤ l.length → (visL l seq k).length ≤ k := by
  intro k
  induction k with
  | zero => intro _; simp [visL]
  | succ k ih =>
    intro h
    have := ih (by omega)
    rw [visL_succ l seq k (by omega), List.length_append]
    split
    · simp only [List.length_cons, List.length_nil]; omega
    · simp only [List.length_nil]; omega
theorem spec_l9Get_eq (l : List Ent) (key : List UInt8) (seq : Int) (h : l.length ≤ 1048576) :
    spec_l9Get l key seq = some (match l.find? (fun d => decide (d.Key = key) && decide (d.Seq ≤ seq)) with | some d => (d, true) | none => ({ Key := [], Seq := 0, Del := false, Val := [] }, false)) := by
  unfold spec_l9Get
  rw [loopO_is (fun k s => s = (k : Int) ∧ l.find? (fun d => decide (d.Key = key) && decide (d.Seq ≤ seq)) = (l.drop k).find? (fun d => decide (d.Key = key) && decide (d.Seq ≤ seq))) l.length
    (match l.find? (fun d => decide (d.Key = key) && decide (d.Seq ≤ seq)) with | some d => Ctl.done (d, true) | none => Ctl.go ()) ?h0 ?h1 ?h2]
  · cases l.find? (fun d => decide (d.Key = key) && decide (d.Seq ≤ seq)) <;> rfl
  case h0 => exact ⟨rfl, rfl⟩
  · rintro k s hk ⟨rfl, he⟩
    rw [he, List.drop_eq_getElem_cons hk]
    simp only [idx_nat l k hk, Option.bind_some]
    rw [if_pos (by simpa using hk), wrap_ok (n := (k : Int) + 1) (by omega) (by omega)]
    by_cases h1 : l[k].Key = key
    · by_cases h2 : l[k].Seq ≤ seq
      · right
        rw [List.find?_cons_of_pos (by simp [h1, h2])]
        simp [h1, h2]
      · left
        refine ⟨(k : Int) + 1, by simp [h1, h2], by omega, ?_⟩
        rw [List.find?_cons_of_neg (by simp [h2])]
    · left
      refine ⟨(k : Int) + 1, by simp [h1], by omega, ?_⟩
      rw [List.find?_cons_of_neg (by simp [h1])]
  · rintro s ⟨rfl, he⟩
    rw [he, List.drop_length]
    simp
theorem visE_find {l : List Ent} {seq : Int} {k : Nat} (hk : k < l.length) (hv : visE l seq k = true) : l.find? (fun d => decide (d.Key = l[k].Key) && decide (d.Seq ≤ seq)) = some l[k] := by
  rw [visE_at l seq k hk, Bool.and_eq_true, List.all_eq_true] at hv
  have hs : l = l.take k ++ l[k] :: l.drop (k + 1) := by rw [← List.drop_eq_getElem_cons hk, List.take_append_drop]
  have hn : (l.take k).find? (fun d => decide (d.Key = l[k].Key) && decide (d.Seq ≤ seq)) = none := by
    rw [List.find?_eq_none]
    intro d hd
    intro hq
    have := hv.2 d hd
    rw [hq] at this
    cases this
  generalize hx : l[k] = x at *
  rw [hs, List.find?_append, hn, List.find?_cons_of_pos (by simpa using hv.1)]
  rfl
theorem visE_not {l : List Ent} {seq : Int} {k : Nat} (ho : entsV l = true) (hk : k < l.length) (hv : visE l seq k = false) :
    ∀ d, l.find? (fun d => decide (d.Key = l[k].Key) && decide (d.Seq ≤ seq)) = some d → ¬ d.Seq = l[k].Seq := by
  intro d hd he
  have hp := List.find?_some hd
  simp only [Bool.and_eq_true, decide_eq_true_eq] at hp
  rw [visE_at l seq k hk, decide_eq_true (by omega), Bool.true_and] at hv
  have hex : ∃ e ∈ l.take k, e.Key = l[k].Key ∧ e.Seq ≤ seq := by
    rw [← Bool.not_eq_true, List.all_eq_true] at hv
    simp only [Classical.not_forall] at hv
    obtain ⟨e, he, h2⟩ := hv
    exact ⟨e, he, by simpa using h2⟩
  obtain ⟨e, hem, hek⟩ := hex
  have hsome : ∃ f, (l.take k).find? (fun d => decide (d.Key = l[k].Key) && decide (d.Seq ≤ seq)) = some f := by
    cases hf : (l.take k).find? (fun d => decide (d.Key = l[k].Key) && decide (d.Seq ≤ seq)) with
    | some f => exact ⟨f, rfl⟩
    | none =>
      rw [List.find?_eq_none] at hf
      exact absurd (by simp [hek.1, hek.2]) (hf e hem)
  obtain ⟨f, hf⟩ := hsome
  have hfd : f = d := by
    have hs : l = l.take k ++ l.drop k := (List.take_append_drop k l).symm
    generalize hx : l[k] = x at *
    rw [hs, List.find?_append, hf] at hd
    simpa using hd
  subst hfd
  obtain ⟨i, hi, rfl⟩ := List.getElem_of_mem (List.mem_of_find?_eq_some hf)
  have hi' : i < k := by simp at hi; omega
  simp only [List.getElem_take] at he hp
  rcases ents_lt ho k hk i hi' with h1 | ⟨_, h1⟩
  · rw [hp.1, sLt_irrefl] at h1; cases h1
  · omega
/-- the key seen last, of the first k entries -/
def lastS (l : List Ent) (seq : Int) : Nat → List UInt8 × Bool
  | 0 => ([], false)
  | k + 1 => match l[k]? with | some e => if visE l seq k = true then (e.Key, true) else lastS l seq k | none => lastS l seq k
theorem lastS_succ (l : List Ent) (seq : Int) (k : Nat) (h : k < l.length) : lastS l seq (k + 1) = if visE l seq k = true then (l[k].Key, true) else lastS l seq k := by
  show (match l[k]? with | some e => _ | none => _) = _
  rw [List.getElem?_eq_getElem h]
theorem lastS_spec (l : List Ent) (seq : Int) : ∀ k, k ≤ l.length → (lastS l seq k).2 = true ∧ (∃ i, ∃ h : i < l.length, i < k ∧ visE l seq i = true ∧ l[i].Key = (lastS l seq k).1 ∧ ∀ j, i < j → j < k → visE l seq j = false) ∨ (lastS l seq k).2 = false ∧ ∀ j, j < k → visE l seq j = false := by
  intro k
  induction k with
  | zero => intro _; exact .inr ⟨rfl, fun j hj => by omega⟩
  | succ k ih =>
    intro hk
    rw [lastS_succ l seq k (by omega)]
    cases hv : visE l seq k with
    | true => exact .inl ⟨rfl, k, by omega, by omega, hv, rfl, fun j h1 h2 => by omega⟩
    | false =>
      simp only [Bool.false_eq_true, if_false]
      have hx : ∀ j, j < k + 1 → (j < k → visE l seq j = false) → visE l seq j = false := by
        intro j hj hjk
        by_cases e : j = k
        · subst e; exact hv
        · exact hjk (by omega)
      rcases ih (by omega) with ⟨h1, i, hi, h2, h3, h4, h5⟩ | ⟨h1, h2⟩
      · exact .inl ⟨h1, i, hi, by omega, h3, h4, fun j h6 h7 => hx j h7 (h5 j h6)⟩
      · exact .inr ⟨h1, fun j hj => hx j hj (h2 j)⟩
theorem visE_first (l : List Ent) (seq : Int) : ∀ (n j : Nat) (hn : j ≤ n) (hj : j < l.length), l[j].Seq ≤ seq → ∃ i, ∃ h : i < l.length, i ≤ j ∧ visE l seq i = true ∧ l[i].Key = l[j].Key := by
  intro n
  induction n with
  | zero =>
    intro j hn hj hs
    obtain rfl : j = 0 := by omega
    exact ⟨0, hj, Nat.le_refl _, by rw [visE_at l seq 0 hj]; simp [hs], rfl⟩
  | succ n ih =>
    intro j hn hj hs
    cases hv : visE l seq j with
    | true => exact ⟨j, hj, Nat.le_refl _, hv, rfl⟩
    | false =>
      rw [visE_at l seq j hj, decide_eq_true hs, Bool.true_and, ← Bool.not_eq_true, List.all_eq_true] at hv
      simp only [Classical.not_forall] at hv
      obtain ⟨e, he, h2⟩ := hv
      obtain ⟨i, hi, rfl⟩ := List.getElem_of_mem he
      have hij : i < j := by simp at hi; omega
      simp only [List.getElem_take] at h2
      have h3 : (l[i]'(by omega)).Key = l[j].Key ∧ (l[i]'(by omega)).Seq ≤ seq := by simpa using h2
      obtain ⟨q, hq, h4, h5, h6⟩ := ih i (by omega) (by omega) h3.2
      exact ⟨q, hq, by omega, h5, h6.trans h3.1⟩
theorem skip_iff {l : List Ent} {seq : Int} {k : Nat} (ho : entsV l = true) (hk : k < l.length) (hs : l[k].Seq ≤ seq) : visE l seq k = !((lastS l seq k).2 && decide (l[k].Key = (lastS l seq k).1)) := by
  rw [visE_at l seq k hk, decide_eq_true hs, Bool.true_and]
  rcases lastS_spec l seq k (by omega) with ⟨h1, i, hi, h2, h3, h4, h5⟩ | ⟨h1, h2⟩
  · rw [h1, Bool.true_and]
    by_cases hkey : l[k].Key = (lastS l seq k).1
    · rw [decide_eq_true hkey]
      show _ = false
      rw [← Bool.not_eq_true, List.all_eq_true]
      intro hall
      have hm : l[i] ∈ l.take k := by
        have : (l.take k)[i]'(by simp; omega) = l[i] := by simp
        rw [← this]; exact List.getElem_mem _
      have := hall _ hm
      rw [visE_at l seq i hi, Bool.and_eq_true] at h3
      simp [h4, hkey] at this
      have h6 := of_decide_eq_true h3.1
      omega
    · rw [decide_eq_false hkey, Bool.not_false, List.all_eq_true]
      intro d hd
      obtain ⟨j, hj, rfl⟩ := List.getElem_of_mem hd
      have hjk : j < k := by simp at hj; omega
      simp only [List.getElem_take]
      cases hb : (decide ((l[j]'(by omega)).Key = l[k].Key) && decide ((l[j]'(by omega)).Seq ≤ seq)) with
      | false => rfl
      | true =>
        exfalso
        simp only [Bool.and_eq_true, decide_eq_true_eq] at hb
        obtain ⟨q, hq, h6, h7, h8⟩ := visE_first l seq j j (Nat.le_refl _) (by omega) hb.2
        have hqi : q ≤ i := by
          rcases Nat.lt_or_ge i q with h | h
          · have := h5 q h (by omega); rw [h7] at this; cases this
          · exact h
        have hqk : l[q].Key = l[k].Key := h8.trans hb.1
        refine hkey ?_
        rw [← h4]
        by_cases e : q = i
        · subst e; exact hqk.symm
        · rcases ents_lt ho i hi q (by omega) with h9 | ⟨h9, _⟩
          · rcases ents_lt ho k hk i h2 with h10 | ⟨h10, _⟩
            · have := sLt_trans h9 h10
              rw [hqk, sLt_irrefl] at this; cases this
            · exact h10.symm
          · exact hqk.symm.trans h9
  · rw [h1, Bool.false_and, Bool.not_false, List.all_eq_true]
    intro d hd
    obtain ⟨j, hj, rfl⟩ := List.getElem_of_mem hd
    have hjk : j < k := by simp at hj; omega
    simp only [List.getElem_take]
    cases hb : (decide ((l[j]'(by omega)).Key = l[k].Key) && decide ((l[j]'(by omega)).Seq ≤ seq)) with
    | false => rfl
    | true =>
      exfalso
      simp only [Bool.and_eq_true, decide_eq_true_eq] at hb
      obtain ⟨q, hq, h6, h7, h8⟩ := visE_first l seq j j (Nat.le_refl _) (by omega) hb.2
      have := h2 q (by omega)
      rw [h7] at this; cases this
theorem impl_visible_eq (l : List Ent) (seq : Int) (ho : entsV l = true) (h : l.length ≤ 1048576) : impl_visible l seq = some (visL l seq l.length) := by
  unfold impl_visible
  rw [loopO_count (fun k => ((lastS l seq k).1, (lastS l seq k).2, (k : Int), visL l seq k)) l.length (r := Ctl.go (visL l seq l.length)) ?h0]
  case h0 => rfl
  · rfl
  · intro k hk
    have hlen := visL_len l seq k (by omega)
    simp only [idx_nat l k hk, Option.bind_some, visL_succ l seq k hk, lastS_succ l seq k hk]
    rw [if_pos (by simpa using hk), wrap_ok (n := (k : Int) + 1) (by omega) (by omega)]
    by_cases hs : l[k].Seq ≤ seq
    · have hsk := skip_iff ho hk hs
      generalize lastS l seq k = ls at hsk ⊢
      obtain ⟨last, seen⟩ := ls
      simp only at hsk ⊢
      rw [decide_eq_false (by omega : ¬ l[k].Seq > seq)]
      simp only [Bool.false_eq_true, if_false]
      cases seen with
      | false =>
        rw [Bool.false_and, Bool.not_false] at hsk
        rw [hsk]
        cases hd : l[k].Del with
        | true => simp
        | false =>
          simp only [Bool.false_eq_true, if_false, if_true, Option.bind_some, Bool.not_false, and_self]
          rw [app_ok (by simp; omega) (by simp; omega)]
          simp
      | true =>
        rw [Bool.true_and] at hsk
        by_cases hkey : l[k].Key = last
        · rw [decide_eq_true hkey] at hsk
          rw [hsk, decide_eq_true hkey]
          simp
        · rw [decide_eq_false hkey] at hsk
          rw [hsk, decide_eq_false hkey]
          cases hd : l[k].Del with
          | true => simp
          | false =>
            simp only [Bool.false_eq_true, if_false, if_true, Option.bind_some, Bool.not_false, and_self]
            rw [app_ok (by simp; omega) (by simp; omega)]
            simp
    · have hv : visE l seq k = false := by rw [visE_at l seq k hk, decide_eq_false hs, Bool.false_and]
      rw [hv, decide_eq_true (by omega : l[k].Seq > seq)]
      simp
  · simp

/-- what each snapshot sees, and what is seen now -/
def seenV (l : List Ent) (snaps : List Int) : List (List KV) := snaps.map (fun s => visL l s l.length) ++ [visL l 1000000 l.length]
theorem impl_SeenAt_eq (l : List Ent) (snaps : List Int) (h : l.length ≤ 1048576) (h2 : snaps.length ≤ 1048576) : impl_SeenAt l snaps = some (if l.length ≤ 400 ∧ entsV l = true then seenV l snaps else []) := by
  unfold impl_SeenAt
  by_cases h4 : l.length ≤ 400
  · rw [decide_eq_false (by omega : ¬ ((l.length : Nat) : Int) > 400)]
    simp only [Bool.false_eq_true, if_false, impl_inOrder_eq l h, Option.bind_some]
    cases ho : entsV l with
    | false => simp
    | true =>
      rw [show ((if l.length ≤ 400 ∧ true = true then seenV l snaps else []) : List (List KV)) = seenV l snaps from if_pos ⟨h4, rfl⟩]
      simp only [Bool.not_true, Bool.false_eq_true, if_false, impl_visible_eq l _ ho h, Option.bind_some]
      rw [loopO_count (fun k => ((k : Int), (snaps.take k).map (fun s => visL l s l.length))) snaps.length (r := Ctl.go (snaps.map (fun s => visL l s l.length))) ?h0]
      case h0 => simp
      · simp only [bindC_go]
        rw [app_ok (by simp; omega) (by simp; omega)]
        rfl
      · intro k hk
        simp only [idx_nat snaps k hk, Option.bind_some]
        rw [if_pos (by simpa using hk), wrap_ok (n := (k : Int) + 1) (by omega) (by omega), app_ok (by simp; omega) (by simp; omega)]
        have ht : snaps.take (k + 1) = snaps.take k ++ [snaps[k]] := by rw [List.take_add_one, List.getElem?_eq_getElem hk]; rfl
        rw [ht, List.map_append]
        rfl
      · simp
  · rw [decide_eq_true (by omega : ((l.length : Nat) : Int) > 400), show ((if l.length ≤ 400 ∧ entsV l = true then seenV l snaps else []) : List (List KV)) = [] from if_neg (fun q => h4 q.1)]
    rfl
/-- the least and the greatest number -/
def rangeV (l : List Ent) : Int × Int := l.foldl (fun s e => (goMin s.1 e.Seq, goMax s.2 e.Seq)) (1000001, -1)
theorem rangeV_take (l : List Ent) (k : Nat) (h : k < l.length) : rangeV (l.take (k + 1)) = (goMin (rangeV (l.take k)).1 l[k].Seq, goMax (rangeV (l.take k)).2 l[k].Seq) := by
  unfold rangeV
  rw [show l.take (k + 1) = l.take k ++ [l[k]] by rw [List.take_add_one, List.getElem?_eq_getElem h]; rfl, List.foldl_append]
  rfl
/-- at most so many entries, in order -/
def memV (l : List Ent) : Bool := decide (l.length ≤ 60) && entsV l
theorem spec_MemOk_eq (l : List Ent) (h : l.length ≤ 1048576) : spec_MemOk l = some (memV l) := by
  unfold spec_MemOk memV
  simp only [spec_l9Ents_eq l h, Option.bind_some]
  by_cases c : l.length ≤ 60
  · simp [c]; omega
  · simp [c]; omega
/-- tables below a number, each below the one ahead of it -/
def tabsV (seq : Int) : Int → List (List Ent) → Bool
  | _, [] => true
  | low, t :: r => (decide (t ≠ []) && (entsV t && (decide ((rangeV t).2 < low) && decide ((rangeV t).2 ≤ seq)))) && tabsV seq (rangeV t).1 r
/-- snapshots in order -/
def snapP (seq : Int) (l : List Int) (k : Nat) : Bool := match l[k]? with
  | some s => decide (0 ≤ s ∧ s ≤ seq) && (match k with | 0 => true | j + 1 => match l[j]? with | some d => decide (d < s) | none => true)
  | none => true
theorem snapP_at (seq : Int) (l : List Int) (k : Nat) (h : k < l.length) : snapP seq l k = (decide (0 ≤ l[k] ∧ l[k] ≤ seq) && (if h0 : 0 < k then decide (l[k - 1]'(by omega) < l[k]) else true)) := by
  unfold snapP
  rw [List.getElem?_eq_getElem h]
  cases k with
  | zero => rfl
  | succ j =>
    simp only [Nat.zero_lt_succ, dif_pos, Nat.add_sub_cancel]
    rw [List.getElem?_eq_getElem (by omega)]
def snapsV (seq : Int) (l : List Int) : Bool := (List.range l.length).all (snapP seq l)
def totalV (l : List (List Ent)) : Nat := (l.map List.length).sum
theorem total_take (l : List (List Ent)) (k : Nat) (h : k < l.length) : totalV (l.take (k + 1)) = totalV (l.take k) + l[k].length := by
  unfold totalV
  rw [show l.take (k + 1) = l.take k ++ [l[k]] by rw [List.take_add_one, List.getElem?_eq_getElem h]; rfl, List.map_append, List.sum_append]
  simp
theorem total_le (l : List (List Ent)) (k : Nat) : totalV (l.take k) ≤ totalV l := by
  unfold totalV
  conv => rhs; rw [← List.take_append_drop k l]
  rw [List.map_append, List.sum_append]
  omega
theorem totalV_le (l : List (List Ent)) (n : Nat) (h : wS (fun t => wS wgt_Ent t) l ≤ n) : totalV l ≤ n := by
  have key : ∀ l : List (List Ent), totalV l ≤ (l.map fun t => wS wgt_Ent t).sum := by
    intro l
    induction l with
    | nil => exact Nat.le_refl _
    | cons t r ih =>
      have h2 : t.length ≤ wS wgt_Ent t := Nat.le_add_right _ _
      unfold totalV at ih ⊢
      simp only [List.map_cons, List.sum_cons]
      omega
  have := key l
  have h' : l.length + (l.map fun t => wS wgt_Ent t).sum ≤ n := h
  omega
theorem snaps_at {seq : Int} {l : List Int} (hv : snapsV seq l = true) (k : Nat) (hk : k < l.length) : (0 ≤ l[k] ∧ l[k] ≤ seq) ∧ (0 < k → l[k - 1]'(by omega) < l[k]) := by
  unfold snapsV at hv
  rw [List.all_eq_true] at hv
  have := hv k (by simpa using hk)
  rw [snapP_at seq l k hk, Bool.and_eq_true] at this
  refine ⟨of_decide_eq_true this.1, fun h0 => ?_⟩
  have h2 := this.2
  rw [dif_pos h0] at h2
  exact of_decide_eq_true h2
theorem snaps_last {seq : Int} {l : List Int} (hv : snapsV seq l = true) (h0 : 0 < l.length) : (seq ∈ l) ↔ l[l.length - 1]'(by omega) = seq := by
  constructor
  · intro hm
    obtain ⟨i, hi, he⟩ := List.getElem_of_mem hm
    by_cases e : i = l.length - 1
    · subst e; exact he
    · have h1 := (snaps_at hv (i + 1) (by omega)).2 (by omega)
      have h2 := (snaps_at hv (i + 1) (by omega)).1
      simp only [Nat.add_sub_cancel] at h1
      omega
  · intro h
    rw [← h]
    exact List.getElem_mem _
theorem piece_nat {α : Type} (l : List α) (a b : Nat) (lo hi : Int) (h1 : lo = (a : Int)) (h2 : hi = (b : Int)) (h3 : a ≤ b) (h4 : b ≤ l.length) : piece l lo hi = some ((l.drop a).take (b - a)) := by
  subst h1 h2
  unfold piece
  rw [if_pos ⟨by omega, by omega, by omega⟩, Int.toNat_natCast, Int.toNat_natCast]
theorem filter_one {α : Type} (l : List α) (p : α → Bool) (j : Nat) (hj : j < l.length) (h1 : p l[j] = false) (h2 : ∀ i (h : i < l.length), i ≠ j → p l[i] = true) : l.filter p = l.take j ++ l.drop (j + 1) := by
  have hs : l = l.take j ++ l[j] :: l.drop (j + 1) := by rw [← List.drop_eq_getElem_cons hj, List.take_append_drop]
  have ha : (l.take j).filter p = l.take j := by
    rw [List.filter_eq_self]
    intro x hx
    obtain ⟨i, hi, rfl⟩ := List.getElem_of_mem hx
    have hi' : i < j := by simp at hi; omega
    simp only [List.getElem_take]
    exact h2 i (by omega) (by omega)
  have hb : (l.drop (j + 1)).filter p = l.drop (j + 1) := by
    rw [List.filter_eq_self]
    intro x hx
    obtain ⟨i, hi, rfl⟩ := List.getElem_of_mem hx
    have hi' : j + 1 + i < l.length := by simp at hi; omega
    simp only [List.getElem_drop]
    exact h2 (j + 1 + i) hi' (by omega)
  conv => lhs; rw [hs]
  rw [List.filter_append, List.filter_cons_of_neg (by simpa using h1), ha, hb]
theorem filter_take {α : Type} (p : α → Bool) (l : List α) (k : Nat) (h : k < l.length) : (l.take (k + 1)).filter p = (l.take k).filter p ++ if p l[k] = true then [l[k]] else [] := by
  rw [show l.take (k + 1) = l.take k ++ [l[k]] by rw [List.take_add_one, List.getElem?_eq_getElem h]; rfl, List.filter_append]
  congr 1
  by_cases c : p l[k] = true
  · rw [if_pos c, List.filter_cons_of_pos c]; rfl
  · rw [if_neg c, List.filter_cons_of_neg c]; rfl
theorem filter_len {α : Type} (p : α → Bool) (l : List α) (k : Nat) : ((l.take k).filter p).length ≤ k := Nat.le_trans (List.length_filter_le _ _) (by simp; omega)
theorem snaps_lt {seq : Int} {l : List Int} (hv : snapsV seq l = true) : ∀ (j : Nat) (hj : j < l.length) (i : Nat) (hi : i < j), l[i]'(by omega) < l[j] := by
  intro j
  induction j with
  | zero => intro _ i hi; omega
  | succ j ih =>
    intro hj i hi
    have h1 := (snaps_at hv (j + 1) hj).2 (by omega)
    simp only [Nat.add_sub_cancel] at h1
    by_cases e : i = j
    · subst e; exact h1
    · have := ih (by omega) i (by omega); omega
def dropS (l : List Int) (x : Int) : List Int := l.filter fun s => !decide (s = x)
theorem dropS_at {seq : Int} {l : List Int} (hv : snapsV seq l = true) (j : Nat) (hj : j < l.length) : dropS l l[j] = l.take j ++ l.drop (j + 1) := by
  unfold dropS
  refine filter_one l _ j hj (by simp) fun i hi hij => ?_
  have : ¬ l[i] = l[j] := by
    rcases Nat.lt_or_ge i j with h | h
    · have := snaps_lt hv j hj i h; omega
    · have := snaps_lt hv i hi j (by omega); omega
  simp [this]
theorem sLt_asymm {a b : List UInt8} (h : sLt a b = true) : sLt b a = false := by
  have := sLt_compl a b
  rw [h] at this
  simp only [Bool.not_true, Bool.or_eq_false_iff] at this
  exact this.1
theorem sLt_same {a b : List UInt8} (h1 : sLt a b = false) (h2 : sLt b a = false) : a = b := by
  have := sLt_compl a b
  rw [h1, h2] at this
  have h : decide (b = a) = true := by simpa using this
  exact (of_decide_eq_true h).symm
theorem any_loop {α : Type} {body : Int → Option (Ctl Int (Ctl Unit Bool))} (l : List α) (p : α → Bool) (h : ∀ k (hk : k < l.length), body (k : Int) = some (if p l[k] = true then .done (.done true) else .go ((k : Int) + 1))) (hn : body (l.length : Int) = some (.done (.go ()))) :
    bindC (loopO body 0) (fun (_ : Unit) => some false) = some (l.any p) := by
  rw [loopO_is (fun k s => s = (k : Int) ∧ l.any p = (l.drop k).any p) l.length (if l.any p = true then Ctl.done true else Ctl.go ()) ?h0 ?h1 ?h2]
  · cases l.any p <;> rfl
  case h0 => exact ⟨rfl, rfl⟩
  · rintro k s hk ⟨rfl, he⟩
    rw [h k hk, he, List.drop_eq_getElem_cons hk, List.any_cons]
    cases hp : p l[k] with
    | true => right; rfl
    | false =>
      left
      refine ⟨(k : Int) + 1, rfl, by omega, ?_⟩
      rw [Bool.false_or]
  · rintro s ⟨rfl, he⟩
    rw [he, List.drop_length, hn]
    rfl
/-- the entry at a place stays -/
def stayV (snaps : List Int) (l : List Ent) : Nat → Bool
  | 0 => true
  | j + 1 => match l[j]?, l[j + 1]? with
    | some d, some e => !decide (d.Key = e.Key) || snaps.any (fun s => decide (e.Seq ≤ s) && decide (s < d.Seq))
    | _, _ => false
theorem stayV_succ (snaps : List Int) (l : List Ent) (j : Nat) (h : j + 1 < l.length) : stayV snaps l (j + 1) = (!decide ((l[j]'(by omega)).Key = l[j + 1].Key) || snaps.any (fun s => decide (l[j + 1].Seq ≤ s) && decide (s < (l[j]'(by omega)).Seq))) := by
  show (match l[j]?, l[j + 1]? with | some d, some e => _ | _, _ => false) = _
  rw [List.getElem?_eq_getElem h, List.getElem?_eq_getElem (by omega : j < l.length)]
theorem isSeen_eq (l : List Ent) (snaps : List Int) (k : Nat) (hk : k < l.length) (h : l.length ≤ 1048576) (hs : snaps.length ≤ 1048576) : impl_isSeen l (k : Int) snaps = some (stayV snaps l k) := by
  unfold impl_isSeen
  cases k with
  | zero => rfl
  | succ j =>
    have hw : IntKind.i64.wrap (((j + 1 : Nat) : Int) - 1) = (j : Int) := by rw [wrap_ok (by omega) (by omega)]; omega
    rw [if_neg (by simp; omega), hw, idx_nat l j (by omega), idx_nat l (j + 1) hk, stayV_succ snaps l j hk]
    simp only [Option.bind_some]
    by_cases c : (l[j]'(by omega)).Key = l[j + 1].Key
    · rw [decide_eq_true c]
      simp only [Bool.not_true, Bool.false_eq_true, if_false, Bool.false_or]
      refine any_loop snaps _ ?_ (by simp)
      intro m hm
      simp only [idx_nat snaps m hm, Option.bind_some]
      rw [if_pos (by simpa using hm), wrap_ok (n := (m : Int) + 1) (by omega) (by omega)]
      by_cases c1 : l[j + 1].Seq ≤ snaps[m]
      · by_cases c2 : snaps[m] < (l[j]'(by omega)).Seq <;> simp [c1, c2]
      · simp [c1]
    · rw [decide_eq_false c]
      rfl
/-- those that stay, of n from a on -/
def keepT (snaps : List Int) (l : List Ent) (a : Nat) : Nat → List Ent
  | 0 => []
  | n + 1 => keepT snaps l a n ++ (if stayV snaps l (a + n) = true then l[a + n]?.toList else [])
theorem keepT_succ (snaps : List Int) (l : List Ent) (a n : Nat) (h : a + n < l.length) : keepT snaps l a (n + 1) = keepT snaps l a n ++ (if stayV snaps l (a + n) = true then [l[a + n]] else []) := by
  show keepT snaps l a n ++ (if stayV snaps l (a + n) = true then l[a + n]?.toList else []) = _
  rw [List.getElem?_eq_getElem h]
  rfl
theorem keepT_len (snaps : List Int) (l : List Ent) (a : Nat) : ∀ n, (keepT snaps l a n).length ≤ n := by
  intro n
  induction n with
  | zero => simp [keepT]
  | succ n ih =>
    show (keepT snaps l a n ++ (if stayV snaps l (a + n) = true then l[a + n]?.toList else [])).length ≤ n + 1
    rw [List.length_append]
    split
    · cases l[a + n]? <;> simp <;> omega
    · simp; omega
theorem keepT_add (snaps : List Int) (l : List Ent) (a n : Nat) : ∀ m, keepT snaps l a (n + m) = keepT snaps l a n ++ keepT snaps l (a + n) m := by
  intro m
  induction m with
  | zero => simp [keepT]
  | succ m ih =>
    show keepT snaps l a (n + m) ++ (if stayV snaps l (a + (n + m)) = true then l[a + (n + m)]?.toList else []) = keepT snaps l a n ++ (keepT snaps l (a + n) m ++ (if stayV snaps l (a + n + m) = true then l[a + n + m]?.toList else []))
    rw [ih, Nat.add_assoc a n m, List.append_assoc]
theorem keepT_mem (snaps : List Int) (l : List Ent) (a : Nat) : ∀ n, ∀ x ∈ keepT snaps l a n, ∃ i, i < n ∧ ∃ h : a + i < l.length, x = l[a + i] := by
  intro n
  induction n with
  | zero => intro x hx; simp [keepT] at hx
  | succ n ih =>
    intro x hx
    have hx' : x ∈ keepT snaps l a n ++ (if stayV snaps l (a + n) = true then l[a + n]?.toList else []) := hx
    rcases List.mem_append.1 hx' with h | h
    · obtain ⟨i, hi, h2, h3⟩ := ih x h
      exact ⟨i, by omega, h2, h3⟩
    · by_cases hl : a + n < l.length
      · rw [List.getElem?_eq_getElem hl] at h
        split at h
        · exact ⟨n, by omega, hl, by simpa using h⟩
        · simp at h
      · rw [List.getElem?_eq_none (by omega)] at h
        simp at h
def sameK (e : Ent) : List Ent → Bool
  | y :: _ => decide (e.Key = y.Key)
  | [] => false
/-- without the deletions at each key's end; whether something newer is needed -/
def tid : List Ent → Bool × List Ent
  | [] => (false, [])
  | e :: t => bif (((tid t).1 && sameK e t) || !e.Del) then (true, e :: (tid t).2) else (false, (tid t).2)
theorem tid_cons (e : Ent) (t : List Ent) : tid (e :: t) = bif (((tid t).1 && sameK e t) || !e.Del) then (true, e :: (tid t).2) else (false, (tid t).2) := rfl
theorem tid_len : ∀ l : List Ent, (tid l).2.length ≤ l.length := by
  intro l
  induction l with
  | nil => simp [tid]
  | cons e t ih =>
    rw [tid_cons]
    cases (((tid t).1 && sameK e t) || !e.Del)
    · simp; omega
    · simp; omega
theorem tid_append : ∀ (A B : List Ent), (∀ x ∈ A, ∀ y ∈ B, x.Key ≠ y.Key) → (tid (A ++ B)).2 = (tid A).2 ++ (tid B).2 ∧ (A ≠ [] → (tid (A ++ B)).1 = (tid A).1) := by
  intro A
  induction A with
  | nil => intro B _; exact ⟨by simp [tid], fun h => absurd rfl h⟩
  | cons e t ih =>
    intro B hd
    obtain ⟨h1, h2⟩ := ih B fun x hx y hy => hd x (.tail _ hx) y hy
    have hc : ((tid (t ++ B)).1 && sameK e (t ++ B)) = ((tid t).1 && sameK e t) := by
      cases t with
      | nil =>
        cases B with
        | nil => rfl
        | cons y B =>
          have : sameK e ([] ++ y :: B) = false := decide_eq_false (hd e (.head _) y (.head _))
          rw [this, Bool.and_false, show sameK e [] = false from rfl, Bool.and_false]
      | cons z t =>
        rw [h2 (by simp)]
        rfl
    show (tid (e :: (t ++ B))).2 = (tid (e :: t)).2 ++ (tid B).2 ∧ (_ → (tid (e :: (t ++ B))).1 = (tid (e :: t)).1)
    rw [tid_cons, tid_cons, hc, h1]
    cases (((tid t).1 && sameK e t) || !e.Del)
    · exact ⟨rfl, fun _ => rfl⟩
    · exact ⟨rfl, fun _ => rfl⟩
theorem tid_del (e : Ent) (hd : e.Del = true) : ∀ A : List Ent, (∀ x ∈ A, x.Key = e.Key) → tid (A ++ [e]) = tid A := by
  intro A
  induction A with
  | nil => intro _; simp [tid, sameK, hd]
  | cons x t ih =>
    intro hk
    have h1 := ih fun y hy => hk y (.tail _ hy)
    show tid (x :: (t ++ [e])) = tid (x :: t)
    have hc : ((tid (t ++ [e])).1 && sameK x (t ++ [e])) = ((tid t).1 && sameK x t) := by
      rw [h1]
      cases t with
      | nil => rfl
      | cons z t => rfl
    rw [tid_cons, hc, h1]
    rfl
theorem tid_keep (e : Ent) (hd : e.Del = false) : ∀ A : List Ent, (∀ x ∈ A, x.Key = e.Key) → tid (A ++ [e]) = (true, A ++ [e]) := by
  intro A
  induction A with
  | nil => intro _; simp [tid, sameK, hd]
  | cons x t ih =>
    intro hk
    have h1 := ih fun y hy => hk y (.tail _ hy)
    show tid (x :: (t ++ [e])) = _
    have hc : sameK x (t ++ [e]) = true := by
      cases t with
      | nil => exact decide_eq_true (hk x (.head _))
      | cons z t => exact decide_eq_true ((hk x (.head _)).trans (hk z (.tail _ (.head _))).symm)
    rw [tid_cons, hc, h1]
    rfl
def finE (bottom : Bool) (A : List Ent) : List Ent := bif bottom then (tid A).2 else A
theorem finE_len (b : Bool) (A : List Ent) : (finE b A).length ≤ A.length := by
  cases b
  · exact Nat.le_refl _
  · exact tid_len A
theorem finE_append (b : Bool) (A B : List Ent) (h : ∀ x ∈ A, ∀ y ∈ B, x.Key ≠ y.Key) : finE b (A ++ B) = finE b A ++ finE b B := by
  cases b
  · rfl
  · exact (tid_append A B h).1
theorem trim_loop (bottom : Bool) : ∀ (n : Nat) (A : List Ent), A.length = n → n ≤ 1048576 → (∀ x ∈ A, ∀ y ∈ A, x.Key = y.Key) →
    loopO (ρ := Ctl (List Ent) (List Ent)) (fun (S31 : List Ent) => (if bottom = true then (if (decide (((S31.length : Nat) : Int) > (0 : Int))) = true then ((idx S31 (IntKind.i64.wrap (((S31.length : Nat) : Int) - (1 : Int)))).bind fun E39 =>
  some E39.Del)
  else (some false))
  else (some false)).bind (fun (T35 : Bool) =>
  if T35 = true then ((piece S31 (0 : Int) (IntKind.i64.wrap (((S31.length : Nat) : Int) - (1 : Int)))).bind fun E43 =>
  (app 48 ([] : List Ent) E43).bind fun E46 =>
  some (.go E46))
  else (some (.done (.go S31))))) A = some (.go (finE bottom A)) := by
  intro n
  induction n with
  | zero =>
    intro A hA _ _
    obtain rfl : A = [] := List.eq_nil_of_length_eq_zero hA
    rw [loopO_eq]
    cases bottom <;> rfl
  | succ n ih =>
    intro A hA hn hk
    obtain ⟨B, e, rfl⟩ : ∃ B e, A = B ++ [e] := ⟨A.dropLast, A.getLast (by intro c; rw [c] at hA; simp at hA), (List.dropLast_concat_getLast _).symm⟩
    have hB : B.length = n := by simpa using hA
    rw [loopO_eq]
    have hw : IntKind.i64.wrap ((((B ++ [e]).length : Nat) : Int) - 1) = (B.length : Int) := by rw [wrap_ok (by omega) (by omega)]; simp
    have hke : ∀ x ∈ B, x.Key = e.Key := fun x hx => hk x (List.mem_append.2 (.inl hx)) e (by simp)
    cases bottom with
    | false => rfl
    | true =>
      rw [hw, idx_nat (B ++ [e]) B.length (by simp)]
      have hd : decide ((((B ++ [e]).length : Nat) : Int) > 0) = true := decide_eq_true (by simp)
      simp only [if_true, hd, Option.bind_some, List.getElem_concat_length]
      cases hdel : e.Del with
      | false =>
        simp only [Bool.false_eq_true, if_false]
        show some (Ctl.go (B ++ [e])) = some (Ctl.go (tid (B ++ [e])).2)
        rw [tid_keep e hdel B hke]
      | true =>
        simp only [if_true]
        rw [piece_nat _ 0 B.length (0 : Int) _ rfl rfl (by omega) (by simp)]
        have hp : ((B ++ [e]).drop 0).take (B.length - 0) = B := by simp
        rw [hp]
        simp only [Option.bind_some]
        rw [app_ok (by simp; omega) (by simp; omega)]
        simp only [Option.bind_some, List.nil_append]
        have ih' := ih B hB (by omega) fun x hx y hy => hk x (List.mem_append.2 (.inl hx)) y (List.mem_append.2 (.inl hy))
        simp only [if_true] at ih'
        rw [ih']
        show some (Ctl.go (tid B).2) = some (Ctl.go (tid (B ++ [e])).2)
        rw [tid_del e hdel B hke]
theorem revEnts_eq (l : List Ent) (h : l.length ≤ 1048576) : slices_Reverse_94167 l = some l.reverse := by
  unfold slices_Reverse_94167
  rw [loopO_is (fun m s => s.1 = (m : Int) ∧ s.2.1 = (l.length : Int) - 1 - m ∧ ∃ hl : s.2.2.length = l.length, ∀ k (hk : k < l.length), s.2.2[k]'(by omega) = if k < m ∨ l.length ≤ k + m then l[l.length - 1 - k]'(by omega) else l[k]) (l.length / 2) (Ctl.go l.reverse) ?h0 ?h1 ?h2]
  · rfl
  case h0 =>
    refine ⟨rfl, ?_, rfl, fun k hk => ?_⟩
    · show IntKind.i64.wrap ((l.length : Int) - 1) = (l.length : Int) - 1 - ((0 : Nat) : Int)
      rw [wrap_ok (by omega) (by omega)]; omega
    · rw [if_neg (by omega)]
  · rintro m ⟨i, j, s⟩ hm ⟨h1, h2, hl, h3⟩
    simp only at h1 h2 hl h3
    subst h1
    have hj : j = ((l.length - 1 - m : Nat) : Int) := by omega
    subst hj
    clear h2
    left
    have hm1 : m < s.length := by omega
    have hm2 : l.length - 1 - m < s.length := by omega
    refine ⟨((m : Int) + 1, ((l.length - 1 - m : Nat) : Int) - 1, (s.set m (s[l.length - 1 - m]'hm2)).set (l.length - 1 - m) (s[m]'hm1)), ?_, by simp, ?_, by simp [hl], ?_⟩
    · simp only [idx_nat s _ hm2, idx_nat s _ hm1, Option.bind_some, Int.toNat_natCast]
      rw [if_pos (by simp; omega), idx_nat _ _ (by simp; omega)]
      simp only [Option.bind_some, bindC_go]
      rw [wrap_ok (by omega) (by omega), wrap_ok (by omega) (by omega)]
    · simp only; omega
    · intro k hk
      simp only [List.getElem_set]
      by_cases c1 : l.length - 1 - m = k
      · rw [if_pos c1, h3 m (by omega), if_neg (by omega), if_pos (by omega)]
        congr 1
        omega
      · rw [if_neg c1]
        by_cases c2 : m = k
        · rw [if_pos c2, h3 _ (by omega), if_neg (by omega), if_pos (by omega)]
          congr 1
          omega
        · rw [if_neg c2, h3 k hk]
          by_cases c3 : k < m ∨ l.length ≤ k + m
          · rw [if_pos c3, if_pos (by omega)]
          · rw [if_neg c3, if_neg (by omega)]
  · rintro ⟨i, j, s⟩ ⟨h1, h2, hl, h3⟩
    simp only at h1 h2 hl h3
    subst h1 h2
    simp only
    rw [if_neg (by simp; omega)]
    congr 3
    refine List.ext_getElem (by simp [hl]) fun k hk1 hk2 => ?_
    rw [h3 k (by omega), List.getElem_reverse]
    by_cases c : k < l.length / 2 ∨ l.length ≤ k + l.length / 2
    · rw [if_pos c]
    · rw [if_neg c]
      congr 1
      omega
theorem impl_compacted_eq (l : List Ent) (snaps : List Int) (bottom : Bool) (h : l.length ≤ 1048576) (hs : snaps.length ≤ 1048576) : impl_compacted l snaps bottom = some (finE bottom (keepT snaps l 0 l.length)) := by
  unfold impl_compacted
  rw [loopO_count (fun k => ((k : Int), keepT snaps l 0 k)) l.length (r := Ctl.go (keepT snaps l 0 l.length)) ?h0]
  case h0 => rfl
  · simp only [bindC_go]
    cases bottom with
    | false => rfl
    | true =>
      simp only [Bool.not_true, Bool.false_eq_true, if_false]
      have hKl : (keepT snaps l 0 l.length).length ≤ 1048576 := Nat.le_trans (keepT_len snaps l 0 _) h
      generalize keepT snaps l 0 l.length = K at hKl
      rw [loopO_count (fun m => ((tid (K.drop (K.length - m))).1, (K.length : Int) - 1 - m, (tid (K.drop (K.length - m))).2.reverse)) K.length (r := Ctl.go (tid K).2.reverse) ?g0]
      case g0 =>
        rw [Nat.sub_zero, List.drop_length, wrap_ok (by omega) (by omega)]
        simp [tid]
      · simp only [bindC_go]
        rw [revEnts_eq _ (by rw [List.length_reverse]; exact Nat.le_trans (tid_len K) hKl), List.reverse_reverse]
        rfl
      · intro m hm
        have hi : (K.length : Int) - 1 - m = ((K.length - 1 - m : Nat) : Int) := by omega
        have hi1 : (K.length : Int) - 1 - ((m + 1 : Nat) : Int) = ((K.length - 1 - m : Nat) : Int) - 1 := by omega
        have hk1 : K.length - 1 - m < K.length := by omega
        have hdr : K.drop (K.length - (m + 1)) = K[K.length - 1 - m] :: K.drop (K.length - m) := by
          rw [show K.length - (m + 1) = K.length - 1 - m by omega, List.drop_eq_getElem_cons hk1, show K.length - 1 - m + 1 = K.length - m by omega]
        have hlen := tid_len (K.drop (K.length - m))
        rw [List.length_drop] at hlen
        rw [hdr, tid_cons, hi, hi1]
        have hc : (if decide (((K.length - 1 - m : Nat) : Int) = IntKind.i64.wrap (((K.length : Nat) : Int) - (1 : Int))) = true then (some true)
  else ((idx K ((K.length - 1 - m : Nat) : Int)).bind fun E28 =>
  (idx K (IntKind.i64.wrap (((K.length - 1 - m : Nat) : Int) + (1 : Int)))).bind fun E30 =>
  some (!(decide (E28.Key = E30.Key))))) = some (!sameK K[K.length - 1 - m] (K.drop (K.length - m))) := by
          by_cases h0 : m = 0
          · subst h0
            rw [if_pos (by rw [wrap_ok (by omega) (by omega)]; simp; omega), show K.drop (K.length - 0) = [] by simp]
            rfl
          · rw [if_neg (by rw [wrap_ok (by omega) (by omega)]; simp; omega), idx_nat K _ hk1, wrap_ok (by omega) (by omega)]
            rw [show ((K.length - 1 - m : Nat) : Int) + 1 = ((K.length - m : Nat) : Int) by omega, idx_nat K (K.length - m) (by omega), List.drop_eq_getElem_cons (by omega : K.length - m < K.length)]
            rfl
        simp only [hc]
        rw [if_pos (by simp), wrap_ok (n := ((K.length - 1 - m : Nat) : Int) - 1) (by omega) (by omega)]
        simp only [idx_nat K _ hk1, Option.bind_some]
        generalize sameK K[K.length - 1 - m] (K.drop (K.length - m)) = q
        generalize tid (K.drop (K.length - m)) = tt at hlen ⊢
        obtain ⟨nd, o⟩ := tt
        simp only at hlen ⊢
        have happ : app 48 o.reverse [K[K.length - 1 - m]] = some (o.reverse ++ [K[K.length - 1 - m]]) := app_ok (by simp; omega) (by simp; omega)
        cases q <;> cases nd <;> cases hd : K[K.length - 1 - m].Del <;> simp [happ, hd]
      · rw [Nat.sub_self, List.drop_zero]
        simp
        omega
  · intro k hk
    have hlen := keepT_len snaps l 0 k
    simp only [idx_nat l k hk, Option.bind_some, isSeen_eq l snaps k hk h hs, keepT_succ snaps l 0 k (by omega), Nat.zero_add]
    rw [if_pos (by simpa using hk), wrap_ok (n := (k : Int) + 1) (by omega) (by omega)]
    cases stayV snaps l k with
    | true =>
      simp only [if_true]
      rw [app_ok (by simp; omega) (by simp; omega)]
      rfl
    | false => simp
  · simp
theorem entP_of {l : List Ent} (hv : entsV l = true) (k : Nat) (hk : k < l.length) : entP l k = true := by
  unfold entsV at hv
  rw [List.all_eq_true] at hv
  exact hv k (by simpa using hk)
theorem entsV_sub {l : List Ent} (hv : entsV l = true) (a n : Nat) : entsV ((l.drop a).take n) = true := by
  unfold entsV
  rw [List.all_eq_true]
  intro k hk
  have hk' : k < ((l.drop a).take n).length := by simpa using hk
  have hk2 : a + k < l.length := by simp at hk'; omega
  have hp := entP_of hv (a + k) hk2
  rw [entP_at l (a + k) hk2, Bool.and_eq_true] at hp
  rw [entP_at _ k hk']
  simp only [List.getElem_take, List.getElem_drop]
  rw [hp.1, Bool.true_and]
  by_cases h0 : 0 < k
  · rw [dif_pos h0]
    have := hp.2
    rw [dif_pos (by omega)] at this
    simpa only [show a + k - 1 = a + (k - 1) by omega] using this
  · rw [dif_neg h0]
/-- the keys before a place are none of those from it on -/
def cutV (l : List Ent) (a : Nat) : Prop := ∀ i (hi : i < l.length) j (hj : j < l.length), i < a → a ≤ j → l[i].Key ≠ l[j].Key
theorem l15Key_eq (l : List Ent) (snaps : List Int) (bottom : Bool) (a n : Nat) (hv : entsV l = true) (h : l.length ≤ 1048576) (hs : snaps.length ≤ 1048576) (hn : a + n ≤ l.length) (hc : cutV l a)
    (hk : ∀ i (hi : i < l.length) j (hj : j < l.length), a ≤ i → i < a + n → a ≤ j → j < a + n → l[i].Key = l[j].Key) : spec_l15Key ((l.drop a).take n) snaps bottom = some (finE bottom (keepT snaps l a n)) := by
  have hgl : ((l.drop a).take n).length = n := by simp; omega
  have hgv := entsV_sub hv a n
  have hg : ∀ i, i < n → ((l.drop a).take n)[i]? = l[a + i]? := fun i hi => by rw [List.getElem?_take, if_pos hi, List.getElem?_drop]
  generalize (l.drop a).take n = g at hgl hgv hg
  have hge : ∀ i (hi : i < n), g[i]'(by omega) = l[a + i]'(by omega) := fun i hi => by
    have := hg i hi
    rw [List.getElem?_eq_getElem (by omega), List.getElem?_eq_getElem (by omega)] at this
    exact Option.some.inj this
  unfold spec_l15Key
  rw [loopO_count (fun k => ((k : Int), keepT snaps l a k)) g.length (r := Ctl.go (keepT snaps l a n)) ?h0]
  case h0 => rfl
  · simp only [bindC_go]
    rw [trim_loop bottom (keepT snaps l a n).length _ rfl (Nat.le_trans (keepT_len snaps l a n) (by omega)) ?_]
    · rfl
    · intro x hx y hy
      obtain ⟨i, hi, h1, rfl⟩ := keepT_mem snaps l a n x hx
      obtain ⟨j, hj, h2, rfl⟩ := keepT_mem snaps l a n y hy
      exact hk _ _ _ _ (by omega) (by omega) (by omega) (by omega)
  · intro k hk1
    have hkn : k < n := by omega
    have hlen := keepT_len snaps l a k
    have hin : loopO (ρ := Ctl Bool (Ctl (Int × List Ent) (Ctl (List Ent) (List Ent)))) (fun (S7 : Bool × Int) => if (decide (S7.2 < ((snaps.length : Nat) : Int))) = true then ((idx g (k : Int)).bind fun E12 =>
  (idx snaps S7.2).bind fun E14 =>
  (spec_l9Get g E12.Key E14).bind fun R16 =>
  (if S7.1 = true then (some true)
  else (if R16.2 = true then (some (decide (R16.1.Seq = E12.Seq)))
  else (some false))).bind (fun (T25 : Bool) =>
  some (.go (T25, IntKind.i64.wrap (S7.2 + (1 : Int))))))
  else (some (.done (.go S7.1)))) (decide ((k : Int) = (0 : Int)), (0 : Int)) = some (.go (stayV snaps l (a + k))) := by
      rw [loopO_count (fun m => (decide (k = 0) || (snaps.take m).any (fun s => visE g s k), (m : Int))) snaps.length (r := Ctl.go (decide (k = 0) || snaps.any (fun s => visE g s k))) ?i0]
      case i0 =>
        rw [show decide ((k : Int) = 0) = decide (k = 0) from decide_eq_decide.2 (by omega)]
        simp
      · congr 2
        cases k with
        | zero =>
          simp only [decide_true, Bool.true_or, Nat.add_zero]
          cases a with
          | zero => rfl
          | succ b =>
            have := hc b (by omega) (b + 1) (by omega) (by omega) (Nat.le_refl _)
            rw [stayV_succ snaps l b (by omega), decide_eq_false this]
            rfl
        | succ j =>
          rw [show a + (j + 1) = (a + j) + 1 by omega, stayV_succ snaps l (a + j) (by omega)]
          have e1 : (l[a + j]'(by omega)).Key = (l[a + j + 1]'(by omega)).Key := hk _ _ _ _ (by omega) (by omega) (by omega) (by omega)
          rw [decide_eq_true e1]
          simp only [Nat.add_one_ne_zero, decide_false, Bool.false_or, Bool.not_true]
          congr 1
          funext s
          rw [visE_at g s (j + 1) hk1]
          have e2 := hge (j + 1) hkn
          have e3 := hge j (by omega)
          rw [e2, show l[a + (j + 1)]'(by omega) = l[a + j + 1]'(by omega) from rfl]
          congr 1
          rw [Bool.eq_iff_iff, List.all_eq_true, decide_eq_true_eq]
          constructor
          · intro hall
            have hm : g[j]'(by omega) ∈ g.take (j + 1) := by
              have : (g.take (j + 1))[j]'(by simp; omega) = g[j]'(by omega) := by simp
              rw [← this]; exact List.getElem_mem _
            have := hall _ hm
            rw [e3, e1] at this
            simp at this
            omega
          · intro hlt d hd
            obtain ⟨i, hi, rfl⟩ := List.getElem_of_mem hd
            have hij : i < j + 1 := by simp at hi; omega
            simp only [List.getElem_take]
            rw [hge i (by omega)]
            have hge2 : (l[a + j]'(by omega)).Seq ≤ (l[a + i]'(by omega)).Seq := by
              by_cases e : i = j
              · subst e; exact Int.le_refl _
              · rcases ents_lt hv (a + j) (by omega) (a + i) (by omega) with h1 | ⟨_, h1⟩
                · rw [hk (a + i) (by omega) (a + j) (by omega) (by omega) (by omega) (by omega) (by omega), sLt_irrefl] at h1
                  cases h1
                · omega
            have : ¬ (l[a + i]'(by omega)).Seq ≤ s := by omega
            simp [this]
      · intro m hm
        simp only [idx_nat g k hk1, idx_nat snaps m hm, Option.bind_some, spec_l9Get_eq g _ _ (by omega)]
        rw [if_pos (by simpa using hm), wrap_ok (n := (m : Int) + 1) (by omega) (by omega), List.take_add_one, List.getElem?_eq_getElem hm, List.any_append, ← Bool.or_assoc]
        simp only [Option.toList_some, List.any_cons, List.any_nil, Bool.or_false]
        generalize (decide (k = 0) || (snaps.take m).any (fun s => visE g s k)) = st
        cases hvis : visE g snaps[m] k with
        | true =>
          rw [visE_find hk1 hvis]
          cases st <;> simp
        | false =>
          have hn := visE_not hgv hk1 hvis
          cases hf : g.find? (fun d => decide (d.Key = g[k].Key) && decide (d.Seq ≤ snaps[m])) with
          | none => cases st <;> simp
          | some d =>
            have := hn d hf
            cases st <;> simp [this]
      · simp
    rw [if_pos (by simpa using hk1)]
    simp only [hin, bindC_go, keepT_succ snaps l a k (by omega)]
    rw [wrap_ok (n := (k : Int) + 1) (by omega) (by omega)]
    cases stayV snaps l (a + k) with
    | true =>
      simp only [if_true, idx_nat g k hk1, Option.bind_some, hge k hkn]
      rw [app_ok (by simp; omega) (by simp; omega)]
      rfl
    | false => simp
  · rw [hgl]
    simp
theorem l15Last_eq (l : List Ent) (a : Nat) (ha : a < l.length) (h : l.length ≤ 1048576) : ∃ e : Nat, spec_l15Last l (a : Int) = some (e : Int) ∧ a < e ∧ e ≤ l.length ∧ (∀ i (hi : i < l.length), a ≤ i → i < e → l[i].Key = l[a].Key) ∧ (∀ hi : e < l.length, l[e].Key ≠ l[a].Key) := by
  unfold spec_l15Last
  have key : ∃ c, loopO (ρ := Ctl Int Int) (fun (S1 : Int) => (if (decide (S1 < ((l.length : Nat) : Int))) = true then ((idx l S1).bind fun E8 =>
  (idx l (a : Int)).bind fun E10 =>
  some (decide (E8.Key = E10.Key)))
  else (some false)).bind (fun (T5 : Bool) =>
  if T5 = true then (some (.go (IntKind.i64.wrap (S1 + (1 : Int)))))
  else (some (.done (.go S1))))) (a : Int) = some c ∧ ∃ e : Nat, c = .go (e : Int) ∧ a < e ∧ e ≤ l.length ∧ (∀ i (hi : i < l.length), a ≤ i → i < e → l[i].Key = l[a].Key) ∧ (∀ hi : e < l.length, l[e].Key ≠ l[a].Key) := by
    refine loopO_total (fun k s => s = ((a + k : Nat) : Int) ∧ ∀ i (hi : i < l.length), a ≤ i → i < a + k → l[i].Key = l[a].Key) (l.length - a) _ ⟨rfl, fun i hi h1 h2 => by omega⟩ ?_ ?_
    · rintro k s hk ⟨rfl, hI⟩
      have hak : a + k < l.length := by omega
      simp only [idx_nat l (a + k) hak, idx_nat l a ha, Option.bind_some]
      rw [if_pos (by simp; omega), wrap_ok (by omega) (by omega)]
      by_cases c : l[a + k].Key = l[a].Key
      · left
        refine ⟨((a + k : Nat) : Int) + 1, by simp [c], by omega, fun i hi h1 h2 => ?_⟩
        by_cases e : i = a + k
        · subst e; exact c
        · exact hI i hi h1 (by omega)
      · right
        refine ⟨.go ((a + k : Nat) : Int), by simp [c], a + k, rfl, ?_, by omega, hI, fun _ => c⟩
        have : k ≠ 0 := by rintro rfl; exact c rfl
        omega
    · rintro s ⟨rfl, hI⟩
      have he : a + (l.length - a) = l.length := by omega
      rw [he] at hI ⊢
      exact ⟨.go ((l.length : Nat) : Int), by simp, l.length, rfl, ha, Nat.le_refl _, hI, fun hi => absurd hi (by omega)⟩
  obtain ⟨c, hc, e, rfl, h1⟩ := key
  exact ⟨e, by rw [hc]; rfl, h1⟩
theorem cutV_next {l : List Ent} (hv : entsV l = true) {a e : Nat} (hc : cutV l a) (hae : a < e) (ha : a < l.length) (h1 : ∀ i (hi : i < l.length), a ≤ i → i < e → l[i].Key = l[a].Key) (h2 : ∀ hi : e < l.length, l[e].Key ≠ l[a].Key) : cutV l e := by
  intro i hi j hj hie hej heq
  by_cases hia : i < a
  · exact hc i hi j hj hia (by omega) heq
  · rw [h1 i hi (by omega) hie] at heq
    have hel : e < l.length := by omega
    have hne := h2 hel
    have hlt : sLt l[a].Key l[e].Key = true := by
      rcases ents_lt hv e hel a hae with h | ⟨h, _⟩
      · exact h
      · exact absurd h.symm hne
    by_cases hj2 : j = e
    · subst hj2; exact hne heq.symm
    · rcases ents_lt hv j hj e (by omega) with h | ⟨h, _⟩
      · have := sLt_trans hlt h
        rw [← heq, sLt_irrefl] at this
        cases this
      · exact hne (h.trans heq.symm)
def compactR (l : List Ent) (snaps : List Int) (bottom : Bool) : List Ent := if l.length ≤ 400 ∧ entsV l = true then finE bottom (keepT snaps l 0 l.length) else []
theorem compactR_len (l : List Ent) (snaps : List Int) (bottom : Bool) : (compactR l snaps bottom).length ≤ l.length := by
  unfold compactR
  split
  · exact Nat.le_trans (finE_len _ _) (keepT_len _ _ _ _)
  · simp
theorem impl_CompactEnts_eq (l : List Ent) (snaps : List Int) (bottom : Bool) (h : l.length ≤ 1048576) (hs : snaps.length ≤ 1048576) : impl_CompactEnts l snaps bottom = some (compactR l snaps bottom) := by
  unfold impl_CompactEnts compactR
  rw [impl_inOrder_eq l h]
  by_cases hl : l.length ≤ 400
  · rw [if_neg (by simp; omega)]
    cases hv : entsV l with
    | false => simp
    | true =>
      simp only [Option.bind_some, Bool.not_true, Bool.false_eq_true, if_false, impl_compacted_eq l snaps bottom h hs]
      rw [if_pos ⟨hl, trivial⟩]
  · rw [if_pos (by simp; omega), if_neg (fun hx => hl hx.1)]
    rfl
theorem spec_CompactEnts_eq (l : List Ent) (snaps : List Int) (bottom : Bool) (h : l.length ≤ 1048576) (hs : snaps.length ≤ 1048576) : spec_CompactEnts l snaps bottom = some (compactR l snaps bottom) := by
  unfold spec_CompactEnts compactR
  rw [spec_l9Ents_eq l h]
  by_cases hl : l.length ≤ 400
  · rw [if_neg (by simp; omega)]
    cases hv : entsV l with
    | false => simp
    | true =>
      simp only [Option.bind_some, Bool.not_true, Bool.false_eq_true, if_false]
      rw [if_pos ⟨hl, trivial⟩]
      rw [loopO_is (fun k s => ∃ a : Nat, s = ((a : Int), finE bottom (keepT snaps l 0 a)) ∧ a ≤ l.length ∧ k ≤ a ∧ cutV l a) l.length (Ctl.go (finE bottom (keepT snaps l 0 l.length))) ?h0 ?h1 ?h2]
      · rfl
      case h0 => 
        refine ⟨0, ?_, Nat.zero_le _, Nat.le_refl _, fun i hi j hj h1 h2 => by omega⟩
        cases bottom <;> rfl
      · rintro k s hk ⟨a, rfl, ha, hka, hc⟩
        by_cases hal : a < l.length
        · left
          obtain ⟨e, he, h1, h2, h3, h4⟩ := l15Last_eq l a hal h
          have hsplit : keepT snaps l 0 e = keepT snaps l 0 a ++ keepT snaps l a (e - a) := by
            have := keepT_add snaps l 0 a (e - a)
            rw [Nat.zero_add, show a + (e - a) = e by omega] at this
            exact this
          have hfe : finE bottom (keepT snaps l 0 e) = finE bottom (keepT snaps l 0 a) ++ finE bottom (keepT snaps l a (e - a)) := by
            rw [hsplit]
            refine finE_append bottom _ _ fun x hx y hy => ?_
            obtain ⟨i, hi, p1, rfl⟩ := keepT_mem snaps l 0 a x hx
            obtain ⟨j, hj, p2, rfl⟩ := keepT_mem snaps l a (e - a) y hy
            exact hc _ _ _ _ (by omega) (by omega)
          refine ⟨((e : Int), finE bottom (keepT snaps l 0 e)), ?_, e, rfl, h2, by omega, cutV_next hv hc h1 hal h3 h4⟩
          have hb1 := Nat.le_trans (finE_len bottom (keepT snaps l 0 a)) (keepT_len snaps l 0 a)
          have hb2 := Nat.le_trans (finE_len bottom (keepT snaps l a (e - a))) (keepT_len snaps l a (e - a))
          simp only [he, Option.bind_some]
          rw [if_pos (by simpa using hal), piece_nat l a e _ _ rfl rfl (by omega) h2]
          simp only [Option.bind_some]
          rw [l15Key_eq l snaps bottom a (e - a) hv h hs (by omega) hc (fun i hi j hj p1 p2 p3 p4 => (h3 i hi p1 (by omega)).trans (h3 j hj p3 (by omega)).symm)]
          simp only [Option.bind_some]
          rw [app_ok (by omega) (by omega), hfe]
          rfl
        · right
          obtain rfl : a = l.length := by omega
          simp
      · rintro s ⟨a, rfl, ha, hka, hc⟩
        obtain rfl : a = l.length := by omega
        simp
  · rw [if_pos (by simp; omega), if_neg (fun hx => hl hx.1)]
    rfl
theorem half_eq {a : Int} (h0 : 0 ≤ a) (h1 : a ≤ 4611686018427387904) : IntKind.i64.wrap (ishr .u64 (IntKind.u64.wrap (IntKind.i64.wrap a)) (1 : Int)) = a / 2 := by
  have hu : IntKind.u64.wrap a = a := by simp [IntKind.wrap, IntKind.bits, IntKind.signed]; omega
  have hs : ishr .u64 a (1 : Int) = a / 2 := by
    unfold ishr
    show a.fdiv (2 ^ 1) = a / 2
    rw [Int.fdiv_eq_ediv_of_nonneg a (by decide)]
    rfl
  rw [wrap_ok (n := a) (by omega) (by omega), hu, hs, wrap_ok (by omega) (by omega)]
/-- a search by halves: the place where it ends -/
theorem bisect {α ρ : Type} (x : List α) (cf : α → Option Int) (c : α → Int) (hcf : ∀ e ∈ x, cf e = some (c e)) (hx : x.length ≤ 1048576) :
    ∃ j, j ≤ x.length ∧ loopO (ρ := Ctl Int ρ) (fun (S2 : Int × Int) => if (decide (S2.1 < S2.2)) = true then ((idx x (IntKind.i64.wrap (ishr .u64 (IntKind.u64.wrap (IntKind.i64.wrap (S2.1 + S2.2))) (1 : Int)))).bind fun E7 =>
  (cf E7).bind fun R9 =>
  bindC (if (decide (R9 < (0 : Int))) = true then (some (.go (IntKind.i64.wrap (IntKind.i64.wrap (ishr .u64 (IntKind.u64.wrap (IntKind.i64.wrap (S2.1 + S2.2))) (1 : Int)) + (1 : Int)), S2.2)))
  else (some (.go (S2.1, IntKind.i64.wrap (ishr .u64 (IntKind.u64.wrap (IntKind.i64.wrap (S2.1 + S2.2))) (1 : Int))))))
  (fun (T12 : Int × Int) => some (.go (T12.1, T12.2))))
  else (some (.done (.go S2.1)))) ((0 : Int), ((x.length : Nat) : Int)) = some (.go (j : Int)) ∧ (∀ i (hi : i < x.length), i + 1 = j → c x[i] < 0) ∧ (∀ hj : j < x.length, 0 ≤ c x[j]) := by
  obtain ⟨r, hr, j, rfl, h1, h2, h3⟩ := loopO_total (ρ := Ctl Int ρ) (s0 := ((0 : Int), ((x.length : Nat) : Int))) (body := fun (S2 : Int × Int) => if (decide (S2.1 < S2.2)) = true then ((idx x (IntKind.i64.wrap (ishr .u64 (IntKind.u64.wrap (IntKind.i64.wrap (S2.1 + S2.2))) (1 : Int)))).bind fun E7 =>
  (cf E7).bind fun R9 =>
  bindC (if (decide (R9 < (0 : Int))) = true then (some (.go (IntKind.i64.wrap (IntKind.i64.wrap (ishr .u64 (IntKind.u64.wrap (IntKind.i64.wrap (S2.1 + S2.2))) (1 : Int)) + (1 : Int)), S2.2)))
  else (some (.go (S2.1, IntKind.i64.wrap (ishr .u64 (IntKind.u64.wrap (IntKind.i64.wrap (S2.1 + S2.2))) (1 : Int))))))
  (fun (T12 : Int × Int) => some (.go (T12.1, T12.2))))
  else (some (.done (.go S2.1))))
    (fun k s => ∃ a b : Nat, s = ((a : Int), (b : Int)) ∧ a ≤ b ∧ b ≤ x.length ∧ b - a + k ≤ x.length ∧ (∀ i (hi : i < x.length), i + 1 = a → c x[i] < 0) ∧ (∀ hj : b < x.length, 0 ≤ c x[b])) x.length
    (fun r => ∃ j : Nat, r = .go (j : Int) ∧ j ≤ x.length ∧ (∀ i (hi : i < x.length), i + 1 = j → c x[i] < 0) ∧ (∀ hj : j < x.length, 0 ≤ c x[j]))
    ⟨0, x.length, rfl, Nat.zero_le _, Nat.le_refl _, by omega, fun i hi h => by omega, fun h => by omega⟩ (by
      rintro k s hk ⟨a, b, rfl, hab, hb, hd, h1, h2⟩
      by_cases hlt : a < b
      · left
        have hm : ((a : Int) + (b : Int)) / 2 = (((a + b) / 2 : Nat) : Int) := by omega
        have hmx : (a + b) / 2 < x.length := by omega
        simp only [half_eq (a := (a : Int) + (b : Int)) (by omega) (by omega), hm, idx_nat x _ hmx, Option.bind_some, hcf _ (List.getElem_mem hmx)]
        rw [if_pos (by simpa using hlt)]
        by_cases hc : c x[(a + b) / 2] < 0
        · rw [if_pos (by simpa using hc), wrap_ok (by omega) (by omega)]
          refine ⟨_, rfl, (a + b) / 2 + 1, b, rfl, by omega, hb, by omega, fun i hi h => ?_, h2⟩
          obtain rfl : i = (a + b) / 2 := by omega
          exact hc
        · rw [if_neg (by simpa using hc)]
          exact ⟨_, rfl, a, (a + b) / 2, rfl, by omega, by omega, by omega, h1, fun _ => by omega⟩
      · right
        obtain rfl : a = b := by omega
        exact ⟨.go (a : Int), by simp, a, rfl, hb, h1, h2⟩) (by
      rintro s ⟨a, b, rfl, hab, hb, hd, h1, h2⟩
      obtain rfl : a = b := by omega
      exact ⟨.go (a : Int), by simp, a, rfl, hb, h1, h2⟩)
  exact ⟨j, h1, hr, h2, h3⟩
theorem entLt_trans {a b c : Ent} (h1 : entLt a b = true) (h2 : entLt b c = true) : entLt a c = true := by
  unfold entLt at h1 h2 ⊢
  simp only [Bool.or_eq_true, Bool.and_eq_true, decide_eq_true_eq] at h1 h2 ⊢
  rcases h1 with h1 | ⟨h1, h3⟩
  · rcases h2 with h2 | ⟨h2, _⟩
    · exact .inl (sLt_trans h1 h2)
    · rw [← h2]; exact .inl h1
  · rcases h2 with h2 | ⟨h2, h4⟩
    · rw [h1]; exact .inl h2
    · exact .inr ⟨h1.trans h2, by omega⟩
theorem entLt_total {a b : Ent} (h : ¬ (a.Key = b.Key ∧ a.Seq = b.Seq)) (h2 : entLt a b = false) : entLt b a = true := by
  unfold entLt at h2 ⊢
  simp only [Bool.or_eq_false_iff, Bool.and_eq_false_iff, decide_eq_false_iff_not] at h2
  simp only [Bool.or_eq_true, Bool.and_eq_true, decide_eq_true_eq]
  have hc := sLt_compl a.Key b.Key
  rw [h2.1] at hc
  simp only [Bool.not_false] at hc
  by_cases hk : a.Key = b.Key
  · right
    refine ⟨hk.symm, ?_⟩
    rcases h2.2 with h3 | h3
    · exact absurd hk h3
    · have : ¬ a.Seq = b.Seq := fun e => h ⟨hk, e⟩
      omega
  · left
    have h5 : decide (b.Key = a.Key) = false := decide_eq_false fun e => hk e.symm
    rw [h5, Bool.or_false] at hc
    exact hc
theorem compareEnts_sign (a b : Ent) : ∃ r, impl_compareEnts a b = some r ∧ decide (r < 0) = entLt a b ∧ (r = 0 ↔ (a.Key = b.Key ∧ a.Seq = b.Seq)) := by
  unfold impl_compareEnts entLt
  rw [cmpS_eq, cmpI_eq]
  simp only [Option.bind_some, cmpOr_eq]
  refine ⟨_, rfl, ?_⟩
  by_cases c : sLt a.Key b.Key = true
  · have hne : ¬ a.Key = b.Key := fun e => by rw [e, sLt_irrefl] at c; cases c
    simp [c, hne]
  · have c' : sLt a.Key b.Key = false := by simpa using c
    rw [if_neg c, c']
    by_cases c2 : a.Key = b.Key
    · rw [decide_eq_true c2]
      by_cases c3 : b.Seq < a.Seq
      · have : ¬ a.Seq = b.Seq := by omega
        simp [c2, c3, this]
      · by_cases c4 : b.Seq > a.Seq
        · have : ¬ a.Seq = b.Seq := by omega
          simp [c2, c3, c4, this]
        · have : a.Seq = b.Seq := by omega
          simp [c2, this]
    · rw [decide_eq_false c2]
      simp [c2]
/-- entries with one more at a place -/
def insE (l : List Ent) (e : Ent) (j : Nat) : List Ent := l.take j ++ (e :: l.drop j)
theorem insE_mem {l : List Ent} {e x : Ent} {j : Nat} : x ∈ insE l e j ↔ x = e ∨ x ∈ l := by
  unfold insE
  rw [List.mem_append, List.mem_cons]
  conv => rhs; rw [← List.take_append_drop j l, List.mem_append]
  constructor
  · rintro (h | h | h)
    · exact .inr (.inl h)
    · exact .inl h
    · exact .inr (.inr h)
  · rintro (h | h | h)
    · exact .inr (.inl h)
    · exact .inl h
    · exact .inr (.inr h)
theorem insE_len (l : List Ent) (e : Ent) (j : Nat) (h : j ≤ l.length) : (insE l e j).length = l.length + 1 := by
  unfold insE; simp; omega
def ordE (l : List Ent) : Prop := l.Pairwise fun a b => entLt a b = true
theorem ordE_ins {l : List Ent} {e : Ent} {j : Nat} (hl : ordE l) (h1 : ∀ i (hi : i < l.length), i < j → entLt l[i] e = true) (h2 : ∀ i (hi : i < l.length), j ≤ i → entLt e l[i] = true) : ordE (insE l e j) := by
  unfold ordE insE at *
  have hl2 := hl
  rw [← List.take_append_drop j l, List.pairwise_append] at hl2
  have m1 : ∀ x ∈ l.take j, entLt x e = true := by
    intro x hx
    obtain ⟨i, hi, rfl⟩ := List.getElem_of_mem hx
    rw [List.getElem_take]
    exact h1 i _ (by simp at hi; omega)
  have m2 : ∀ x ∈ l.drop j, entLt e x = true := by
    intro x hx
    obtain ⟨i, hi, rfl⟩ := List.getElem_of_mem hx
    rw [List.getElem_drop]
    exact h2 _ _ (by omega)
  rw [List.pairwise_append, List.pairwise_cons]
  refine ⟨hl2.1, ⟨m2, hl2.2.1⟩, fun x hx y hy => ?_⟩
  rcases List.mem_cons.1 hy with rfl | hy
  · exact m1 x hx
  · exact hl2.2.2 x hx y hy
theorem entsV_iff (l : List Ent) : entsV l = true ↔ (∀ x ∈ l, entV x = true) ∧ ordE l := by
  constructor
  · intro h
    refine ⟨fun x hx => ?_, ?_⟩
    · obtain ⟨k, hk, rfl⟩ := List.getElem_of_mem hx
      unfold entsV at h
      rw [List.all_eq_true] at h
      have := h k (by simpa using hk)
      rw [entP_at l k hk, Bool.and_eq_true] at this
      exact this.1
    · unfold ordE
      rw [List.pairwise_iff_getElem]
      intro i j hi hj hij
      unfold entLt
      simp only [Bool.or_eq_true, Bool.and_eq_true, decide_eq_true_eq]
      exact ents_lt h j hj i hij
  · rintro ⟨h1, h2⟩
    unfold ordE at h2
    rw [List.pairwise_iff_getElem] at h2
    unfold entsV
    rw [List.all_eq_true]
    intro k hk
    have hk' : k < l.length := by simpa using hk
    rw [entP_at l k hk', h1 _ (List.getElem_mem hk')]
    by_cases h0 : 0 < k
    · rw [dif_pos h0, h2 (k - 1) k (by omega) hk' (by omega)]
      rfl
    · rw [dif_neg h0]
      rfl
def putF (l : List Ent) (f : Ent) (j k : Nat) : Bool × Int × List Ent := bif Nat.ble k j then (false, (k : Int), l.take k) else (true, (k : Int), l.take j ++ (f :: (l.drop j).take (k - j)))
theorem putF_le (l : List Ent) (f : Ent) (j k : Nat) (h : k ≤ j) : putF l f j k = (false, (k : Int), l.take k) := by
  unfold putF
  rw [Nat.ble_eq_true_of_le h]
  rfl
theorem putF_gt (l : List Ent) (f : Ent) (j k : Nat) (h : j < k) : putF l f j k = (true, (k : Int), l.take j ++ (f :: (l.drop j).take (k - j))) := by
  unfold putF
  have : Nat.ble k j = false := by
    cases hb : Nat.ble k j
    · rfl
    · exact absurd (Nat.le_of_ble_eq_true hb) (by omega)
  rw [this]
  rfl
theorem spec_l9Put_at (l : List Ent) (f : Ent) (j : Nat) (hl : l.length ≤ 1048576) (hj : j ≤ l.length) (h1 : ∀ i (hi : i < l.length), i < j → entLt f l[i] = false) (h2 : ∀ hi : j < l.length, entLt f l[j] = true) :
    spec_l9Put l f = some (insE l f j) := by
  unfold spec_l9Put
  rw [loopO_count (putF l f j) l.length (r := Ctl.go ((putF l f j l.length).1, (putF l f j l.length).2.2)) ?h0]
  case h0 => rw [putF_le _ _ _ _ (Nat.zero_le _)]; rfl
  · by_cases hjl : j = l.length
    · subst hjl
      rw [putF_le _ _ _ _ (Nat.le_refl _)]
      simp only [bindC_go, Bool.not_false, if_true]
      rw [app_ok (by simp; omega) (by simp; omega)]
      simp [insE]
    · rw [putF_gt _ _ _ _ (by omega)]
      simp only [bindC_go, Bool.not_true, Bool.false_eq_true, if_false]
      unfold insE
      rw [List.take_of_length_le (l := l.drop j) (by simp)]
  · intro k hk
    have hw := wrap_ok (n := (k : Int) + 1) (by omega) (by omega)
    rcases Nat.lt_trichotomy k j with hkj | hkj | hkj
    · have ht : l.take (k + 1) = l.take k ++ [l[k]] := by rw [List.take_add_one, List.getElem?_eq_getElem hk]; rfl
      rw [putF_le _ _ _ _ (by omega), putF_le _ _ _ _ (by omega)]
      simp only [idx_nat l k hk, Option.bind_some, Bool.not_false, if_true, hw, spec_l9Ahead_eq, h1 k hk hkj, Bool.false_eq_true, if_false, bindC_go]
      rw [if_pos (by simpa using hk), app_ok (by simp; omega) (by simp; omega), ht]
      rfl
    · subst hkj
      rw [putF_le _ _ _ _ (Nat.le_refl _), putF_gt _ _ _ _ (by omega)]
      simp only [idx_nat l k hk, Option.bind_some, Bool.not_false, if_true, hw, spec_l9Ahead_eq, h2 hk]
      rw [if_pos (by simpa using hk), app_ok (by simp; omega) (by simp; omega)]
      simp only [Option.bind_some, bindC_go]
      rw [app_ok (by simp; omega) (by simp; omega)]
      have : (l.drop k).take (k + 1 - k) = [l[k]] := by
        rw [List.drop_eq_getElem_cons hk, show k + 1 - k = 1 by omega]; rfl
      rw [this]
      simp
    · rw [putF_gt _ _ _ _ (by omega), putF_gt _ _ _ _ (by omega)]
      simp only [idx_nat l k hk, Option.bind_some, Bool.not_true, Bool.false_eq_true, if_false, hw, bindC_go]
      rw [if_pos (by simpa using hk), app_ok (by simp; omega) (by simp; omega)]
      have hkd : k - j < (l.drop j).length := by simp; omega
      have ht : (l.drop j).take (k + 1 - j) = (l.drop j).take (k - j) ++ [l[k]] := by
        rw [show k + 1 - j = (k - j) + 1 by omega, List.take_add_one, List.getElem?_eq_getElem hkd, List.getElem_drop]
        congr 2
        simp only [Option.toList_some]
        congr 2
        omega
      rw [ht]
      simp
  · have hi : (putF l f j l.length).2.1 = (l.length : Int) := by unfold putF; cases Nat.ble l.length j <;> rfl
    rw [hi, if_neg (by simp)]
/-- an op as required -/
def opV (o : Op) : Bool := decide (1 ≤ (o.Key.length : Int) ∧ (o.Key.length : Int) ≤ 10) && (decide ((o.Val.length : Int) ≤ 16) && (!o.Del || decide (o.Val = [])))
theorem spec_l7Op_eq (o : Op) : spec_l7Op o = some (opV o) := by
  unfold spec_l7Op opV
  simp only [l1In_eq, Option.bind_some]
  by_cases h1 : 1 ≤ (o.Key.length : Int) ∧ (o.Key.length : Int) ≤ 10 <;> by_cases h3 : (o.Val.length : Int) ≤ 16 <;> cases h4 : o.Del <;>
    simp only [h1, h3, and_self, decide_true, decide_false, if_true, if_false, Option.bind_some, Bool.true_and, Bool.false_and, Bool.not_true, Bool.not_false, Bool.false_eq_true, Bool.true_or, Bool.false_or, Bool.and_true, Bool.and_false]
theorem impl_opOk_eq (o : Op) : ((impl_isKey o.Key).bind fun R11 => if (!R11) = true then (some true) else ((impl_isVal o.Del o.Val).bind fun R15 => some (!R15))) = some (!opV o) := by
  unfold impl_isKey impl_isVal opV
  simp only [inRange_eq, Option.bind_some]
  by_cases h1 : 1 ≤ (o.Key.length : Int) ∧ (o.Key.length : Int) ≤ 10 <;> by_cases h3 : (o.Val.length : Int) ≤ 16 <;> cases h4 : o.Del <;>
    simp only [h1, h3, and_self, decide_true, decide_false, if_true, if_false, Option.bind_some, Bool.true_and, Bool.false_and, Bool.not_true, Bool.not_false, Bool.false_eq_true, Bool.true_or, Bool.false_or, Bool.and_true, Bool.and_false, Bool.not_not]
/-- a batch as required -/
def batchV (l : List Op) : Bool := decide (1 ≤ l.length ∧ l.length ≤ 6) && l.all opV
theorem batchI (l : List Op) : decide (1 ≤ ((l.length : Nat) : Int) ∧ ((l.length : Nat) : Int) ≤ 6) = decide (1 ≤ l.length ∧ l.length ≤ 6) := decide_eq_decide.2 (by omega)
/-- is there a later op with this key -/
def laterV (l : List Op) (k : Nat) (key : List UInt8) : Bool := (l.drop (k + 1)).any fun x => decide (x.Key = key)
theorem last_loop {ρ : Type} (l : List Op) (k : Nat) (hk : k < l.length) (h : l.length ≤ 1048576) :
    loopO (ρ := Ctl Bool ρ) (fun (S23 : Bool × Int) => if (decide (S23.2 < ((l.length : Nat) : Int))) = true then ((if S23.1 = true then ((idx l S23.2).bind fun E31 =>
  (idx l (k : Int)).bind fun E33 =>
  some (!(decide (E31.Key = E33.Key))))
  else (some false)).bind (fun (T28 : Bool) =>
  some (.go (T28, IntKind.i64.wrap (S23.2 + (1 : Int))))))
  else (some (.done (.go S23.1))))
  (true, IntKind.i64.wrap ((k : Int) + (1 : Int))) = some (.go (!laterV l k l[k].Key)) := by
  rw [loopO_count (fun d => (!(((l.drop (k + 1)).take d).any fun x => decide (x.Key = l[k].Key)), ((k + 1 + d : Nat) : Int))) (l.length - (k + 1)) (r := Ctl.go (!laterV l k l[k].Key)) ?h0]
  case h0 => rw [wrap_ok (by omega) (by omega)]; simp
  · intro d hd
    have hkd : k + 1 + d < l.length := by omega
    have hdd : d < (l.drop (k + 1)).length := by simp; omega
    have ht : (l.drop (k + 1)).take (d + 1) = (l.drop (k + 1)).take d ++ [l[k + 1 + d]] := by
      rw [List.take_add_one, List.getElem?_eq_getElem hdd, List.getElem_drop]; rfl
    simp only [idx_nat l _ hkd, idx_nat l k hk, Option.bind_some, ht, List.any_append, List.any_cons, List.any_nil, Bool.or_false]
    rw [if_pos (by simp only [decide_eq_true_eq]; omega), wrap_ok (by omega) (by omega)]
    cases ((l.drop (k + 1)).take d).any fun x => decide (x.Key = l[k].Key) with
    | false => simp; omega
    | true => simp; omega
  · rw [show k + 1 + (l.length - (k + 1)) = l.length by omega, List.take_of_length_le (by simp)]
    simp [laterV]
/-- the entry of an op -/
def entO (o : Op) (seq : Int) : Ent := { Key := o.Key, Seq := seq, Del := o.Del, Val := o.Val }
/-- the entries in hand behind the first k ops -/
noncomputable def memB (l : List Op) (seq : Int) (m : List Ent) : Nat → List Ent
  | 0 => m
  | k + 1 => match l[k]? with
    | some o => bif laterV l k o.Key then memB l seq m k else (spec_l9Put (memB l seq m k) (entO o seq)).getD []
    | none => memB l seq m k
theorem memB_later (l : List Op) (seq : Int) (m : List Ent) (k : Nat) (hk : k < l.length) (h : laterV l k l[k].Key = true) : memB l seq m (k + 1) = memB l seq m k := by
  show (match l[k]? with | some o => _ | none => _) = _
  rw [List.getElem?_eq_getElem hk]
  simp only [h, cond_true]
theorem memB_put (l : List Op) (seq : Int) (m : List Ent) (k : Nat) (hk : k < l.length) (h : laterV l k l[k].Key = false) : memB l seq m (k + 1) = (spec_l9Put (memB l seq m k) (entO l[k] seq)).getD [] := by
  show (match l[k]? with | some o => _ | none => _) = _
  rw [List.getElem?_eq_getElem hk]
  simp only [h, cond_false]
def invB (l : List Op) (seq : Int) (m : List Ent) (k : Nat) (x : Ent) : Prop := x ∈ m ∨ ∃ i, ∃ hi : i < l.length, i < k ∧ laterV l i l[i].Key = false ∧ x = entO l[i] seq
theorem memB_new (l : List Op) (seq : Int) (m M : List Ent) (k : Nat) (hk : k < l.length) (hs : ∀ x ∈ m, x.Seq < seq) (hM : ∀ x ∈ M, invB l seq m k x) : ∀ x ∈ M, ¬ (x.Key = (entO l[k] seq).Key ∧ x.Seq = (entO l[k] seq).Seq) := by
  rintro x hx ⟨h1, h2⟩
  rcases hM x hx with h | ⟨i, hi, hik, hla, rfl⟩
  · have := hs x h
    have h3 : x.Seq = seq := h2
    omega
  · unfold laterV at hla
    rw [List.any_eq_false] at hla
    have hm : l[k] ∈ l.drop (i + 1) := by
      have : (l.drop (i + 1))[k - (i + 1)]'(by simp; omega) = l[k] := by
        rw [List.getElem_drop]
        congr 1
        omega
      rw [← this]
      exact List.getElem_mem _
    refine hla _ hm ?_
    have h3 : l[i].Key = l[k].Key := h1
    rw [h3]
    simp
theorem rangeV_bounds (m : Int) : ∀ (l : List Ent) (s : Int × Int), (m ≤ (l.foldl (fun s e => (goMin s.1 e.Seq, goMax s.2 e.Seq)) s).1 ↔ m ≤ s.1 ∧ ∀ x ∈ l, m ≤ x.Seq) ∧ ((l.foldl (fun s e => (goMin s.1 e.Seq, goMax s.2 e.Seq)) s).2 ≤ m ↔ s.2 ≤ m ∧ ∀ x ∈ l, x.Seq ≤ m)
  | [], s => by simp
  | e :: l, s => by
    obtain ⟨h1, h2⟩ := rangeV_bounds m l (goMin s.1 e.Seq, goMax s.2 e.Seq)
    simp only [List.foldl_cons]
    rw [h1, h2]
    have e1 : m ≤ goMin s.1 e.Seq ↔ m ≤ s.1 ∧ m ≤ e.Seq := by unfold goMin; split <;> omega
    have e2 : goMax s.2 e.Seq ≤ m ↔ s.2 ≤ m ∧ e.Seq ≤ m := by unfold goMax; split <;> omega
    rw [e1, e2]
    exact ⟨by simp only [List.mem_cons, forall_eq_or_imp, and_assoc], by simp only [List.mem_cons, forall_eq_or_imp, and_assoc]⟩
theorem rangeV_lo (l : List Ent) (m : Int) : m ≤ (rangeV l).1 ↔ m ≤ 1000001 ∧ ∀ x ∈ l, m ≤ x.Seq := (rangeV_bounds m l _).1
theorem rangeV_hi (l : List Ent) (m : Int) : (rangeV l).2 ≤ m ↔ -1 ≤ m ∧ ∀ x ∈ l, x.Seq ≤ m := (rangeV_bounds m l _).2
theorem tabsV_up {seq seq' low low' : Int} (h1 : low ≤ low' ∨ seq < low') (h2 : seq ≤ seq') : ∀ t : List (List Ent), tabsV seq low t = true → tabsV seq' low' t = true := by
  have go : ∀ (t : List (List Ent)) (low : Int), tabsV seq low t = true → tabsV seq' low t = true := by
    intro t
    induction t with
    | nil => intro _ _; rfl
    | cons x t ih =>
      intro low h
      simp only [tabsV, Bool.and_eq_true, decide_eq_true_eq] at h ⊢
      exact ⟨⟨h.1.1, h.1.2.1, h.1.2.2.1, by omega⟩, ih _ h.2⟩
  intro t h
  cases t with
  | nil => rfl
  | cons x t =>
    simp only [tabsV, Bool.and_eq_true, decide_eq_true_eq] at h ⊢
    exact ⟨⟨h.1.1, h.1.2.1, by omega, by omega⟩, go _ _ h.2⟩
theorem snapsV_up {seq seq' : Int} {l : List Int} (h2 : seq ≤ seq') (h : snapsV seq l = true) : snapsV seq' l = true := by
  unfold snapsV
  rw [List.all_eq_true]
  intro k hk
  have hk' : k < l.length := by simpa using hk
  obtain ⟨a, b⟩ := snaps_at h k hk'
  rw [snapP_at seq' l k hk', Bool.and_eq_true]
  refine ⟨decide_eq_true ⟨a.1, by omega⟩, ?_⟩
  by_cases h0 : 0 < k
  · rw [dif_pos h0]; exact decide_eq_true (b h0)
  · rw [dif_neg h0]
/-! words of bits -/
theorem iand64 {a b : Nat} (ha : a < 2 ^ 63) (hb : b < 2 ^ 63) : iand .i64 (a : Int) (b : Int) = ((a &&& b : Nat) : Int) := by
  unfold iand
  have h1 : a &&& b ≤ a := Nat.and_le_left
  have e : (BitVec.ofInt IntKind.i64.bits (a : Int) &&& BitVec.ofInt IntKind.i64.bits (b : Int)).toNat = a &&& b := by
    show (BitVec.ofInt 64 (a : Int) &&& BitVec.ofInt 64 (b : Int)).toNat = a &&& b
    rw [BitVec.ofInt_natCast, BitVec.ofInt_natCast, BitVec.toNat_and, BitVec.toNat_ofNat, BitVec.toNat_ofNat, Nat.mod_eq_of_lt (by omega), Nat.mod_eq_of_lt (by omega)]
  rw [e]
  exact wrap_ok (by omega) (by omega)
theorem ior64 {a b : Nat} (ha : a < 2 ^ 63) (hb : b < 2 ^ 63) : ior .i64 (a : Int) (b : Int) = ((a ||| b : Nat) : Int) := by
  unfold ior
  have h1 : a ||| b < 2 ^ 63 := Nat.or_lt_two_pow ha hb
  have e : (BitVec.ofInt IntKind.i64.bits (a : Int) ||| BitVec.ofInt IntKind.i64.bits (b : Int)).toNat = a ||| b := by
    show (BitVec.ofInt 64 (a : Int) ||| BitVec.ofInt 64 (b : Int)).toNat = a ||| b
    rw [BitVec.ofInt_natCast, BitVec.ofInt_natCast, BitVec.toNat_or, BitVec.toNat_ofNat, BitVec.toNat_ofNat, Nat.mod_eq_of_lt (by omega), Nat.mod_eq_of_lt (by omega)]
  rw [e]
  exact wrap_ok (by omega) (by omega)
theorem ixor64 {a b : Nat} (ha : a < 2 ^ 63) (hb : b < 2 ^ 63) : ixor .i64 (a : Int) (b : Int) = ((a ^^^ b : Nat) : Int) := by
  unfold ixor
  have h1 : a ^^^ b < 2 ^ 63 := Nat.xor_lt_two_pow ha hb
  have e : (BitVec.ofInt IntKind.i64.bits (a : Int) ^^^ BitVec.ofInt IntKind.i64.bits (b : Int)).toNat = a ^^^ b := by
    show (BitVec.ofInt 64 (a : Int) ^^^ BitVec.ofInt 64 (b : Int)).toNat = a ^^^ b
    rw [BitVec.ofInt_natCast, BitVec.ofInt_natCast, BitVec.toNat_xor, BitVec.toNat_ofNat, BitVec.toNat_ofNat, Nat.mod_eq_of_lt (by omega), Nat.mod_eq_of_lt (by omega)]
  rw [e]
  exact wrap_ok (by omega) (by omega)
theorem wrap32 (n : Int) : IntKind.u32.wrap n = n % 4294967296 := by simp [IntKind.wrap, IntKind.bits, IntKind.signed]
theorem wrap64u (n : Int) : IntKind.u64.wrap n = n % 18446744073709551616 := by simp [IntKind.wrap, IntKind.bits, IntKind.signed]
theorem ior32 {a b : Nat} (ha : a < 2 ^ 32) (hb : b < 2 ^ 32) : ior .u32 (a : Int) (b : Int) = ((a ||| b : Nat) : Int) := by
  unfold ior
  have h1 : a ||| b < 2 ^ 32 := Nat.or_lt_two_pow ha hb
  have e : (BitVec.ofInt IntKind.u32.bits (a : Int) ||| BitVec.ofInt IntKind.u32.bits (b : Int)).toNat = a ||| b := by
    show (BitVec.ofInt 32 (a : Int) ||| BitVec.ofInt 32 (b : Int)).toNat = a ||| b
    rw [BitVec.ofInt_natCast, BitVec.ofInt_natCast, BitVec.toNat_or, BitVec.toNat_ofNat, BitVec.toNat_ofNat, Nat.mod_eq_of_lt (by omega), Nat.mod_eq_of_lt (by omega)]
  rw [e, wrap32]
  omega
theorem ixor32 {a b : Nat} (ha : a < 2 ^ 32) (hb : b < 2 ^ 32) : ixor .u32 (a : Int) (b : Int) = ((a ^^^ b : Nat) : Int) := by
  unfold ixor
  have h1 : a ^^^ b < 2 ^ 32 := Nat.xor_lt_two_pow ha hb
  have e : (BitVec.ofInt IntKind.u32.bits (a : Int) ^^^ BitVec.ofInt IntKind.u32.bits (b : Int)).toNat = a ^^^ b := by
    show (BitVec.ofInt 32 (a : Int) ^^^ BitVec.ofInt 32 (b : Int)).toNat = a ^^^ b
    rw [BitVec.ofInt_natCast, BitVec.ofInt_natCast, BitVec.toNat_xor, BitVec.toNat_ofNat, BitVec.toNat_ofNat, Nat.mod_eq_of_lt (by omega), Nat.mod_eq_of_lt (by omega)]
  rw [e, wrap32]
  omega
theorem iand8 {a b : Nat} (ha : a < 2 ^ 8) (hb : b < 2 ^ 8) : iand .u8 (a : Int) (b : Int) = ((a &&& b : Nat) : Int) := by
  unfold iand
  have h1 : a &&& b ≤ a := Nat.and_le_left
  have e : (BitVec.ofInt IntKind.u8.bits (a : Int) &&& BitVec.ofInt IntKind.u8.bits (b : Int)).toNat = a &&& b := by
    show (BitVec.ofInt 8 (a : Int) &&& BitVec.ofInt 8 (b : Int)).toNat = a &&& b
    rw [BitVec.ofInt_natCast, BitVec.ofInt_natCast, BitVec.toNat_and, BitVec.toNat_ofNat, BitVec.toNat_ofNat, Nat.mod_eq_of_lt (by omega), Nat.mod_eq_of_lt (by omega)]
  rw [e]
  simp [IntKind.wrap, IntKind.bits, IntKind.signed]
  omega
theorem ishr_nat {k : IntKind} {a n : Nat} (hn : n ≤ k.bits) : ishr k (a : Int) (n : Int) = ((a / 2 ^ n : Nat) : Int) := by
  unfold ishr
  rw [Int.toNat_natCast, Nat.min_eq_left hn, Int.fdiv_eq_ediv_of_nonneg _ (by exact_mod_cast Nat.zero_le _)]
  norm_cast
theorem ishl64 {a n : Nat} (hn : n ≤ 64) (h : a * 2 ^ n < 2 ^ 63) : ishl .i64 (a : Int) (n : Int) = ((a * 2 ^ n : Nat) : Int) := by
  unfold ishl
  have hb : IntKind.i64.bits = 64 := rfl
  rw [Int.toNat_natCast, hb, Nat.min_eq_left hn]
  have e : (a : Int) * 2 ^ n = ((a * 2 ^ n : Nat) : Int) := by norm_cast
  rw [e]
  exact wrap_ok (by omega) (by omega)
theorem ishl32 {a n : Nat} (hn : n ≤ 32) : ishl .u32 (a : Int) (n : Int) = ((a * 2 ^ n % 4294967296 : Nat) : Int) := by
  unfold ishl
  have hb : IntKind.u32.bits = 32 := rfl
  have e : (a : Int) * 2 ^ n = ((a * 2 ^ n : Nat) : Int) := by norm_cast
  rw [Int.toNat_natCast, hb, Nat.min_eq_left hn, wrap32, e]
  generalize a * 2 ^ n = z
  omega
/-- the bits of a word turned to the left -/
def rotN (x n : Nat) : Nat := x * 2 ^ n % 4294967296 ||| x / 2 ^ (32 - n)
theorem rotN_lt {x n : Nat} (h : x < 4294967296) : rotN x n < 4294967296 := by
  unfold rotN
  refine Nat.or_lt_two_pow (n := 32) (Nat.mod_lt _ (by decide)) ?_
  exact Nat.lt_of_le_of_lt (Nat.div_le_self _ _) h
theorem ior_same {p q : Int} (hp : 0 ≤ p ∧ p < 4294967296) (hq : 0 ≤ q ∧ q < 4294967296) : ior .u32 p q = ior .i64 p q ∧ 0 ≤ ior .i64 p q ∧ ior .i64 p q < 4294967296 := by
  have e1 : p = (p.toNat : Int) := by omega
  have e2 : q = (q.toNat : Int) := by omega
  have h1 : p.toNat < 2 ^ 32 := by omega
  have h2 : q.toNat < 2 ^ 32 := by omega
  have h3 := Nat.or_lt_two_pow h1 h2
  rw [e1, e2, ior32 h1 h2, ior64 (by omega) (by omega)]
  generalize p.toNat ||| q.toNat = z at h3
  exact ⟨rfl, by omega, by omega⟩
theorem ishl_same (x : UInt8) (n : Nat) (hn : n ≤ 24) : ishl .u32 (IntKind.u32.wrap ((x.toNat : Nat) : Int)) (n : Int) = ishl .i64 (IntKind.i64.wrap ((x.toNat : Nat) : Int)) (n : Int) ∧ 0 ≤ ishl .i64 (IntKind.i64.wrap ((x.toNat : Nat) : Int)) (n : Int) ∧ ishl .i64 (IntKind.i64.wrap ((x.toNat : Nat) : Int)) (n : Int) < 4294967296 := by
  have hx := x.toNat_lt
  have w1 : IntKind.u32.wrap ((x.toNat : Nat) : Int) = ((x.toNat : Nat) : Int) := by rw [wrap32]; omega
  have w2 : IntKind.i64.wrap ((x.toNat : Nat) : Int) = ((x.toNat : Nat) : Int) := wrap_ok (by omega) (by omega)
  have hp : 2 ^ n ≤ 2 ^ 24 := Nat.pow_le_pow_right (by decide) hn
  have hm : x.toNat * 2 ^ n ≤ x.toNat * 2 ^ 24 := Nat.mul_le_mul_left _ hp
  rw [w1, w2, ishl32 (by omega), ishl64 (by omega) (by omega)]
  generalize x.toNat * 2 ^ n = z at hm
  have hz : z < 4294967296 := by omega
  rw [Nat.mod_eq_of_lt hz]
  exact ⟨rfl, by omega, by omega⟩
theorem ishl_samei (x : UInt8) (n : Int) (hn : 0 ≤ n ∧ n ≤ 24) : ishl .u32 (IntKind.u32.wrap ((x.toNat : Nat) : Int)) n = ishl .i64 (IntKind.i64.wrap ((x.toNat : Nat) : Int)) n ∧ 0 ≤ ishl .i64 (IntKind.i64.wrap ((x.toNat : Nat) : Int)) n ∧ ishl .i64 (IntKind.i64.wrap ((x.toNat : Nat) : Int)) n < 4294967296 := by
  have e : n = (n.toNat : Int) := by omega
  rw [e]
  exact ishl_same x n.toNat (by omega)
theorem bind_same {α β : Type} {x : Option α} {f g : α → Option β} (h : ∀ a, f a = g a) : x.bind f = x.bind g := by
  cases x with
  | none => rfl
  | some a => exact h a
theorem little_val (a b c d : UInt8) : ior .u32 (ior .u32 (ior .u32 (IntKind.u32.wrap ((a.toNat : Nat) : Int)) (ishl .u32 (IntKind.u32.wrap ((b.toNat : Nat) : Int)) (8 : Int))) (ishl .u32 (IntKind.u32.wrap ((c.toNat : Nat) : Int)) (16 : Int))) (ishl .u32 (IntKind.u32.wrap ((d.toNat : Nat) : Int)) (24 : Int)) =
      ior .i64 (ior .i64 (ior .i64 (IntKind.i64.wrap ((a.toNat : Nat) : Int)) (ishl .i64 (IntKind.i64.wrap ((b.toNat : Nat) : Int)) (8 : Int))) (ishl .i64 (IntKind.i64.wrap ((c.toNat : Nat) : Int)) (16 : Int))) (ishl .i64 (IntKind.i64.wrap ((d.toNat : Nat) : Int)) (24 : Int)) ∧
      0 ≤ ior .i64 (ior .i64 (ior .i64 (IntKind.i64.wrap ((a.toNat : Nat) : Int)) (ishl .i64 (IntKind.i64.wrap ((b.toNat : Nat) : Int)) (8 : Int))) (ishl .i64 (IntKind.i64.wrap ((c.toNat : Nat) : Int)) (16 : Int))) (ishl .i64 (IntKind.i64.wrap ((d.toNat : Nat) : Int)) (24 : Int)) ∧
      ior .i64 (ior .i64 (ior .i64 (IntKind.i64.wrap ((a.toNat : Nat) : Int)) (ishl .i64 (IntKind.i64.wrap ((b.toNat : Nat) : Int)) (8 : Int))) (ishl .i64 (IntKind.i64.wrap ((c.toNat : Nat) : Int)) (16 : Int))) (ishl .i64 (IntKind.i64.wrap ((d.toNat : Nat) : Int)) (24 : Int)) < 4294967296 := by
  have ha := a.toNat_lt
  have a1 : IntKind.u32.wrap ((a.toNat : Nat) : Int) = IntKind.i64.wrap ((a.toNat : Nat) : Int) := by rw [wrap32, wrap_ok (by omega) (by omega)]; omega
  have a2 : 0 ≤ IntKind.i64.wrap ((a.toNat : Nat) : Int) ∧ IntKind.i64.wrap ((a.toNat : Nat) : Int) < 4294967296 := by rw [wrap_ok (by omega) (by omega)]; omega
  obtain ⟨b1, b2⟩ := ishl_samei b 8 (by omega)
  obtain ⟨c1, c2⟩ := ishl_samei c 16 (by omega)
  obtain ⟨d1, d2⟩ := ishl_samei d 24 (by omega)
  obtain ⟨o1, o2⟩ := ior_same a2 b2
  obtain ⟨p1, p2⟩ := ior_same o2 c2
  obtain ⟨q1, q2⟩ := ior_same p2 d2
  refine ⟨?_, q2⟩
  rw [a1, b1, c1, d1, o1, p1, q1]
theorem sidx_nat (s : List UInt8) (i : Nat) (h : i < s.length) : sidx s (i : Int) = some s[i] := by
  unfold sidx
  rw [if_pos (by omega), Int.toNat_natCast, List.getElem?_eq_getElem h]
/-- words of 32 bits -/
def okW (l : List Wrd) : Prop := ∀ x ∈ l, 0 ≤ x.v ∧ x.v < 4294967296
theorem okW_set {l : List Wrd} {i : Nat} {x : Wrd} (h : okW l) (hx : 0 ≤ x.v ∧ x.v < 4294967296) : okW (l.set i x) := by
  intro y hy
  rcases List.mem_or_eq_of_mem_set hy with h1 | h1
  · exact h y h1
  · rw [h1]; exact hx
theorem okW_nat {l : List Wrd} (h : okW l) (k : Nat) (hk : k < l.length) : ∃ n : Nat, l[k].v = (n : Int) ∧ n < 4294967296 := by
  obtain ⟨h1, h2⟩ := h _ (List.getElem_mem hk)
  exact ⟨l[k].v.toNat, by omega, by omega⟩
/-- sixteen words -/
def goodW (l : List Wrd) : Prop := l.length = 16 ∧ okW l
noncomputable def selW (k : Nat) (i : Nat) (n : Nat) : Wrd := bif Nat.blt i k then Wrd.mk (n : Int) else Wrd.mk 0
def bytes4 (n : Nat) : List UInt8 := [toU8 (n : Int), toU8 ((n / 256 : Nat) : Int), toU8 ((n / 65536 : Nat) : Int), toU8 ((n / 16777216 : Nat) : Int)]
/-- the bytes of the first k words -/
noncomputable def outW (w s : List Wrd) : Nat → List UInt8
  | 0 => []
  | k + 1 => outW w s k ++ (match w[k]?, s[k]? with | some x, some y => bytes4 ((x.v + y.v).toNat % 4294967296) | _, _ => [])
theorem outW_succ (w s : List Wrd) (k : Nat) (hw : k < w.length) (hs : k < s.length) : outW w s (k + 1) = outW w s k ++ bytes4 ((w[k].v + s[k].v).toNat % 4294967296) := by
  show outW w s k ++ (match w[k]?, s[k]? with | some x, some y => _ | _, _ => _) = _
  rw [List.getElem?_eq_getElem hw, List.getElem?_eq_getElem hs]
theorem outW_len (w s : List Wrd) (hw : w.length = 16) (hs : s.length = 16) : ∀ k, k ≤ 16 → (outW w s k).length = 4 * k
  | 0, _ => rfl
  | k + 1, hk => by
    rw [outW_succ w s k (by omega) (by omega), List.length_append, outW_len w s hw hs k (by omega)]
    show 4 * k + 4 = _
    omega
theorem toU8_mod (n : Nat) : toU8 ((n % 256 : Nat) : Int) = toU8 (n : Int) := by
  unfold toU8
  congr 1
  omega
def chaOk (key : List UInt8) (counter : Int) (nonce : List UInt8) : Bool := decide (key.length = 32) && (decide (nonce.length = 12) && decide (0 ≤ counter ∧ counter ≤ 4294967295))
theorem chaOk_iff {key : List UInt8} {counter : Int} {nonce : List UInt8} (h : chaOk key counter nonce = true) : key.length = 32 ∧ nonce.length = 12 ∧ 0 ≤ counter ∧ counter ≤ 4294967295 := by
  unfold chaOk at h
  simp only [Bool.and_eq_true, decide_eq_true_eq] at h
  exact h
theorem bind_of {α β : Type} {x : Option α} {a : α} {f : α → Option β} {r : Option β} (h : x = some a) (h2 : f a = r) : x.bind f = r := by rw [h]; exact h2
/-- bytes of a number, the highest first -/
def fixV (n : Nat) : Nat → List UInt8
  | 0 => []
  | j + 1 => toU8 ((n / 256 ^ j : Nat) : Int) :: fixV n j
theorem fixV_len (n : Nat) : ∀ j, (fixV n j).length = j
  | 0 => rfl
  | j + 1 => by rw [fixV, List.length_cons, fixV_len n j]
theorem div_pow_succ (n b j : Nat) : n / b ^ j / b = n / b ^ (j + 1) := by rw [Nat.div_div_eq_div_mul, Nat.pow_succ]
def fixedV (n w : Int) : List UInt8 := bif decide (1 ≤ w ∧ w ≤ 7) && (decide (0 ≤ n) && decide (n.toNat / 256 ^ w.toNat = 0)) then fixV n.toNat w.toNat else []
/-- a number in bytes of seven bits, the lowest first -/
def varN : Nat → Nat → List UInt8
  | 0, n => [toU8 (n : Int)]
  | f + 1, n => bif decide (n < 128) then [toU8 (n : Int)] else toU8 ((128 + n % 128 : Nat) : Int) :: varN f (n / 128)
theorem varN_lt {f n : Nat} (h : n < 128) : varN f n = [toU8 (n : Int)] := by
  cases f with
  | zero => rfl
  | succ f => rw [varN, decide_eq_true h]; rfl
theorem varN_ge {f n : Nat} (h : 128 ≤ n) : varN (f + 1) n = toU8 ((128 + n % 128 : Nat) : Int) :: varN f (n / 128) := by
  rw [varN, decide_eq_false (by omega)]; rfl
/-- a loop that takes seven bits at a time -/
theorem var_loop {body : Int × List UInt8 → Option (Ctl (Int × List UInt8) (Ctl (Int × List UInt8) (List UInt8)))}
    (h1 : ∀ (n : Nat) (out : List UInt8), 128 ≤ n → n < 562949953421312 → out.length ≤ 100 → body ((n : Int), out) = some (.go (((n / 128 : Nat) : Int), out ++ [toU8 ((128 + n % 128 : Nat) : Int)])))
    (h2 : ∀ (n : Nat) (out : List UInt8), n < 128 → body ((n : Int), out) = some (.done (.go ((n : Int), out)))) :
    ∀ (f n : Nat) (out : List UInt8), n < 128 ^ (f + 1) → n < 562949953421312 → out.length + f ≤ 100 → ∃ (m : Nat) (out' : List UInt8), loopO body ((n : Int), out) = some (.go ((m : Int), out')) ∧ out' ++ [toU8 (m : Int)] = out ++ varN f n ∧ out'.length ≤ 100 := by
  intro f
  induction f with
  | zero =>
    intro n out hn _ ho
    have hn' : n < 128 := by simpa using hn
    exact ⟨n, out, by rw [loopO_eq, h2 n out hn'], by rw [varN_lt hn'], by omega⟩
  | succ f ih =>
    intro n out hn hb ho
    by_cases h : n < 128
    · exact ⟨n, out, by rw [loopO_eq, h2 n out h], by rw [varN_lt h], by omega⟩
    · have hn2 : n / 128 < 128 ^ (f + 1) := by
        rw [Nat.div_lt_iff_lt_mul (by decide)]
        rw [Nat.pow_succ] at hn
        exact hn
      obtain ⟨m, out', e1, e2, e3⟩ := ih (n / 128) (out ++ [toU8 ((128 + n % 128 : Nat) : Int)]) hn2 (by omega) (by simp; omega)
      refine ⟨m, out', ?_, ?_, e3⟩
      · rw [loopO_eq, h1 n out (by omega) hb (by omega)]
        exact e1
      · rw [e2, varN_ge (by omega), List.append_assoc]; rfl
def varV (n : Int) : List UInt8 := bif decide (0 ≤ n ∧ n ≤ 562949953421311) then varN 6 n.toNat else []
theorem or128 (m : Nat) (h : m < 128) : 128 ||| m = 128 + m := by
  have := Nat.two_pow_add_eq_or_of_lt (i := 7) (b := m) h 1
  rw [show 2 ^ 7 * 1 = 128 from rfl] at this
  exact this.symm
/-- the number that bytes of seven bits come to -/
def numV : List UInt8 → Nat
  | [] => 0
  | x :: l => x.toNat % 128 + 128 * numV l
theorem numV_lt : ∀ (l : List UInt8), numV l < 128 ^ l.length
  | [] => by decide
  | x :: l => by
    have := numV_lt l
    have hx : x.toNat % 128 < 128 := Nat.mod_lt _ (by decide)
    rw [numV, List.length_cons, Nat.pow_succ]
    omega
theorem numV_snoc : ∀ (l : List UInt8) (x : UInt8), numV (l ++ [x]) = numV l + 128 ^ l.length * (x.toNat % 128)
  | [], x => by simp [numV]
  | y :: l, x => by
    rw [List.cons_append, numV, numV, numV_snoc l x, List.length_cons, Nat.pow_succ, Nat.mul_add, Nat.mul_comm (128 ^ l.length) 128, Nat.mul_assoc]
    omega
/-- reading: the number and how many bytes -/
def readN : Nat → List UInt8 → Option (Nat × Nat)
  | 0, _ => none
  | _ + 1, [] => none
  | f + 1, x :: l => bif decide (x.toNat < 128) then some (x.toNat, 1) else match readN f l with
    | some (m, k) => bif decide (m = 0) then none else some (x.toNat % 128 + 128 * m, k + 1)
    | none => none
theorem toU8_toNat (n : Nat) : (toU8 (n : Int)).toNat = n % 256 := by
  unfold toU8
  rw [UInt8.toNat_ofNat']
  omega
theorem toU8_of (x : UInt8) : toU8 ((x.toNat : Nat) : Int) = x := by
  have := x.toNat_lt
  apply UInt8.toNat_inj.1
  rw [toU8_toNat]
  omega
/-- a beginning that is the form of its number -/
def goodN (l : List UInt8) : Prop := ∃ f, l.length ≤ f + 1 ∧ varN f (numV l) = l
theorem varN_more : ∀ (f g n : Nat), n < 128 ^ (f + 1) → n < 128 ^ (g + 1) → varN f n = varN g n
  | f, g, n, h1, h2 => by
    by_cases h : n < 128
    · rw [varN_lt h, varN_lt h]
    · cases f with
      | zero => simp at h1; omega
      | succ f =>
        cases g with
        | zero => simp at h2; omega
        | succ g =>
          rw [varN_ge (by omega), varN_ge (by omega), varN_more f g (n / 128) ?_ ?_]
          · rw [Nat.div_lt_iff_lt_mul (by decide)]; rw [Nat.pow_succ] at h1; exact h1
          · rw [Nat.div_lt_iff_lt_mul (by decide)]; rw [Nat.pow_succ] at h2; exact h2
theorem take_ne {α : Type} {l : List α} {j : Nat} (h1 : 1 ≤ j) (h2 : j ≤ l.length) : l.take j ≠ [] := by
  intro e
  have := congrArg List.length e
  rw [List.length_take, List.length_nil] at this
  omega
theorem good_one (f : Nat) (x : UInt8) : varN f (numV [x]) = [x] ↔ x.toNat < 128 := by
  have hx : x.toNat % 128 < 128 := Nat.mod_lt _ (by decide)
  rw [show numV [x] = x.toNat % 128 by simp [numV], varN_lt hx]
  constructor
  · intro h
    have h2 : toU8 ((x.toNat % 128 : Nat) : Int) = x := by simpa using h
    have h3 := congrArg UInt8.toNat h2
    rw [toU8_toNat] at h3
    omega
  · intro h
    rw [Nat.mod_eq_of_lt h, toU8_of]
theorem good_more (f : Nat) (x : UInt8) (l : List UInt8) (hl : l ≠ []) : varN (f + 1) (numV (x :: l)) = x :: l ↔ 128 ≤ x.toNat ∧ numV l ≠ 0 ∧ varN f (numV l) = l := by
  have hx : x.toNat % 128 < 128 := Nat.mod_lt _ (by decide)
  have hx2 := x.toNat_lt
  have hm : (x.toNat % 128 + 128 * numV l) % 128 = x.toNat % 128 := by omega
  have hd : (x.toNat % 128 + 128 * numV l) / 128 = numV l := by omega
  by_cases h0 : numV l = 0
  · rw [numV, h0, varN_lt (by omega)]
    constructor
    · intro h
      have : [] = l := by simpa using (List.cons.inj h).2
      exact absurd this.symm hl
    · rintro ⟨_, h, _⟩
      exact absurd rfl h
  · rw [numV, varN_ge (by omega), hm, hd]
    constructor
    · intro h
      obtain ⟨h1, h2⟩ := List.cons.inj h
      have h3 := congrArg UInt8.toNat h1
      rw [toU8_toNat] at h3
      exact ⟨by omega, h0, h2⟩
    · rintro ⟨h1, _, h2⟩
      rw [h2, show 128 + x.toNat % 128 = x.toNat by omega, toU8_of]
theorem readN_some : ∀ (f : Nat) (s : List UInt8) (n k : Nat), readN f s = some (n, k) → 1 ≤ k ∧ k ≤ f ∧ k ≤ s.length ∧ n = numV (s.take k) ∧ varN (f - 1) n = s.take k ∧ ∀ g j, 1 ≤ j → j ≤ g + 1 → j ≤ s.length → varN g (numV (s.take j)) = s.take j → j = k
  | 0, s, n, k, h => by cases h
  | f + 1, [], n, k, h => by cases h
  | f + 1, x :: l, n, k, h => by
    rw [readN] at h
    by_cases hx : x.toNat < 128
    · rw [decide_eq_true hx] at h
      simp only [cond_true, Option.some.injEq, Prod.mk.injEq] at h
      obtain ⟨rfl, rfl⟩ := h
      have hm : x.toNat % 128 = x.toNat := Nat.mod_eq_of_lt hx
      refine ⟨Nat.le_refl _, by omega, by simp, by simp [numV, hm], ?_, fun g j hj1 hjg hjl he => ?_⟩
      · have := (good_one (f + 1 - 1) x).2 hx
        rw [show numV [x] = x.toNat by simp [numV, hm]] at this
        exact this
      · cases j with
        | zero => omega
        | succ j =>
          cases j with
          | zero => rfl
          | succ j =>
            cases g with
            | zero => omega
            | succ g =>
              rw [List.take_succ_cons] at he
              have := (good_more g x (l.take (j + 1)) (take_ne (by omega) (by rw [List.length_cons] at hjl; omega))).1 he
              omega
    · rw [decide_eq_false hx] at h
      simp only [cond_false] at h
      cases hr : readN f l with
      | none => rw [hr] at h; cases h
      | some p =>
        obtain ⟨m, k'⟩ := p
        rw [hr] at h
        simp only at h
        by_cases hm : m = 0
        · rw [decide_eq_true hm] at h; cases h
        · rw [decide_eq_false hm] at h
          simp only [cond_false, Option.some.injEq, Prod.mk.injEq] at h
          obtain ⟨rfl, rfl⟩ := h
          obtain ⟨h1, h2, h3, h4, h5, h6⟩ := readN_some f l m k' hr
          have hne : l.take k' ≠ [] := take_ne h1 h3
          refine ⟨by omega, by omega, by simp; omega, by rw [List.take_succ_cons, numV, ← h4], ?_, fun g j hj1 hjg hjl he => ?_⟩
          · rw [List.take_succ_cons, Nat.add_sub_cancel]
            obtain ⟨f', rfl⟩ : ∃ f', f = f' + 1 := ⟨f - 1, by omega⟩
            rw [Nat.add_sub_cancel] at h5
            have := (good_more f' x (l.take k') hne).2 ⟨by omega, by rw [← h4]; exact hm, by rw [← h4]; exact h5⟩
            rw [numV, ← h4] at this
            exact this
          · cases j with
            | zero => omega
            | succ j =>
              cases j with
              | zero =>
                rw [List.take_succ_cons, List.take_zero] at he
                exact absurd ((good_one g x).1 he) hx
              | succ j =>
                cases g with
                | zero => omega
                | succ g =>
                  rw [List.take_succ_cons] at he
                  have hjl' : j + 1 ≤ l.length := by simp at hjl; omega
                  have := (good_more g x (l.take (j + 1)) (take_ne (by omega) hjl')).1 he
                  have := h6 g (j + 1) (by omega) (by omega) hjl' this.2.2
                  omega
theorem readN_none : ∀ (f : Nat) (s : List UInt8), readN f s = none → ∀ g j, 1 ≤ j → j ≤ f → j ≤ g + 1 → j ≤ s.length → varN g (numV (s.take j)) ≠ s.take j
  | 0, s, h => fun g j h1 h2 => by omega
  | f + 1, [], h => fun g j h1 h2 h3 h4 => by simp at h4; omega
  | f + 1, x :: l, h => by
    intro g j hj1 hjf hjg hjl he
    rw [readN] at h
    by_cases hx : x.toNat < 128
    · rw [decide_eq_true hx] at h; cases h
    · rw [decide_eq_false hx] at h
      simp only [cond_false] at h
      cases j with
      | zero => omega
      | succ j =>
        cases j with
        | zero =>
          rw [List.take_succ_cons, List.take_zero] at he
          exact hx ((good_one g x).1 he)
        | succ j =>
          cases g with
          | zero => omega
          | succ g =>
            rw [List.take_succ_cons] at he
            have hjl' : j + 1 ≤ l.length := by simp at hjl; omega
            obtain ⟨q1, q2, q3⟩ := (good_more g x (l.take (j + 1)) (take_ne (by omega) hjl')).1 he
            cases hr : readN f l with
            | none => exact readN_none f l hr g (j + 1) (by omega) (by omega) (by omega) hjl' q3
            | some p =>
              obtain ⟨m, k'⟩ := p
              rw [hr] at h
              simp only at h
              by_cases hm : m = 0
              · obtain ⟨h1, h2, h3, h4, h5, h6⟩ := readN_some f l m k' hr
                have := h6 g (j + 1) (by omega) (by omega) hjl' q3
                rw [← this] at h4
                exact q2 (by rw [← h4]; exact hm)
              · rw [decide_eq_false hm] at h; cases h
def readR : Option (Nat × Nat) → Int × Int
  | some (n, k) => ((n : Int), (k : Int))
  | none => (0, 0)
/-- reading of what comes behind i bytes -/
def readI (n i : Nat) : Option (Nat × Nat) → Int × Int
  | some (m, k) => bif decide (m = 0 ∧ 0 < i) then (0, 0) else (((n + 128 ^ i * m : Nat) : Int), ((i + k : Nat) : Int))
  | none => (0, 0)
theorem readI_zero (p : Option (Nat × Nat)) : readI 0 0 p = readR p := by
  cases p with
  | none => rfl
  | some p => simp [readI, readR]
theorem readI_step (n i f : Nat) (x : UInt8) (l : List UInt8) (hx : ¬ x.toNat < 128) : readI n i (readN (f + 1) (x :: l)) = readI (n + 128 ^ i * (x.toNat % 128)) (i + 1) (readN f l) := by
  rw [readN, decide_eq_false hx]
  simp only [cond_false]
  cases readN f l with
  | none => rfl
  | some p =>
    obtain ⟨m, k⟩ := p
    simp only
    by_cases hm : m = 0
    · simp [hm, readI]
    · rw [decide_eq_false hm]
      simp only [cond_false, readI]
      rw [decide_eq_false (by omega), decide_eq_false (by omega)]
      simp only [cond_false]
      have e : n + 128 ^ i * (x.toNat % 128 + 128 * m) = n + 128 ^ i * (x.toNat % 128) + 128 ^ i * 128 * m := by rw [Nat.mul_add, Nat.mul_assoc, Nat.add_assoc]
      rw [Nat.pow_succ, e, show i + (k + 1) = i + 1 + k by omega]
theorem or_add (n d i : Nat) (h : n < 2 ^ (7 * i)) : n ||| d * 2 ^ (7 * i) = n + 2 ^ (7 * i) * d := by
  rw [Nat.or_comm, Nat.mul_comm, ← Nat.two_pow_add_eq_or_of_lt h]
  omega
theorem pow128 (i : Nat) : 128 ^ i = 2 ^ (7 * i) := by rw [Nat.pow_mul]
theorem ssub_nat (s : List UInt8) (a b : Nat) (h1 : a ≤ b) (h2 : b ≤ s.length) : ssub s (a : Int) (b : Int) = some ((s.drop a).take (b - a)) := by
  unfold ssub
  rw [if_pos ⟨by omega, by omega, by omega⟩, Int.toNat_natCast, Int.toNat_natCast]
theorem ssub_end (s : List UInt8) (a : Nat) (h : a ≤ s.length) : ssub s (a : Int) (s.length : Int) = some (s.drop a) := by
  rw [ssub_nat s a s.length h (Nat.le_refl _), List.take_of_length_le (by simp)]
theorem num_loop {ρ : Type} (s : List UInt8) (k : Nat) (h1 : 1 ≤ k) (h7 : k ≤ 7) (hk : k ≤ s.length) :
    loopO (ρ := Ctl Int ρ) (fun (S9 : Int × Int) => if (decide (S9.2 ≥ (0 : Int))) = true then ((sidx s S9.2).bind fun E14 =>
  some (.go (IntKind.i64.wrap (IntKind.i64.wrap (S9.1 * (128 : Int)) + (Int.tmod (IntKind.i64.wrap ((E14.toNat : Nat) : Int)) (128 : Int))), IntKind.i64.wrap (S9.2 - (1 : Int)))))
  else (some (.done (.go S9.1))))
  ((0 : Int), (k : Int) - 1) = some (.go (numV (s.take k) : Int)) := by
  have hlen : (s.take k).length = k := by rw [List.length_take]; omega
  rw [loopO_count (fun t => ((numV ((s.take k).drop (k - t)) : Int), (k : Int) - 1 - (t : Int))) k (r := Ctl.go (numV (s.take k) : Int)) ?h0]
  case h0 => rw [show k - 0 = k by omega, List.drop_of_length_le (by omega)]; simp [numV]
  · intro t ht
    have hi : (k : Int) - 1 - (t : Int) = ((k - 1 - t : Nat) : Int) := by omega
    have hd : (s.take k).drop (k - (t + 1)) = s[k - 1 - t] :: (s.take k).drop (k - t) := by
      rw [show k - (t + 1) = k - 1 - t by omega, List.drop_eq_getElem_cons (by omega), List.getElem_take]
      rw [show k - 1 - t + 1 = k - t by omega]
    have hx := (s[k - 1 - t]).toNat_lt
    have hn := numV_lt ((s.take k).drop (k - t))
    have hl : ((s.take k).drop (k - t)).length = t := by rw [List.length_drop, hlen]; omega
    rw [hl] at hn
    have hp : 128 ^ t ≤ 128 ^ 6 := Nat.pow_le_pow_right (by decide) (by omega)
    have hm : Int.tmod (((s[k - 1 - t]).toNat : Nat) : Int) (128 : Int) = (((s[k - 1 - t]).toNat % 128 : Nat) : Int) := by rw [show (128 : Int) = ((128 : Nat) : Int) from rfl, ← Int.ofNat_tmod]
    simp only [hi, sidx_nat s (k - 1 - t) (by omega), Option.bind_some]
    rw [if_pos (by simp only [decide_eq_true_eq]; omega), wrap_ok (n := (((s[k - 1 - t]).toNat : Nat) : Int)) (by omega) (by omega), hm, hd, numV]
    generalize numV ((s.take k).drop (k - t)) = z at hn
    rw [wrap_ok (n := (z : Int) * 128) (by omega) (by omega), wrap_ok (by omega) (by omega), wrap_ok (by omega) (by omega)]
    congr 3
    · omega
    · omega
  · rw [if_neg (by simp only [decide_eq_true_eq]; omega)]
    simp
/-- so many numbers read from a place on -/
def l6V (s : List UInt8) : Nat → Nat → List Int × Int
  | 0, a => ([], (a : Int))
  | n + 1, a => bif decide (s.length < a) then ([], -1) else match readN 7 (s.drop a) with
    | some (x, k) => ((x : Int) :: (l6V s n (a + k)).1, (l6V s n (a + k)).2)
    | none => ([], -1)
def nonceV (kind n : Int) : List UInt8 := bif decide (0 ≤ kind ∧ kind ≤ 255) && decide (0 ≤ n ∧ n ≤ 562949953421311) then [toU8 kind, 0, 0, 0, 0] ++ fixedV n 7 else []
theorem fixedV_len (n : Int) (w : Nat) : (fixedV n w).length ≤ w := by
  unfold fixedV
  cases decide (1 ≤ (w : Int) ∧ (w : Int) ≤ 7) && (decide (0 ≤ n) && decide (n.toNat / 256 ^ (w : Int).toNat = 0))
  · simp
  · rw [cond_true, fixV_len]; simp
theorem fixedV_len7 (n : Int) (h : 0 ≤ n ∧ n ≤ 562949953421311) : (fixedV n 7).length = 7 := by
  unfold fixedV
  have h1 : n.toNat / 256 ^ (7 : Int).toNat = 0 := Nat.div_eq_of_lt (by show n.toNat < 256 ^ 7; omega)
  rw [decide_eq_true h.1, decide_eq_true h1]
  show (fixV n.toNat 7).length = 7
  exact fixV_len _ 7
theorem varN_len : ∀ (f n : Nat), (varN f n).length ≤ f + 1
  | 0, n => Nat.le_refl _
  | f + 1, n => by
    by_cases h : n < 128
    · rw [varN_lt h]; simp
    · rw [varN_ge (by omega), List.length_cons]
      have := varN_len f (n / 128)
      omega
theorem varV_len (n : Int) : (varV n).length ≤ 7 := by
  unfold varV
  cases decide (0 ≤ n ∧ n ≤ 562949953421311)
  · simp
  · exact varN_len 6 _
def mintOk (secret : List UInt8) (t e : Int) : Bool := decide (secret.length = 32) && (decide (1 ≤ t ∧ t ≤ 99) && decide (0 ≤ e ∧ e ≤ 1000000))
theorem mintOk_iff {secret : List UInt8} {t e : Int} (h : mintOk secret t e = true) : secret.length = 32 ∧ (1 ≤ t ∧ t ≤ 99) ∧ 0 ≤ e ∧ e ≤ 1000000 := by
  unfold mintOk at h
  simp only [Bool.and_eq_true, decide_eq_true_eq] at h
  exact h
theorem readN_var {s : List UInt8} {n k : Nat} (h : readN 7 s = some (n, k)) : varV (n : Int) = s.take k ∧ k ≤ s.length ∧ 1 ≤ k ∧ k ≤ 7 := by
  obtain ⟨h1, h2, h3, h4, h5, _⟩ := readN_some 7 s n k h
  have hn := numV_lt (s.take k)
  rw [List.length_take, Nat.min_eq_left h3, ← h4] at hn
  have hp : 128 ^ k ≤ 128 ^ 7 := Nat.pow_le_pow_right (by decide) h2
  refine ⟨?_, h3, h1, h2⟩
  unfold varV
  rw [decide_eq_true (by omega), cond_true, Int.toNat_natCast]
  exact h5
theorem skip_eq (w tenant k t : Int) : (if (!(decide (w = (0 : Int)))) = true then (if (!(decide (w = tenant))) = true then (some true)
  else (if (decide (k = (13 : Int))) = true then (some (!(decide (t = tenant))))
  else (some false)))
  else (if (decide (k = (13 : Int))) = true then (some (!(decide (t = tenant))))
  else (some false))) = some ((!decide (w = 0) && !decide (w = tenant)) || (decide (k = 13) && !decide (t = tenant))) := by
  cases decide (w = 0) <;> cases decide (w = tenant) <;> cases decide (k = 13) <;> cases decide (t = tenant) <;> rfl
theorem iand32 {a b : Nat} (ha : a < 2 ^ 32) (hb : b < 2 ^ 32) : iand .u32 (a : Int) (b : Int) = ((a &&& b : Nat) : Int) := by
  unfold iand
  have h1 : a &&& b ≤ a := Nat.and_le_left
  have e : (BitVec.ofInt IntKind.u32.bits (a : Int) &&& BitVec.ofInt IntKind.u32.bits (b : Int)).toNat = a &&& b := by
    show (BitVec.ofInt 32 (a : Int) &&& BitVec.ofInt 32 (b : Int)).toNat = a &&& b
    rw [BitVec.ofInt_natCast, BitVec.ofInt_natCast, BitVec.toNat_and, BitVec.toNat_ofNat, BitVec.toNat_ofNat, Nat.mod_eq_of_lt (by omega), Nat.mod_eq_of_lt (by omega)]
  rw [e, wrap32]
  omega
/-- a step of the checksum -/
def crcS (c : Nat) : Nat := bif decide (c % 2 = 1) then (c / 2) ^^^ 2197175160 else c / 2
theorem crcS_lt {c : Nat} (h : c < 2 ^ 32) : crcS c < 2 ^ 32 := by
  unfold crcS
  have h2 : c / 2 < 2 ^ 32 := by omega
  cases decide (c % 2 = 1)
  · exact h2
  · exact Nat.xor_lt_two_pow h2 (by decide)
def crcR : Nat → Nat → Nat
  | 0, c => c
  | k + 1, c => crcS (crcR k c)
theorem crcR_lt {c : Nat} (h : c < 2 ^ 32) : ∀ k, crcR k c < 2 ^ 32
  | 0 => h
  | k + 1 => crcS_lt (crcR_lt h k)
def crcN (s : List UInt8) : Nat → Nat
  | 0 => 4294967295
  | k + 1 => match s[k]? with
    | some x => crcR 8 (crcN s k ^^^ x.toNat)
    | none => crcN s k
theorem crcN_succ (s : List UInt8) (k : Nat) (h : k < s.length) : crcN s (k + 1) = crcR 8 (crcN s k ^^^ s[k].toNat) := by
  show (match s[k]? with | some x => _ | none => _) = _
  rw [List.getElem?_eq_getElem h]
theorem byte_lt (x : UInt8) : x.toNat < 2 ^ 32 := by have := x.toNat_lt; omega
theorem crcN_lt (s : List UInt8) : ∀ k, k ≤ s.length → crcN s k < 2 ^ 32
  | 0, _ => by show 4294967295 < 2 ^ 32; decide
  | k + 1, h => by rw [crcN_succ s k (by omega)]; exact crcR_lt (Nat.xor_lt_two_pow (crcN_lt s k (by omega)) (byte_lt _)) 8
def crcV (s : List UInt8) : Int := 4294967295 - (crcN s s.length : Int)
theorem crcV_range (s : List UInt8) : 0 ≤ crcV s ∧ crcV s ≤ 4294967295 := by
  have := crcN_lt s s.length (Nat.le_refl _)
  unfold crcV
  omega
/-- an edit as required -/
def numV1 (n : Int) : Bool := decide (0 ≤ n ∧ n ≤ 1000000)
theorem passes {ρ α : Type} (l : List α) (p : α → Bool) (body : Int → Option (Ctl Int (Ctl Unit Bool))) (h : ∀ k (hk : k < l.length), body (k : Int) = some (if p l[k] = true then .go ((k : Int) + 1) else .done (.done false))) (hn : body (l.length : Int) = some (.done (.go ()))) :
    loopO body 0 = some (if l.all p = true then .go () else .done false) := by
  rw [loopO_is (fun k s => s = (k : Int) ∧ l.all p = (l.drop k).all p) l.length (if l.all p = true then Ctl.go () else Ctl.done false) ?h0 ?h1 ?h2]
  case h0 => exact ⟨rfl, rfl⟩
  · rintro k s hk ⟨rfl, he⟩
    rw [h k hk, he, List.drop_eq_getElem_cons hk, List.all_cons]
    cases p l[k] with
    | false => right; rfl
    | true => left; exact ⟨(k : Int) + 1, rfl, by omega, by simp⟩
  · rintro s ⟨rfl, he⟩
    rw [he, List.drop_length, hn]
    rfl
theorem lens_eq (a b : Nat) : (if (decide ((a : Int) > (12 : Int))) = true then (some true) else (some (decide ((b : Int) > (12 : Int))))) = some (!(decide (a ≤ 12) && decide (b ≤ 12))) := by
  by_cases h : a ≤ 12
  · rw [decide_eq_true h, decide_eq_false (by omega : ¬ (a : Int) > 12)]
    by_cases h2 : b ≤ 12
    · rw [decide_eq_true h2, decide_eq_false (by omega : ¬ (b : Int) > 12)]; rfl
    · rw [decide_eq_false h2, decide_eq_true (by omega : (b : Int) > 12)]; rfl
  · rw [decide_eq_false h, decide_eq_true (by omega : (a : Int) > 12)]; rfl
/-- a string behind its length -/
def pieceV (s : List UInt8) : List UInt8 := varV (s.length : Int) ++ s
theorem pieceV_len (s : List UInt8) : (pieceV s).length ≤ 7 + s.length := by
  have := varV_len (s.length : Int)
  unfold pieceV
  rw [List.length_append]; omega
theorem flat_len {α : Type} (g : α → List UInt8) (m : Nat) : ∀ (l : List α), (∀ x ∈ l, (g x).length ≤ m) → (l.flatMap g).length ≤ m * l.length
  | [], _ => by simp
  | x :: l, h => by
    have h1 := h x (by simp)
    have h2 := flat_len g m l fun y hy => h y (by simp [hy])
    rw [List.flatMap_cons, List.length_append, List.length_cons, Nat.mul_succ]
    omega
theorem flat_take {α : Type} (g : α → List UInt8) (l : List α) (k : Nat) (h : k < l.length) : (l.take (k + 1)).flatMap g = (l.take k).flatMap g ++ g l[k] := by
  rw [List.take_add_one, List.getElem?_eq_getElem h, List.flatMap_append]
  simp
theorem flat_take_len {α : Type} (g : α → List UInt8) (m : Nat) (l : List α) (k : Nat) (h : ∀ x ∈ l, (g x).length ≤ m) : ((l.take k).flatMap g).length ≤ m * l.length := by
  have h1 := flat_len g m (l.take k) fun x hx => h x (List.mem_of_mem_take hx)
  have h2 : m * (l.take k).length ≤ m * l.length := Nat.mul_le_mul_left _ (by simp; omega)
  omega
theorem varN_ne (f n : Nat) : varN f n ≠ [] := by
  by_cases h : n < 128
  · rw [varN_lt h]; simp
  · cases f with
    | zero => simp [varN]
    | succ f => rw [varN_ge (by omega)]; simp
theorem varV_ne {n : Int} (h : 0 ≤ n ∧ n ≤ 562949953421311) : varV n ≠ [] := by
  unfold varV
  rw [decide_eq_true h]
  exact varN_ne 6 _
theorem readN_enc : ∀ (f n : Nat) (rest : List UInt8), n < 128 ^ (f + 1) → readN (f + 1) (varN f n ++ rest) = some (n, (varN f n).length)
  | 0, n, rest, h => by
    have hn : n < 128 := by simpa using h
    rw [varN_lt hn]
    show readN 1 (toU8 (n : Int) :: rest) = _
    rw [readN, toU8_toNat, Nat.mod_eq_of_lt (by omega), decide_eq_true hn]
    rfl
  | f + 1, n, rest, h => by
    by_cases hn : n < 128
    · rw [varN_lt hn]
      show readN (f + 2) (toU8 (n : Int) :: rest) = _
      rw [readN, toU8_toNat, Nat.mod_eq_of_lt (by omega), decide_eq_true hn]
      rfl
    · have h2 : n / 128 < 128 ^ (f + 1) := by
        rw [Nat.div_lt_iff_lt_mul (by decide)]; rw [Nat.pow_succ] at h; exact h
      rw [varN_ge (by omega), List.cons_append, readN, toU8_toNat, Nat.mod_eq_of_lt (by omega), decide_eq_false (by omega), readN_enc f (n / 128) rest h2]
      simp only [cond_false]
      rw [decide_eq_false (by omega)]
      simp only [cond_false, List.length_cons]
      congr 2
      omega
theorem readV_enc (n : Int) (h : 0 ≤ n ∧ n ≤ 562949953421311) (rest : List UInt8) : readN 7 (varV n ++ rest) = some (n.toNat, (varV n).length) := by
  unfold varV
  rw [decide_eq_true h]
  exact readN_enc 6 n.toNat rest (by show n.toNat < 562949953421312; omega)
theorem readN_range {s : List UInt8} {n k : Nat} (h : readN 7 s = some (n, k)) : n < 562949953421312 ∧ 1 ≤ k ∧ k ≤ s.length := by
  obtain ⟨h1, h2, h3, h4, _, _⟩ := readN_some 7 s n k h
  have hn := numV_lt (s.take k)
  rw [List.length_take, Nat.min_eq_left h3, ← h4] at hn
  have hp : 128 ^ k ≤ 128 ^ 7 := Nat.pow_le_pow_right (by decide) h2
  exact ⟨Nat.lt_of_lt_of_le hn hp, h1, h3⟩
/-- a number read on -/
def rdN (t : List UInt8) (a : Nat) (bad : Bool) : Int × Nat × Bool := bif bad then (0, a, true) else match readN 7 (t.drop a) with
  | none => (0, a, true)
  | some (x, k) => ((x : Int), a + k, false)
theorem rdN_range (t : List UInt8) (a : Nat) (bad : Bool) (h : a ≤ t.length) : (0 ≤ (rdN t a bad).1 ∧ (rdN t a bad).1 ≤ 562949953421311) ∧ (rdN t a bad).2.1 ≤ t.length ∧ ((rdN t a bad).2.2 = false → bad = false ∧ a < (rdN t a bad).2.1) := by
  unfold rdN
  cases bad with
  | true => exact ⟨⟨by simp, by simp⟩, h, fun e => by cases e⟩
  | false =>
    simp only [cond_false]
    cases hr : readN 7 (t.drop a) with
    | none => exact ⟨⟨by simp, by simp⟩, h, fun e => by cases e⟩
    | some p =>
      obtain ⟨x, k⟩ := p
      obtain ⟨h1, h2, h3⟩ := readN_range hr
      rw [List.length_drop] at h3
      refine ⟨⟨by simp, by simp only; omega⟩, by simp only; omega, fun _ => ?_⟩
      exact ⟨trivial, show a < a + k by omega⟩
/-- bytes read on -/
def rdB (t : List UInt8) (a : Nat) (bad : Bool) (n : Int) : List UInt8 × Nat × Bool := bif bad || decide (t.length < a + n.toNat) then ([], a, true) else ((t.drop a).take n.toNat, a + n.toNat, false)
theorem rdB_range (t : List UInt8) (a : Nat) (bad : Bool) (n : Int) (h : a ≤ t.length) : (rdB t a bad n).2.1 ≤ t.length ∧ a ≤ (rdB t a bad n).2.1 ∧ ((rdB t a bad n).2.2 = false → bad = false) := by
  unfold rdB
  cases bad with
  | true => exact ⟨h, Nat.le_refl _, fun e => by cases e⟩
  | false =>
    by_cases c : t.length < a + n.toNat
    · rw [decide_eq_true c]; exact ⟨h, Nat.le_refl _, fun e => by cases e⟩
    · rw [decide_eq_false c]; exact ⟨by simp only [Bool.or_self, cond_false]; omega, by simp, fun _ => rfl⟩
def rdS (t : List UInt8) (a : Nat) (bad : Bool) : List UInt8 × Nat × Bool := rdB t (rdN t a bad).2.1 (rdN t a bad).2.2 (rdN t a bad).1
theorem rdS_range (t : List UInt8) (a : Nat) (bad : Bool) (h : a ≤ t.length) : (rdS t a bad).2.1 ≤ t.length ∧ ((rdS t a bad).2.2 = false → bad = false ∧ a < (rdS t a bad).2.1) := by
  obtain ⟨h1, h2, h3⟩ := rdN_range t a bad h
  obtain ⟨h4, h5, h6⟩ := rdB_range t (rdN t a bad).2.1 (rdN t a bad).2.2 (rdN t a bad).1 h2
  unfold rdS
  refine ⟨h4, fun e => ?_⟩
  obtain ⟨h7, h8⟩ := h3 (h6 e)
  exact ⟨h7, by omega⟩
/-- items read on, as many as are said, up to one that is bad -/
def itemsI {α : Type} (g : Nat → α × Nat × Bool) : Nat → Nat → Bool → Int → List α → Nat × Bool × List α
  | 0, a, bad, _, out => (a, bad, out)
  | f + 1, a, bad, n, out => bif decide (n > 0) && !bad then itemsI g f (g a).2.1 (g a).2.2 (n - 1) (out ++ [(g a).1]) else (a, bad, out)
theorem items_loop {α ρ : Type} (t : List UInt8) (g : Nat → α × Nat × Bool) (body : List UInt8 × Int × Bool × Int × List α → Option (Ctl (List UInt8 × Int × Bool × Int × List α) (Ctl (List UInt8 × Int × Bool × List α) ρ)))
    (hg : ∀ a, a ≤ t.length → (g a).2.1 ≤ t.length ∧ ((g a).2.2 = false → a < (g a).2.1))
    (h1 : ∀ (a : Nat) (n : Int) (out : List α), a ≤ t.length → 0 < n → n ≤ 562949953421311 → out.length ≤ 4194304 → body (t, (a : Int), false, n, out) = some (.go (t, ((g a).2.1 : Int), (g a).2.2, n - 1, out ++ [(g a).1])))
    (h2 : ∀ (a : Nat) (bad : Bool) (n : Int) (out : List α), n ≤ 0 ∨ bad = true → body (t, (a : Int), bad, n, out) = some (.done (.go (t, (a : Int), bad, out)))) :
    ∀ (f a : Nat) (bad : Bool) (n : Int) (out : List α), a ≤ t.length → n ≤ 562949953421311 → (bad = true ∨ t.length - a + 1 ≤ f) → out.length + f ≤ 4194304 →
      loopO body (t, (a : Int), bad, n, out) = some (.go (t, ((itemsI g (f + 1) a bad n out).1 : Int), (itemsI g (f + 1) a bad n out).2.1, (itemsI g (f + 1) a bad n out).2.2)) := by
  intro f
  induction f with
  | zero =>
    intro a bad n out ha hn hf ho
    obtain rfl : bad = true := by rcases hf with h | h; exact h; omega
    rw [loopO_eq, h2 a true n out (.inr rfl)]
    simp [itemsI]
  | succ f ih =>
    intro a bad n out ha hn hf ho
    rw [loopO_eq]
    by_cases c : 0 < n ∧ bad = false
    · obtain ⟨c1, rfl⟩ := c
      obtain ⟨g1, g2⟩ := hg a ha
      rw [h1 a n out ha c1 hn (by omega)]
      simp only
      rw [itemsI, decide_eq_true (by omega : n > 0)]
      simp only [Bool.not_false, Bool.and_self, cond_true]
      refine ih _ _ _ _ g1 (by omega) ?_ (by simp; omega)
      cases hb : (g a).2.2 with
      | true => exact .inl rfl
      | false =>
        have := g2 hb
        rcases hf with h | h
        · cases h
        · right; omega
    · have c2 : n ≤ 0 ∨ bad = true := by
        cases bad with
        | true => exact .inr rfl
        | false => left; have : ¬ 0 < n := fun h => c ⟨h, rfl⟩; omega
      rw [h2 a bad n out c2, itemsI]
      have : (decide (n > 0) && !bad) = false := by
        rcases c2 with h | h
        · rw [decide_eq_false (by omega)]; rfl
        · rw [h]; simp
      rw [this]
      rfl
theorem itemsI_out {α : Type} (g : Nat → α × Nat × Bool) (t : List UInt8) (hg : ∀ a, a ≤ t.length → (g a).2.1 ≤ t.length ∧ ((g a).2.2 = false → a < (g a).2.1)) : ∀ (f a : Nat) (bad : Bool) (n : Int) (out : List α), a ≤ t.length → (itemsI g f a bad n out).1 ≤ t.length
  | 0, a, bad, n, out, h => h
  | f + 1, a, bad, n, out, h => by
    rw [itemsI]
    cases decide (n > 0) && !bad
    · exact h
    · exact itemsI_out g t hg f _ _ _ _ (hg a h).1
theorem drop_enc {t x rest : List UInt8} {a : Nat} (h : t.drop a = x ++ rest) : t.drop (a + x.length) = rest := by
  rw [← List.drop_drop, h, List.drop_left]
/-- .. of what was written so -/
theorem items_enc {α : Type} (g : Nat → α × Nat × Bool) (enc : α → List UInt8) (t : List UInt8) : ∀ (l : List α) (f a : Nat) (out : List α) (rest : List UInt8), (∀ x ∈ l, ∀ a rest, t.drop a = enc x ++ rest → g a = (x, a + (enc x).length, false)) →
    t.drop a = l.flatMap enc ++ rest → l.length ≤ f → itemsI g f a false (l.length : Int) out = (a + (l.flatMap enc).length, false, out ++ l)
  | [], f, a, out, rest, _, _, _ => by
    cases f with
    | zero => simp [itemsI]
    | succ f => simp [itemsI]
  | x :: l, f, a, out, rest, hg, hd, hf => by
    cases f with
    | zero => simp at hf
    | succ f =>
      have h1 : t.drop a = enc x ++ (l.flatMap enc ++ rest) := by rw [hd, List.flatMap_cons, List.append_assoc]
      rw [itemsI, hg x (by simp) a _ h1, decide_eq_true (by simp only [List.length_cons]; omega : ((x :: l).length : Int) > 0)]
      simp only [Bool.not_false, Bool.and_self, cond_true]
      rw [show (((x :: l).length : Nat) : Int) - 1 = ((l.length : Nat) : Int) by simp only [List.length_cons]; omega, items_enc g enc t l f (a + (enc x).length) (out ++ [x]) rest (fun y hy => hg y (by simp [hy])) (drop_enc h1) (by simpa using hf)]
      simp only [List.flatMap_cons, List.length_append, List.append_assoc, List.cons_append, List.nil_append, Nat.add_assoc]
theorem rdN_enc {t rest : List UInt8} {a : Nat} {n : Int} (h : t.drop a = varV n ++ rest) (hn : 0 ≤ n ∧ n ≤ 562949953421311) : rdN t a false = (n, a + (varV n).length, false) := by
  unfold rdN
  rw [h, readV_enc n hn rest]
  simp only [cond_false]
  rw [show ((n.toNat : Nat) : Int) = n by omega]
theorem rdS_enc {t rest x : List UInt8} {a : Nat} (h : t.drop a = pieceV x ++ rest) (hx : x.length ≤ 1048576) (ha : a ≤ t.length) : rdS t a false = (x, a + (pieceV x).length, false) := by
  have h1 : t.drop a = varV (x.length : Int) ++ (x ++ rest) := by rw [h]; unfold pieceV; rw [List.append_assoc]
  have h2 := drop_enc h1
  have hl := congrArg List.length h2
  rw [List.length_drop, List.length_append] at hl
  unfold rdS
  rw [rdN_enc h1 (by omega)]
  unfold rdB
  simp only [Bool.false_or, Int.toNat_natCast]
  by_cases hx0 : x.length = 0
  · have h0 : x = [] := List.eq_nil_of_length_eq_zero hx0
    have hl2 := congrArg List.length h1
    rw [List.length_drop, List.length_append] at hl2
    rw [decide_eq_false (by omega)]
    simp only [cond_false]
    subst h0
    simp [pieceV]
  · rw [decide_eq_false (by omega)]
    simp only [cond_false]
    rw [h2, List.take_left]
    simp only [pieceV, List.length_append, Nat.add_assoc]
theorem fixed4_len (n : Int) (h : 0 ≤ n ∧ n ≤ 4294967295) : (fixedV n 4).length = 4 := by
  unfold fixedV
  have h1 : n.toNat / 256 ^ (4 : Int).toNat = 0 := Nat.div_eq_of_lt (by show n.toNat < 256 ^ 4; omega)
  rw [decide_eq_true h.1, decide_eq_true h1]
  show (fixV n.toNat 4).length = 4
  exact fixV_len _ 4
/-- what the program reads -/
noncomputable def readD (t : List UInt8) : Nat × Bool × List Int := itemsI (fun a => rdN t a false) (t.length + 2) (rdN t 0 false).2.1 (rdN t 0 false).2.2 (rdN t 0 false).1 []
theorem l6V_range (s : List UInt8) : ∀ (n a : Nat), a ≤ s.length → ((l6V s n a).2 = -1 ∨ ∃ b : Nat, (l6V s n a).2 = (b : Int) ∧ b ≤ s.length ∧ (l6V s n a).1.length = n) ∧ ∀ x ∈ (l6V s n a).1, 0 ≤ x ∧ x ≤ 562949953421311
  | 0, a, h => ⟨.inr ⟨a, rfl, h, rfl⟩, fun x hx => by cases hx⟩
  | n + 1, a, h => by
    rw [l6V, decide_eq_false (by omega), cond_false]
    cases hr : readN 7 (s.drop a) with
    | none => exact ⟨.inl rfl, fun x hx => by cases hx⟩
    | some p =>
      obtain ⟨x, k⟩ := p
      obtain ⟨h1, h2, h3⟩ := readN_range hr
      rw [List.length_drop] at h3
      obtain ⟨q1, q2⟩ := l6V_range s n (a + k) (by omega)
      simp only
      refine ⟨?_, fun y hy => ?_⟩
      · rcases q1 with q | ⟨b, q3, q4, q5⟩
        · exact .inl q
        · exact .inr ⟨b, q3, q4, by rw [List.length_cons, q5]⟩
      · rcases List.mem_cons.1 hy with rfl | hy
        · omega
        · exact q2 y hy
theorem l6V_enc (s : List UInt8) : ∀ (l : List Int) (a : Nat) (rest : List UInt8), (∀ x ∈ l, 0 ≤ x ∧ x ≤ 1000000) → a ≤ s.length → s.drop a = l.flatMap varV ++ rest → l6V s l.length a = (l, ((a + (l.flatMap varV).length : Nat) : Int))
  | [], a, rest, _, _, _ => by simp [l6V]
  | x :: l, a, rest, hx, ha, h => by
    have h1 : s.drop a = varV x ++ (l.flatMap varV ++ rest) := by rw [h, List.flatMap_cons, List.append_assoc]
    have h2 := drop_enc h1
    have hx0 := hx x (by simp)
    have hl := congrArg List.length h1
    rw [List.length_drop, List.length_append] at hl
    have hb : a + (varV x).length ≤ s.length := by
      have := List.length_pos_iff.2 (varV_ne (n := x) (by omega))
      omega
    rw [List.length_cons, l6V, decide_eq_false (by omega), cond_false, h1, readV_enc x (by omega)]
    simp only
    rw [l6V_enc s l (a + (varV x).length) rest (fun y hy => hx y (by simp [hy])) hb h2]
    simp only [List.flatMap_cons, List.length_append, Nat.add_assoc]
    rw [show ((x.toNat : Nat) : Int) = x by omega]
/-- bytes behind their number -/
def takeB (s : List UInt8) (a : Nat) : List UInt8 × Int := match readN 7 (s.drop a) with
  | none => ([], -1)
  | some (x, k) => bif decide (x ≤ s.length - (a + k)) then ((s.drop (a + k)).take x, ((a + k + x : Nat) : Int)) else ([], -1)
theorem takeB_range (s : List UInt8) (a : Nat) (h : a ≤ s.length) : (takeB s a).2 = -1 ∨ ∃ b : Nat, (takeB s a).2 = (b : Int) ∧ b ≤ s.length := by
  unfold takeB
  cases hr : readN 7 (s.drop a) with
  | none => exact .inl rfl
  | some p =>
    obtain ⟨x, k⟩ := p
    obtain ⟨h1, h2, h3⟩ := readN_range hr
    rw [List.length_drop] at h3
    simp only
    by_cases c : x ≤ s.length - (a + k)
    · rw [decide_eq_true c]; exact .inr ⟨a + k + x, rfl, by omega⟩
    · rw [decide_eq_false c]; exact .inl rfl
theorem takeB_enc {s x rest : List UInt8} {a : Nat} (h : s.drop a = pieceV x ++ rest) (hx : x.length ≤ 1048576) (ha : a + (pieceV x).length ≤ s.length) : takeB s a = (x, ((a + (pieceV x).length : Nat) : Int)) := by
  have h1 : s.drop a = varV (x.length : Int) ++ (x ++ rest) := by rw [h]; unfold pieceV; rw [List.append_assoc]
  have h2 := drop_enc h1
  have hp : (pieceV x).length = (varV (x.length : Int)).length + x.length := by unfold pieceV; rw [List.length_append]
  unfold takeB
  rw [h1, readV_enc (x.length : Int) (by omega)]
  simp only [Int.toNat_natCast]
  rw [decide_eq_true (by omega)]
  simp only [cond_true]
  rw [h2, List.take_left, hp, Nat.add_assoc]
/-! draws -/
theorem iand255 (p : Int) : 0 ≤ iand .i64 p (255 : Int) ∧ iand .i64 p (255 : Int) ≤ 255 := by
  unfold iand
  have e : (BitVec.ofInt IntKind.i64.bits p &&& BitVec.ofInt IntKind.i64.bits (255 : Int)).toNat ≤ 255 := by
    show (BitVec.ofInt 64 p &&& BitVec.ofInt 64 ((255 : Nat) : Int)).toNat ≤ 255
    rw [BitVec.ofInt_natCast, BitVec.toNat_and, BitVec.toNat_ofNat]
    exact Nat.and_le_right
  generalize (BitVec.ofInt IntKind.i64.bits p &&& BitVec.ofInt IntKind.i64.bits (255 : Int)).toNat = z at e
  rw [wrap_ok (by omega) (by omega)]
  omega
theorem l1New_ok (code : List UInt8) (h : code.length ≤ 1048576) : ∃ q, spec_l1New code = some { b := code, i := 0, h := q } := by
  unfold spec_l1New
  obtain ⟨r, hr, q, rfl⟩ := loopO_total (ρ := Ctl Int L1Cur) (s0 := (IntKind.i64.wrap ((10101 : Int) + ((code.length : Nat) : Int)), (0 : Int))) (body := fun (S1 : Int × Int) => (if (decide (S1.2 < ((code.length : Nat) : Int))) = true then (some (decide (S1.2 < (4000 : Int))))
  else (some false)).bind (fun (T5 : Bool) =>
  if T5 = true then ((idx code S1.2).bind fun E9 =>
  some (.go (iand .i64 (IntKind.i64.wrap (IntKind.i64.wrap (IntKind.i64.wrap (S1.1 * (131 : Int)) + (IntKind.i64.wrap ((E9.toNat : Nat) : Int))) + (7 : Int))) (1073741823 : Int), IntKind.i64.wrap (S1.2 + (1 : Int)))))
  else (some (.done (.go S1.1))))) (fun k S => S.2 = (k : Int)) code.length (fun r => ∃ q, r = .go q) rfl (by
    rintro k ⟨p, i⟩ hk rfl
    simp only
    rw [decide_eq_true (by omega : (k : Int) < ((code.length : Nat) : Int))]
    by_cases c : (k : Int) < 4000
    · left
      rw [decide_eq_true c]
      simp only [if_true, Option.bind_some, idx_nat code k hk]
      exact ⟨_, rfl, by simp only; rw [wrap_ok (by omega) (by omega)]; omega⟩
    · right
      rw [decide_eq_false c]
      exact ⟨.go p, rfl, p, rfl⟩) (by
    rintro ⟨p, i⟩ rfl
    simp only
    rw [decide_eq_false (by omega : ¬ ((code.length : Nat) : Int) < ((code.length : Nat) : Int))]
    exact ⟨.go p, rfl, p, rfl⟩)
  rw [hr]
  exact ⟨q, rfl⟩
theorem l1Byte_ok (b : List UInt8) (i h : Int) (hi : 0 ≤ i ∧ i ≤ b.length) (hb : b.length ≤ 1048576) : ∃ x i' h', spec_l1Byte { b := b, i := i, h := h } = some (x, { b := b, i := i', h := h' }) ∧ (0 ≤ x ∧ x ≤ 255) ∧ (0 ≤ i' ∧ i' ≤ b.length) := by
  unfold spec_l1Byte
  simp only
  by_cases c : i < ((b.length : Nat) : Int)
  · rw [decide_eq_true c]
    simp only [if_true]
    rw [idx_some' hi.1 c]
    simp only [Option.bind_some, bindC_go]
    exact ⟨_, _, _, rfl, iand255 _, by rw [wrap_ok (by omega) (by omega)]; omega⟩
  · rw [decide_eq_false c]
    simp only [Bool.false_eq_true, if_false, bindC_go]
    exact ⟨_, _, _, rfl, iand255 _, hi⟩
theorem l1Below_ok (b : List UInt8) (i h n : Int) (hi : 0 ≤ i ∧ i ≤ b.length) (hb : b.length ≤ 1048576) : ∃ x i' h', spec_l1Below { b := b, i := i, h := h } n = some (x, { b := b, i := i', h := h' }) ∧ (0 ≤ x ∧ (0 < n → x < n) ∧ (n ≤ 0 → x = 0)) ∧ (0 ≤ i' ∧ i' ≤ b.length) := by
  unfold spec_l1Below
  by_cases c : n ≤ 0
  · rw [decide_eq_true c]
    simp only [if_true]
    exact ⟨_, _, _, rfl, ⟨Int.le_refl _, fun h => by omega, fun _ => rfl⟩, hi⟩
  · rw [decide_eq_false c]
    have hnz : nz n = some () := by unfold nz; rw [if_neg (by omega)]
    have hm : ∀ x : Int, 0 ≤ x → 0 ≤ Int.tmod x n ∧ Int.tmod x n < n := fun x hx => ⟨Int.tmod_nonneg _ hx, Int.tmod_lt_of_pos _ (by omega)⟩
    obtain ⟨x1, i1, h1, e1, g1, k1⟩ := l1Byte_ok b i h hi hb
    simp only [Bool.false_eq_true, if_false, e1, Option.bind_some, hnz]
    by_cases c2 : n ≤ 256
    · rw [decide_eq_true c2]
      simp only [if_true]
      have := hm x1 g1.1
      exact ⟨_, _, _, rfl, ⟨this.1, fun _ => this.2, fun h => by omega⟩, k1⟩
    · rw [decide_eq_false c2]
      simp only [Bool.false_eq_true, if_false]
      obtain ⟨x2, i2, h2, e2, g2, k2⟩ := l1Byte_ok b i1 h1 k1 hb
      simp only [e2, Option.bind_some]
      obtain ⟨x3, i3, h3, e3, g3, k3⟩ := l1Byte_ok b i2 h2 k2 hb
      simp only [e3, Option.bind_some]
      obtain ⟨x4, i4, h4, e4, g4, k4⟩ := l1Byte_ok b i3 h3 k3 hb
      simp only [e4, Option.bind_some]
      rw [wrap_ok (n := x1 * 16777216) (by omega) (by omega), wrap_ok (n := x2 * 65536) (by omega) (by omega), wrap_ok (n := x1 * 16777216 + x2 * 65536) (by omega) (by omega), wrap_ok (n := x3 * 256) (by omega) (by omega), wrap_ok (n := x1 * 16777216 + x2 * 65536 + x3 * 256) (by omega) (by omega), wrap_ok (by omega) (by omega)]
      have := hm (x1 * 16777216 + x2 * 65536 + x3 * 256 + x4) (by omega)
      exact ⟨_, _, _, rfl, ⟨this.1, fun _ => this.2, fun h => by omega⟩, k4⟩
theorem l1Once_ok (b : List UInt8) (i h n : Int) (hi : 0 ≤ i ∧ i ≤ b.length) (hb : b.length ≤ 1048576) : ∃ x i' h', spec_l1Once { b := b, i := i, h := h } n = some (x, { b := b, i := i', h := h' }) ∧ (0 ≤ i' ∧ i' ≤ b.length) := by
  unfold spec_l1Once
  obtain ⟨x, i1, h1, e, _, k⟩ := l1Below_ok b i h n hi hb
  simp only [e, Option.bind_some]
  exact ⟨_, _, _, rfl, k⟩
theorem l1PickInt_ok (b : List UInt8) (i h : Int) (l : List Int) (hl : l ≠ []) (hi : 0 ≤ i ∧ i ≤ b.length) (hb : b.length ≤ 1048576) : ∃ x i' h', spec_l1PickInt { b := b, i := i, h := h } l = some (x, { b := b, i := i', h := h' }) ∧ x ∈ l ∧ (0 ≤ i' ∧ i' ≤ b.length) := by
  unfold spec_l1PickInt
  have hp := List.length_pos_iff.2 hl
  obtain ⟨x, i1, h1, e, g, k⟩ := l1Below_ok b i h ((l.length : Nat) : Int) hi hb
  simp only [e, Option.bind_some]
  rw [idx_some' g.1 (g.2.1 (by omega))]
  simp only [Option.bind_some]
  exact ⟨_, _, _, rfl, List.getElem_mem _, k⟩
theorem big_eq (code : List UInt8) : laws_big code = some (decide (((code.length : Nat) : Int) > 1048576)) := rfl

theorem l1Text_ok (b : List UInt8) (i h most : Int) (hm : 0 ≤ most ∧ most ≤ 1000) (hi : 0 ≤ i ∧ i ≤ b.length) (hb : b.length ≤ 1048576) : ∃ s i' h', spec_l1Text { b := b, i := i, h := h } most = some (s, { b := b, i := i', h := h' }) ∧ s.length ≤ 1000 ∧ (0 ≤ i' ∧ i' ≤ b.length) := by
  unfold spec_l1Text
  obtain ⟨x1, i1, h1, e1, _, k1⟩ := l1Below_ok b i h 4 hi hb
  simp only [e1, Option.bind_some]
  rw [wrap_ok (n := most + 1) (by omega) (by omega)]
  obtain ⟨x2, i2, h2, e2, g2, k2⟩ := l1Below_ok b i1 h1 (most + 1) k1 hb
  simp only [e2, Option.bind_some]
  have hx2 := g2.2.1 (by omega)
  obtain ⟨r, hr, p, q, s, rfl, hq⟩ := loopO_total (ρ := Ctl (Int × Int × List UInt8) (List UInt8 × L1Cur)) (s0 := (i2, h2, x2, ([] : List UInt8))) (body := fun (S8 : Int × Int × Int × List UInt8) => if (decide (S8.2.2.1 > (0 : Int))) = true then ((spec_l1Byte ({ b := b, i := S8.1, h := S8.2.1 : L1Cur })).bind fun R13 =>
  bindC (if (decide (x1 = (1 : Int))) = true then (some (.go (Int.tmod R13.1 (2 : Int))))
  else (some (.go R13.1)))
  (fun (T16 : Int) => bindC (if (decide (x1 = (2 : Int))) = true then (some (.go (IntKind.i64.wrap ((97 : Int) + (Int.tmod T16 (4 : Int))))))
  else (some (.go T16)))
  (fun (T19 : Int) => (app 1 S8.2.2.2 ([toU8 T19])).bind fun E24 =>
  some (.go (R13.2.i, R13.2.h, IntKind.i64.wrap (S8.2.2.1 - (1 : Int)), E24)))))
  else (some (.done (.go (S8.1, S8.2.1, S8.2.2.2)))))
    (fun k S => (0 ≤ S.1 ∧ S.1 ≤ b.length) ∧ S.2.2.1 = x2 - (k : Int) ∧ S.2.2.2.length = k) x2.toNat (fun r => ∃ p q s, r = .go (p, q, s) ∧ (s.length ≤ 1000 ∧ 0 ≤ p ∧ p ≤ b.length)) ⟨k2, by simp, rfl⟩ (by
      rintro k ⟨p, q, m, s⟩ hk ⟨h3, h4, h5⟩
      simp only at h3 h4 h5
      subst h4
      left
      simp only
      rw [if_pos (by simp only [decide_eq_true_eq]; omega)]
      obtain ⟨x3, i3, h3', e3, _, k3⟩ := l1Byte_ok b p q h3 hb
      rw [e3]
      simp only [Option.bind_some]
      have key : ∃ t : Int, (bindC (if (decide (x1 = (1 : Int))) = true then (some (Ctl.go (Int.tmod x3 (2 : Int)))) else (some (Ctl.go x3)))
        (fun (T16 : Int) => bindC (if (decide (x1 = (2 : Int))) = true then (some (Ctl.go (IntKind.i64.wrap ((97 : Int) + (Int.tmod T16 (4 : Int)))))) else (some (Ctl.go T16)))
        (fun (T19 : Int) => (app 1 s ([toU8 T19])).bind fun E24 => some (Ctl.go (ρ := Ctl (Int × Int × List UInt8) (List UInt8 × L1Cur)) (i3, h3', IntKind.i64.wrap (x2 - (k : Int) - (1 : Int)), E24))))) = some (.go (i3, h3', IntKind.i64.wrap (x2 - (k : Int) - (1 : Int)), s ++ [toU8 t])) := by
        cases decide (x1 = 1) <;> cases decide (x1 = 2) <;> simp only [Bool.false_eq_true, if_false, if_true, bindC_go] <;> rw [app_ok (by simp; omega) (by simp; omega)] <;> exact ⟨_, rfl⟩
      obtain ⟨t, ht⟩ := key
      rw [ht]
      exact ⟨_, rfl, k3, by simp only; rw [wrap_ok (by omega) (by omega)]; omega, by simp; omega⟩) (by
      rintro ⟨p, q, m, s⟩ ⟨h3, h4, h5⟩
      simp only at h3 h4 h5
      subst h4
      simp only
      rw [if_neg (by simp only [decide_eq_true_eq]; omega)]
      exact ⟨_, rfl, p, q, s, rfl, by omega, h3⟩)
  rw [hr]
  exact ⟨s, p, q, rfl, hq.1, hq.2⟩
theorem xor_ne (p q : UInt8) (h : q ≠ 0) : p ^^^ q ≠ p := by
  intro e
  apply h
  have := congrArg (fun z => p ^^^ z) e
  simp only [← UInt8.xor_assoc, UInt8.xor_self, UInt8.zero_xor] at this
  exact this
def okS (l : List Int) : Bool := decide (1 ≤ l.length ∧ l.length ≤ 40) && l.all fun x => decide (0 ≤ x ∧ x ≤ 99)
theorem okS_iff {l : List Int} : okS l = true ↔ (1 ≤ l.length ∧ l.length ≤ 40) ∧ ∀ x ∈ l, 0 ≤ x ∧ x ≤ 99 := by
  unfold okS
  simp only [Bool.and_eq_true, decide_eq_true_eq, List.all_eq_true]
theorem setAll_cons (who : Int) (l : List Int) (i : Nat) (g : List Nat) : setAll who l (i :: g) = setAll who (l.set i who) g := rfl
theorem setAll_set (who v : Int) (i : Nat) : ∀ (g : List Nat) (l : List Int), i ∉ g → (setAll who l g).set i v = setAll who (l.set i v) g
  | [], _, _ => rfl
  | j :: g, l, h => by
    have hij : i ≠ j := fun e => h (by rw [e]; simp)
    rw [setAll_cons, setAll_cons, setAll_set who v i g _ (fun e => h (by simp [e])), List.set_comm _ _ (Ne.symm hij)]
theorem setAll_out (who : Int) (i : Nat) : ∀ (g : List Nat) (l : List Int), i ∉ g → (setAll who l g)[i]? = l[i]?
  | [], _, _ => rfl
  | j :: g, l, h => by
    have hij : j ≠ i := fun e => h (by rw [e]; simp)
    rw [setAll_cons, setAll_out who i g _ (fun e => h (by simp [e])), List.getElem?_set_ne hij]
theorem setAll_in (who : Int) (i : Nat) : ∀ (g : List Nat) (l : List Int), i ∈ g → i < l.length → (setAll who l g)[i]? = some who
  | j :: g, l, h, hi => by
    rw [setAll_cons]
    by_cases hg : i ∈ g
    · exact setAll_in who i g _ hg (by rw [List.length_set]; exact hi)
    · have hij : i = j := by
        rcases List.mem_cons.1 h with h | h
        · exact h
        · exact absurd h hg
      subst hij
      rw [setAll_out who i g _ hg, List.getElem?_set_self hi]
theorem give_back (who : Int) (hw : 1 ≤ who) : ∀ (g : List Nat) (l : List Int), g.Nodup → (∀ i ∈ g, l[i]? = some 0) → giveV who (g.map fun (i : Nat) => (i : Int)) (setAll who l g) = some l
  | [], l, _, _ => rfl
  | i :: g, l, hn, h0 => by
    obtain ⟨hi, hg⟩ := List.nodup_cons.1 hn
    have h1 := h0 i (by simp)
    obtain ⟨hlt, hv⟩ := List.getElem?_eq_some_iff.1 h1
    rw [List.map_cons, giveV_cons, setAll_cons]
    have hat : (setAll who (l.set i who) g)[i]? = some who := by rw [setAll_out who i g _ hi, List.getElem?_set_self hlt]
    rw [Int.toNat_natCast, if_pos ⟨by omega, by rw [setAll_length, List.length_set]; omega, hat, hw⟩, setAll_set who 0 i g _ hi, List.set_set]
    have hset : l.set i 0 = l := by
      apply List.ext_getElem?
      intro j
      by_cases e : i = j
      · subst e; rw [List.getElem?_set_self hlt, h1]
      · rw [List.getElem?_set_ne e]
    rw [hset]
    exact give_back who hw g l hg fun j hj => h0 j (by simp [hj])
theorem count_set (who : Int) (hw : 1 ≤ who) (l : List Int) (i : Nat) (h : l[i]? = some 0) : (l.set i who).countP (fun x => decide (x = who)) = l.countP (fun x => decide (x = who)) + 1 := by
  induction l generalizing i with
  | nil => simp at h
  | cons x l ih =>
    cases i with
    | zero =>
      simp only [List.getElem?_cons_zero, Option.some.injEq] at h
      subst h
      rw [List.set_cons_zero, List.countP_cons, List.countP_cons]
      have : ¬ (0 : Int) = who := by omega
      simp [this]
    | succ i =>
      rw [List.set_cons_succ, List.countP_cons, List.countP_cons, ih i (by simpa using h)]
      omega
theorem count_setAll (who : Int) (hw : 1 ≤ who) : ∀ (g : List Nat) (l : List Int), g.Nodup → (∀ i ∈ g, l[i]? = some 0) → (setAll who l g).countP (fun x => decide (x = who)) = l.countP (fun x => decide (x = who)) + g.length
  | [], l, _, _ => rfl
  | i :: g, l, hn, h0 => by
    obtain ⟨hi, hg⟩ := List.nodup_cons.1 hn
    have h1 := h0 i (by simp)
    rw [setAll_cons, count_setAll who hw g _ hg, count_set who hw l i h1, List.length_cons]
    · omega
    · intro j hj
      have hij : i ≠ j := fun e => hi (by rw [e]; exact hj)
      rw [List.getElem?_set_ne hij]
      exact h0 j (by simp [hj])
theorem freeIx_zero (l : List Int) (n : Int) : ∀ k, ∀ i ∈ freeIx l n k, l[i]? = some 0
  | 0, i, h => by simp [freeIx] at h
  | k + 1, i, h => by
    unfold freeIx at h
    split at h
    · rename_i hc
      rcases List.mem_append.1 h with h | h
      · exact freeIx_zero l n k i h
      · have : i = k := by simpa using h
        rw [this]; exact hc.1
    · exact freeIx_zero l n k i h
theorem freeIx_nodup (l : List Int) (n : Int) : ∀ k, (freeIx l n k).Nodup
  | 0 => List.nodup_nil
  | k + 1 => by
    unfold freeIx
    split
    · refine List.nodup_append.2 ⟨freeIx_nodup l n k, by simp, fun x hx y hy e => ?_⟩
      have h1 := freeIx_lt l n k x hx
      have : y = k := by simpa using hy
      omega
    · exact freeIx_nodup l n k
theorem freeIx_le (l : List Int) (n : Int) (hn : 0 ≤ n) : ∀ k, ((freeIx l n k).length : Int) ≤ n
  | 0 => by simpa [freeIx] using hn
  | k + 1 => by
    have := freeIx_le l n hn k
    unfold freeIx
    split
    · rename_i hc
      rw [List.length_append, List.length_singleton]
      omega
    · exact this
theorem okS_setAll {l : List Int} {who : Int} {g : List Nat} (h : okS l = true) (hw : 1 ≤ who ∧ who ≤ 99) : okS (setAll who l g) = true := by
  obtain ⟨h1, h2⟩ := okS_iff.1 h
  rw [okS_iff, setAll_length]
  refine ⟨h1, ?_⟩
  have key : ∀ (g : List Nat) (l : List Int), (∀ x ∈ l, 0 ≤ x ∧ x ≤ 99) → ∀ x ∈ setAll who l g, 0 ≤ x ∧ x ≤ 99 := by
    intro g
    induction g with
    | nil => intro l h x hx; exact h x hx
    | cons i g ih =>
      intro l h x hx
      rw [setAll_cons] at hx
      refine ih _ (fun y hy => ?_) x hx
      rcases List.mem_or_eq_of_mem_set hy with hy | hy
      · exact h y hy
      · omega
  exact key g l h2
theorem okS_wipe {l : List Int} {who : Int} (h : okS l = true) : okS (wipeV who l) = true := by
  obtain ⟨h1, h2⟩ := okS_iff.1 h
  rw [okS_iff]
  unfold wipeV
  rw [List.length_map]
  refine ⟨h1, fun x hx => ?_⟩
  obtain ⟨y, hy, rfl⟩ := List.mem_map.1 hx
  split
  · omega
  · exact h2 y hy
/-! draws of files and edits -/
theorem bindC_ite {τ R : Type} (c : Prop) [Decidable c] (x y : τ) (k : τ → Option R) : bindC (if c then some (.go x) else some (.go y)) k = k (if c then x else y) := by
  split <;> rfl
theorem loopO_G {τ ρ R : Type} {body : τ → Option (Ctl τ (Ctl ρ R))} {s0 : τ} {f : ρ → Option R} (G : Option R → Prop) (I : Nat → τ → Prop) (n : Nat) (Q : Ctl ρ R → Prop) (h0 : I 0 s0)
    (h : ∀ k s, k < n → I k s → (∃ s', body s = some (.go s') ∧ I (k + 1) s') ∨ (∃ r, body s = some (.done r) ∧ Q r)) (hn : ∀ s, I n s → ∃ r, body s = some (.done r) ∧ Q r)
    (hk : ∀ r, Q r → G (bindC (some r) f)) : G (bindC (loopO body s0) f) := by
  obtain ⟨r, hr, hq⟩ := loopO_total I n Q h0 h hn
  rw [hr]
  exact hk r hq
theorem l1Pick_ok (b : List UInt8) (i h : Int) (l : List (List UInt8)) (hl : l ≠ []) (hi : 0 ≤ i ∧ i ≤ b.length) (hb : b.length ≤ 1048576) : ∃ x i' h', spec_l1Pick { b := b, i := i, h := h } l = some (x, { b := b, i := i', h := h' }) ∧ x ∈ l ∧ (0 ≤ i' ∧ i' ≤ b.length) := by
  unfold spec_l1Pick
  have hp := List.length_pos_iff.2 hl
  obtain ⟨x, i1, h1, e, g, k⟩ := l1Below_ok b i h ((l.length : Nat) : Int) hi hb
  simp only [e, Option.bind_some]
  rw [idx_some' g.1 (g.2.1 (by omega))]
  simp only [Option.bind_some]
  exact ⟨_, _, _, rfl, List.getElem_mem _, k⟩
theorem l7Key_ok (b : List UInt8) (i h : Int) (hi : 0 ≤ i ∧ i ≤ b.length) (hb : b.length ≤ 1048576) : ∃ x i' h', spec_l7Key { b := b, i := i, h := h } = some (x, { b := b, i := i', h := h' }) ∧ x.length ≤ 3 ∧ (0 ≤ i' ∧ i' ≤ b.length) := by
  unfold spec_l7Key
  obtain ⟨x, i1, h1, e, g, k⟩ := l1Pick_ok b i h [[97], [98], [97, 98], [97, 98, 99], [98, 48], [99], [0], [122, 122]] (by simp) hi hb
  simp only [e, Option.bind_some]
  have : ∀ x ∈ ([[97], [98], [97, 98], [97, 98, 99], [98, 48], [99], [0], [122, 122]] : List (List UInt8)), x.length ≤ 3 := by decide
  exact ⟨_, _, _, rfl, this x g, k⟩
/-! reservations: what fits -/
theorem refuse_ok {p1 p2 : Prop} [Decidable p1] [Decidable p2] {b : Bool} (h : b = true ↔ (p1 ∧ p2)) : (if decide p1 = true then some (!decide (b = decide p2)) else some (!decide (b = false))) = some false := by
  by_cases c1 : p1 <;> by_cases c2 : p2 <;> cases b <;> simp_all
/-! rows of a log -/
theorem guard_spec (a b c : Prop) [Decidable a] [Decidable b] [Decidable c] (d : Nat) : ((if (!decide a) = true then (some true) else ((if decide b = true then (some (decide c)) else (some false)).bind fun R8 =>
    if (!R8) = true then (some true) else (some (decide ((d : Int) > (300 : Int)))))) : Option Bool) = some (!(decide a && (decide b && (decide c && decide (d ≤ 300))))) := by
  have : decide ((d : Int) > (300 : Int)) = !decide (d ≤ 300) := by
    by_cases h : d ≤ 300 <;> simp [h] <;> omega
  rw [this]
  by_cases ha : a <;> by_cases hb : b <;> by_cases hc : c <;> simp [ha, hb, hc]
theorem l6V_ge (s : List UInt8) : ∀ (n a b : Nat), (l6V s n a).2 = (b : Int) → a ≤ b
  | 0, a, b, h => by simp only [l6V] at h; omega
  | n + 1, a, b, h => by
    rw [l6V] at h
    cases hd : decide (s.length < a) with
    | true => rw [hd] at h; simp only [cond_true] at h; omega
    | false =>
      rw [hd, cond_false] at h
      cases hr : readN 7 (s.drop a) with
      | none => rw [hr] at h; simp only at h; omega
      | some p =>
        obtain ⟨x, k⟩ := p
        rw [hr] at h
        have := l6V_ge s n (a + k) b h
        omega
theorem takeB_ge (s : List UInt8) (a c : Nat) (h : (takeB s a).2 = (c : Int)) : a ≤ c := by
  unfold takeB at h
  cases hr : readN 7 (s.drop a) with
  | none => rw [hr] at h; simp only at h; omega
  | some p =>
    obtain ⟨x, k⟩ := p
    rw [hr] at h
    cases hd : decide (x ≤ s.length - (a + k)) with
    | true => simp only [hd, cond_true] at h; omega
    | false => simp only [hd, cond_false] at h; omega
theorem grow_loop (m : Int) (hm : m ≤ 1000) : ∃ w : List UInt8, ∀ {ρ : Type}, loopO (ρ := Ctl (List UInt8) ρ) (fun (S52 : List UInt8) => if (decide (((S52.length : Nat) : Int) < m)) = true then ((app 1 S52 ([(65 : UInt8)])).bind fun E59 =>
    some (.go E59))
    else (some (.done (.go S52)))) ([] : List UInt8) = some (.go w) := by
  refine ⟨List.replicate m.toNat 65, fun {ρ} => ?_⟩
  refine loopO_is (fun k S => S = List.replicate k 65) m.toNat _ rfl ?_ ?_
  · rintro k _ hk rfl
    left
    rw [if_pos (by simp only [decide_eq_true_eq, List.length_replicate]; omega), app_ok (by simp; omega) (by simp; omega)]
    exact ⟨_, rfl, by rw [List.replicate_succ']⟩
  · rintro _ rfl
    rw [if_neg (by simp only [decide_eq_true_eq, List.length_replicate]; omega)]
/-! streams -/
def streamOk (key : List UInt8) (counter : Int) (nonce : List UInt8) (n : Nat) : Bool := chaOk key counter nonce && decide (n = 0 ∨ counter + (((n - 1) / 64 : Nat) : Int) ≤ 4294967295)
theorem xor_back (x y : UInt8) : x ^^^ y ^^^ y = x := by rw [UInt8.xor_assoc, UInt8.xor_self, UInt8.xor_zero]
theorem chaOk_at {key : List UInt8} {counter : Int} {nonce : List UInt8} (h : chaOk key counter nonce = true) (k : Nat) (hk : counter + (k : Int) ≤ 4294967295) : chaOk key (counter + (k : Int)) nonce = true := by
  obtain ⟨h1, h2, h3, h4⟩ := chaOk_iff h
  unfold chaOk
  rw [decide_eq_true h1, decide_eq_true h2, decide_eq_true (by omega)]
  rfl
theorem take_next {α : Type} (z : List α) (m : Nat) (h : m < z.length) : z.take (m + 1) = z.take m ++ [z[m]] := by
  rw [List.take_add_one, List.getElem?_eq_getElem h]; rfl
/-! files sealed -/
theorem testBit_crcS {c : Nat} (h : c < 2 ^ 32) : (crcS c).testBit 31 = decide (c % 2 = 1) := by
  unfold crcS
  have h2 : c / 2 < 2 ^ 31 := by omega
  have e1 : (c / 2).testBit 31 = false := Nat.testBit_lt_two_pow h2
  cases hd : decide (c % 2 = 1) with
  | true => simp only [cond_true]; rw [Nat.testBit_xor, e1]; decide
  | false => simp only [cond_false]; exact e1
theorem xor_right_inj {a b p : Nat} (h : a ^^^ p = b ^^^ p) : a = b := by
  have := congrArg (· ^^^ p) h
  simpa [Nat.xor_assoc] using this
theorem crcS_inj {c d : Nat} (hc : c < 2 ^ 32) (hd : d < 2 ^ 32) (h : crcS c = crcS d) : c = d := by
  have hb : decide (c % 2 = 1) = decide (d % 2 = 1) := by rw [← testBit_crcS hc, ← testBit_crcS hd, h]
  unfold crcS at h
  cases h1 : decide (c % 2 = 1) with
  | true =>
    rw [← hb, h1] at h
    simp only [cond_true] at h
    have := xor_right_inj h
    have h2 := of_decide_eq_true h1
    rw [h1] at hb
    have h3 := of_decide_eq_true hb.symm
    omega
  | false =>
    rw [← hb, h1] at h
    simp only [cond_false] at h
    have h2 := of_decide_eq_false h1
    rw [h1] at hb
    have h3 := of_decide_eq_false hb.symm
    omega
theorem crcR_inj {c d : Nat} (hc : c < 2 ^ 32) (hd : d < 2 ^ 32) : ∀ k, crcR k c = crcR k d → c = d
  | 0, h => h
  | k + 1, h => crcR_inj hc hd k (crcS_inj (crcR_lt hc k) (crcR_lt hd k) h)
theorem crcN_agree {s t : List UInt8} : ∀ k, (∀ i, i < k → s[i]? = t[i]?) → crcN s k = crcN t k
  | 0, _ => rfl
  | k + 1, h => by
    show (match s[k]? with | some x => _ | none => _) = (match t[k]? with | some x => _ | none => _)
    rw [h k (by omega), crcN_agree k fun i hi => h i (by omega)]
theorem crcN_differ {s t : List UInt8} (hl : s.length = t.length) (j : Nat) (hj : j < s.length) (hne : s[j] ≠ t[j]'(by omega)) (ho : ∀ i, i ≠ j → s[i]? = t[i]?) : ∀ d, j + 1 + d ≤ s.length → crcN s (j + 1 + d) ≠ crcN t (j + 1 + d)
  | 0, h => by
    rw [Nat.add_zero, crcN_succ s j hj, crcN_succ t j (by omega), crcN_agree (s := s) (t := t) j fun i hi => ho i (by omega)]
    intro e
    have h1 := crcN_lt t j (by omega)
    have := crcR_inj (Nat.xor_lt_two_pow h1 (byte_lt _)) (Nat.xor_lt_two_pow h1 (byte_lt _)) 8 e
    rw [Nat.xor_comm, Nat.xor_comm (crcN t j)] at this
    exact hne (UInt8.toNat_inj.1 (xor_right_inj this))
  | d + 1, h => by
    have ih := crcN_differ hl j hj hne ho d (by omega)
    have hk : j + 1 + d < s.length := by omega
    have hk2 : j + 1 + d < t.length := by omega
    have hs := ho (j + 1 + d) (by omega)
    rw [List.getElem?_eq_getElem hk, List.getElem?_eq_getElem hk2, Option.some.injEq] at hs
    rw [← Nat.add_assoc, crcN_succ s _ hk, crcN_succ t _ hk2, hs]
    intro e
    have := crcR_inj (Nat.xor_lt_two_pow (crcN_lt s _ (by omega)) (byte_lt _)) (Nat.xor_lt_two_pow (crcN_lt t _ (by omega)) (byte_lt _)) 8 e
    exact ih (xor_right_inj this)
theorem crcV_differ {s t : List UInt8} (hl : s.length = t.length) (j : Nat) (hj : j < s.length) (hne : s[j] ≠ t[j]'(by omega)) (ho : ∀ i, i ≠ j → s[i]? = t[i]?) : crcV s ≠ crcV t := by
  have := crcN_differ hl j hj hne ho (s.length - (j + 1)) (by omega)
  rw [show j + 1 + (s.length - (j + 1)) = s.length by omega] at this
  unfold crcV
  rw [← hl]
  omega
theorem fixed4_inj {n m : Int} (hn : 0 ≤ n ∧ n ≤ 4294967295) (hm : 0 ≤ m ∧ m ≤ 4294967295) (h : fixedV n 4 = fixedV m 4) : n = m := by
  have key : ∀ x : Int, 0 ≤ x ∧ x ≤ 4294967295 → fixedV x 4 = [toU8 ((x.toNat / 16777216 : Nat) : Int), toU8 ((x.toNat / 65536 : Nat) : Int), toU8 ((x.toNat / 256 : Nat) : Int), toU8 ((x.toNat / 1 : Nat) : Int)] := by
    intro x hx
    unfold fixedV
    have e : (4 : Int).toNat = 4 := rfl
    rw [e, decide_eq_true (by omega : 0 ≤ x), decide_eq_true (by omega : x.toNat / 256 ^ 4 = 0), decide_eq_true (by omega)]
    rfl
  rw [key n hn, key m hm] at h
  simp only [List.cons.injEq, and_true] at h
  obtain ⟨h1, h2, h3, h4⟩ := h
  have g1 := congrArg UInt8.toNat h1
  have g2 := congrArg UInt8.toNat h2
  have g3 := congrArg UInt8.toNat h3
  have g4 := congrArg UInt8.toNat h4
  simp only [toU8_toNat] at g1 g2 g3 g4
  omega
theorem nonceV_len {k n : Int} (hk : 0 ≤ k ∧ k ≤ 255) (hn : 0 ≤ n ∧ n ≤ 562949953421311) : (nonceV k n).length = 12 := by
  unfold nonceV
  rw [decide_eq_true hk, decide_eq_true hn]
  simp only [Bool.and_self, cond_true, List.length_append, fixedV_len7 n hn]
  rfl
theorem guard2 (p : Prop) [Decidable p] (l : Nat) : (if decide p = true then (some true) else (some (decide (((l : Nat) : Int) > (2000 : Int))))) = some (decide p || decide (2000 < l)) := by
  have : decide (((l : Nat) : Int) > (2000 : Int)) = decide (2000 < l) := decide_eq_decide.2 (by omega)
  rw [this]
  cases decide p <;> rfl
theorem open_ite {α : Type} {p : Prop} [Decidable p] (a b : α) : (if (!decide p) = true then a else b) = bif decide p then b else a := by
  cases decide p <;> rfl
theorem xor_ne2 (x : UInt8) (m : Int) (hm : 1 ≤ m ∧ m ≤ 255) : x ^^^ toU8 m ≠ x := by
  intro e
  have h1 : toU8 m = 0 := by
    have : x ^^^ (x ^^^ toU8 m) = x ^^^ x := by rw [e]
    rwa [← UInt8.xor_assoc, UInt8.xor_self, UInt8.zero_xor] at this
  obtain ⟨k, rfl⟩ : ∃ k : Nat, m = (k : Int) := ⟨m.toNat, by omega⟩
  have h2 := congrArg UInt8.toNat h1
  rw [toU8_toNat] at h2
  have h3 : (0 : UInt8).toNat = 0 := rfl
  omega
/-! a known block -/
def stepN (l : List Nat) (x y z r : Nat) : List Nat := (l.set x ((l.getD x 0 + l.getD y 0) % 4294967296)).set z (rotN ((l.set x ((l.getD x 0 + l.getD y 0) % 4294967296)).getD z 0 ^^^ ((l.getD x 0 + l.getD y 0) % 4294967296)) r)
def quarterN (l : List Nat) (a b c d : Nat) : List Nat := stepN (stepN (stepN (stepN l a b d 16) c d b 12) a b d 8) c d b 7
def colN (l : List Nat) : Nat → List Nat
  | 0 => l
  | k + 1 => quarterN (colN l k) k (4 + k) (8 + k) (12 + k)
def diagN (l : List Nat) : Nat → List Nat
  | 0 => l
  | k + 1 => quarterN (diagN l k) k (4 + (k + 1) % 4) (8 + (k + 2) % 4) (12 + (k + 3) % 4)
def roundN (l : List Nat) : List Nat := diagN (colN l 4) 4
def wL (l : List Nat) : List Wrd := l.map fun (n : Nat) => Wrd.mk (n : Int)
def goodL (l : List Nat) : Prop := l.length = 16 ∧ ∀ n ∈ l, n < 4294967296
theorem wL_good {l : List Nat} (h : goodL l) : goodW (wL l) := by
  refine ⟨by unfold wL; rw [List.length_map]; exact h.1, fun x hx => ?_⟩
  obtain ⟨n, hn, rfl⟩ := List.mem_map.1 hx
  have := h.2 n hn
  show (0 : Int) ≤ (n : Int) ∧ (n : Int) < 4294967296
  omega
theorem wL_set (l : List Nat) (i n : Nat) : (wL l).set i (Wrd.mk (n : Int)) = wL (l.set i n) := by unfold wL; rw [List.map_set]
theorem wL_at (l : List Nat) (i : Nat) (h : i < l.length) : idx (wL l) (i : Int) = some (Wrd.mk ((l.getD i 0 : Nat) : Int)) := by
  rw [idx_nat _ i (by unfold wL; rw [List.length_map]; exact h)]
  unfold wL
  rw [List.getElem_map, List.getD_eq_getElem?_getD, List.getElem?_eq_getElem h]
  rfl
theorem getD_lt {l : List Nat} (h : ∀ n ∈ l, n < 4294967296) (i : Nat) : l.getD i 0 < 4294967296 := by
  rw [List.getD_eq_getElem?_getD]
  rcases Nat.lt_or_ge i l.length with c | c
  · rw [List.getElem?_eq_getElem c]; exact h _ (List.getElem_mem c)
  · rw [List.getElem?_eq_none c]; decide
theorem setN_lt {l : List Nat} (h : ∀ n ∈ l, n < 4294967296) (i m : Nat) (hm : m < 4294967296) : ∀ n ∈ l.set i m, n < 4294967296 := by
  intro n hn
  rcases List.mem_or_eq_of_mem_set hn with c | c
  · exact h n c
  · rw [c]; exact hm
def outN (w s : List Nat) : Nat → List UInt8
  | 0 => []
  | k + 1 => outN w s k ++ bytes4 ((w.getD k 0 + s.getD k 0) % 4294967296)
theorem outN_eq (w s : List Nat) (hw : w.length = 16) (hs : s.length = 16) : ∀ k, k ≤ 16 → outW (wL w) (wL s) k = outN w s k
  | 0, _ => rfl
  | k + 1, hk => by
    have l1 : k < (wL w).length := by unfold wL; rw [List.length_map]; omega
    have l2 : k < (wL s).length := by unfold wL; rw [List.length_map]; omega
    have a1 : ∀ (l : List Nat) (h : k < l.length) (h2 : k < (wL l).length), (wL l)[k].v = ((l.getD k 0 : Nat) : Int) := by
      intro l h h2
      have := wL_at l k h
      rw [idx_nat _ k h2, Option.some.injEq] at this
      rw [this]
    rw [outW_succ _ _ k l1 l2, outN_eq w s hw hs k (by omega), a1 w (by omega) l1, a1 s (by omega) l2]
    have : (((w.getD k 0 : Nat) : Int) + ((s.getD k 0 : Nat) : Int)).toNat = w.getD k 0 + s.getD k 0 := by omega
    rw [this]
    rfl
def keyK : List UInt8 := [0, 1, 2, 3, 4, 5, 6, 7, 8, 9, 10, 11, 12, 13, 14, 15, 16, 17, 18, 19, 20, 21, 22, 23, 24, 25, 26, 27, 28, 29, 30, 31]
def nonceK : List UInt8 := [0, 0, 0, 9, 0, 0, 0, 74, 0, 0, 0, 0]
def LK0 : List Nat := [1634760805, 857760878, 2036477234, 1797285236, 50462976, 117835012, 185207048, 252579084, 319951120, 387323156, 454695192, 522067228, 1, 150994944, 1241513984, 0]
def LK1 : List Nat := [3444762903, 2242577332, 3007673237, 4184729565, 3300379938, 1546524794, 3378426977, 829194266, 2079840064, 2128467524, 4053908981, 1980909258, 1796036771, 1738032922, 3610767719, 4050880653]
def LK2 : List Nat := [3474617732, 76097516, 1409621978, 3259301672, 2417831744, 2037692444, 932040628, 3444047118, 766489110, 667458774, 3443301024, 2046593479, 279900557, 371296101, 1761044229, 81194530]
def LK3 : List Nat := [60899378, 1722898727, 2641062722, 3092005129, 2803120864, 2694525917, 2782572424, 802757235, 3373034264, 1512055827, 3255697846, 1926065012, 3124090743, 3009475007, 2172137819, 751901466]
def LK4 : List Nat := [2586654089, 186907726, 1085225835, 3471475012, 169607110, 1582928887, 2567226087, 221464344, 3832308564, 3377476137, 83817898, 4170399602, 646435958, 1424380465, 898957253, 725332682]
def LK5 : List Nat := [3308460229, 3392298390, 2122125771, 872735434, 651677555, 1619579769, 3237013949, 3809529273, 2922162395, 1123449970, 1902549706, 2539394845, 2657010216, 2105911795, 538773334, 1677355347]
def LK6 : List Nat := [77796122, 1712808713, 68532913, 1639481506, 919373511, 3213509733, 4152219424, 4228635792, 131152586, 3943426479, 1633260689, 2441417436, 867592301, 2036123249, 3221526898, 2695371742]
def LK7 : List Nat := [2607871263, 2124983313, 568675753, 3392748335, 2477819526, 1783386286, 421603930, 2600675672, 3627619934, 1275519626, 3556632990, 648855869, 2785670485, 740582729, 2501187667, 746879501]
def LK8 : List Nat := [3395061213, 2477062414, 3656441688, 652051165, 2552587256, 1898621439, 664429032, 2534372029, 472224538, 1367390992, 2006722535, 1409777160, 2847363579, 942619874, 2377217405, 3426224139]
def LK9 : List Nat := [3065544166, 2583781704, 2475005973, 1226172108, 3694379298, 2564919203, 1610344700, 4145367947, 683801779, 3300102045, 2212689367, 2099558795, 554142498, 2979260323, 3002373001, 1826512934]
def LK10 : List Nat := [2205644971, 3795375971, 2793071134, 1498463023, 3304247495, 4234328879, 2409634044, 1063176119, 861041090, 4069820915, 3938298108, 2196008637, 3516666548, 2957907678, 2659438795, 1312575650]
theorem LK0_good : goodL LK0 := ⟨rfl, by decide⟩
theorem LK_step0 : roundN LK0 = LK1 := by decide +kernel
theorem LK_step1 : roundN LK1 = LK2 := by decide +kernel
theorem LK_step2 : roundN LK2 = LK3 := by decide +kernel
theorem LK_step3 : roundN LK3 = LK4 := by decide +kernel
theorem LK_step4 : roundN LK4 = LK5 := by decide +kernel
theorem LK_step5 : roundN LK5 = LK6 := by decide +kernel
theorem LK_step6 : roundN LK6 = LK7 := by decide +kernel
theorem LK_step7 : roundN LK7 = LK8 := by decide +kernel
theorem LK_step8 : roundN LK8 = LK9 := by decide +kernel
theorem LK_step9 : roundN LK9 = LK10 := by decide +kernel
def outK : List UInt8 := [16, 241, 231, 228, 209, 59, 89, 21, 80, 15, 221, 31, 163, 32, 113, 196, 199, 209, 244, 199, 51, 192, 104, 3, 4, 34, 170, 154, 195, 212, 108, 78, 210, 130, 100, 70, 7, 159, 170, 9, 20, 194, 215, 5, 217, 139, 2, 162, 181, 18, 156, 209, 222, 22, 78, 185, 203, 208, 131, 232, 162, 80, 60, 78]
theorem outK_eq : outN LK10 LK0 16 = outK := by decide +kernel
def digitV (k : Nat) : UInt8 := ([48, 49, 50, 51, 52, 53, 54, 55, 56, 57, 97, 98, 99, 100, 101, 102] : List UInt8).getD k 0
def hexB (x : UInt8) : List UInt8 := [digitV (x.toNat / 16), digitV (x.toNat % 16)]
theorem key_loop {ρ : Type} : loopO (ρ := Ctl (List UInt8) ρ) (fun (S36 : Int × List UInt8) => if (decide (S36.1 < (32 : Int))) = true then ((app 1 S36.2 ([toU8 S36.1])).bind fun E43 =>
    some (.go (IntKind.i64.wrap (S36.1 + (1 : Int)), E43)))
    else (some (.done (.go S36.2)))) ((0 : Int), ([] : List UInt8)) = some (.go keyK) := by
  rw [show keyK = (List.range 32).map fun (k : Nat) => toU8 (k : Int) from by decide +kernel]
  refine loopO_is (fun k S => S = ((k : Int), (List.range k).map fun (k : Nat) => toU8 (k : Int))) 32 _ rfl ?_ ?_
  · rintro k _ hk rfl
    left
    simp only
    rw [if_pos (by simp only [decide_eq_true_eq]; omega), app_ok (by simp; omega) (by simp; omega), wrap_ok (by omega) (by omega)]
    exact ⟨_, rfl, by rw [List.range_succ, List.map_append]; rfl⟩
  · rintro _ rfl
    rfl
/-! all that an iterator meets -/
/-- within the bounds -/
def inV (f t : List UInt8) (e : KV) : Bool := !sLt e.Key f && (decide (t = []) || sLt e.Key t)
theorem filter_span (p : KV → Bool) (l : List KV) : ∀ (d a : Nat), a + d ≤ l.length → (∀ i (hi : i < l.length), a ≤ i → i < a + d → p l[i] = false) → (l.take (a + d)).filter p = (l.take a).filter p
  | 0, a, _, _ => rfl
  | d + 1, a, h, hb => by
    rw [← Nat.add_assoc, List.take_add_one, List.getElem?_eq_getElem (by omega), Option.toList_some, List.filter_append, filter_span p l d a (by omega) (fun i hi h1 h2 => hb i hi h1 (by omega))]
    have := hb (a + d) (by omega) (by omega) (by omega)
    simp [this]
theorem filter_drop_span (p : KV → Bool) (l : List KV) : ∀ (d j : Nat), j + d ≤ l.length → (∀ i (hi : i < l.length), j ≤ i → i < j + d → p l[i] = false) → (l.drop j).filter p = (l.drop (j + d)).filter p
  | 0, j, _, _ => rfl
  | d + 1, j, h, hb => by
    have hj : j < l.length := by omega
    rw [List.drop_eq_getElem_cons hj, List.filter_cons, if_neg (by rw [hb j hj (by omega) (by omega)]; simp), filter_drop_span p l d (j + 1) (by omega) (fun i hi h1 h2 => hb i hi (by omega) (by omega))]
    congr 2
    omega
theorem want_loop {ρ : Type} (l : List KV) (f t : List UInt8) (hl : l.length ≤ 1000000) :
    loopO (ρ := Ctl (List KV) ρ) (fun (S54 : Int × List KV) => if (decide (S54.1 < ((l.length : Nat) : Int))) = true then (((idx l S54.1).bind fun E61 =>
      if (!(sLt E61.Key f)) = true then (if (decide (t = ([]))) = true then (some true)
      else (some (sLt E61.Key t)))
      else (some false)).bind (fun (T59 : Bool) =>
      bindC (if T59 = true then ((idx l S54.1).bind fun E68 =>
      (app 32 S54.2 ([E68])).bind fun E72 =>
      some (.go E72))
      else (some (.go S54.2)))
      (fun (T65 : List KV) => some (.go (IntKind.i64.wrap (S54.1 + (1 : Int)), T65)))))
      else (some (.done (.go S54.2)))) ((0 : Int), ([] : List KV)) = some (.go (l.filter (inV f t))) := by
  refine loopO_is (fun k S => S = ((k : Int), (l.take k).filter (inV f t))) l.length _ rfl ?_ ?_
  · rintro k _ hk rfl
    left
    have hflen : ((l.take k).filter (inV f t)).length ≤ l.length := Nat.le_trans (List.length_filter_le _ _) (List.length_take_le' _ _)
    have hg : (if (!(sLt l[k].Key f)) = true then (if (decide (t = ([]))) = true then (some true) else (some (sLt l[k].Key t))) else (some false)) = some (inV f t l[k]) := by
      unfold inV
      cases sLt l[k].Key f <;> by_cases c : t = [] <;> simp [c]
    rw [if_pos (by simpa using hk), idx_nat l k hk, wrap_ok (n := (k : Int) + 1) (by omega) (by omega)]
    simp only [Option.bind_some, hg]
    rw [List.take_add_one, List.getElem?_eq_getElem hk, Option.toList_some, List.filter_append]
    cases hc : inV f t l[k] with
    | false => exact ⟨_, rfl, by simp [hc]⟩
    | true =>
      simp only [if_true]
      rw [app_ok (by simp only [List.length_singleton]; omega) (by simp only [List.length_singleton]; omega)]
      exact ⟨_, rfl, by simp [hc]⟩
  · rintro _ rfl
    simp only [List.take_length]
    rw [if_neg (by simp)]
theorem same_loop {ρ : Type} (q : ρ) (l : List KV) (hl : l.length ≤ 1000000) :
    loopO (ρ := Ctl Unit ρ) (fun (S81 : Int) => if (decide (S81 < ((l.reverse.length : Nat) : Int))) = true then ((idx l.reverse S81).bind fun E86 =>
      (idx l (IntKind.i64.wrap (IntKind.i64.wrap (((l.length : Nat) : Int) - (1 : Int)) - S81))).bind fun E88 =>
      if (!(decide (E86.Key = E88.Key) && (decide (E86.Val = E88.Val) && true))) = true then (some (.done (.done q)))
      else (some (.go (IntKind.i64.wrap (S81 + (1 : Int))))))
      else (some (.done (.go ())))) (0 : Int) = some (.go ()) := by
  refine loopO_is (fun k S => S = (k : Int)) l.length _ rfl ?_ ?_
  · rintro k _ hk rfl
    left
    rw [List.length_reverse, if_pos (by simpa using hk), idx_nat l.reverse k (by simpa using hk), wrap_ok (n := ((l.length : Nat) : Int) - 1) (by omega) (by omega), wrap_ok (n := ((l.length : Nat) : Int) - 1 - (k : Int)) (by omega) (by omega), show ((l.length : Nat) : Int) - 1 - (k : Int) = ((l.length - 1 - k : Nat) : Int) by omega, idx_nat l _ (by omega), wrap_ok (by omega) (by omega)]
    simp only [Option.bind_some]
    rw [List.getElem_reverse]
    simp
  · rintro _ rfl
    rw [List.length_reverse, if_neg (by simp)]
theorem sameMap_eq (a b : List KV) (h : a.length ≤ 1048576) : laws_sameMap a b = some (decide (a = b)) := by
  unfold laws_sameMap
  have := eqS_of a b (fun x y => some (decide (x.Key = y.Key) && (decide (x.Val = y.Val) && true))) (fun x y _ _ => by
    congr 1
    obtain ⟨x1, x2⟩ := x
    obtain ⟨y1, y2⟩ := y
    simp only [KV.mk.injEq, Bool.and_true, Bool.decide_and]) (by omega)
  simp only [Option.bind_some] at this
  exact this
/-! compaction keeps what is seen -/
theorem entsV_pw (l : List Ent) : entsV l = true ↔ (∀ e ∈ l, entV e = true) ∧ l.Pairwise (fun a b => entLt a b = true) := by
  constructor
  · intro hv
    refine ⟨fun e he => ?_, ?_⟩
    · obtain ⟨k, hk, rfl⟩ := List.getElem_of_mem he
      have := entP_of hv k hk
      rw [entP_at l k hk, Bool.and_eq_true] at this
      exact this.1
    · rw [List.pairwise_iff_getElem]
      intro i j hi hj hij
      unfold entLt
      rcases ents_lt hv j hj i hij with h | ⟨h1, h2⟩
      · rw [h]; rfl
      · rw [decide_eq_true h1, decide_eq_true h2]; simp
  · rintro ⟨h1, h2⟩
    rw [List.pairwise_iff_getElem] at h2
    unfold entsV
    rw [List.all_eq_true]
    intro k hk
    have hk' : k < l.length := by simpa using hk
    rw [entP_at l k hk', h1 _ (List.getElem_mem hk'), Bool.true_and]
    by_cases h0 : 0 < k
    · rw [dif_pos h0]; exact h2 (k - 1) k (by omega) hk' (by omega)
    · rw [dif_neg h0]
/-- what a number sees, entry by entry: behind a key that was met -/
def visG (seq : Int) : Option (List UInt8) → List Ent → List KV
  | _, [] => []
  | last, e :: r => bif decide (e.Seq ≤ seq) && !decide (last = some e.Key) then (bif e.Del then visG seq (some e.Key) r else { Key := e.Key, Val := e.Val } :: visG seq (some e.Key) r) else visG seq last r
def lastO (p : List UInt8 × Bool) : Option (List UInt8) := bif p.2 then some p.1 else none
theorem vis_eq {l : List Ent} (ho : entsV l = true) (seq : Int) : ∀ (d k : Nat), k + d = l.length → visL l seq l.length = visL l seq k ++ visG seq (lastO (lastS l seq k)) (l.drop k)
  | 0, k, h => by
    have : k = l.length := by omega
    subst this
    rw [List.drop_length]
    simp [visG]
  | d + 1, k, h => by
    have hk : k < l.length := by omega
    rw [vis_eq ho seq d (k + 1) (by omega), visL_succ l seq k hk, lastS_succ l seq k hk, List.drop_eq_getElem_cons hk, List.append_assoc]
    congr 1
    rw [visG]
    by_cases hs : l[k].Seq ≤ seq
    · have hsk := skip_iff ho hk hs
      rw [decide_eq_true hs, Bool.true_and]
      have e : decide (lastO (lastS l seq k) = some l[k].Key) = ((lastS l seq k).2 && decide (l[k].Key = (lastS l seq k).1)) := by
        unfold lastO
        cases (lastS l seq k).2 with
        | false => simp
        | true =>
          simp only [cond_true, Bool.true_and, Option.some.injEq]
          exact decide_eq_decide.2 eq_comm
      rw [e, ← hsk]
      cases visE l seq k with
      | false => simp
      | true => cases l[k].Del <;> simp [lastO]
    · have hv : visE l seq k = false := by rw [visE_at l seq k hk, decide_eq_false hs, Bool.false_and]
      rw [decide_eq_false hs, hv]
      simp
theorem visL_G {l : List Ent} (ho : entsV l = true) (seq : Int) : visL l seq l.length = visG seq none l := by
  rw [vis_eq ho seq l.length 0 (by omega)]
  rfl
/-- an entry stays behind another one -/
def stayG (snaps : List Int) : Option Ent → Ent → Bool
  | none, _ => true
  | some d, e => !decide (d.Key = e.Key) || snaps.any (fun s => decide (e.Seq ≤ s) && decide (s < d.Seq))
def keepG (snaps : List Int) : Option Ent → List Ent → List Ent
  | _, [] => []
  | p, e :: r => bif stayG snaps p e then e :: keepG snaps (some e) r else keepG snaps (some e) r
theorem stayG_some (snaps : List Int) (d e : Ent) : stayG snaps (some d) e = (!decide (d.Key = e.Key) || snaps.any (fun s => decide (e.Seq ≤ s) && decide (s < d.Seq))) := rfl
def prevG (l : List Ent) : Nat → Option Ent
  | 0 => none
  | k + 1 => l[k]?
theorem prevG_succ (l : List Ent) (k : Nat) : prevG l (k + 1) = l[k]? := rfl
theorem stayV_G (snaps : List Int) (l : List Ent) (k : Nat) (hk : k < l.length) : stayV snaps l k = stayG snaps (prevG l k) l[k] := by
  cases k with
  | zero => rfl
  | succ j =>
    rw [stayV_succ snaps l j hk]
    rw [prevG_succ, List.getElem?_eq_getElem (by omega)]
    rfl
theorem keepT_G (snaps : List Int) (l : List Ent) : ∀ (d k : Nat), k + d = l.length → keepT snaps l k d = keepG snaps (prevG l k) (l.drop k)
  | 0, k, h => by
    rw [List.drop_of_length_le (by omega)]
    rfl
  | d + 1, k, h => by
    have hk : k < l.length := by omega
    have h1 : keepT snaps l k 1 = if stayV snaps l k = true then [l[k]] else [] := by
      rw [keepT_succ snaps l k 0 hk]
      simp [keepT]
    have hp : prevG l (k + 1) = some l[k] := by rw [prevG_succ, List.getElem?_eq_getElem hk]
    rw [Nat.add_comm d 1, keepT_add, h1, keepT_G snaps l d (k + 1) (by omega), List.drop_eq_getElem_cons hk, keepG, stayV_G snaps l k hk, hp]
    cases stayG snaps (prevG l k) l[k] <;> simp
theorem compactR_G {l : List Ent} (snaps : List Int) (bottom : Bool) (h1 : l.length ≤ 400) (h2 : entsV l = true) : compactR l snaps bottom = finE bottom (keepG snaps none l) := by
  unfold compactR
  rw [if_pos ⟨h1, h2⟩, keepT_G snaps l l.length 0 (by omega)]
  rfl
theorem keepG_sub (snaps : List Int) : ∀ (p : Option Ent) (l : List Ent), (keepG snaps p l).Sublist l
  | _, [] => List.Sublist.slnil
  | p, e :: r => by
    rw [keepG]
    cases stayG snaps p e with
    | true => exact (keepG_sub snaps (some e) r).cons_cons e
    | false => exact (keepG_sub snaps (some e) r).cons e
theorem tid_sub : ∀ l : List Ent, (tid l).2.Sublist l
  | [] => List.Sublist.slnil
  | e :: t => by
    rw [tid_cons]
    cases ((tid t).1 && sameK e t) || !e.Del with
    | true => exact (tid_sub t).cons_cons e
    | false => exact (tid_sub t).cons e
theorem finE_sub (b : Bool) (l : List Ent) : (finE b l).Sublist l := by
  unfold finE
  cases b with
  | true => exact tid_sub l
  | false => exact List.Sublist.refl l
theorem entsV_sublist {l x : List Ent} (h : x.Sublist l) (hv : entsV l = true) : entsV x = true := by
  rw [entsV_pw] at hv ⊢
  exact ⟨fun e he => hv.1 e (h.mem he), hv.2.sublist h⟩
/-- what goes is seen by none of the numbers -/
theorem keep_vis (snaps : List Int) (seq : Int) (hs : ∀ d e : Ent, entV d = true → entV e = true → d.Key = e.Key → e.Seq ≤ seq → seq < d.Seq → stayG snaps (some d) e = true) :
    ∀ (l : List Ent) (p : Option Ent) (last : Option (List UInt8)), (∀ e ∈ l, entV e = true) → (∀ d, p = some d → entV d = true ∧ (d.Seq ≤ seq → last = some d.Key)) → visG seq last (keepG snaps p l) = visG seq last l
  | [], _, _, _, _ => rfl
  | e :: r, p, last, hv, hp => by
    have hve := hv e (by simp)
    have hvr : ∀ x ∈ r, entV x = true := fun x hx => hv x (by simp [hx])
    rw [keepG]
    -- what is met behind e
    have next : ∀ last', (e.Seq ≤ seq → last' = some e.Key) → visG seq last' (keepG snaps (some e) r) = visG seq last' r := fun last' h => keep_vis snaps seq hs r (some e) last' hvr (fun d hd => by cases hd; exact ⟨hve, h⟩)
    cases hst : stayG snaps p e with
    | true =>
      simp only [cond_true]
      rw [visG, visG]
      cases hc : decide (e.Seq ≤ seq) && !decide (last = some e.Key) with
      | true =>
        simp only [cond_true]
        rw [next (some e.Key) (fun _ => rfl)]
      | false =>
        simp only [cond_false]
        refine next last fun h => ?_
        rw [decide_eq_true h, Bool.true_and, Bool.not_eq_false', decide_eq_true_eq] at hc
        exact hc
    | false =>
      simp only [cond_false]
      rw [visG]
      have hskip : e.Seq ≤ seq → last = some e.Key := by
        intro h
        cases p with
        | none => cases hst
        | some d =>
          obtain ⟨hd1, hd2⟩ := hp d rfl
          by_cases hk : d.Key = e.Key
          · rw [← hk]
            refine hd2 ?_
            rcases Int.lt_or_le seq d.Seq with h3 | h3
            · rw [hs d e hd1 hve hk h h3] at hst; cases hst
            · exact h3
          · rw [stayG_some] at hst
            rw [decide_eq_false hk] at hst
            cases hst
      have hc : (decide (e.Seq ≤ seq) && !decide (last = some e.Key)) = false := by
        by_cases h : e.Seq ≤ seq
        · rw [hskip h]; simp
        · rw [decide_eq_false h, Bool.false_and]
      rw [hc]
      simp only [cond_false]
      exact next last hskip
theorem visG_other (seq : Int) : ∀ (l : List Ent) (a b : Option (List UInt8)), (∀ e ∈ l, a ≠ some e.Key) → (∀ e ∈ l, b ≠ some e.Key) → visG seq a l = visG seq b l
  | [], _, _, _, _ => rfl
  | e :: r, a, b, ha, hb => by
    rw [visG, visG, decide_eq_false (ha e (by simp)), decide_eq_false (hb e (by simp))]
    cases decide (e.Seq ≤ seq) with
    | true => rfl
    | false => exact visG_other seq r a b (fun x hx => ha x (by simp [hx])) (fun x hx => hb x (by simp [hx]))
theorem key_le {a b : Ent} (h : entLt a b = true) : sLt a.Key b.Key = true ∨ a.Key = b.Key := by
  unfold entLt at h
  rw [Bool.or_eq_true, Bool.and_eq_true, decide_eq_true_eq] at h
  rcases h with h | h
  · exact .inl h
  · exact .inr h.1
/-- where a key's first entry goes, all of them go -/
theorem tid_none : ∀ (e : Ent) (t : List Ent), (e :: t).Pairwise (fun a b => entLt a b = true) → (tid (e :: t)).1 = false → ∀ x ∈ (tid (e :: t)).2, e.Key ≠ x.Key
  | e, [], _, h, x, hx => by
    rw [tid_cons] at h hx
    cases hc : ((tid []).1 && sameK e []) || !e.Del with
    | true => rw [hc] at h; cases h
    | false => rw [hc] at hx; simp [tid] at hx
  | e, y :: t, hp, h, x, hx => by
    rw [tid_cons] at h hx
    cases hc : ((tid (y :: t)).1 && sameK e (y :: t)) || !e.Del with
    | true => rw [hc] at h; cases h
    | false =>
      rw [hc] at hx
      simp only [cond_false] at hx
      rw [Bool.or_eq_false_iff] at hc
      obtain ⟨hp1, hp2⟩ := List.pairwise_cons.1 hp
      by_cases hk : e.Key = y.Key
      · have : sameK e (y :: t) = true := decide_eq_true hk
        rw [this, Bool.and_true] at hc
        rw [hk]
        exact tid_none y t hp2 hc.1 x hx
      · intro he
        have hy := key_le (hp1 y (by simp))
        have hlt : sLt e.Key y.Key = true := hy.resolve_right hk
        have hxm := (tid_sub (y :: t)).mem hx
        rcases List.mem_cons.1 hxm with rfl | hxt
        · rw [he, sLt_irrefl] at hlt; cases hlt
        · rcases key_le ((List.pairwise_cons.1 hp2).1 x hxt) with h3 | h3
          · have := sLt_trans hlt h3
            rw [he, sLt_irrefl] at this; cases this
          · rw [he, ← h3, sLt_irrefl] at hlt; cases hlt
theorem tid_vis (seq : Int) : ∀ (l : List Ent) (last : Option (List UInt8)), l.Pairwise (fun a b => entLt a b = true) → (∀ k, last = some k → ∀ e ∈ l, sLt k e.Key = true ∨ k = e.Key) → visG seq last (tid l).2 = visG seq last l
  | [], _, _, _ => rfl
  | e :: t, last, hp, hl => by
    obtain ⟨hp1, hp2⟩ := List.pairwise_cons.1 hp
    have hle : ∀ x ∈ t, sLt e.Key x.Key = true ∨ e.Key = x.Key := fun x hx => key_le (hp1 x hx)
    have ih1 := tid_vis seq t (some e.Key) hp2 (fun k hk x hx => by cases hk; exact hle x hx)
    have ih2 := tid_vis seq t last hp2 (fun k hk x hx => hl k hk x (by simp [hx]))
    have hno := tid_none e t hp
    rw [tid_cons] at hno ⊢
    cases hc : ((tid t).1 && sameK e t) || !e.Del with
    | true =>
      simp only [cond_true]
      rw [visG, visG, ih1, ih2]
    | false =>
      rw [hc] at hno
      simp only [cond_false] at hno ⊢
      have hno := hno trivial
      rw [visG]
      cases hv : decide (e.Seq ≤ seq) && !decide (last = some e.Key) with
      | false => simp only [cond_false]; exact ih2
      | true =>
        rw [Bool.or_eq_false_iff, Bool.not_eq_false'] at hc
        simp only [cond_true, hc.2]
        rw [← ih1]
        rw [Bool.and_eq_true, Bool.not_eq_true', decide_eq_false_iff_not] at hv
        refine visG_other seq _ _ _ ?_ ?_
        · intro x hx hx2
          have hxt := (tid_sub t).mem hx
          rcases hl x.Key hx2 e (by simp) with h3 | h3
          · rcases hle x hxt with h4 | h4
            · have := sLt_trans h3 h4
              rw [sLt_irrefl] at this; cases this
            · rw [h4, sLt_irrefl] at h3; cases h3
          · exact hv.2 (by rw [hx2, h3])
        · intro x hx hx2
          exact hno x hx (Option.some.inj hx2)
theorem fin_vis (seq : Int) (b : Bool) (l : List Ent) (hp : l.Pairwise (fun a b => entLt a b = true)) : visG seq none (finE b l) = visG seq none l := by
  unfold finE
  cases b with
  | true => exact tid_vis seq l none hp (fun k hk => by cases hk)
  | false => rfl
theorem compact_seen {l : List Ent} (snaps : List Int) (bottom : Bool) (h1 : l.length ≤ 400) (h2 : entsV l = true) : entsV (compactR l snaps bottom) = true ∧ seenV (compactR l snaps bottom) snaps = seenV l snaps := by
  have hx := compactR_G snaps bottom h1 h2
  have hsub : (compactR l snaps bottom).Sublist l := by rw [hx]; exact (finE_sub _ _).trans (keepG_sub _ _ _)
  have hv := entsV_sublist hsub h2
  have hkv := entsV_sublist (keepG_sub snaps none l) h2
  refine ⟨hv, ?_⟩
  have key : ∀ seq : Int, (∀ d e : Ent, entV d = true → entV e = true → d.Key = e.Key → e.Seq ≤ seq → seq < d.Seq → stayG snaps (some d) e = true) → visL (compactR l snaps bottom) seq (compactR l snaps bottom).length = visL l seq l.length := by
    intro seq hs
    rw [visL_G hv, visL_G h2, hx, fin_vis seq bottom _ ((entsV_pw _).1 hkv).2]
    exact keep_vis snaps seq hs l none none ((entsV_pw l).1 h2).1 (fun d hd => by cases hd)
  unfold seenV
  congr 1
  · refine List.map_congr_left fun s hs => key s ?_
    intro d e _ _ hk h3 h4
    rw [stayG_some]
    rw [Bool.or_eq_true, List.any_eq_true]
    exact .inr ⟨s, hs, by rw [decide_eq_true h3, decide_eq_true h4]; rfl⟩
  · rw [key 1000000 fun d e hd _ _ _ h4 => by
      unfold entV at hd
      simp only [Bool.and_eq_true, decide_eq_true_eq] at hd
      omega]
/-- behind an entry ahead of the one that was there, an entry that stays stays -/
theorem stay_mono (snaps : List Int) {d d' e : Ent} (h1 : d'.Key = e.Key → d.Key = e.Key ∧ d.Seq ≤ d'.Seq) (h : stayG snaps (some d) e = true) : stayG snaps (some d') e = true := by
  rw [stayG_some] at h ⊢
  by_cases hk : d'.Key = e.Key
  · obtain ⟨h2, h3⟩ := h1 hk
    rw [decide_eq_true h2, Bool.not_true, Bool.false_or, List.any_eq_true] at h
    obtain ⟨s, hs, h4⟩ := h
    rw [Bool.and_eq_true, decide_eq_true_eq, decide_eq_true_eq] at h4
    rw [Bool.or_eq_true, List.any_eq_true]
    exact .inr ⟨s, hs, by rw [decide_eq_true h4.1, decide_eq_true (by omega : s < d'.Seq)]; rfl⟩
  · rw [decide_eq_false hk]; rfl
/-- once more nothing goes -/
theorem keep_again (snaps : List Int) : ∀ (l : List Ent) (p q : Option Ent), l.Pairwise (fun a b => entLt a b = true) → (∀ d, p = some d → ∀ e ∈ l, entLt d e = true) →
    (∀ e ∈ l, stayG snaps p e = true → stayG snaps q e = true) → (q = none ∨ ∃ d', q = some d' ∧ ∃ d, p = some d ∧ (d' = d ∨ entLt d' d = true)) → keepG snaps q (keepG snaps p l) = keepG snaps p l
  | [], _, _, _, _, _, _ => rfl
  | e :: r, p, q, hp, hd, hpq, hq => by
    obtain ⟨hp1, hp2⟩ := List.pairwise_cons.1 hp
    rw [keepG]
    cases hst : stayG snaps p e with
    | true =>
      simp only [cond_true]
      rw [keepG, hpq e (by simp) hst]
      simp only [cond_true]
      rw [keep_again snaps r (some e) (some e) hp2 (fun d h x hx => by cases h; exact hp1 x hx) (fun x hx h => h) (.inr ⟨e, rfl, e, rfl, .inl rfl⟩)]
    | false =>
      simp only [cond_false]
      -- e goes: what is ahead of it is p, and there is one
      cases p with
      | none => cases hst
      | some d =>
        have hde := hd d rfl e (by simp)
        have hkey : d.Key = e.Key := by
          by_cases hk : d.Key = e.Key
          · exact hk
          · rw [stayG_some] at hst
            rw [decide_eq_false hk] at hst
            cases hst
        refine keep_again snaps r (some e) q hp2 (fun d2 h x hx => by cases h; exact hp1 x hx) ?_ ?_
        · intro x hx hsx
          rcases hq with rfl | ⟨d', rfl, d2, h2, h3⟩
          · rfl
          · cases h2
            refine stay_mono snaps ?_ hsx
            intro hk
            have hxe := hp1 x hx
            have hs1 : e.Seq ≤ d.Seq := by
              unfold entLt at hde
              rw [hkey, sLt_irrefl, Bool.false_or, Bool.and_eq_true, decide_eq_true_eq, decide_eq_true_eq] at hde
              omega
            rcases h3 with rfl | h3
            · exact ⟨by rw [← hkey]; exact hk, hs1⟩
            · rcases key_le h3 with h5 | h5
              · exfalso
                rcases key_le hxe with h6 | h6
                · have := sLt_trans (by rw [← hkey]; exact h5 : sLt d'.Key e.Key = true) h6
                  rw [hk, sLt_irrefl] at this; cases this
                · rw [hk, ← h6, ← hkey, sLt_irrefl] at h5; cases h5
              · refine ⟨by rw [← hkey, ← h5]; exact hk, ?_⟩
                unfold entLt at h3
                rw [h5, sLt_irrefl, Bool.false_or, Bool.and_eq_true, decide_eq_true_eq, decide_eq_true_eq] at h3
                omega
        · rcases hq with rfl | ⟨d', rfl, d2, h2, h3⟩
          · exact .inl rfl
          · cases h2
            refine .inr ⟨d', rfl, e, rfl, .inr ?_⟩
            rcases h3 with rfl | h3
            · exact hde
            · have hs1 : d.Seq > e.Seq := by
                unfold entLt at hde
                rw [hkey, sLt_irrefl, Bool.false_or, Bool.and_eq_true, decide_eq_true_eq, decide_eq_true_eq] at hde
                exact hde.2
              unfold entLt at h3 ⊢
              rw [← hkey]
              rw [Bool.or_eq_true, Bool.and_eq_true, decide_eq_true_eq, decide_eq_true_eq] at h3 ⊢
              rcases h3 with h5 | h5
              · exact .inl h5
              · exact .inr ⟨h5.1, by omega⟩
theorem keepG_all {snaps : List Int} {p : Option Ent} {e : Ent} {t : List Ent} (h : keepG snaps p (e :: t) = e :: t) : stayG snaps p e = true ∧ keepG snaps (some e) t = t := by
  rw [keepG] at h
  cases hs : stayG snaps p e with
  | true =>
    rw [hs] at h
    simp only [cond_true, List.cons.injEq, true_and] at h
    exact ⟨rfl, h⟩
  | false =>
    rw [hs] at h
    simp only [cond_false] at h
    have := (keepG_sub snaps (some e) t).length_le
    rw [h, List.length_cons] at this
    omega
theorem tid_stay (snaps : List Int) : ∀ (K : List Ent) (p q : Option Ent), K.Pairwise (fun a b => entLt a b = true) → keepG snaps p K = K → (∀ d, q = some d → ∀ x ∈ K, entLt d x = true) → (∀ e, K.head? = some e → (tid K).1 = true → stayG snaps q e = true) → keepG snaps q (tid K).2 = (tid K).2
  | [], _, _, _, _, _, _ => rfl
  | e :: t, p, q, hp, hk, hd, hh => by
    obtain ⟨hp1, hp2⟩ := List.pairwise_cons.1 hp
    obtain ⟨_, hk2⟩ := keepG_all hk
    have hh2 := hh e rfl
    rw [tid_cons] at hh2 ⊢
    cases hc : ((tid t).1 && sameK e t) || !e.Del with
    | true =>
      rw [hc] at hh2
      simp only [cond_true] at hh2 ⊢
      rw [keepG, hh2 trivial]
      simp only [cond_true]
      rw [tid_stay snaps t (some e) (some e) hp2 hk2 (fun d h x hx => by cases h; exact hp1 x hx) ?_]
      intro y hy _
      cases t with
      | nil => cases hy
      | cons z t' =>
        cases hy
        exact (keepG_all hk2).1
    | false =>
      simp only [cond_false]
      refine tid_stay snaps t (some e) q hp2 hk2 (fun d h x hx => hd d h x (by simp [hx])) ?_
      intro y hy h1
      cases t with
      | nil => cases hy
      | cons z t' =>
        cases hy
        rw [h1, Bool.true_and, Bool.or_eq_false_iff] at hc
        have hne : e.Key ≠ y.Key := of_decide_eq_false hc.1
        cases q with
        | none => rfl
        | some d =>
          have g1 := key_le (hd d rfl e (by simp))
          have g2 := (key_le (hp1 y (by simp))).resolve_right hne
          have hdy : d.Key ≠ y.Key := by
            intro e2
            rcases g1 with g1 | g1
            · have := sLt_trans g1 g2
              rw [e2, sLt_irrefl] at this; cases this
            · rw [← g1, e2, sLt_irrefl] at g2; cases g2
          rw [stayG_some]
          rw [decide_eq_false hdy]
          rfl
theorem tid_head {t : List Ent} (h : (tid t).1 = true) : ∃ y t' u, t = y :: t' ∧ (tid t).2 = y :: u := by
  cases t with
  | nil => cases h
  | cons y t' =>
    rw [tid_cons] at h ⊢
    cases hc : ((tid t').1 && sameK y t') || !y.Del with
    | true => exact ⟨y, t', _, rfl, rfl⟩
    | false => rw [hc] at h; cases h
theorem tid_again : ∀ K : List Ent, (tid (tid K).2).2 = (tid K).2 ∧ ((tid K).1 = true → (tid (tid K).2).1 = true)
  | [] => ⟨rfl, fun h => by cases h⟩
  | e :: t => by
    obtain ⟨i1, i2⟩ := tid_again t
    rw [tid_cons]
    cases hc : ((tid t).1 && sameK e t) || !e.Del with
    | false => exact ⟨i1, fun h => by cases h⟩
    | true =>
      simp only [cond_true]
      have : ((tid (tid t).2).1 && sameK e (tid t).2) || !e.Del := by
        cases hd : e.Del with
        | false => simp
        | true =>
          rw [hd, Bool.not_true, Bool.or_false, Bool.and_eq_true] at hc
          obtain ⟨y, t', u, h1, h2⟩ := tid_head hc.1
          rw [i2 hc.1, h2]
          have h3 := hc.2
          rw [h1] at h3
          simp only [Bool.true_and, Bool.not_true, Bool.or_false]
          exact h3
      rw [tid_cons, this]
      exact ⟨by simp only [cond_true]; rw [i1], fun _ => rfl⟩
theorem compact_again {l : List Ent} (snaps : List Int) (bottom : Bool) (h1 : l.length ≤ 400) (h2 : entsV l = true) : compactR (compactR l snaps bottom) snaps bottom = compactR l snaps bottom := by
  have hx := compactR_G snaps bottom h1 h2
  obtain ⟨hv, _⟩ := compact_seen snaps bottom h1 h2
  have hl := compactR_len l snaps bottom
  have hp := ((entsV_pw l).1 h2).2
  have hkp : (keepG snaps none l).Pairwise (fun a b => entLt a b = true) := hp.sublist (keepG_sub snaps none l)
  have hka := keep_again snaps l none none hp (fun d h => by cases h) (fun _ _ h => h) (.inl rfl)
  rw [compactR_G snaps bottom (by omega) hv, hx]
  cases bottom with
  | false =>
    unfold finE
    simp only [cond_false]
    exact hka
  | true =>
    unfold finE
    simp only [cond_true]
    rw [tid_stay snaps (keepG snaps none l) none none hkp hka (fun d h => by cases h) (fun e _ _ => rfl)]
    exact (tid_again _).1
/-! draws of entries -/
theorem l9Put_ok (m : List Ent) (o : Ent) (hm : m.length ≤ 1000000) : ∃ r, spec_l9Put m o = some r ∧ r.length ≤ m.length + 1 := by
  unfold spec_l9Put
  refine loopO_G (τ := Bool × Int × List Ent) (ρ := Bool × List Ent) (R := List Ent) (G := fun o => ∃ r, o = some r ∧ r.length ≤ m.length + 1) (I := fun k S => S.2.1 = (k : Int) ∧ S.2.2.length = k + if S.1 = true then 1 else 0) m.length (Q := fun r => ∃ b a, r = .go (b, a) ∧ a.length = m.length + if b = true then 1 else 0) ⟨rfl, by simp⟩ ?_ ?_ ?_
  · rintro k ⟨b, c, a⟩ hk ⟨h1, h2⟩
    simp only at h1 h2
    subst h1
    left
    simp only
    rw [if_pos (by simpa using hk), idx_nat m k hk, wrap_ok (n := (k : Int) + 1) (by omega) (by omega)]
    simp only [Option.bind_some, spec_l9Ahead_eq]
    have key : ∀ (b : Bool) (a : List Ent), a.length = k + (if b = true then 1 else 0) → ∃ s' : Bool × Int × List Ent, ((app 48 a ([m[k]])).bind fun E27 =>
        some (Ctl.go (ρ := Ctl (Bool × List Ent) (List Ent)) (b, (k : Int) + 1, E27))) = some (Ctl.go s') ∧ s'.2.1 = ((k + 1 : Nat) : Int) ∧ s'.2.2.length = k + 1 + if s'.1 = true then 1 else 0 := by
      intro b a ha
      have ha2 : a.length ≤ k + 1 := by split at ha <;> omega
      rw [app_ok (by simp only [List.length_singleton]; omega) (by simp only [List.length_singleton]; omega)]
      exact ⟨_, rfl, by simp, by simp only [List.length_append, List.length_singleton]; omega⟩
    cases b with
    | true =>
      simp only [Bool.not_true, Bool.false_eq_true, if_false, Option.bind_some, bindC_go]
      exact key true a h2
    | false =>
      simp only [Bool.not_false, if_true, Option.bind_some]
      simp only [Bool.false_eq_true, if_false] at h2
      cases entLt o m[k] with
      | false =>
        simp only [Bool.false_eq_true, if_false, bindC_go]
        exact key false a (by simpa using h2)
      | true =>
        simp only [if_true]
        rw [app_ok (by simp only [List.length_singleton]; omega) (by simp only [List.length_singleton]; omega)]
        simp only [Option.bind_some, bindC_go]
        exact key true _ (by simp only [List.length_append, List.length_singleton, if_true]; omega)
  · rintro ⟨b, c, a⟩ ⟨h1, h2⟩
    simp only at h1 h2
    subst h1
    exact ⟨_, by simp only; rw [if_neg (by simp)], b, a, rfl, h2⟩
  rintro _ ⟨b, a, rfl, ha⟩
  simp only [bindC_go]
  cases b with
  | true => exact ⟨_, rfl, by simp at ha; omega⟩
  | false =>
    simp only [Bool.false_eq_true, if_false] at ha
    simp only [Bool.not_false, if_true]
    rw [app_ok (by simp only [List.length_singleton]; omega) (by simp only [List.length_singleton]; omega)]
    exact ⟨_, rfl, by simp only [List.length_append, List.length_singleton]; omega⟩
theorem MemPut_ok (m : List Ent) (o : Ent) (hm : m.length ≤ 1000000) : ∃ r, spec_MemPut m o = some r ∧ r.1.length ≤ m.length + 1 := by
  unfold spec_MemPut
  obtain ⟨r, hr, hl⟩ := l9Put_ok m o hm
  rw [spec_MemOk_eq m (by omega)]
  cases memV m with
  | false => exact ⟨_, rfl, by simp⟩
  | true =>
    simp only [Option.bind_some, Bool.not_true, Bool.false_eq_true, if_false, hr]
    rw [spec_MemOk_eq r (by omega)]
    cases memV r with
    | true => exact ⟨_, rfl, hl⟩
    | false =>
      simp only [Option.bind_some, Bool.not_false, if_true]
      rw [app_ok (by simp only [List.length_nil]; omega) (by simp only [List.length_nil]; omega)]
      exact ⟨_, rfl, by simp⟩
theorem l9Some_ok (b : List UInt8) (i h most : Int) (hmo : 0 < most ∧ most ≤ 1000) (hi : 0 ≤ i ∧ i ≤ b.length) (hb : b.length ≤ 1048576) : ∃ l i' h', spec_l9Some { b := b, i := i, h := h } most = some (l, { b := b, i := i', h := h' }) ∧ l.length ≤ 1000 ∧ (0 ≤ i' ∧ i' ≤ b.length) := by
  unfold spec_l9Some
  obtain ⟨x1, i1, h1, e1, g1, k1⟩ := l1Below_ok b i h most hi hb
  have hx1 := g1.2.1 (by omega)
  simp only [e1, Option.bind_some]
  refine loopO_G (τ := Int × Int × Int × List Ent) (ρ := Int × Int × List Ent) (R := List Ent × L1Cur) (G := fun o => ∃ l i' h', o = some (l, { b := b, i := i', h := h' }) ∧ l.length ≤ 1000 ∧ (0 ≤ i' ∧ i' ≤ b.length)) (I := fun k S => (0 ≤ S.1 ∧ S.1 ≤ b.length) ∧ S.2.2.1 = x1 - (k : Int) ∧ S.2.2.2.length ≤ k) x1.toNat (Q := fun r => ∃ p q a, r = .go (p, q, a) ∧ (0 ≤ p ∧ p ≤ b.length) ∧ a.length ≤ 1000) ⟨k1, by simp, by simp⟩ ?_ ?_ ?_
  · rintro k ⟨p, q, c, d⟩ hk ⟨b1, b2, b3⟩
    simp only at b1 b2 b3
    subst b2
    left
    obtain ⟨x3, i3, h3, e3, g3, k3⟩ := l7Key_ok b p q b1 hb
    obtain ⟨x4, i4, h4, e4, g4, k4⟩ := l1Below_ok b i3 h3 20 k3 hb
    obtain ⟨x5, i5, h5, e5, k5⟩ := l1Once_ok b i4 h4 4 k4 hb
    simp only [e3, e4, e5, Option.bind_some]
    rw [if_pos (by simp only [decide_eq_true_eq]; omega), wrap_ok (n := x1 - (k : Int) - 1) (by omega) (by omega)]
    cases x5 with
    | true =>
      obtain ⟨r, hr, hrl⟩ := MemPut_ok d { Key := x3, Seq := x4, Del := true, Val := [] } (by omega)
      simp only [if_true, bindC_go, hr, Option.bind_some]
      cases r.2 with
      | true => exact ⟨_, rfl, k5, by simp only; omega, by simp only; omega⟩
      | false => exact ⟨_, rfl, k5, by simp only; omega, by simp only; omega⟩
    | false =>
      obtain ⟨x6, i6, h6, e6, g6, k6⟩ := l1Text_ok b i5 h5 4 (by omega) k5 hb
      obtain ⟨r, hr, hrl⟩ := MemPut_ok d { Key := x3, Seq := x4, Del := false, Val := x6 } (by omega)
      simp only [Bool.false_eq_true, if_false, e6, Option.bind_some, bindC_go, hr]
      cases r.2 with
      | true => exact ⟨_, rfl, k6, by simp only; omega, by simp only; omega⟩
      | false => exact ⟨_, rfl, k6, by simp only; omega, by simp only; omega⟩
  · rintro ⟨p, q, c, d⟩ ⟨b1, b2, b3⟩
    simp only at b1 b2 b3
    exact ⟨_, by simp only; rw [if_neg (by simp only [decide_eq_true_eq]; omega)], p, q, d, rfl, b1, by omega⟩
  rintro _ ⟨p, q, d, rfl, b1, b3⟩
  exact ⟨_, _, _, rfl, b3, b1⟩
theorem ents_grow {ρ : Type} (b : List UInt8) (d : List Ent) (p q : Int) (hp : 0 ≤ p ∧ p ≤ b.length) (hb : b.length ≤ 1048576) (hd : d.length ≤ 1000) : ∃ r, loopO (ρ := Ctl (Int × Int × List Ent) ρ) (fun (S42 : Int × Int × Int × List Ent) => (spec_l1Below ({ b := b, i := S42.1, h := S42.2.1 : L1Cur }) (3 : Int)).bind fun R46 =>
    if (decide (((S42.2.2.2.length : Nat) : Int) < IntKind.i64.wrap ((59 : Int) + R46.1))) = true then ((app 48 S42.2.2.2 ([{ Key := [122, 122, 122], Seq := IntKind.i64.wrap ((500 : Int) - S42.2.2.1), Del := false, Val := [] : Ent }])).bind fun E52 =>
    some (.go (R46.2.i, R46.2.h, IntKind.i64.wrap (S42.2.2.1 + (1 : Int)), E52)))
    else (some (.done (.go (R46.2.i, R46.2.h, S42.2.2.2))))) (p, q, (0 : Int), d) = some r ∧ ∃ p2 q2 a2, r = .go (p2, q2, a2) ∧ (0 ≤ p2 ∧ p2 ≤ b.length) ∧ a2.length ≤ 2000 := by
  refine loopO_total (fun (k : Nat) (S : Int × Int × Int × List Ent) => (0 ≤ S.1 ∧ S.1 ≤ (b.length : Int)) ∧ S.2.2.2.length = d.length + k) 100 _ ⟨hp, rfl⟩ ?_ ?_
  · rintro k ⟨p, q, c, a⟩ hk ⟨b1, b2⟩
    simp only at b1 b2
    obtain ⟨x, i1, h1, e1, g1, k1⟩ := l1Below_ok b p q 3 b1 hb
    have hx := g1.2.1 (by omega)
    simp only [e1, Option.bind_some]
    rw [wrap_ok (n := 59 + x) (by omega) (by omega)]
    by_cases c1 : ((a.length : Nat) : Int) < 59 + x
    · left
      rw [decide_eq_true c1, app_ok (by simp only [List.length_singleton]; omega) (by simp only [List.length_singleton]; omega)]
      exact ⟨_, rfl, k1, by simp only [List.length_append, List.length_singleton]; omega⟩
    · right
      rw [decide_eq_false c1]
      exact ⟨_, rfl, _, _, _, rfl, k1, by omega⟩
  · rintro ⟨p, q, c, a⟩ ⟨b1, b2⟩
    simp only at b1 b2
    obtain ⟨x, i1, h1, e1, g1, k1⟩ := l1Below_ok b p q 3 b1 hb
    have hx := g1.2.1 (by omega)
    simp only [e1, Option.bind_some]
    rw [wrap_ok (n := 59 + x) (by omega) (by omega), decide_eq_false (by omega)]
    exact ⟨_, rfl, _, _, _, rfl, k1, by omega⟩
theorem l9Any_ok (b : List UInt8) (i h most : Int) (hmo : 0 < most ∧ most ≤ 1000) (hi : 0 ≤ i ∧ i ≤ b.length) (hb : b.length ≤ 1048576) : ∃ l i' h', spec_l9Any { b := b, i := i, h := h } most = some (l, { b := b, i := i', h := h' }) ∧ l.length ≤ 2000 ∧ (0 ≤ i' ∧ i' ≤ b.length) := by
  unfold spec_l9Any
  obtain ⟨d, p, q, e1, g1, b1⟩ := l9Some_ok b i h most hmo hi hb
  simp only [e1, Option.bind_some]
  have key : ∀ (p q : Int) (x : Bool), (x = true → 0 < d.length) → (0 ≤ p ∧ p ≤ b.length) → ∃ l i' h', bindC (if x = true then ((spec_l1Below ({ b := b, i := p, h := q : L1Cur }) ((d.length : Nat) : Int)).bind fun R13 =>
        (spec_l1Below ({ b := b, i := R13.2.i, h := R13.2.h : L1Cur }) (4 : Int)).bind fun R16 =>
        bindC (if (decide (R16.1 = (0 : Int))) = true then ((spec_l1Pick ({ b := b, i := R16.2.i, h := R16.2.h : L1Cur }) ([[], [98], [97, 97, 97, 97, 97, 97, 97, 97, 97, 97, 97]])).bind fun R23 =>
        (idx d R13.1).bind fun E26 =>
        some (.go (R23.2.i, R23.2.h, (d.set R13.1.toNat ({ Key := R23.1, Seq := E26.Seq, Del := E26.Del, Val := E26.Val : Ent })))))
        else (bindC (if (decide (R16.1 = (1 : Int))) = true then ((spec_l1PickInt ({ b := b, i := R16.2.i, h := R16.2.h : L1Cur }) ([(-1 : Int), (5 : Int), (1000000 : Int), (1000001 : Int)])).bind fun R32 =>
        (idx d R13.1).bind fun E35 =>
        some (.go (R32.2.i, R32.2.h, (d.set R13.1.toNat ({ Key := E35.Key, Seq := R32.1, Del := E35.Del, Val := E35.Val : Ent })))))
        else (bindC (if (decide (R16.1 = (2 : Int))) = true then ((idx d R13.1).bind fun E40 =>
        some (.go (R16.2.i, R16.2.h, (d.set R13.1.toNat ({ Key := E40.Key, Seq := E40.Seq, Del := !E40.Del, Val := E40.Val : Ent })))))
        else (bindC (loopO (fun (S42 : Int × Int × Int × List Ent) => (spec_l1Below ({ b := b, i := S42.1, h := S42.2.1 : L1Cur }) (3 : Int)).bind fun R46 =>
        if (decide (((S42.2.2.2.length : Nat) : Int) < IntKind.i64.wrap ((59 : Int) + R46.1))) = true then ((app 48 S42.2.2.2 ([{ Key := [122, 122, 122], Seq := IntKind.i64.wrap ((500 : Int) - S42.2.2.1), Del := false, Val := [] : Ent }])).bind fun E52 =>
        some (.go (R46.2.i, R46.2.h, IntKind.i64.wrap (S42.2.2.1 + (1 : Int)), E52)))
        else (some (.done (.go (R46.2.i, R46.2.h, S42.2.2.2)))))
        (R16.2.i, R16.2.h, (0 : Int), d))
        (fun (T44 : Int × Int × List Ent) => some (.go (T44.1, T44.2.1, T44.2.2)))))
        (fun (T37 : Int × Int × List Ent) => some (.go (T37.1, T37.2.1, T37.2.2)))))
        (fun (T28 : Int × Int × List Ent) => some (.go (T28.1, T28.2.1, T28.2.2)))))
        (fun (T19 : Int × Int × List Ent) => some (.go (T19.1, T19.2.1, T19.2.2))))
        else (some (.go (p, q, d))))
        (fun (T10 : Int × Int × List Ent) => some (T10.2.2, { b := b, i := T10.1, h := T10.2.1 : L1Cur })) = some (l, { b := b, i := i', h := h' }) ∧ l.length ≤ 2000 ∧ (0 ≤ i' ∧ i' ≤ b.length) := by
    intro p q x hx hp
    cases x with
    | false => exact ⟨_, _, _, rfl, (by omega : d.length ≤ 2000), hp⟩
    | true =>
      have hpos := hx rfl
      obtain ⟨x6, i6, h6, e6, g6, k6⟩ := l1Below_ok b p q ((d.length : Nat) : Int) hp hb
      have hx6 := g6.2.1 (by omega)
      obtain ⟨x7, i7, h7, e7, g7, k7⟩ := l1Below_ok b i6 h6 4 k6 hb
      have hid := idx_some' (l := d) g6.1 hx6
      simp only [if_true, e6, e7, Option.bind_some, hid]
      by_cases c0 : x7 = 0
      · rw [decide_eq_true c0]
        obtain ⟨x8, i8, h8, e8, g8, k8⟩ := l1Pick_ok b i7 h7 [[], [98], [97, 97, 97, 97, 97, 97, 97, 97, 97, 97, 97]] (by simp) k7 hb
        simp only [if_true, e8, Option.bind_some, bindC_go]
        exact ⟨_, _, _, rfl, by simp only [List.length_set]; omega, k8⟩
      · rw [decide_eq_false c0]
        simp only [Bool.false_eq_true, if_false]
        by_cases c1 : x7 = 1
        · rw [decide_eq_true c1]
          obtain ⟨x8, i8, h8, e8, g8, k8⟩ := l1PickInt_ok b i7 h7 [-1, 5, 1000000, 1000001] (by simp) k7 hb
          simp only [if_true, e8, Option.bind_some, bindC_go]
          exact ⟨_, _, _, rfl, by simp only [List.length_set]; omega, k8⟩
        · rw [decide_eq_false c1]
          simp only [Bool.false_eq_true, if_false]
          by_cases c2 : x7 = 2
          · rw [decide_eq_true c2]
            simp only [if_true, bindC_go]
            exact ⟨_, _, _, rfl, by simp only [List.length_set]; omega, k7⟩
          · rw [decide_eq_false c2]
            simp only [Bool.false_eq_true, if_false]
            obtain ⟨r, hr, p2, q2, a2, rfl, r1, r2⟩ := ents_grow b d i7 h7 k7 hb (by omega)
            rw [hr]
            simp only [bindC_go]
            exact ⟨_, _, _, rfl, r2, r1⟩
  by_cases c : ((d.length : Nat) : Int) > 0
  · rw [decide_eq_true c]
    obtain ⟨x4, i4, h4, e4, k4⟩ := l1Once_ok b p q 10 b1 hb
    simp only [if_true, e4, Option.bind_some]
    exact key i4 h4 x4 (fun _ => by omega) k4
  · rw [decide_eq_false c]
    simp only [Bool.false_eq_true, if_false, Option.bind_some]
    exact key p q false (fun h => by cases h) b1
theorem l15Snaps_ok (b : List UInt8) (i h : Int) (hi : 0 ≤ i ∧ i ≤ b.length) (hb : b.length ≤ 1048576) : ∃ l i' h', spec_l15Snaps { b := b, i := i, h := h } = some (l, { b := b, i := i', h := h' }) ∧ l.length ≤ 10 ∧ (0 ≤ i' ∧ i' ≤ b.length) := by
  unfold spec_l15Snaps
  obtain ⟨x1, i1, h1, e1, g1, k1⟩ := l1Below_ok b i h 4 hi hb
  have hx1 := g1.2.1 (by omega)
  simp only [e1, Option.bind_some]
  refine loopO_G (τ := Int × Int × Int × List Int) (ρ := Int × Int × List Int) (R := List Int × L1Cur) (G := fun o => ∃ l i' h', o = some (l, { b := b, i := i', h := h' }) ∧ l.length ≤ 10 ∧ (0 ≤ i' ∧ i' ≤ b.length)) (I := fun k S => (0 ≤ S.1 ∧ S.1 ≤ b.length) ∧ S.2.2.1 = x1 - (k : Int) ∧ S.2.2.2.length ≤ k) x1.toNat (Q := fun r => ∃ p q a, r = .go (p, q, a) ∧ (0 ≤ p ∧ p ≤ b.length) ∧ a.length ≤ 10) ⟨k1, by simp, by simp⟩ ?_ ?_ ?_
  · rintro k ⟨p, q, c, d⟩ hk ⟨b1, b2, b3⟩
    simp only at b1 b2 b3
    subst b2
    left
    obtain ⟨x3, i3, h3, e3, g3, k3⟩ := l1Below_ok b p q 22 b1 hb
    simp only [e3, Option.bind_some]
    rw [if_pos (by simp only [decide_eq_true_eq]; omega), wrap_ok (n := x1 - (k : Int) - 1) (by omega) (by omega), app_ok (by simp only [List.length_singleton]; omega) (by simp only [List.length_singleton]; omega)]
    exact ⟨_, rfl, k3, by simp only; omega, by simp only [List.length_append, List.length_singleton]; omega⟩
  · rintro ⟨p, q, c, d⟩ ⟨b1, b2, b3⟩
    simp only at b1 b2 b3
    exact ⟨_, by simp only; rw [if_neg (by simp only [decide_eq_true_eq]; omega)], p, q, d, rfl, b1, by omega⟩
  rintro _ ⟨p, q, d, rfl, b1, b3⟩
  exact ⟨_, _, _, rfl, b3, b1⟩
theorem DrawCompactEnts_ok (code : List UInt8) (hb : code.length ≤ 1048576) : ∃ l s b, spec_DrawCompactEnts code = some (l, s, b) ∧ l.length ≤ 2000 ∧ s.length ≤ 10 := by
  unfold spec_DrawCompactEnts
  obtain ⟨q, hq⟩ := l1New_ok code hb
  obtain ⟨x1, i1, h1, e1, g1, k1⟩ := l9Any_ok code 0 q 16 (by omega) (by omega) hb
  obtain ⟨x2, i2, h2, e2, g2, k2⟩ := l15Snaps_ok code i1 h1 k1 hb
  obtain ⟨x3, i3, h3, e3, k3⟩ := l1Once_ok code i2 h2 2 k2 hb
  simp only [hq, Option.bind_some, e1, e2, e3]
  exact ⟨_, _, _, rfl, g1, g2⟩
theorem sameEnts_eq (a b : List Ent) (h : a.length ≤ 1048576) : laws_sameEnts a b = some (decide (a = b)) := by
  unfold laws_sameEnts
  have := eqS_of a b (fun x y => some (decide (x.Key = y.Key) && (decide (x.Seq = y.Seq) && (decide (x.Del = y.Del) && (decide (x.Val = y.Val) && true))))) (fun x y _ _ => by
    congr 1
    obtain ⟨x1, x2, x3, x4⟩ := x
    obtain ⟨y1, y2, y3, y4⟩ := y
    simp only [Ent.mk.injEq, Bool.and_true, Bool.decide_and]) (by omega)
  simp only [Option.bind_some] at this
  exact this
theorem maps_loop {ρ : Type} (q : ρ) (l : List (List KV)) (h : l.length ≤ 1048576) (hx : ∀ x ∈ l, x.length ≤ 1048576) : loopO (ρ := Ctl Unit ρ) (fun (S32 : Int) => if (decide (S32 < ((l.length : Nat) : Int))) = true then ((idx l S32).bind fun E37 =>
    (idx l S32).bind fun E39 =>
    (laws_sameMap E37 E39).bind fun R45 =>
    if (!R45) = true then (some (.done (.done q)))
    else (some (.go (IntKind.i64.wrap (S32 + (1 : Int))))))
    else (some (.done (.go ())))) (0 : Int) = some (.go ()) := by
  refine loopO_is (fun k S => S = (k : Int)) l.length _ rfl ?_ ?_
  · rintro k _ hk rfl
    left
    rw [if_pos (by simpa using hk), idx_nat l k hk, wrap_ok (by omega) (by omega)]
    simp only [Option.bind_some]
    rw [sameMap_eq _ _ (hx _ (List.getElem_mem hk))]
    simp
  · rintro _ rfl
    rw [if_neg (by simp)]
theorem FnCompact_pure (code : List UInt8) : laws_FnCompact code = some true := by
  unfold laws_FnCompact
  rw [big_eq]
  simp only [Option.bind_some]
  by_cases hc : ((code.length : Nat) : Int) > 1048576
  · rw [decide_eq_true hc]; rfl
  rw [decide_eq_false hc]
  have hb : code.length ≤ 1048576 := by omega
  obtain ⟨l, s, b, es, hl, hs⟩ := DrawCompactEnts_ok code hb
  have hxl := compactR_len l s b
  simp only [Bool.false_eq_true, if_false, es, Option.bind_some, impl_CompactEnts_eq l s b (by omega) (by omega), spec_CompactEnts_eq l s b (by omega) (by omega), sameEnts_eq (compactR l s b) (compactR l s b) (by omega), decide_true, Bool.not_true, spec_MemOk_eq l (by omega)]
  cases hm : memV l with
  | false => rfl
  | true =>
    unfold memV at hm
    rw [Bool.and_eq_true, decide_eq_true_eq] at hm
    obtain ⟨h60, hv⟩ := hm
    obtain ⟨hxv, hseen⟩ := compact_seen s b (l := l) (by omega) hv
    have hag := compact_again s b (l := l) (by omega) hv
    simp only [Bool.not_true, Bool.false_eq_true, if_false]
    rw [impl_SeenAt_eq l s (by omega) (by omega), if_pos ⟨by omega, hv⟩, impl_SeenAt_eq (compactR l s b) s (by omega) (by omega), if_pos ⟨by omega, hxv⟩, hseen, impl_CompactEnts_eq (compactR l s b) s b (by omega) (by omega), hag]
    have hsl : (seenV l s).length = s.length + 1 := by unfold seenV; simp
    simp only [Option.bind_some, decide_true, Bool.not_true, Bool.false_eq_true, if_false]
    rw [wrap_ok (n := ((s.length : Nat) : Int) + 1) (by omega) (by omega), decide_eq_true (by omega : (((seenV l s).length : Nat) : Int) = ((s.length : Nat) : Int) + 1)]
    simp only [Bool.not_true, Bool.false_eq_true, if_false]
    rw [maps_loop false (seenV l s) (by omega) ?hx]
    case hx =>
      intro x hx
      unfold seenV at hx
      rcases List.mem_append.1 hx with h | h
      · obtain ⟨z, _, rfl⟩ := List.mem_map.1 h
        have := visL_len l z l.length (Nat.le_refl _)
        omega
      · rw [List.mem_singleton.1 h]
        have := visL_len l 1000000 l.length (Nat.le_refl _)
        omega
    simp only [bindC_go, Option.bind_some, sameEnts_eq (compactR l s b) (compactR l s b) (by omega), decide_true, if_true]
    rw [decide_eq_true (by omega : (((compactR l s b).length : Nat) : Int) ≤ ((l.length : Nat) : Int))]
theorem FnCompact_proved : Rows.FnCompactSaid := FnCompact_over fun code _ => FnCompact_pure code

end Go.Proofs.Ytahennbogdbnmaa
