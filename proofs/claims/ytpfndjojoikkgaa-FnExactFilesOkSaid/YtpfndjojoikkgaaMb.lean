/-
  The plain laws: what the pure functions come to, and the statements. Conditions: none.
-/
import Derived.Test.YtpfndjojoikkgaaPl
import Derived.Test.YtpfndjojoikkgaaF3
set_option linter.unusedVariables false
set_option linter.unusedSimpArgs false
namespace Go.Proofs.Ytpfndjojoikkgaa
open Go Sl

theorem inRange_eq (n a b : Int) : impl_inRange n a b = some (decide (a ≤ n ∧ n ≤ b)) := by
  unfold impl_inRange
  by_cases h : n ≥ a <;> simp [h]
theorem l1In_eq (n a b : Int) : spec_l1In n a b = some (decide (a ≤ n ∧ n ≤ b)) := by
  unfold spec_l1In
  by_cases h : n ≥ a <;> simp [h]
/-! ### SpaceOk -/
theorem all_range (l : List Int) (p : Int → Bool) (f : Int → Option Bool) (hf : ∀ x, f x = some (p x)) (hl : l.length ≤ 1048576) :
    loopO (ρ := Ctl Unit Bool) (fun (S6 : Int) => if (decide (S6 < ((l.length : Nat) : Int))) = true then ((idx l S6).bind fun E11 =>
  (f E11).bind fun R13 =>
  if (!R13) = true then (some (.done (.done false)))
  else (some (.go (IntKind.i64.wrap (S6 + (1 : Int))))))
  else (some (.done (.go ())))) (0 : Int) = some (if l.all p then .go () else .done false) := by
  rw [loopO_list l (fun k (_ : Unit) => (k : Int)) (fun _ x _ => if p x then some (Ctl.go ()) else some (Ctl.done (Ctl.done false))) (fun _ => some (Ctl.go ())) () ?h0 ?hs ?hf]
  case h0 => rfl
  case hs =>
    intro k hk _
    simp only [idx_nat l k hk, Option.bind_some, hf]
    rw [wrap_ok (by omega) (by omega)]
    by_cases he : p l[k] = true
    · simp [he, Ctl.mapGo, hk]
    · simp [he, Ctl.mapGo, hk]
  case hf => intro _; simp
  rw [runL_all p (Ctl.done false) _ _ (by intro k x _; rfl)]
  split <;> rfl
/-- giving blocks back, one by one -/
def giveV (who : Int) : List Int → List Int → Option (List Int)
  | [], s => some s
  | b :: bs, s => if 0 ≤ b ∧ b < s.length ∧ s[b.toNat]? = some who ∧ 1 ≤ who then giveV who bs (s.set b.toNat 0) else none
theorem giveV_cons (who b : Int) (bs s : List Int) : giveV who (b :: bs) s = if 0 ≤ b ∧ b < s.length ∧ s[b.toNat]? = some who ∧ 1 ≤ who then giveV who bs (s.set b.toNat 0) else none := rfl
theorem giveV_nil (who : Int) (s : List Int) : giveV who [] s = some s := rfl
theorem giveV_length (who : Int) : ∀ (bs s r : List Int), giveV who bs s = some r → r.length = s.length
  | [], s, r, h => by simp [giveV] at h; rw [h]
  | b :: bs, s, r, h => by
    unfold giveV at h
    split at h
    · rw [giveV_length who bs _ r h, List.length_set]
    · cases h
theorem idx_some' {α : Type} {l : List α} {i : Int} (h0 : 0 ≤ i) (h1 : i < l.length) : idx l i = some (l[i.toNat]'(by omega)) := by
  unfold idx; rw [if_pos h0, List.getElem?_eq_getElem]
/-- what a quota needs -/
def needV (q : Int) : Int := if 0 ≤ q ∧ q ≤ 1000 then 2 + 2 * ((q + 49) / 50) else 0
theorem needV_range (q : Int) : 0 ≤ needV q ∧ needV q ≤ 42 := by
  unfold needV; split <;> omega
theorem markText_loop (m : Nat) : ∀ s : List UInt8, s.length + m ≤ 9223372036854775806 → ∃ r : List UInt8, loopO (ρ := Ctl (List UInt8) (List UInt8)) (fun (S2 : Int × List UInt8) => if (decide (S2.1 > (0 : Int))) = true then ((cat ([toU8 (IntKind.i64.wrap ((48 : Int) + (Int.tmod S2.1 (10 : Int))))]) S2.2).bind fun E8 =>
  some (.go (IntKind.i64.wrap (Int.tdiv S2.1 (10 : Int)), E8)))
  else (some (.done (.go S2.2)))) ((m : Int), s) = some (.go r) ∧ r.length ≤ s.length + m := by
  induction m using Nat.strongRecOn with
  | _ m ih =>
    intro s hs
    rw [loopO_eq]
    by_cases h0 : m = 0
    · subst h0
      exact ⟨s, by simp, by omega⟩
    · simp only
      rw [if_pos (by simp; omega), cat_ok (by simp; omega)]
      have hd : Int.tdiv (m : Int) 10 = ((m / 10 : Nat) : Int) := rfl
      rw [hd, wrap_ok (n := ((m / 10 : Nat) : Int)) (by omega) (by omega)]
      simp only [Option.bind_some]
      obtain ⟨r, hr, hl⟩ := ih (m / 10) (by omega) ([toU8 (IntKind.i64.wrap ((48 : Int) + (Int.tmod (m : Int) (10 : Int))))] ++ s) (by simp; omega)
      exact ⟨r, hr, by simp at hl; omega⟩
/-- a list turned up to a place -/
def preM {α : Type} (f : α → α) (l : List α) (k : Nat) : List α := (l.take k).map f ++ l.drop k
theorem preM_length {α : Type} (f : α → α) (l : List α) (k : Nat) : (preM f l k).length = l.length := by unfold preM; simp; omega
theorem preM_get {α : Type} (f : α → α) (l : List α) (k : Nat) (h : k < l.length) : idx (preM f l k) (k : Int) = some l[k] := by
  rw [idx_nat _ k (by rw [preM_length]; exact h)]
  congr 1
  have hl : ((l.take k).map f).length = k := by rw [List.length_map, List.length_take]; omega
  unfold preM
  rw [List.getElem_append_right (by omega)]
  simp only [hl, Nat.sub_self]
  simp
theorem preM_set {α : Type} (f : α → α) (l : List α) (k : Nat) (h : k < l.length) : (preM f l k).set k (f l[k]) = preM f l (k + 1) := by
  have hl : ((l.take k).map f).length = k := by rw [List.length_map, List.length_take]; omega
  have htk : l.take (k + 1) = l.take k ++ [l[k]] := by rw [List.take_add_one, List.getElem?_eq_getElem h]; rfl
  unfold preM
  rw [List.set_append_right _ _ (by omega), hl, Nat.sub_self, htk, List.drop_eq_getElem_cons h, List.set_cons_zero, List.map_append, List.append_assoc]
  rfl
theorem preM_same {α : Type} (f : α → α) (l : List α) (k : Nat) (h : k < l.length) (hf : f l[k] = l[k]) : preM f l (k + 1) = preM f l k := by
  rw [← preM_set f l k h, hf]
  apply List.ext_getElem?
  intro j
  rw [List.getElem?_set]
  split
  · rename_i he
    subst he
    have := preM_get f l k h
    unfold idx at this
    rw [if_pos (by omega), Int.toNat_natCast] at this
    rw [if_pos (by rw [preM_length]; exact h), this]
  · rfl
theorem preM_all {α : Type} (f : α → α) (l : List α) : preM f l l.length = l.map f := by unfold preM; simp
/-- a tenant's blocks, wiped -/
def wipeV (who : Int) (l : List Int) : List Int := l.map fun x => if x = who then 0 else x
/-- the first n free blocks of the first k -/
def freeIx (l : List Int) (n : Int) : Nat → List Nat
  | 0 => []
  | k + 1 => if l[k]? = some 0 ∧ ((freeIx l n k).length : Int) < n then freeIx l n k ++ [k] else freeIx l n k
theorem freeIx_lt (l : List Int) (n : Int) : ∀ k, ∀ i ∈ freeIx l n k, i < k
  | 0, i, h => by simp [freeIx] at h
  | k + 1, i, h => by
    unfold freeIx at h
    split at h
    · rcases List.mem_append.1 h with h | h
      · have := freeIx_lt l n k i h; omega
      · have : i = k := by simpa using h
        omega
    · have := freeIx_lt l n k i h; omega
theorem freeIx_length (l : List Int) (n : Int) : ∀ k, (freeIx l n k).length ≤ k
  | 0 => by simp [freeIx]
  | k + 1 => by
    have := freeIx_length l n k
    unfold freeIx
    split
    · simp; omega
    · omega
theorem freeIx_sat (l : List Int) (n : Int) (k : Nat) (h : ¬ ((freeIx l n k).length : Int) < n) : ∀ d, freeIx l n (k + d) = freeIx l n k
  | 0 => rfl
  | d + 1 => by
    have := freeIx_sat l n k h d
    have e : freeIx l n (k + (d + 1)) = if l[k + d]? = some 0 ∧ ((freeIx l n (k + d)).length : Int) < n then freeIx l n (k + d) ++ [k + d] else freeIx l n (k + d) := rfl
    rw [e, this, if_neg (fun h2 => h h2.2)]
theorem freeIx_count (l : List Int) (n : Int) (hn : 1 ≤ n) : ∀ k, k ≤ l.length → (((freeIx l n k).length : Int) < n ↔ (((l.take k).countP fun x => decide (x = 0) : Nat) : Int) < n) ∧ ((((l.take k).countP fun x => decide (x = 0) : Nat) : Int) < n → (freeIx l n k).length = ((l.take k).countP fun x => decide (x = 0))) ∧
    ((((l.take k).countP fun x => decide (x = 0) : Nat) : Int) = n → ((freeIx l n k).length : Int) = n)
  | 0, _ => by simp [freeIx]
  | k + 1, hk => by
    obtain ⟨h1, h2, h3⟩ := freeIx_count l n hn k (by omega)
    have hk' : k < l.length := by omega
    have htk : l.take (k + 1) = l.take k ++ [l[k]] := by rw [List.take_add_one, List.getElem?_eq_getElem hk']; rfl
    unfold freeIx
    rw [htk, List.countP_append, List.getElem?_eq_getElem hk']
    by_cases hx : l[k] = 0
    · simp only [hx, true_and, List.countP_cons, List.countP_nil, decide_true, if_true, Nat.zero_add]
      by_cases hc : ((freeIx l n k).length : Int) < n
      · rw [if_pos hc]
        have := h2 (h1.1 hc)
        simp only [List.length_append, List.length_cons, List.length_nil]
        omega
      · rw [if_neg hc]
        have : ¬ (((l.take k).countP fun x => decide (x = 0) : Nat) : Int) < n := fun h => hc (h1.2 h)
        omega
    · simp only [List.countP_cons, List.countP_nil, hx, decide_false, Bool.false_eq_true, if_false, Nat.add_zero]
      rw [if_neg (by simp [hx])]
      exact ⟨h1, h2, h3⟩
/-- blocks given to somebody -/
def setAll (who : Int) (l : List Int) (g : List Nat) : List Int := g.foldl (fun s i => s.set i who) l
theorem setAll_length (who : Int) (g : List Nat) : ∀ l, (setAll who l g).length = l.length := by
  induction g with
  | nil => intro l; rfl
  | cons i g ih => intro l; show (setAll who (l.set i who) g).length = _; rw [ih, List.length_set]
theorem setAll_snoc (who : Int) (l : List Int) (g : List Nat) (i : Nat) : setAll who l (g ++ [i]) = (setAll who l g).set i who := by
  unfold setAll; rw [List.foldl_append]; rfl
theorem sLt_nil (a : List UInt8) : sLt a [] = false := by cases a <;> rfl
theorem sLt_compl : ∀ a b : List UInt8, (sLt b a || decide (b = a)) = !sLt a b
  | [], [] => rfl
  | [], b :: y => by simp [sLt, Op.bytesLess]
  | a :: x, [] => by simp [sLt, Op.bytesLess]
  | a :: x, b :: y => by
    have ih := sLt_compl x y
    simp only [sLt] at ih
    simp only [sLt, Op.bytesLess]
    by_cases h1 : a < b
    · have h2 : ¬ b < a := fun h => absurd (UInt8.lt_trans h1 h) (UInt8.lt_irrefl _)
      have h3 : ¬ b = a := fun h => by subst h; exact UInt8.lt_irrefl _ h1
      simp [h1, h2, h3]
    · by_cases h2 : b < a
      · have h3 : ¬ a = b := fun h => by subst h; exact UInt8.lt_irrefl _ h2
        simp [h1, h2, h3]
      · have h3 : a = b := by
          rw [UInt8.lt_iff_toNat_lt] at h1 h2
          apply UInt8.toNat_inj.1
          omega
        subst h3
        simp only [h1, decide_false, Bool.false_or, beq_self_eq_true, Bool.true_and, List.cons.injEq, true_and]
        exact ih
theorem isKey_eq (s : List UInt8) : impl_isKey s = some (decide (1 ≤ (s.length : Int) ∧ (s.length : Int) ≤ 10)) := by
  unfold impl_isKey; rw [inRange_eq]; rfl
theorem scan_up (p : Nat → Bool) (n : Nat) : ∀ d a, a + d = n → ∃ j, a ≤ j ∧ j ≤ n ∧ (∀ i, a ≤ i → i < j → p i = false) ∧ (j < n → p j = true)
  | 0, a, h => ⟨a, Nat.le_refl _, by omega, fun i h1 h2 => by omega, fun h => by omega⟩
  | d + 1, a, h => by
    cases hp : p a with
    | true => exact ⟨a, Nat.le_refl _, by omega, fun i h1 h2 => by omega, fun _ => hp⟩
    | false =>
      obtain ⟨j, h1, h2, h3, h4⟩ := scan_up p n d (a + 1) (by omega)
      refine ⟨j, by omega, h2, fun i h5 h6 => ?_, h4⟩
      by_cases e : i = a
      · rw [e]; exact hp
      · exact h3 i (by omega) h6
theorem down_stop (p : Nat → Bool) : ∀ n : Nat, ∃ j : Nat, j ≤ n ∧ (∀ i, j ≤ i → i < n → p i = false) ∧ (0 < j → p (j - 1) = true)
  | 0 => ⟨0, Nat.le_refl _, fun i h1 h2 => by omega, fun h => by omega⟩
  | n + 1 => by
    cases hp : p n with
    | true => exact ⟨n + 1, Nat.le_refl _, fun i h1 h2 => by omega, fun _ => by simpa using hp⟩
    | false =>
      obtain ⟨j, h1, h2, h3⟩ := down_stop p n
      refine ⟨j, by omega, fun i h4 h5 => ?_, h3⟩
      by_cases e : i = n
      · rw [e]; exact hp
      · exact h2 i h4 (by omega)
theorem all_loop {body : Int → Option (Ctl Int (Ctl Unit Bool))} (pass : Nat → Bool) (n : Nat) (h : ∀ k, k < n → body (k : Int) = some (if pass k = true then .go ((k : Int) + 1) else .done (.done false))) (hn : body (n : Int) = some (.done (.go ()))) :
    loopO body 0 = some (if (List.range n).all pass = true then .go () else .done false) := by
  have key : ∀ d k, k + d = n → loopO body (k : Int) = some (if ((List.range n).drop k).all pass = true then .go () else .done false) := by
    intro d
    induction d with
    | zero =>
      intro k hk
      obtain rfl : k = n := by omega
      rw [loopO_eq, hn, List.drop_of_length_le (by simp)]
      rfl
    | succ d ih =>
      intro k hk
      have hd : (List.range n).drop k = k :: (List.range n).drop (k + 1) := by rw [List.drop_eq_getElem_cons (by simp; omega)]; simp
      rw [loopO_eq, h k (by omega), hd, List.all_cons]
      cases hp : pass k with
      | true =>
        have := ih (k + 1) (by omega)
        rw [show ((k + 1 : Nat) : Int) = (k : Int) + 1 by omega] at this
        simpa using this
      | false => simp
  have := key n 0 (by omega)
  simpa using this
/-- a file as required -/
def fileV (f : File) : Bool := decide (1 ≤ f.No ∧ f.No ≤ 1000000) && (decide (0 ≤ f.Level ∧ f.Level ≤ 2) && (decide (1 ≤ (f.Lo.length : Int) ∧ (f.Lo.length : Int) ≤ 10) && (decide (1 ≤ (f.Hi.length : Int) ∧ (f.Hi.length : Int) ≤ 10) && (sLt f.Lo f.Hi || decide (f.Lo = f.Hi)))))
/-- one file ahead of another -/
def aheadV (a b : File) : Bool := if a.Level = b.Level then (if a.Level = 0 then decide (a.No > b.No) else sLt a.Lo b.Lo) else decide (a.Level < b.Level)
/-- two neighbours in one level that overlap -/
def overV (a b : File) : Bool := decide (b.Level > 0) && (decide (a.Level = b.Level) && (sLt b.Lo a.Hi || decide (b.Lo = a.Hi)))
/-- the file at a place, against those ahead of it -/
def passV (l : List File) (k : Nat) : Bool := match l[k]? with
  | some f => fileV f && ((match k with | 0 => true | j + 1 => match l[j]? with | some e => aheadV e f && !overV e f | none => true) && (l.take k).all fun g => decide (g.No ≠ f.No))
  | none => true
theorem passV_at (l : List File) (k : Nat) (h : k < l.length) : passV l k = (fileV l[k] && ((if h0 : 0 < k then aheadV (l[k - 1]'(by omega)) l[k] && !overV (l[k - 1]'(by omega)) l[k] else true) && (l.take k).all fun g => decide (g.No ≠ l[k].No))) := by
  unfold passV
  rw [List.getElem?_eq_getElem h]
  cases k with
  | zero => rfl
  | succ j =>
    simp only [Nat.zero_lt_succ, dif_pos, Nat.add_sub_cancel]
    rw [List.getElem?_eq_getElem (by omega)]
/-- files in order -/
def filesV (l : List File) : Bool := decide (l.length ≤ 12) && (List.range l.length).all (passV l)
theorem l16Ahead_eq (a b : File) : spec_l16Ahead a b = some (aheadV a b) := by
  unfold spec_l16Ahead aheadV
  by_cases h1 : a.Level = b.Level
  · rw [if_neg (by simpa using h1), if_pos h1]
    by_cases h2 : a.Level = 0
    · rw [if_pos (by simpa using h2), if_pos h2]
    · rw [if_neg (by simpa using h2), if_neg h2]
  · simp [h1]
theorem cmpI_eq (x y : Int) : cmp_Compare_26527 x y = some (if x < y then -1 else if x > y then 1 else 0) := by
  unfold cmp_Compare_26527 cmp_isNaN_26527
  by_cases h1 : x < y <;> by_cases h2 : x > y <;> simp [h1, h2]
theorem cmpS_eq (x y : List UInt8) : cmp_Compare_83645 x y = some (if sLt x y = true then -1 else if (!(sLt x y || decide (x = y))) = true then 1 else 0) := by
  unfold cmp_Compare_83645 cmp_isNaN_83645
  simp only [decide_true, Bool.not_true, Option.bind_some, Bool.false_eq_true, if_false]
  split
  · rfl
  · split <;> rfl
theorem compareFiles_eq (a b : File) : ∃ r, impl_compareFiles a b = some r ∧ (decide (r ≥ 0) = !aheadV a b) := by
  unfold impl_compareFiles aheadV
  by_cases h1 : a.Level = b.Level
  · by_cases h2 : a.Level = 0
    · rw [if_neg (by simpa using h1), if_pos (by simpa using h2), cmpI_eq]
      refine ⟨_, rfl, ?_⟩
      rw [if_pos h1, if_pos h2]
      by_cases c : b.No < a.No
      · simp [c]
      · by_cases c2 : a.No < b.No <;> simp [c, c2]
    · rw [if_neg (by simpa using h1), if_neg (by simpa using h2), cmpS_eq]
      refine ⟨_, rfl, ?_⟩
      rw [if_pos h1, if_neg h2]
      by_cases c : sLt a.Lo b.Lo = true
      · simp [c]
      · have c' : sLt a.Lo b.Lo = false := by simpa using c
        rw [if_neg c, c']
        by_cases c2 : a.Lo = b.Lo
        · rw [decide_eq_true c2]; rfl
        · rw [decide_eq_false c2]; rfl
  · rw [if_pos (by simpa using h1), cmpI_eq]
    refine ⟨_, rfl, ?_⟩
    rw [if_neg h1]
    by_cases c : a.Level < b.Level
    · simp [c]
    · by_cases c2 : a.Level > b.Level <;> simp [c, c2]
theorem fileOk_eq (f : File) : impl_fileOk f = some (fileV f) := by
  unfold impl_fileOk fileV
  simp only [inRange_eq, isKey_eq, Option.bind_some]
  by_cases h1 : 1 ≤ f.No ∧ f.No ≤ 1000000
  · by_cases h2 : 0 ≤ f.Level ∧ f.Level ≤ 2
    · by_cases h3 : 1 ≤ (f.Lo.length : Int) ∧ (f.Lo.length : Int) ≤ 10
      · by_cases h4 : 1 ≤ (f.Hi.length : Int) ∧ (f.Hi.length : Int) ≤ 10
        · simp only [h1, h2, h3, h4, and_self, decide_true, if_true, Option.bind_some, Bool.true_and]
        · simp only [h1, h2, h3, h4, and_self, decide_true, decide_false, if_true, Option.bind_some, Bool.true_and, Bool.false_and, Bool.false_eq_true, if_false]
      · simp only [h1, h2, h3, and_self, decide_true, decide_false, if_true, Option.bind_some, Bool.true_and, Bool.false_and, Bool.false_eq_true, if_false]
    · simp only [h1, h2, and_self, decide_true, decide_false, if_true, Option.bind_some, Bool.true_and, Bool.false_and, Bool.false_eq_true, if_false]
  · simp only [h1, decide_false, Option.bind_some, Bool.false_and, Bool.false_eq_true, if_false]
theorem fileAt_eq (l : List File) (no : Int) (k : Nat) (hl : l.length ≤ 1048576) (hk : k < l.length) (hn : l[k].No = no) : ∃ r, impl_fileAt l no = some r ∧ (decide (r = (k : Int)) = (l.take k).all fun g => decide (g.No ≠ no)) := by
  unfold impl_fileAt slices_IndexFunc_68810_at_impl_fileAt_1 impl_fileAt_1
  have key : ∃ c, loopO (ρ := Ctl Unit Int) (fun (S1 : Int) => if (decide (S1 < ((l.length : Nat) : Int))) = true then ((idx l S1).bind fun E6 => (some (decide (E6.No = no))).bind fun R8 => if R8 = true then (some (.done (.done S1))) else (some (.go (IntKind.i64.wrap (S1 + (1 : Int)))))) else (some (.done (.go ())))) (0 : Int) = some c ∧
      ∃ j : Nat, c = .done (j : Int) ∧ j ≤ k ∧ (∀ i (h : i < l.length), i < j → l[i].No ≠ no) ∧ (∀ h : j < l.length, l[j].No = no) := by
    refine loopO_total (fun i s => s = (i : Int) ∧ i ≤ k ∧ ∀ q (h : q < l.length), q < i → l[q].No ≠ no) (k + 1) _ ⟨rfl, by omega, fun q h h2 => by omega⟩ ?_ ?_
    · rintro i s hi ⟨rfl, h1, h2⟩
      have hil : i < l.length := by omega
      simp only [idx_nat l i hil, Option.bind_some]
      rw [if_pos (by simpa using hil), wrap_ok (by omega) (by omega)]
      by_cases c : l[i].No = no
      · right
        exact ⟨_, by simp [c], i, rfl, h1, h2, fun _ => c⟩
      · left
        have hik : i ≠ k := fun e => by subst e; exact c hn
        refine ⟨(i : Int) + 1, by simp [c], by omega, by omega, fun q h h3 => ?_⟩
        by_cases e : q = i
        · subst e; exact c
        · exact h2 q h (by omega)
    · rintro s ⟨rfl, h1, _⟩
      omega
  obtain ⟨c, hc, j, rfl, h1, h2, h3⟩ := key
  rw [hc]
  refine ⟨(j : Int), rfl, ?_⟩
  by_cases e : j = k
  · subst e
    rw [decide_eq_true (rfl : (j : Int) = (j : Int))]
    symm
    rw [List.all_eq_true]
    intro g hg
    obtain ⟨i, hi, rfl⟩ := List.getElem_of_mem hg
    have hi' : i < j := by simp at hi; omega
    simp only [List.getElem_take, decide_eq_true_eq]
    exact h2 i (by omega) hi'
  · rw [decide_eq_false (by omega : ¬ (j : Int) = (k : Int))]
    symm
    rw [← Bool.not_eq_true, List.all_eq_true]
    intro hall
    have hj : j < (l.take k).length := by simp; omega
    have := hall ((l.take k)[j]) (List.getElem_mem hj)
    simp only [List.getElem_take, decide_eq_true_eq] at this
    exact this (h3 (by omega))
theorem impl_FilesOk_eq (l : List File) (h : l.length ≤ 1048576) : impl_FilesOk l = some (filesV l) := by
  unfold impl_FilesOk filesV
  by_cases h12 : ((l.length : Nat) : Int) > 12
  · rw [if_pos (by simpa using h12), decide_eq_false (by omega : ¬ l.length ≤ 12)]
    rfl
  · rw [if_neg (by simpa using h12), decide_eq_true (by omega : l.length ≤ 12), Bool.true_and]
    rw [all_loop (passV l) l.length ?hp ?hq]
    · cases (List.range l.length).all (passV l) <;> rfl
    case hq => simp
    case hp =>
      intro k hk
      obtain ⟨r, hr, hr2⟩ := fileAt_eq l l[k].No k h hk rfl
      simp only [idx_nat l k hk, Option.bind_some, fileOk_eq, hr]
      rw [if_pos (by simpa using hk), wrap_ok (n := (k : Int) + 1) (by omega) (by omega), passV_at l k hk, hr2]
      cases hf : fileV l[k] with
      | false => simp
      | true =>
        cases ha : (l.take k).all fun g => decide (g.No ≠ l[k].No) with
        | false => simp
        | true =>
          by_cases h0 : 0 < k
          · have hw : IntKind.i64.wrap ((k : Int) - 1) = ((k - 1 : Nat) : Int) := by rw [wrap_ok (by omega) (by omega)]; omega
            rw [dif_pos h0]
            simp only [hw, idx_nat l (k - 1) (by omega), Option.bind_some]
            obtain ⟨c, hc, hc2⟩ := compareFiles_eq (l[k - 1]'(by omega)) l[k]
            rw [if_neg (by simp), if_neg (by simp), if_pos (by simp; omega), if_pos (by simp; omega), hc]
            simp only [Option.bind_some, hc2]
            unfold overV
            cases aheadV (l[k - 1]'(by omega)) l[k] with
            | false => simp
            | true =>
              by_cases c1 : l[k].Level > 0
              · by_cases c2 : (l[k - 1]'(by omega)).Level = l[k].Level
                · cases hs : (sLt l[k].Lo (l[k - 1]'(by omega)).Hi || decide (l[k].Lo = (l[k - 1]'(by omega)).Hi)) with
                  | true => simp [c1, c2, hs]
                  | false => simp [c1, c2, hs]
                · simp [c1, c2]
              · simp [c1]
          · have hk0 : k = 0 := by omega
            subst hk0
            simp
theorem l16Text_eq (s : List UInt8) : spec_l16Text s = some (decide (1 ≤ (s.length : Int) ∧ (s.length : Int) ≤ 10)) := by
  unfold spec_l16Text; rw [l1In_eq]; rfl
theorem nodup_loop (l : List File) (k : Nat) (hk : k < l.length) (h : l.length ≤ 1048576) : loopO (ρ := Ctl Unit (Ctl Int (Ctl Unit Bool))) (fun (S41 : Int) => if (decide (S41 < (k : Int))) = true then ((idx l S41).bind fun E46 =>
  if (decide (E46.No = l[k].No)) = true then (some (.done (.done (.done (.done false)))))
  else (some (.go (IntKind.i64.wrap (S41 + (1 : Int))))))
  else (some (.done (.go ())))) (0 : Int) = some (if (l.take k).all (fun g => decide (g.No ≠ l[k].No)) = true then .go () else .done (.done (.done false))) := by
  refine loopO_is (fun i s => s = (i : Int) ∧ ((l.take k).all (fun g => decide (g.No ≠ l[k].No)) = ((l.take k).drop i).all (fun g => decide (g.No ≠ l[k].No)))) k _ ⟨rfl, by rw [List.drop_zero]⟩ ?_ ?_
  · rintro i s hi ⟨rfl, he⟩
    have hil : i < l.length := by omega
    have hd : (l.take k).drop i = l[i] :: (l.take k).drop (i + 1) := by
      rw [List.drop_eq_getElem_cons (by simp; omega)]
      simp
    rw [he, hd, List.all_cons]
    simp only [idx_nat l i hil, Option.bind_some]
    rw [if_pos (by simpa using hi), wrap_ok (by omega) (by omega)]
    by_cases c : l[i].No = l[k].No
    · right
      simp [c]
    · left
      refine ⟨(i : Int) + 1, by simp [c], by omega, ?_⟩
      simp [c]
  · rintro s ⟨rfl, he⟩
    rw [he, List.drop_of_length_le (by simp; omega)]
    simp
theorem spec_FilesOk_eq (l : List File) (h : l.length ≤ 1048576) : spec_FilesOk l = some (filesV l) := by
  unfold spec_FilesOk filesV
  by_cases h12 : ((l.length : Nat) : Int) > 12
  · rw [if_pos (by simpa using h12), decide_eq_false (by omega : ¬ l.length ≤ 12)]
    rfl
  · rw [if_neg (by simpa using h12), decide_eq_true (by omega : l.length ≤ 12), Bool.true_and]
    rw [all_loop (passV l) l.length ?hp ?hq]
    · cases (List.range l.length).all (passV l) <;> rfl
    case hq => simp
    case hp =>
      intro k hk
      simp only [idx_nat l k hk, Option.bind_some, l16Text_eq, l1In_eq, l16Ahead_eq, nodup_loop l k hk h]
      rw [if_pos (by simpa using hk), wrap_ok (n := (k : Int) + 1) (by omega) (by omega), passV_at l k hk]
      have hf : ∀ (X : Bool → Option (Ctl Int (Ctl Unit Bool))), ((if (!decide (1 ≤ l[k].No ∧ l[k].No ≤ 1000000)) = true then some true else if (!decide (0 ≤ l[k].Level ∧ l[k].Level ≤ 2)) = true then some true
          else if (!decide (1 ≤ (l[k].Lo.length : Int) ∧ (l[k].Lo.length : Int) ≤ 10)) = true then some true else if (!decide (1 ≤ (l[k].Hi.length : Int) ∧ (l[k].Hi.length : Int) ≤ 10)) = true then some true else some (!(sLt l[k].Lo l[k].Hi || decide (l[k].Lo = l[k].Hi)))) : Option Bool).bind X = X (!fileV l[k]) := by
        intro X
        unfold fileV
        by_cases h1 : 1 ≤ l[k].No ∧ l[k].No ≤ 1000000 <;> by_cases h2 : 0 ≤ l[k].Level ∧ l[k].Level ≤ 2 <;> by_cases h3 : 1 ≤ (l[k].Lo.length : Int) ∧ (l[k].Lo.length : Int) ≤ 10 <;> by_cases h4 : 1 ≤ (l[k].Hi.length : Int) ∧ (l[k].Hi.length : Int) ≤ 10 <;>
          simp only [h1, h2, h3, h4, and_self, decide_true, decide_false, Bool.not_true, Bool.not_false, Bool.false_eq_true, if_true, if_false, Option.bind_some, Bool.true_and, Bool.false_and]
      rw [hf]
      cases fileV l[k] with
      | false => simp
      | true =>
        simp only [Bool.not_true, Bool.false_eq_true, if_false, Bool.true_and]
        by_cases h0 : 0 < k
        · have hw : IntKind.i64.wrap ((k : Int) - 1) = ((k - 1 : Nat) : Int) := by rw [wrap_ok (by omega) (by omega)]; omega
          rw [dif_pos h0, if_pos (by simp; omega)]
          simp only [hw, idx_nat l (k - 1) (by omega), Option.bind_some]
          unfold overV
          cases aheadV (l[k - 1]'(by omega)) l[k] with
          | false => simp
          | true =>
            cases (l.take k).all fun g => decide (g.No ≠ l[k].No) <;>
            by_cases c1 : l[k].Level > 0 <;> by_cases c2 : (l[k - 1]'(by omega)).Level = l[k].Level <;> cases hs : (sLt l[k].Lo (l[k - 1]'(by omega)).Hi || decide (l[k].Lo = (l[k - 1]'(by omega)).Hi)) <;> simp [c1, c2, hs]
        · have hk0 : k = 0 := by omega
          subst hk0
          simp
theorem szFile_eq (x : File) (left : Int) (h1 : 0 ≤ left) (h2 : left ≤ 1048576) (h3 : x.Lo.length ≤ 9223372036854775807) (h4 : x.Hi.length ≤ 9223372036854775807) : laws_szFile x left = some (szV left (x.Lo.length + x.Hi.length)) := by
  unfold laws_szFile szV
  rw [wrap_ok (n := left - (x.Lo.length : Int)) (by omega) (by omega)]
  by_cases h : left - (x.Lo.length : Int) < 0
  · rw [if_pos (by simpa using h), if_pos (by omega)]
  · rw [if_neg (by simpa using h), wrap_ok (n := left - (x.Lo.length : Int) - (x.Hi.length : Int)) (by omega) (by omega)]
    by_cases h5 : left - (x.Lo.length : Int) - (x.Hi.length : Int) < 0
    · rw [if_pos (by simpa using h5), if_pos (by omega)]
    · rw [if_neg (by simpa using h5), if_neg (by omega)]
      congr 1
      omega
theorem szFileS_eq (a : List File) (left : Int) (h1 : 0 ≤ left) (h2 : left ≤ 1048576) (h : okl a) : laws_szFileS a left = some (szV left (a.length + (a.map fun x => x.Lo.length + x.Hi.length).sum)) := by
  unfold laws_szFileS
  exact szS_of a laws_szFile (fun x => x.Lo.length + x.Hi.length) (fun x hx left h1 h2 => szFile_eq x left h1 h2 (h.2 x hx).2.2.1 (h.2 x hx).2.2.2) h.1 left h1 h2
theorem toFileS_eq (a : List File) (h : a.length ≤ 1048576) : laws_toFileS a = some a := by
  unfold laws_toFileS
  rw [mkLen_ok (by omega) (by omega)]
  simp only [Option.bind_some]
  rw [to_loop a _ laws_toFile (fun x _ => rfl) (by omega)]
  rfl
theorem eqFile_eq (a b : File) : laws_eqFile a b = some (decide (a = b)) := by
  obtain ⟨a1, a2, a3, a4⟩ := a; obtain ⟨b1, b2, b3, b4⟩ := b
  unfold laws_eqFile
  by_cases h1 : a1 = b1 <;> by_cases h2 : a2 = b2 <;> by_cases h3 : a3 = b3 <;> by_cases h4 : a4 = b4 <;> simp [h1, h2, h3, h4]
theorem eqFileS_eq (a b : List File) (h : a.length ≤ 1048576) : laws_eqFileS a b = some (decide (a = b)) :=
  eqS_of a b laws_eqFile (fun x y _ _ => eqFile_eq x y) (by omega)
theorem FnExactFilesOk_pure (a : List File) (h : okl a) : laws_FnExactFilesOk a = some true := by
  unfold laws_FnExactFilesOk
  rw [szFileS_eq a 1048576 (by omega) (by omega) h]
  simp only [Option.bind_some]
  by_cases hl : szV 1048576 (a.length + (a.map fun x => x.Lo.length + x.Hi.length).sum) < 0
  · rw [if_pos (by simpa using hl)]
  · have hn := szV_nonneg hl
    have hl' : a.length ≤ 1048576 := by omega
    rw [if_neg (by simpa using hl), toFileS_eq a hl']
    simp [spec_FilesOk_eq a hl', impl_FilesOk_eq a hl', eqFileS_eq a a hl']
theorem FnExactFilesOk_proved : Rows.FnExactFilesOkSaid := FnExactFilesOk_over fun a h => FnExactFilesOk_pure a h

end Go.Proofs.Ytpfndjojoikkgaa
