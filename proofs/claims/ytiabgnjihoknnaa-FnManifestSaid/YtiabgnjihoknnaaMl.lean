/-
  The plain laws: what the pure functions come to, and the statements. Conditions: none.
-/
import Derived.Test.YtiabgnjihoknnaaPm
import Derived.Test.YtiabgnjihoknnaaZ6
set_option linter.unusedVariables false
set_option linter.unusedSimpArgs false
namespace Go.Proofs.Ytiabgnjihoknnaa
open Go Sl

theorem inRange_eq (n a b : Int) : impl_inRange n a b = some (decide (a ≤ n ∧ n ≤ b)) := by
  unfold impl_inRange
  by_cases h : n ≥ a <;> simp [h]
theorem l1In_eq (n a b : Int) : spec_l1In n a b = some (decide (a ≤ n ∧ n ≤ b)) := by
  unfold spec_l1In
  by_cases h : n ≥ a <;> simp [h]
/-! ### SpaceOk -/
theorem all_range (l : List Int) (p : Int → Bool) (f : Int → Option Bool) (hf : ∀ x, f x = some (p x)) (hl : l.length ≤ 1048576) :
    loopO (ρ := Ctl Unit Bool) (fun (S6 : Int) => if (decide (S6 < ((l.length : Nat) : Int))) = true then ((idx l S6).bind fun E11 =>
  (f E11).bind fun R13 =>
  if (!R13) = true then (some (.done (.done false)))
  else (some (.go (IntKind.i64.wrap (S6 + (1 : Int))))))
  else (some (.done (.go ())))) (0 : Int) = some (if l.all p then .go () else .done false) := by
  rw [loopO_list l (fun k (_ : Unit) => (k : Int)) (fun _ x _ => if p x then some (Ctl.go ()) else some (Ctl.done (Ctl.done false))) (fun _ => some (Ctl.go ())) () ?h0 ?hs ?hf]
  case h0 => rfl
  case hs =>
    intro k hk _
    simp only [idx_nat l k hk, Option.bind_some, hf]
    rw [wrap_ok (by omega) (by omega)]
    by_cases he : p l[k] = true
    · simp [he, Ctl.mapGo, hk]
    · simp [he, Ctl.mapGo, hk]
  case hf => intro _; simp
  rw [runL_all p (Ctl.done false) _ _ (by intro k x _; rfl)]
  split <;> rfl
/-- giving blocks back, one by one -/
def giveV (who : Int) : List Int → List Int → Option (List Int)
  | [], s => some s
  | b :: bs, s => if 0 ≤ b ∧ b < s.length ∧ s[b.toNat]? = some who ∧ 1 ≤ who then giveV who bs (s.set b.toNat 0) else none
theorem giveV_cons (who b : Int) (bs s : List Int) : giveV who (b :: bs) s = if 0 ≤ b ∧ b < s.length ∧ s[b.toNat]? = some who ∧ 1 ≤ who then giveV who bs (s.set b.toNat 0) else none := rfl
theorem giveV_nil (who : Int) (s : List Int) : giveV who [] s = some s := rfl
theorem giveV_length (who : Int) : ∀ (bs s r : List Int), giveV who bs s = some r → r.length = s.length
  | [], s, r, h => by simp [giveV] at h; rw [h]
  | b :: bs, s, r, h => by
    unfold giveV at h
    split at h
    · rw [giveV_length who bs _ r h, List.length_set]
    · cases h
theorem idx_some' {α : Type} {l : List α} {i : Int} (h0 : 0 ≤ i) (h1 : i < l.length) : idx l i = some (l[i.toNat]'(by omega)) := by
  unfold idx; rw [if_pos h0, List.getElem?_eq_getElem]
/-- what a quota needs -/
def needV (q : Int) : Int := if 0 ≤ q ∧ q ≤ 1000 then 2 + 2 * ((q + 49) / 50) else 0
theorem needV_range (q : Int) : 0 ≤ needV q ∧ needV q ≤ 42 := by
  unfold needV; split <;> omega
theorem markText_loop (m : Nat) : ∀ s : List UInt8, s.length + m ≤ 9223372036854775806 → ∃ r : List UInt8, loopO (ρ := Ctl (List UInt8) (List UInt8)) (fun (S2 : Int × List UInt8) => if (decide (S2.1 > (0 : Int))) = true then ((cat ([toU8 (IntKind.i64.wrap ((48 : Int) + (Int.tmod S2.1 (10 : Int))))]) S2.2).bind fun E8 =>
  some (.go (IntKind.i64.wrap (Int.tdiv S2.1 (10 : Int)), E8)))
  else (some (.done (.go S2.2)))) ((m : Int), s) = some (.go r) ∧ r.length ≤ s.length + m := by
  induction m using Nat.strongRecOn with
  | _ m ih =>
    intro s hs
    rw [loopO_eq]
    by_cases h0 : m = 0
    · subst h0
      exact ⟨s, by simp, by omega⟩
    · simp only
      rw [if_pos (by simp; omega), cat_ok (by simp; omega)]
      have hd : Int.tdiv (m : Int) 10 = ((m / 10 : Nat) : Int) := rfl
      rw [hd, wrap_ok (n := ((m / 10 : Nat) : Int)) (by omega) (by omega)]
      simp only [Option.bind_some]
      obtain ⟨r, hr, hl⟩ := ih (m / 10) (by omega) ([toU8 (IntKind.i64.wrap ((48 : Int) + (Int.tmod (m : Int) (10 : Int))))] ++ s) (by simp; omega)
      exact ⟨r, hr, by simp at hl; omega⟩
def wgt_L1Cur (x : L1Cur) : Nat := x.b.length + 0
def wgt_File (x : File) : Nat := x.Lo.length + (x.Hi.length + 0)
def wgt_Edit (x : Edit) : Nat := wS wgt_File x.Add + (x.Drop.length + 0)
def bnd_Edit (x : Edit) : Prop := x.Add.length ≤ 4611686018427387904 ∧ x.Drop.length ≤ 4611686018427387904
theorem bnd_of_Edit (x : Edit) (h : wgt_Edit x ≤ 1048576) : bnd_Edit x := by
  have h0 : wS wgt_File x.Add + (x.Drop.length + 0) ≤ 1048576 := h
  exact ⟨Nat.le_trans (wS_len (w := wgt_File) (n := 1048576) (by omega)) (by decide), (show x.Drop.length ≤ 4611686018427387904 by omega)⟩
def wgt_Reader (x : Reader) : Nat := x.text.length + 0

/-- a list turned up to a place -/
def preM {α : Type} (f : α → α) (l : List α) (k : Nat) : List α := (l.take k).map f ++ l.drop k
theorem preM_length {α : Type} (f : α → α) (l : List α) (k : Nat) : (preM f l k).length = l.length := by unfold preM; simp; omega
theorem preM_get {α : Type} (f : α → α) (l : List α) (k : Nat) (h : k < l.length) : idx (preM f l k) (k : Int) = some l[k] := by
  rw [idx_nat _ k (by rw [preM_length]; exact h)]
  congr 1
  have hl : ((l.take k).map f).length = k := by rw [List.length_map, List.length_take]; omega
  unfold preM
  rw [List.getElem_append_right (by omega)]
  simp only [hl, Nat.sub_self]
  simp
theorem preM_set {α : Type} (f : α → α) (l : List α) (k : Nat) (h : k < l.length) : (preM f l k).set k (f l[k]) = preM f l (k + 1) := by
  have hl : ((l.take k).map f).length = k := by rw [List.length_map, List.length_take]; omega
  have htk : l.take (k + 1) = l.take k ++ [l[k]] := by rw [List.take_add_one, List.getElem?_eq_getElem h]; rfl
  unfold preM
  rw [List.set_append_right _ _ (by omega), hl, Nat.sub_self, htk, List.drop_eq_getElem_cons h, List.set_cons_zero, List.map_append, List.append_assoc]
  rfl
theorem preM_same {α : Type} (f : α → α) (l : List α) (k : Nat) (h : k < l.length) (hf : f l[k] = l[k]) : preM f l (k + 1) = preM f l k := by
  rw [← preM_set f l k h, hf]
  apply List.ext_getElem?
  intro j
  rw [List.getElem?_set]
  split
  · rename_i he
    subst he
    have := preM_get f l k h
    unfold idx at this
    rw [if_pos (by omega), Int.toNat_natCast] at this
    rw [if_pos (by rw [preM_length]; exact h), this]
  · rfl
theorem preM_all {α : Type} (f : α → α) (l : List α) : preM f l l.length = l.map f := by unfold preM; simp
/-- a tenant's blocks, wiped -/
def wipeV (who : Int) (l : List Int) : List Int := l.map fun x => if x = who then 0 else x
/-- the first n free blocks of the first k -/
def freeIx (l : List Int) (n : Int) : Nat → List Nat
  | 0 => []
  | k + 1 => if l[k]? = some 0 ∧ ((freeIx l n k).length : Int) < n then freeIx l n k ++ [k] else freeIx l n k
theorem freeIx_lt (l : List Int) (n : Int) : ∀ k, ∀ i ∈ freeIx l n k, i < k
  | 0, i, h => by simp [freeIx] at h
  | k + 1, i, h => by
    unfold freeIx at h
    split at h
    · rcases List.mem_append.1 h with h | h
      · have := freeIx_lt l n k i h; omega
      · have : i = k := by simpa using h
        omega
    · have := freeIx_lt l n k i h; omega
theorem freeIx_length (l : List Int) (n : Int) : ∀ k, (freeIx l n k).length ≤ k
  | 0 => by simp [freeIx]
  | k + 1 => by
    have := freeIx_length l n k
    unfold freeIx
    split
    · simp; omega
    · omega
theorem freeIx_sat (l : List Int) (n : Int) (k : Nat) (h : ¬ ((freeIx l n k).length : Int) < n) : ∀ d, freeIx l n (k + d) = freeIx l n k
  | 0 => rfl
  | d + 1 => by
    have := freeIx_sat l n k h d
    have e : freeIx l n (k + (d + 1)) = if l[k + d]? = some 0 ∧ ((freeIx l n (k + d)).length : Int) < n then freeIx l n (k + d) ++ [k + d] else freeIx l n (k + d) := rfl
    rw [e, this, if_neg (fun h2 => h h2.2)]
theorem freeIx_count (l : List Int) (n : Int) (hn : 1 ≤ n) : ∀ k, k ≤ l.length → (((freeIx l n k).length : Int) < n ↔ (((l.take k).countP fun x => decide (x = 0) : Nat) : Int) < n) ∧ ((((l.take k).countP fun x => decide (x = 0) : Nat) : Int) < n → (freeIx l n k).length = ((l.take k).countP fun x => decide (x = 0))) ∧
    ((((l.take k).countP fun x => decide (x = 0) : Nat) : Int) = n → ((freeIx l n k).length : Int) = n)
  | 0, _ => by simp [freeIx]
  | k + 1, hk => by
    obtain ⟨h1, h2, h3⟩ := freeIx_count l n hn k (by omega)
    have hk' : k < l.length := by omega
    have htk : l.take (k + 1) = l.take k ++ [l[k]] := by rw [List.take_add_one, List.getElem?_eq_getElem hk']; rfl
    unfold freeIx
    rw [htk, List.countP_append, List.getElem?_eq_getElem hk']
    by_cases hx : l[k] = 0
    · simp only [hx, true_and, List.countP_cons, List.countP_nil, decide_true, if_true, Nat.zero_add]
      by_cases hc : ((freeIx l n k).length : Int) < n
      · rw [if_pos hc]
        have := h2 (h1.1 hc)
        simp only [List.length_append, List.length_cons, List.length_nil]
        omega
      · rw [if_neg hc]
        have : ¬ (((l.take k).countP fun x => decide (x = 0) : Nat) : Int) < n := fun h => hc (h1.2 h)
        omega
    · simp only [List.countP_cons, List.countP_nil, hx, decide_false, Bool.false_eq_true, if_false, Nat.add_zero]
      rw [if_neg (by simp [hx])]
      exact ⟨h1, h2, h3⟩
/-- blocks given to somebody -/
def setAll (who : Int) (l : List Int) (g : List Nat) : List Int := g.foldl (fun s i => s.set i who) l
theorem setAll_length (who : Int) (g : List Nat) : ∀ l, (setAll who l g).length = l.length := by
  induction g with
  | nil => intro l; rfl
  | cons i g ih => intro l; show (setAll who (l.set i who) g).length = _; rw [ih, List.length_set]
theorem setAll_snoc (who : Int) (l : List Int) (g : List Nat) (i : Nat) : setAll who l (g ++ [i]) = (setAll who l g).set i who := by
  unfold setAll; rw [List.foldl_append]; rfl
theorem sLt_nil (a : List UInt8) : sLt a [] = false := by cases a <;> rfl
theorem sLt_compl : ∀ a b : List UInt8, (sLt b a || decide (b = a)) = !sLt a b
  | [], [] => rfl
  | [], b :: y => by simp [sLt, Op.bytesLess]
  | a :: x, [] => by simp [sLt, Op.bytesLess]
  | a :: x, b :: y => by
    have ih := sLt_compl x y
    simp only [sLt] at ih
    simp only [sLt, Op.bytesLess]
    by_cases h1 : a < b
    · have h2 : ¬ b < a := fun h => absurd (UInt8.lt_trans h1 h) (UInt8.lt_irrefl _)
      have h3 : ¬ b = a := fun h => by subst h; exact UInt8.lt_irrefl _ h1
      simp [h1, h2, h3]
    · by_cases h2 : b < a
      · have h3 : ¬ a = b := fun h => by subst h; exact UInt8.lt_irrefl _ h2
        simp [h1, h2, h3]
      · have h3 : a = b := by
          rw [UInt8.lt_iff_toNat_lt] at h1 h2
          apply UInt8.toNat_inj.1
          omega
        subst h3
        simp only [h1, decide_false, Bool.false_or, beq_self_eq_true, Bool.true_and, List.cons.injEq, true_and]
        exact ih
theorem isKey_eq (s : List UInt8) : impl_isKey s = some (decide (1 ≤ (s.length : Int) ∧ (s.length : Int) ≤ 10)) := by
  unfold impl_isKey; rw [inRange_eq]; rfl
theorem scan_up (p : Nat → Bool) (n : Nat) : ∀ d a, a + d = n → ∃ j, a ≤ j ∧ j ≤ n ∧ (∀ i, a ≤ i → i < j → p i = false) ∧ (j < n → p j = true)
  | 0, a, h => ⟨a, Nat.le_refl _, by omega, fun i h1 h2 => by omega, fun h => by omega⟩
  | d + 1, a, h => by
    cases hp : p a with
    | true => exact ⟨a, Nat.le_refl _, by omega, fun i h1 h2 => by omega, fun _ => hp⟩
    | false =>
      obtain ⟨j, h1, h2, h3, h4⟩ := scan_up p n d (a + 1) (by omega)
      refine ⟨j, by omega, h2, fun i h5 h6 => ?_, h4⟩
      by_cases e : i = a
      · rw [e]; exact hp
      · exact h3 i (by omega) h6
theorem down_stop (p : Nat → Bool) : ∀ n : Nat, ∃ j : Nat, j ≤ n ∧ (∀ i, j ≤ i → i < n → p i = false) ∧ (0 < j → p (j - 1) = true)
  | 0 => ⟨0, Nat.le_refl _, fun i h1 h2 => by omega, fun h => by omega⟩
  | n + 1 => by
    cases hp : p n with
    | true => exact ⟨n + 1, Nat.le_refl _, fun i h1 h2 => by omega, fun _ => by simpa using hp⟩
    | false =>
      obtain ⟨j, h1, h2, h3⟩ := down_stop p n
      refine ⟨j, by omega, fun i h4 h5 => ?_, h3⟩
      by_cases e : i = n
      · rw [e]; exact hp
      · exact h2 i h4 (by omega)
theorem all_loop {body : Int → Option (Ctl Int (Ctl Unit Bool))} (pass : Nat → Bool) (n : Nat) (h : ∀ k, k < n → body (k : Int) = some (if pass k = true then .go ((k : Int) + 1) else .done (.done false))) (hn : body (n : Int) = some (.done (.go ()))) :
    loopO body 0 = some (if (List.range n).all pass = true then .go () else .done false) := by
  have key : ∀ d k, k + d = n → loopO body (k : Int) = some (if ((List.range n).drop k).all pass = true then .go () else .done false) := by
    intro d
    induction d with
    | zero =>
      intro k hk
      obtain rfl : k = n := by omega
      rw [loopO_eq, hn, List.drop_of_length_le (by simp)]
      rfl
    | succ d ih =>
      intro k hk
      have hd : (List.range n).drop k = k :: (List.range n).drop (k + 1) := by rw [List.drop_eq_getElem_cons (by simp; omega)]; simp
      rw [loopO_eq, h k (by omega), hd, List.all_cons]
      cases hp : pass k with
      | true =>
        have := ih (k + 1) (by omega)
        rw [show ((k + 1 : Nat) : Int) = (k : Int) + 1 by omega] at this
        simpa using this
      | false => simp
  have := key n 0 (by omega)
  simpa using this
/-- a file as required -/
def fileV (f : File) : Bool := decide (1 ≤ f.No ∧ f.No ≤ 1000000) && (decide (0 ≤ f.Level ∧ f.Level ≤ 2) && (decide (1 ≤ (f.Lo.length : Int) ∧ (f.Lo.length : Int) ≤ 10) && (decide (1 ≤ (f.Hi.length : Int) ∧ (f.Hi.length : Int) ≤ 10) && (sLt f.Lo f.Hi || decide (f.Lo = f.Hi)))))
/-- one file ahead of another -/
def aheadV (a b : File) : Bool := if a.Level = b.Level then (if a.Level = 0 then decide (a.No > b.No) else sLt a.Lo b.Lo) else decide (a.Level < b.Level)
/-- two neighbours in one level that overlap -/
def overV (a b : File) : Bool := decide (b.Level > 0) && (decide (a.Level = b.Level) && (sLt b.Lo a.Hi || decide (b.Lo = a.Hi)))
/-- the file at a place, against those ahead of it -/
def passV (l : List File) (k : Nat) : Bool := match l[k]? with
  | some f => fileV f && ((match k with | 0 => true | j + 1 => match l[j]? with | some e => aheadV e f && !overV e f | none => true) && (l.take k).all fun g => decide (g.No ≠ f.No))
  | none => true
theorem passV_at (l : List File) (k : Nat) (h : k < l.length) : passV l k = (fileV l[k] && ((if h0 : 0 < k then aheadV (l[k - 1]'(by omega)) l[k] && !overV (l[k - 1]'(by omega)) l[k] else true) && (l.take k).all fun g => decide (g.No ≠ l[k].No))) := by
  unfold passV
  rw [List.getElem?_eq_getElem h]
  cases k with
  | zero => rfl
  | succ j =>
    simp only [Nat.zero_lt_succ, dif_pos, Nat.add_sub_cancel]
    rw [List.getElem?_eq_getElem (by omega)]
/-- files in order -/
def filesV (l : List File) : Bool := decide (l.length ≤ 12) && (List.range l.length).all (passV l)
theorem l16Ahead_eq (a b : File) : spec_l16Ahead a b = some (aheadV a b) := by
  unfold spec_l16Ahead aheadV
  by_cases h1 : a.Level = b.Level
  · rw [if_neg (by simpa using h1), if_pos h1]
    by_cases h2 : a.Level = 0
    · rw [if_pos (by simpa using h2), if_pos h2]
    · rw [if_neg (by simpa using h2), if_neg h2]
  · simp [h1]
theorem cmpI_eq (x y : Int) : cmp_Compare_26527 x y = some (if x < y then -1 else if x > y then 1 else 0) := by
  unfold cmp_Compare_26527 cmp_isNaN_26527
  by_cases h1 : x < y <;> by_cases h2 : x > y <;> simp [h1, h2]
theorem cmpS_eq (x y : List UInt8) : cmp_Compare_83645 x y = some (if sLt x y = true then -1 else if (!(sLt x y || decide (x = y))) = true then 1 else 0) := by
  unfold cmp_Compare_83645 cmp_isNaN_83645
  simp only [decide_true, Bool.not_true, Option.bind_some, Bool.false_eq_true, if_false]
  split
  · rfl
  · split <;> rfl
theorem compareFiles_eq (a b : File) : ∃ r, impl_compareFiles a b = some r ∧ (decide (r ≥ 0) = !aheadV a b) := by
  unfold impl_compareFiles aheadV
  by_cases h1 : a.Level = b.Level
  · by_cases h2 : a.Level = 0
    · rw [if_neg (by simpa using h1), if_pos (by simpa using h2), cmpI_eq]
      refine ⟨_, rfl, ?_⟩
      rw [if_pos h1, if_pos h2]
      by_cases c : b.No < a.No
      · simp [c]
      · by_cases c2 : a.No < b.No <;> simp [c, c2]
    · rw [if_neg (by simpa using h1), if_neg (by simpa using h2), cmpS_eq]
      refine ⟨_, rfl, ?_⟩
      rw [if_pos h1, if_neg h2]
      by_cases c : sLt a.Lo b.Lo = true
      · simp [c]
      · have c' : sLt a.Lo b.Lo = false := by simpa using c
        rw [if_neg c, c']
        by_cases c2 : a.Lo = b.Lo
        · rw [decide_eq_true c2]; rfl
        · rw [decide_eq_false c2]; rfl
  · rw [if_pos (by simpa using h1), cmpI_eq]
    refine ⟨_, rfl, ?_⟩
    rw [if_neg h1]
    by_cases c : a.Level < b.Level
    · simp [c]
    · by_cases c2 : a.Level > b.Level <;> simp [c, c2]
theorem fileOk_eq (f : File) : impl_fileOk f = some (fileV f) := by
  unfold impl_fileOk fileV
  simp only [inRange_eq, isKey_eq, Option.bind_some]
  by_cases h1 : 1 ≤ f.No ∧ f.No ≤ 1000000
  · by_cases h2 : 0 ≤ f.Level ∧ f.Level ≤ 2
    · by_cases h3 : 1 ≤ (f.Lo.length : Int) ∧ (f.Lo.length : Int) ≤ 10
      · by_cases h4 : 1 ≤ (f.Hi.length : Int) ∧ (f.Hi.length : Int) ≤ 10
        · simp only [h1, h2, h3, h4, and_self, decide_true, if_true, Option.bind_some, Bool.true_and]
        · simp only [h1, h2, h3, h4, and_self, decide_true, decide_false, if_true, Option.bind_some, Bool.true_and, Bool.false_and, Bool.false_eq_true, if_false]
      · simp only [h1, h2, h3, and_self, decide_true, decide_false, if_true, Option.bind_some, Bool.true_and, Bool.false_and, Bool.false_eq_true, if_false]
    · simp only [h1, h2, and_self, decide_true, decide_false, if_true, Option.bind_some, Bool.true_and, Bool.false_and, Bool.false_eq_true, if_false]
  · simp only [h1, decide_false, Option.bind_some, Bool.false_and, Bool.false_eq_true, if_false]
theorem fileAt_eq (l : List File) (no : Int) (k : Nat) (hl : l.length ≤ 1048576) (hk : k < l.length) (hn : l[k].No = no) : ∃ r, impl_fileAt l no = some r ∧ (decide (r = (k : Int)) = (l.take k).all fun g => decide (g.No ≠ no)) := by
  unfold impl_fileAt slices_IndexFunc_68810_at_impl_fileAt_1 impl_fileAt_1
  have key : ∃ c, loopO (ρ := Ctl Unit Int) (fun (S1 : Int) => if (decide (S1 < ((l.length : Nat) : Int))) = true then ((idx l S1).bind fun E6 => (some (decide (E6.No = no))).bind fun R8 => if R8 = true then (some (.done (.done S1))) else (some (.go (IntKind.i64.wrap (S1 + (1 : Int)))))) else (some (.done (.go ())))) (0 : Int) = some c ∧
      ∃ j : Nat, c = .done (j : Int) ∧ j ≤ k ∧ (∀ i (h : i < l.length), i < j → l[i].No ≠ no) ∧ (∀ h : j < l.length, l[j].No = no) := by
    refine loopO_total (fun i s => s = (i : Int) ∧ i ≤ k ∧ ∀ q (h : q < l.length), q < i → l[q].No ≠ no) (k + 1) _ ⟨rfl, by omega, fun q h h2 => by omega⟩ ?_ ?_
    · rintro i s hi ⟨rfl, h1, h2⟩
      have hil : i < l.length := by omega
      simp only [idx_nat l i hil, Option.bind_some]
      rw [if_pos (by simpa using hil), wrap_ok (by omega) (by omega)]
      by_cases c : l[i].No = no
      · right
        exact ⟨_, by simp [c], i, rfl, h1, h2, fun _ => c⟩
      · left
        have hik : i ≠ k := fun e => by subst e; exact c hn
        refine ⟨(i : Int) + 1, by simp [c], by omega, by omega, fun q h h3 => ?_⟩
        by_cases e : q = i
        · subst e; exact c
        · exact h2 q h (by omega)
    · rintro s ⟨rfl, h1, _⟩
      omega
  obtain ⟨c, hc, j, rfl, h1, h2, h3⟩ := key
  rw [hc]
  refine ⟨(j : Int), rfl, ?_⟩
  by_cases e : j = k
  · subst e
    rw [decide_eq_true (rfl : (j : Int) = (j : Int))]
    symm
    rw [List.all_eq_true]
    intro g hg
    obtain ⟨i, hi, rfl⟩ := List.getElem_of_mem hg
    have hi' : i < j := by simp at hi; omega
    simp only [List.getElem_take, decide_eq_true_eq]
    exact h2 i (by omega) hi'
  · rw [decide_eq_false (by omega : ¬ (j : Int) = (k : Int))]
    symm
    rw [← Bool.not_eq_true, List.all_eq_true]
    intro hall
    have hj : j < (l.take k).length := by simp; omega
    have := hall ((l.take k)[j]) (List.getElem_mem hj)
    simp only [List.getElem_take, decide_eq_true_eq] at this
    exact this (h3 (by omega))
theorem impl_FilesOk_eq (l : List File) (h : l.length ≤ 1048576) : impl_FilesOk l = some (filesV l) := by
  unfold impl_FilesOk filesV
  by_cases h12 : ((l.length : Nat) : Int) > 12
  · rw [if_pos (by simpa using h12), decide_eq_false (by omega : ¬ l.length ≤ 12)]
    rfl
  · rw [if_neg (by simpa using h12), decide_eq_true (by omega : l.length ≤ 12), Bool.true_and]
    rw [all_loop (passV l) l.length ?hp ?hq]
    · cases (List.range l.length).all (passV l) <;> rfl
    case hq => simp
    case hp =>
      intro k hk
      obtain ⟨r, hr, hr2⟩ := fileAt_eq l l[k].No k h hk rfl
      simp only [idx_nat l k hk, Option.bind_some, fileOk_eq, hr]
      rw [if_pos (by simpa using hk), wrap_ok (n := (k : Int) + 1) (by omega) (by omega), passV_at l k hk, hr2]
      cases hf : fileV l[k] with
      | false => simp
      | true =>
        cases ha : (l.take k).all fun g => decide (g.No ≠ l[k].No) with
        | false => simp
        | true =>
          by_cases h0 : 0 < k
          · have hw : IntKind.i64.wrap ((k : Int) - 1) = ((k - 1 : Nat) : Int) := by rw [wrap_ok (by omega) (by omega)]; omega
            rw [dif_pos h0]
            simp only [hw, idx_nat l (k - 1) (by omega), Option.bind_some]
            obtain ⟨c, hc, hc2⟩ := compareFiles_eq (l[k - 1]'(by omega)) l[k]
            rw [if_neg (by simp), if_neg (by simp), if_pos (by simp; omega), if_pos (by simp; omega), hc]
            simp only [Option.bind_some, hc2]
            unfold overV
            cases aheadV (l[k - 1]'(by omega)) l[k] with
            | false => simp
            | true =>
              by_cases c1 : l[k].Level > 0
              · by_cases c2 : (l[k - 1]'(by omega)).Level = l[k].Level
                · cases hs : (sLt l[k].Lo (l[k - 1]'(by omega)).Hi || decide (l[k].Lo = (l[k - 1]'(by omega)).Hi)) with
                  | true => simp [c1, c2, hs]
                  | false => simp [c1, c2, hs]
                · simp [c1, c2]
              · simp [c1]
          · have hk0 : k = 0 := by omega
            subst hk0
            simp
theorem l16Text_eq (s : List UInt8) : spec_l16Text s = some (decide (1 ≤ (s.length : Int) ∧ (s.length : Int) ≤ 10)) := by
  unfold spec_l16Text; rw [l1In_eq]; rfl
theorem nodup_loop (l : List File) (k : Nat) (hk : k < l.length) (h : l.length ≤ 1048576) : loopO (ρ := Ctl Unit (Ctl Int (Ctl Unit Bool))) (fun (S41 : Int) => if (decide (S41 < (k : Int))) = true then ((idx l S41).bind fun E46 =>
  if (decide (E46.No = l[k].No)) = true then (some (.done (.done (.done (.done false)))))
  else (some (.go (IntKind.i64.wrap (S41 + (1 : Int))))))
  else (some (.done (.go ())))) (0 : Int) = some (if (l.take k).all (fun g => decide (g.No ≠ l[k].No)) = true then .go () else .done (.done (.done false))) := by
  refine loopO_is (fun i s => s = (i : Int) ∧ ((l.take k).all (fun g => decide (g.No ≠ l[k].No)) = ((l.take k).drop i).all (fun g => decide (g.No ≠ l[k].No)))) k _ ⟨rfl, by rw [List.drop_zero]⟩ ?_ ?_
  · rintro i s hi ⟨rfl, he⟩
    have hil : i < l.length := by omega
    have hd : (l.take k).drop i = l[i] :: (l.take k).drop (i + 1) := by
      rw [List.drop_eq_getElem_cons (by simp; omega)]
      simp
    rw [he, hd, List.all_cons]
    simp only [idx_nat l i hil, Option.bind_some]
    rw [if_pos (by simpa using hi), wrap_ok (by omega) (by omega)]
    by_cases c : l[i].No = l[k].No
    · right
      simp [c]
    · left
      refine ⟨(i : Int) + 1, by simp [c], by omega, ?_⟩
      simp [c]
  · rintro s ⟨rfl, he⟩
    rw [he, List.drop_of_length_le (by simp; omega)]
    simp
theorem spec_FilesOk_eq (l : List File) (h : l.length ≤ 1048576) : spec_FilesOk l = some (filesV l) := by
  unfold spec_FilesOk filesV
  by_cases h12 : ((l.length : Nat) : Int) > 12
  · rw [if_pos (by simpa using h12), decide_eq_false (by omega : ¬ l.length ≤ 12)]
    rfl
  · rw [if_neg (by simpa using h12), decide_eq_true (by omega : l.length ≤ 12), Bool.true_and]
    rw [all_loop (passV l) l.length ?hp ?hq]
    · cases (List.range l.length).all (passV l) <;> rfl
    case hq => simp
    case hp =>
      intro k hk
      simp only [idx_nat l k hk, Option.bind_some, l16Text_eq, l1In_eq, l16Ahead_eq, nodup_loop l k hk h]
      rw [if_pos (by simpa using hk), wrap_ok (n := (k : Int) + 1) (by omega) (by omega), passV_at l k hk]
      have hf : ∀ (X : Bool → Option (Ctl Int (Ctl Unit Bool))), ((if (!decide (1 ≤ l[k].No ∧ l[k].No ≤ 1000000)) = true then some true else if (!decide (0 ≤ l[k].Level ∧ l[k].Level ≤ 2)) = true then some true
          else if (!decide (1 ≤ (l[k].Lo.length : Int) ∧ (l[k].Lo.length : Int) ≤ 10)) = true then some true else if (!decide (1 ≤ (l[k].Hi.length : Int) ∧ (l[k].Hi.length : Int) ≤ 10)) = true then some true else some (!(sLt l[k].Lo l[k].Hi || decide (l[k].Lo = l[k].Hi)))) : Option Bool).bind X = X (!fileV l[k]) := by
        intro X
        unfold fileV
        by_cases h1 : 1 ≤ l[k].No ∧ l[k].No ≤ 1000000 <;> by_cases h2 : 0 ≤ l[k].Level ∧ l[k].Level ≤ 2 <;> by_cases h3 : 1 ≤ (l[k].Lo.length : Int) ∧ (l[k].Lo.length : Int) ≤ 10 <;> by_cases h4 : 1 ≤ (l[k].Hi.length : Int) ∧ (l[k].Hi.length : Int) ≤ 10 <;>
          simp only [h1, h2, h3, h4, and_self, decide_true, decide_false, Bool.not_true, Bool.not_false, Bool.false_eq_true, if_true, if_false, Option.bind_some, Bool.true_and, Bool.false_and]
      rw [hf]
      cases fileV l[k] with
      | false => simp
      | true =>
        simp only [Bool.not_true, Bool.false_eq_true, if_false, Bool.true_and]
        by_cases h0 : 0 < k
        · have hw : IntKind.i64.wrap ((k : Int) - 1) = ((k - 1 : Nat) : Int) := by rw [wrap_ok (by omega) (by omega)]; omega
          rw [dif_pos h0, if_pos (by simp; omega)]
          simp only [hw, idx_nat l (k - 1) (by omega), Option.bind_some]
          unfold overV
          cases aheadV (l[k - 1]'(by omega)) l[k] with
          | false => simp
          | true =>
            cases (l.take k).all fun g => decide (g.No ≠ l[k].No) <;>
            by_cases c1 : l[k].Level > 0 <;> by_cases c2 : (l[k - 1]'(by omega)).Level = l[k].Level <;> cases hs : (sLt l[k].Lo (l[k - 1]'(by omega)).Hi || decide (l[k].Lo = (l[k - 1]'(by omega)).Hi)) <;> simp [c1, c2, hs]
        · have hk0 : k = 0 := by omega
          subst hk0
          simp
theorem sLt_compl' (a b : List UInt8) : (!sLt a b) = (sLt b a || decide (b = a)) := (sLt_compl a b).symm
/-- the files that may hold a key -/
def atV (l : List File) (key : List UInt8) : List Int := (l.filter fun f => (sLt f.Lo key || decide (f.Lo = key)) && (sLt key f.Hi || decide (key = f.Hi))).map (·.No)
theorem no_take (p : File → Bool) (l : List File) (k : Nat) (h : k < l.length) : ((l.take (k + 1)).filter p).map (·.No) = ((l.take k).filter p).map (·.No) ++ if p l[k] = true then [l[k].No] else [] := by
  rw [show l.take (k + 1) = l.take k ++ [l[k]] by rw [List.take_add_one, List.getElem?_eq_getElem h]; rfl, List.filter_append, List.map_append]
  congr 1
  by_cases c : p l[k] = true
  · rw [if_pos c, List.filter_cons_of_pos c]; rfl
  · rw [if_neg c, List.filter_cons_of_neg c]; rfl
theorem atV_length (l : List File) (key : List UInt8) : (atV l key).length ≤ l.length := by unfold atV; rw [List.length_map]; exact List.length_filter_le _ _
theorem fileV_of {l : List File} (hv : filesV l = true) (k : Nat) (hk : k < l.length) : fileV l[k] = true := by
  unfold filesV at hv
  rw [Bool.and_eq_true, List.all_eq_true] at hv
  have := hv.2 k (by simp; omega)
  rw [passV_at l k hk, Bool.and_eq_true] at this
  exact this.1
/-- the state of the first round over the files -/
def pickA (level : Int) (s : List UInt8 × List UInt8 × List Int) (f : File) : List UInt8 × List UInt8 × List Int :=
  if f.Level ≠ level ∨ (level = 1 ∧ s.2.2 ≠ []) then s
  else (if s.2.2 = [] ∨ sLt f.Lo s.1 = true then f.Lo else s.1, if sLt s.2.1 f.Hi = true then f.Hi else s.2.1, s.2.2 ++ [f.No])
/-- the state behind k files -/
def pickS (l : List File) (level : Int) (k : Nat) : List UInt8 × List UInt8 × List Int := (l.take k).foldl (pickA level) ([], [], [])
theorem pickS_succ (l : List File) (level : Int) (k : Nat) (h : k < l.length) : pickS l level (k + 1) = pickA level (pickS l level k) l[k] := by
  unfold pickS
  rw [show l.take (k + 1) = l.take k ++ [l[k]] by rw [List.take_add_one, List.getElem?_eq_getElem h]; rfl, List.foldl_append]
  rfl
/-- a file of the next level that meets the bounds -/
def pickM (lo hi : List UInt8) (level : Int) (f : File) : Bool := decide (f.Level = level + 1) && ((sLt f.Lo hi || decide (f.Lo = hi)) && !sLt f.Hi lo)
/-- the files picked -/
def pickV (l : List File) (level : Int) : List Int :=
  (pickS l level l.length).2.2 ++ if (pickS l level l.length).2.1 = [] then [] else (l.filter (pickM (pickS l level l.length).1 (pickS l level l.length).2.1 level)).map (·.No)
theorem sLt_nil_iff (b : List UInt8) : sLt [] b = !decide (b = []) := by cases b <;> rfl
theorem pickS_inv (l : List File) (level : Int) (hv : filesV l = true) : ∀ k, k ≤ l.length → ((pickS l level k).2.2 = [] ∧ (pickS l level k).1 = [] ∧ (pickS l level k).2.1 = [] ∨ (pickS l level k).2.2 ≠ [] ∧ (pickS l level k).2.1 ≠ []) ∧ (pickS l level k).2.2.length ≤ k := by
  intro k
  induction k with
  | zero => intro _; exact ⟨.inl ⟨rfl, rfl, rfl⟩, Nat.le_refl _⟩
  | succ k ih =>
    intro hk
    obtain ⟨i1, i2⟩ := ih (by omega)
    rw [pickS_succ l level k (by omega)]
    have hf := fileV_of hv k (by omega)
    generalize pickS l level k = s at i1 i2
    obtain ⟨lo, hi, out⟩ := s
    unfold pickA
    split
    · exact ⟨i1, Nat.le_succ_of_le i2⟩
    · refine ⟨.inr ⟨by simp, ?_⟩, by simpa using i2⟩
      simp only at i1 ⊢
      have hhi : l[k].Hi ≠ [] := fun e => by simp [fileV, e] at hf
      rcases i1 with ⟨_, _, e⟩ | ⟨_, e⟩
      · subst e
        rw [sLt_nil_iff, if_pos (by simpa using hhi)]
        exact hhi
      · split
        · exact hhi
        · exact e
theorem level_mono {l : List File} (hv : filesV l = true) : ∀ j (hj : j < l.length) i (hi : i ≤ j), (l[i]'(by omega)).Level ≤ l[j].Level := by
  intro j
  induction j with
  | zero => intro hj i hi; obtain rfl : i = 0 := by omega
            exact Int.le_refl _
  | succ j ih =>
    intro hj i hi
    by_cases e : i = j + 1
    · subst e; exact Int.le_refl _
    · refine Int.le_trans (ih (by omega) i (by omega)) ?_
      unfold filesV at hv
      rw [Bool.and_eq_true, List.all_eq_true] at hv
      have := hv.2 (j + 1) (by simp; omega)
      rw [passV_at l (j + 1) hj, dif_pos (by omega)] at this
      simp only [Bool.and_eq_true, Nat.add_sub_cancel] at this
      have ha := this.2.1.1
      unfold aheadV at ha
      split at ha
      · omega
      · simp at ha; omega
theorem pickS_stop {l : List File} {level : Int} (hv : filesV l = true) : ∀ d k, k + d = l.length → (∀ h : k < l.length, level < l[k].Level) → pickS l level k = pickS l level l.length := by
  intro d
  induction d with
  | zero => intro k hk _; obtain rfl : k = l.length := by omega
            rfl
  | succ d ih =>
    intro k hk h
    have h1 := h (by omega)
    rw [← ih (k + 1) (by omega) (fun h2 => Int.lt_of_lt_of_le h1 (level_mono hv (k + 1) h2 k (by omega))), pickS_succ l level k (by omega)]
    unfold pickA
    rw [if_pos (.inl (by omega))]
theorem filtered_le (p : File → Bool) (l : List File) (k : Nat) : (((l.take k).filter p).map (·.No)).length ≤ k := by
  rw [List.length_map]
  exact Nat.le_trans (List.length_filter_le _ _) (by simp; omega)
theorem pickA_skip {level : Int} {s : List UInt8 × List UInt8 × List Int} {f : File} (h : f.Level ≠ level ∨ (level = 1 ∧ s.2.2 ≠ [])) : pickA level s f = s := by
  unfold pickA; rw [if_pos h]
theorem pickA_take {level : Int} {s : List UInt8 × List UInt8 × List Int} {f : File} (h : ¬ (f.Level ≠ level ∨ (level = 1 ∧ s.2.2 ≠ []))) :
    pickA level s f = (if s.2.2 = [] ∨ sLt f.Lo s.1 = true then f.Lo else s.1, if sLt s.2.1 f.Hi = true then f.Hi else s.2.1, s.2.2 ++ [f.No]) := by
  unfold pickA; rw [if_neg h]
theorem len0 (out : List Int) : decide (((out.length : Nat) : Int) = 0) = decide (out = []) := by
  cases out with
  | nil => rfl
  | cons a l => simp; omega
theorem sMin_eq (a b : List UInt8) : sMin a b = if sLt b a = true then b else a := by
  unfold sMin
  rw [sLt_compl]
  cases sLt b a <;> simp
theorem sMax_eq (a b : List UInt8) : sMax a b = if sLt a b = true then b else a := by
  unfold sMax
  cases sLt a b <;> simp
theorem sLt_irr (a : List UInt8) : sLt a a = false := by
  have := sLt_compl a a
  simpa using this
theorem sLt_trans : ∀ {a b c : List UInt8}, sLt a b = true → sLt b c = true → sLt a c = true
  | [], [], _, h, _ => by simp [sLt, Op.bytesLess] at h
  | [], _ :: _, [], _, h => by simp [sLt, Op.bytesLess] at h
  | [], _ :: _, _ :: _, _, _ => rfl
  | _ :: _, [], _, h, _ => by simp [sLt, Op.bytesLess] at h
  | _ :: _, _ :: _, [], _, h => by simp [sLt, Op.bytesLess] at h
  | x :: a, y :: b, z :: c, h1, h2 => by
    simp only [sLt, Op.bytesLess, Bool.or_eq_true, decide_eq_true_eq, Bool.and_eq_true, beq_iff_eq] at h1 h2 ⊢
    rcases h1 with h1 | ⟨rfl, h1⟩
    · rcases h2 with h2 | ⟨rfl, _⟩
      · exact .inl (UInt8.lt_trans h1 h2)
      · exact .inl h1
    · rcases h2 with h2 | ⟨rfl, h2⟩
      · exact .inl h2
      · exact .inr ⟨rfl, sLt_trans h1 h2⟩
theorem sLt_irrefl (a : List UInt8) : sLt a a = false := by
  have := sLt_compl a a
  simpa using this
theorem all_loop' {body : Int → Option (Ctl Int (Ctl Unit Bool))} (pass : Nat → Bool) (n : Nat) (h : ∀ k, k < n → body (k : Int) = some (if pass k = true then .go ((k : Int) + 1) else .done (.done false))) (hn : body (n : Int) = some (.done (.go ()))) :
    bindC (loopO body 0) (fun (_ : Unit) => some true) = some ((List.range n).all pass) := by
  rw [all_loop pass n h hn]
  cases (List.range n).all pass <;> rfl
/-- snapshots in order -/
def snapP (seq : Int) (l : List Int) (k : Nat) : Bool := match l[k]? with
  | some s => decide (0 ≤ s ∧ s ≤ seq) && (match k with | 0 => true | j + 1 => match l[j]? with | some d => decide (d < s) | none => true)
  | none => true
theorem snapP_at (seq : Int) (l : List Int) (k : Nat) (h : k < l.length) : snapP seq l k = (decide (0 ≤ l[k] ∧ l[k] ≤ seq) && (if h0 : 0 < k then decide (l[k - 1]'(by omega) < l[k]) else true)) := by
  unfold snapP
  rw [List.getElem?_eq_getElem h]
  cases k with
  | zero => rfl
  | succ j =>
    simp only [Nat.zero_lt_succ, dif_pos, Nat.add_sub_cancel]
    rw [List.getElem?_eq_getElem (by omega)]
def snapsV (seq : Int) (l : List Int) : Bool := (List.range l.length).all (snapP seq l)
theorem snaps_at {seq : Int} {l : List Int} (hv : snapsV seq l = true) (k : Nat) (hk : k < l.length) : (0 ≤ l[k] ∧ l[k] ≤ seq) ∧ (0 < k → l[k - 1]'(by omega) < l[k]) := by
  unfold snapsV at hv
  rw [List.all_eq_true] at hv
  have := hv k (by simpa using hk)
  rw [snapP_at seq l k hk, Bool.and_eq_true] at this
  refine ⟨of_decide_eq_true this.1, fun h0 => ?_⟩
  have h2 := this.2
  rw [dif_pos h0] at h2
  exact of_decide_eq_true h2
theorem snaps_last {seq : Int} {l : List Int} (hv : snapsV seq l = true) (h0 : 0 < l.length) : (seq ∈ l) ↔ l[l.length - 1]'(by omega) = seq := by
  constructor
  · intro hm
    obtain ⟨i, hi, he⟩ := List.getElem_of_mem hm
    by_cases e : i = l.length - 1
    · subst e; exact he
    · have h1 := (snaps_at hv (i + 1) (by omega)).2 (by omega)
      have h2 := (snaps_at hv (i + 1) (by omega)).1
      simp only [Nat.add_sub_cancel] at h1
      omega
  · intro h
    rw [← h]
    exact List.getElem_mem _
theorem piece_nat {α : Type} (l : List α) (a b : Nat) (lo hi : Int) (h1 : lo = (a : Int)) (h2 : hi = (b : Int)) (h3 : a ≤ b) (h4 : b ≤ l.length) : piece l lo hi = some ((l.drop a).take (b - a)) := by
  subst h1 h2
  unfold piece
  rw [if_pos ⟨by omega, by omega, by omega⟩, Int.toNat_natCast, Int.toNat_natCast]
theorem filter_one {α : Type} (l : List α) (p : α → Bool) (j : Nat) (hj : j < l.length) (h1 : p l[j] = false) (h2 : ∀ i (h : i < l.length), i ≠ j → p l[i] = true) : l.filter p = l.take j ++ l.drop (j + 1) := by
  have hs : l = l.take j ++ l[j] :: l.drop (j + 1) := by rw [← List.drop_eq_getElem_cons hj, List.take_append_drop]
  have ha : (l.take j).filter p = l.take j := by
    rw [List.filter_eq_self]
    intro x hx
    obtain ⟨i, hi, rfl⟩ := List.getElem_of_mem hx
    have hi' : i < j := by simp at hi; omega
    simp only [List.getElem_take]
    exact h2 i (by omega) (by omega)
  have hb : (l.drop (j + 1)).filter p = l.drop (j + 1) := by
    rw [List.filter_eq_self]
    intro x hx
    obtain ⟨i, hi, rfl⟩ := List.getElem_of_mem hx
    have hi' : j + 1 + i < l.length := by simp at hi; omega
    simp only [List.getElem_drop]
    exact h2 (j + 1 + i) hi' (by omega)
  conv => lhs; rw [hs]
  rw [List.filter_append, List.filter_cons_of_neg (by simpa using h1), ha, hb]
theorem filter_take {α : Type} (p : α → Bool) (l : List α) (k : Nat) (h : k < l.length) : (l.take (k + 1)).filter p = (l.take k).filter p ++ if p l[k] = true then [l[k]] else [] := by
  rw [show l.take (k + 1) = l.take k ++ [l[k]] by rw [List.take_add_one, List.getElem?_eq_getElem h]; rfl, List.filter_append]
  congr 1
  by_cases c : p l[k] = true
  · rw [if_pos c, List.filter_cons_of_pos c]; rfl
  · rw [if_neg c, List.filter_cons_of_neg c]; rfl
theorem filter_len {α : Type} (p : α → Bool) (l : List α) (k : Nat) : ((l.take k).filter p).length ≤ k := Nat.le_trans (List.length_filter_le _ _) (by simp; omega)
theorem delFiles_eq (l : List File) (j : Nat) (hj : j < l.length) (h : l.length ≤ 1048576) : slices_Delete_68810 l (j : Int) (IntKind.i64.wrap ((j : Int) + 1)) = some (l.take j ++ l.drop (j + 1)) := by
  unfold slices_Delete_68810
  have hw : IntKind.i64.wrap ((j : Int) + 1) = ((j + 1 : Nat) : Int) := by rw [wrap_ok (by omega) (by omega)]; omega
  rw [hw, piece_nat l j (j + 1) _ _ rfl rfl (by omega) (by omega), piece_nat l 0 j 0 (j : Int) rfl rfl (by omega) (by omega), piece_nat l (j + 1) l.length _ _ rfl rfl (by omega) (by omega)]
  simp only [Option.bind_some]
  rw [if_neg (by simp; omega)]
  simp
  exact List.take_of_length_le (by simp)
theorem cloneFiles_eq (s : List File) (h : s.length ≤ 1048576) : slices_Clone_68810 s = some s := by
  unfold slices_Clone_68810
  rw [app_ok (by simp; omega) (by simp; omega)]
  rfl
theorem fileAt_cases (l : List File) (no : Int) (hl : l.length ≤ 1048576) : (∃ j, ∃ hj : j < l.length, impl_fileAt l no = some (j : Int) ∧ l[j].No = no) ∨ (impl_fileAt l no = some (-1) ∧ ∀ f ∈ l, ¬ f.No = no) := by
  unfold impl_fileAt slices_IndexFunc_68810_at_impl_fileAt_1 impl_fileAt_1
  have key : ∃ c, loopO (ρ := Ctl Unit Int) (fun (S1 : Int) => if (decide (S1 < ((l.length : Nat) : Int))) = true then ((idx l S1).bind fun E6 => (some (decide (E6.No = no))).bind fun R8 => if R8 = true then (some (.done (.done S1))) else (some (.go (IntKind.i64.wrap (S1 + (1 : Int)))))) else (some (.done (.go ())))) (0 : Int) = some c ∧
      ((∃ j, ∃ hj : j < l.length, c = .done (j : Int) ∧ l[j].No = no) ∨ (c = .go () ∧ ∀ f ∈ l, ¬ f.No = no)) := by
    refine loopO_total (fun i s => s = (i : Int) ∧ ∀ q (h : q < l.length), q < i → ¬ l[q].No = no) l.length _ ⟨rfl, fun q h h2 => by omega⟩ ?_ ?_
    · rintro i s hi ⟨rfl, h2⟩
      simp only [idx_nat l i hi, Option.bind_some]
      rw [if_pos (by simpa using hi), wrap_ok (by omega) (by omega)]
      by_cases c : l[i].No = no
      · right
        exact ⟨.done (i : Int), by simp [c], .inl ⟨i, hi, rfl, c⟩⟩
      · left
        refine ⟨(i : Int) + 1, by simp [c], by omega, fun q h h3 => ?_⟩
        by_cases e : q = i
        · subst e; exact c
        · exact h2 q h (by omega)
    · rintro s ⟨rfl, h2⟩
      refine ⟨.go (), by simp, .inr ⟨rfl, fun f hf => ?_⟩⟩
      obtain ⟨q, hq, rfl⟩ := List.getElem_of_mem hf
      exact h2 q hq hq
  obtain ⟨c, hc, h2⟩ := key
  rw [hc]
  rcases h2 with ⟨j, hj, rfl, h3⟩ | ⟨rfl, h3⟩
  · exact .inl ⟨j, hj, rfl, h3⟩
  · exact .inr ⟨rfl, h3⟩
theorem files_distinct {l : List File} (hv : filesV l = true) (i j : Nat) (hi : i < l.length) (hj : j < l.length) (h : i ≠ j) : ¬ l[i].No = l[j].No := by
  have key : ∀ (i j : Nat) (hj : j < l.length) (hij : i < j), ¬ (l[i]'(by omega)).No = l[j].No := by
    intro i j hj hij
    have hv' := hv
    unfold filesV at hv'
    rw [Bool.and_eq_true, List.all_eq_true] at hv'
    have := hv'.2 j (by simpa using hj)
    rw [passV_at l j hj] at this
    simp only [Bool.and_eq_true, List.all_eq_true] at this
    have hm : l[i]'(by omega) ∈ l.take j := by
      have : (l.take j)[i]'(by simp; omega) = l[i]'(by omega) := by simp
      rw [← this]; exact List.getElem_mem _
    exact of_decide_eq_true (this.2.2 _ hm)
  rcases Nat.lt_or_ge i j with h1 | h1
  · exact key i j hj h1
  · exact fun e => key j i hi (by omega) e.symm
/-- the files but one -/
def dropF (l : List File) (no : Int) : List File := l.filter fun f => !decide (f.No = no)
def filesDropR (l : List File) (no : Int) : List File × Bool := if filesV l = true then (dropF l no, decide ((dropF l no).length < l.length)) else ([], false)
theorem spec_FilesDrop_eq (l : List File) (no : Int) (h : l.length ≤ 1048576) : spec_FilesDrop l no = some (filesDropR l no) := by
  unfold spec_FilesDrop filesDropR
  rw [spec_FilesOk_eq l h]
  cases hv : filesV l with
  | false => rfl
  | true =>
    simp only [Option.bind_some, Bool.not_true, Bool.false_eq_true, if_false, if_true]
    rw [loopO_count (fun k => ((k : Int), (l.take k).filter fun f => !decide (f.No = no))) l.length (r := Ctl.go (dropF l no)) ?h0]
    case h0 => rfl
    · simp only [bindC_go]
      rw [show decide (((dropF l no).length : Int) < (l.length : Int)) = decide ((dropF l no).length < l.length) from decide_eq_decide.2 (by omega)]
    · intro k hk
      have hlen := filter_len (fun f : File => !decide (f.No = no)) l k
      simp only [idx_nat l k hk, Option.bind_some, filter_take _ l k hk]
      rw [if_pos (by simpa using hk), wrap_ok (n := (k : Int) + 1) (by omega) (by omega)]
      by_cases c : l[k].No = no
      · simp [c]
      · simp only [c, decide_false, Bool.not_false, if_true]
        rw [app_ok (by simp only [List.length_cons, List.length_nil]; omega) (by simp only [List.length_cons, List.length_nil]; omega)]
        rfl
    · simp [dropF]
theorem impl_FilesDrop_eq (l : List File) (no : Int) (h : l.length ≤ 1048576) : impl_FilesDrop l no = some (filesDropR l no) := by
  unfold impl_FilesDrop filesDropR
  rw [impl_FilesOk_eq l h]
  cases hv : filesV l with
  | false => rfl
  | true =>
    simp only [Option.bind_some, Bool.not_true, Bool.false_eq_true, if_false, if_true, cloneFiles_eq l h]
    rcases fileAt_cases l no h with ⟨j, hj, h1, h2⟩ | ⟨h1, h2⟩
    · rw [h1]
      simp only [Option.bind_some]
      rw [if_neg (by simp), delFiles_eq l j hj h]
      have hd : dropF l no = l.take j ++ l.drop (j + 1) := by
        unfold dropF
        refine filter_one l _ j hj (by simp [h2]) fun i hi hij => ?_
        have := files_distinct hv i j hi hj hij
        rw [h2] at this
        simp [this]
      rw [hd]
      have : (l.take j ++ l.drop (j + 1)).length < l.length := by simp; omega
      simp [this]
      try omega
    · rw [h1]
      have hd : dropF l no = l := by
        unfold dropF
        rw [List.filter_eq_self]
        intro f hf
        simp [h2 f hf]
      rw [hd]
      simp
theorem snaps_lt {seq : Int} {l : List Int} (hv : snapsV seq l = true) : ∀ (j : Nat) (hj : j < l.length) (i : Nat) (hi : i < j), l[i]'(by omega) < l[j] := by
  intro j
  induction j with
  | zero => intro _ i hi; omega
  | succ j ih =>
    intro hj i hi
    have h1 := (snaps_at hv (j + 1) hj).2 (by omega)
    simp only [Nat.add_sub_cancel] at h1
    by_cases e : i = j
    · subst e; exact h1
    · have := ih (by omega) i (by omega); omega
def dropS (l : List Int) (x : Int) : List Int := l.filter fun s => !decide (s = x)
theorem dropS_at {seq : Int} {l : List Int} (hv : snapsV seq l = true) (j : Nat) (hj : j < l.length) : dropS l l[j] = l.take j ++ l.drop (j + 1) := by
  unfold dropS
  refine filter_one l _ j hj (by simp) fun i hi hij => ?_
  have : ¬ l[i] = l[j] := by
    rcases Nat.lt_or_ge i j with h | h
    · have := snaps_lt hv j hj i h; omega
    · have := snaps_lt hv i hi j (by omega); omega
  simp [this]
theorem sLt_asymm {a b : List UInt8} (h : sLt a b = true) : sLt b a = false := by
  have := sLt_compl a b
  rw [h] at this
  simp only [Bool.not_true, Bool.or_eq_false_iff] at this
  exact this.1
theorem sLt_same {a b : List UInt8} (h1 : sLt a b = false) (h2 : sLt b a = false) : a = b := by
  have := sLt_compl a b
  rw [h1, h2] at this
  have h : decide (b = a) = true := by simpa using this
  exact (of_decide_eq_true h).symm
theorem ahead_asym {a b : File} (h : aheadV a b = true) : aheadV b a = false := by
  unfold aheadV at h ⊢
  by_cases h1 : a.Level = b.Level
  · rw [if_pos h1] at h
    rw [if_pos h1.symm]
    by_cases h2 : a.Level = 0
    · rw [if_pos h2] at h
      rw [if_pos (by omega)]
      have := of_decide_eq_true h
      exact decide_eq_false (by omega)
    · rw [if_neg h2] at h
      rw [if_neg (by omega)]
      exact sLt_asymm h
  · rw [if_neg h1] at h
    rw [if_neg (by omega)]
    have := of_decide_eq_true h
    exact decide_eq_false (by omega)
theorem ahead_same {a b c : File} (h1 : aheadV a b = false) (h2 : aheadV b a = false) (h3 : aheadV a c = true) : aheadV b c = true := by
  unfold aheadV at h1 h2 h3 ⊢
  by_cases hl : a.Level = b.Level
  · rw [if_pos hl] at h1
    rw [if_pos hl.symm] at h2
    by_cases h0 : a.Level = 0
    · rw [if_pos h0] at h1
      rw [if_pos (by omega)] at h2
      have e1 := of_decide_eq_false h1
      have e2 := of_decide_eq_false h2
      have e : a.No = b.No := by omega
      by_cases h4 : a.Level = c.Level
      · rw [if_pos h4, if_pos h0, e] at h3
        rw [if_pos (by omega), if_pos (by omega)]
        exact h3
      · rw [if_neg h4] at h3
        rw [if_neg (by omega), ← hl]
        exact h3
    · rw [if_neg h0] at h1
      rw [if_neg (by omega)] at h2
      have e := sLt_same h1 h2
      by_cases h4 : a.Level = c.Level
      · rw [if_pos h4, if_neg h0] at h3
        rw [if_pos (by omega), if_neg (by omega), ← e]
        exact h3
      · rw [if_neg h4] at h3
        rw [if_neg (by omega), ← hl]
        exact h3
  · rw [if_neg hl] at h1
    rw [if_neg (by omega)] at h2
    have e1 := of_decide_eq_false h1
    have e2 := of_decide_eq_false h2
    omega
theorem files_ahead {l : List File} (hv : filesV l = true) (k : Nat) (hk : k + 1 < l.length) : aheadV (l[k]'(by omega)) l[k + 1] = true := by
  unfold filesV at hv
  rw [Bool.and_eq_true, List.all_eq_true] at hv
  have := hv.2 (k + 1) (by simpa using hk)
  rw [passV_at l (k + 1) hk, dif_pos (by omega)] at this
  simp only [Bool.and_eq_true] at this
  exact this.2.1.1
theorem files_le {l : List File} (hv : filesV l = true) : l.length ≤ 12 := by
  unfold filesV at hv
  rw [Bool.and_eq_true] at hv
  exact of_decide_eq_true hv.1
def insF (l : List File) (f : File) (j : Nat) : List File := l.take j ++ (f :: l.drop j)
def addF (l : List File) (f : File) (j k : Nat) : Bool × Int × List File := bif Nat.ble k j then (false, (k : Int), l.take k) else (true, (k : Int), l.take j ++ (f :: (l.drop j).take (k - j)))
theorem addF_le (l : List File) (f : File) (j k : Nat) (h : k ≤ j) : addF l f j k = (false, (k : Int), l.take k) := by
  unfold addF
  rw [Nat.ble_eq_true_of_le h]
  rfl
theorem addF_gt (l : List File) (f : File) (j k : Nat) (h : j < k) : addF l f j k = (true, (k : Int), l.take j ++ (f :: (l.drop j).take (k - j))) := by
  unfold addF
  have : Nat.ble k j = false := by
    cases hb : Nat.ble k j
    · rfl
    · exact absurd (Nat.le_of_ble_eq_true hb) (by omega)
  rw [this]
  rfl
def filesAddR (l : List File) (f : File) (j : Nat) : List File × Bool := bif filesV (insF l f j) then (insF l f j, true) else (l, false)
theorem spec_FilesAdd_at (l : List File) (f : File) (j : Nat) (hv : filesV l = true) (hj : j ≤ l.length) (h1 : ∀ i (hi : i < l.length), i < j → aheadV f l[i] = false) (h2 : ∀ hi : j < l.length, aheadV f l[j] = true) :
    spec_FilesAdd l f = some (filesAddR l f j) := by
  have hl := files_le hv
  unfold spec_FilesAdd filesAddR
  rw [spec_FilesOk_eq l (by omega), hv]
  simp only [Option.bind_some, Bool.not_true, Bool.false_eq_true, if_false]
  have hrl : (insF l f j).length ≤ 1048576 := by unfold insF; simp; omega
  have hfin : spec_FilesOk (insF l f j) = some (filesV (insF l f j)) := spec_FilesOk_eq _ hrl
  have hcp : app 48 ([] : List File) l = some l := by rw [app_ok (by simp; omega) (by simp; omega)]; rfl
  rw [loopO_count (addF l f j) l.length (r := Ctl.go ((addF l f j l.length).1, (addF l f j l.length).2.2)) ?h0]
  case h0 => rw [addF_le _ _ _ _ (Nat.zero_le _)]; rfl
  · by_cases hjl : j = l.length
    · subst hjl
      rw [addF_le _ _ _ _ (Nat.le_refl _)]
      simp only [bindC_go, Bool.not_false, if_true]
      rw [app_ok (by simp; omega) (by simp; omega)]
      simp only [Option.bind_some, bindC_go]
      rw [show l.take l.length ++ [f] = insF l f l.length by unfold insF; simp, hfin]
      simp only [Option.bind_some, hcp]
      cases filesV (insF l f l.length) <;> rfl
    · rw [addF_gt _ _ _ _ (by omega)]
      simp only [bindC_go, Bool.not_true, Bool.false_eq_true, if_false]
      rw [show l.take j ++ (f :: (l.drop j).take (l.length - j)) = insF l f j by unfold insF; rw [List.take_of_length_le (l := l.drop j) (by simp)], hfin]
      simp only [Option.bind_some, hcp]
      cases filesV (insF l f j) <;> rfl
  · intro k hk
    have hw := wrap_ok (n := (k : Int) + 1) (by omega) (by omega)
    rcases Nat.lt_trichotomy k j with hkj | hkj | hkj
    · have ht : l.take (k + 1) = l.take k ++ [l[k]] := by rw [List.take_add_one, List.getElem?_eq_getElem hk]; rfl
      rw [addF_le _ _ _ _ (by omega), addF_le _ _ _ _ (by omega)]
      simp only [idx_nat l k hk, Option.bind_some, Bool.not_false, if_true, hw, l16Ahead_eq, h1 k hk hkj, Bool.false_eq_true, if_false, bindC_go]
      rw [if_pos (by simpa using hk), app_ok (by simp; omega) (by simp; omega), ht]
      rfl
    · subst hkj
      rw [addF_le _ _ _ _ (Nat.le_refl _), addF_gt _ _ _ _ (by omega)]
      simp only [idx_nat l k hk, Option.bind_some, Bool.not_false, if_true, hw, l16Ahead_eq, h2 hk]
      rw [if_pos (by simpa using hk), app_ok (by simp; omega) (by simp; omega)]
      simp only [Option.bind_some, bindC_go]
      rw [app_ok (by simp; omega) (by simp; omega)]
      have : (l.drop k).take (k + 1 - k) = [l[k]] := by
        rw [List.drop_eq_getElem_cons hk, show k + 1 - k = 1 by omega]; rfl
      rw [this]
      simp
    · rw [addF_gt _ _ _ _ (by omega), addF_gt _ _ _ _ (by omega)]
      simp only [idx_nat l k hk, Option.bind_some, Bool.not_true, Bool.false_eq_true, if_false, hw, bindC_go]
      rw [if_pos (by simpa using hk), app_ok (by simp; omega) (by simp; omega)]
      have hkd : k - j < (l.drop j).length := by simp; omega
      have ht : (l.drop j).take (k + 1 - j) = (l.drop j).take (k - j) ++ [l[k]] := by
        rw [show k + 1 - j = (k - j) + 1 by omega, List.take_add_one, List.getElem?_eq_getElem hkd, List.getElem_drop]
        congr 2
        simp only [Option.toList_some]
        congr 2
        omega
      rw [ht]
      simp
  · have hi : (addF l f j l.length).2.1 = (l.length : Int) := by unfold addF; cases Nat.ble l.length j <;> rfl
    rw [hi, if_neg (by simp)]
theorem insFiles_eq (l : List File) (x : File) (j : Nat) (hj : j ≤ l.length) (h : l.length ≤ 1048576) : slices_Insert_68810 l (j : Int) [x] = some (insF l x j) := by
  unfold slices_Insert_68810 ins insF
  rw [if_pos ⟨by omega, by omega, by simp; omega, by simp; omega⟩, Int.toNat_natCast]
  rfl
theorem impl_FilesAdd_at (l : List File) (f : File) (hv : filesV l = true) : ∃ j, j ≤ l.length ∧ impl_FilesAdd l f = some (filesAddR l f j) ∧ (∀ i (hi : i < l.length), i < j → aheadV l[i] f = true) ∧ (∀ hi : j < l.length, aheadV l[j] f = false) := by
  have hl := files_le hv
  have key : ∃ c, loopO (fun (S7 : Int) => (if (decide (S7 < ((l.length : Nat) : Int))) = true then ((idx l S7).bind fun E14 => (impl_compareFiles E14 f).bind fun R16 => some (decide (R16 < (0 : Int)))) else (some false)).bind (fun (T11 : Bool) => if T11 = true then (some (.go (IntKind.i64.wrap (S7 + (1 : Int))))) else (some (.done (.go S7))))) (0 : Int) = some c ∧
      (∃ j : Nat, c = Ctl.go (ρ := List File × Bool) (j : Int) ∧ j ≤ l.length ∧ (∀ i (hi : i < l.length), i < j → aheadV l[i] f = true) ∧ (∀ hi : j < l.length, aheadV l[j] f = false)) := by
    refine loopO_total (fun i s => s = (i : Int) ∧ ∀ q (h : q < l.length), q < i → aheadV l[q] f = true) l.length _ ⟨rfl, fun q h h2 => by omega⟩ ?_ ?_
    · rintro i s hi ⟨rfl, h2⟩
      obtain ⟨r, hr, hr2⟩ := compareFiles_eq l[i] f
      have hd : decide (r < 0) = aheadV l[i] f := by
        by_cases c : r < 0
        · rw [decide_eq_true c]
          rw [decide_eq_false (by omega)] at hr2
          cases ha : aheadV l[i] f
          · rw [ha] at hr2; cases hr2
          · rfl
        · rw [decide_eq_false c]
          rw [decide_eq_true (by omega)] at hr2
          cases ha : aheadV l[i] f
          · rfl
          · rw [ha] at hr2; cases hr2
      simp only [idx_nat l i hi, Option.bind_some, hr, hd]
      rw [if_pos (by simpa using hi), wrap_ok (by omega) (by omega)]
      cases c : aheadV l[i] f
      · right
        exact ⟨.go (i : Int), rfl, i, rfl, by omega, fun q h h3 => h2 q h h3, fun _ => c⟩
      · left
        refine ⟨(i : Int) + 1, rfl, by omega, fun q h h3 => ?_⟩
        by_cases e : q = i
        · subst e; exact c
        · exact h2 q h (by omega)
    · rintro s ⟨rfl, h2⟩
      refine ⟨.go ((l.length : Nat) : Int), by simp, l.length, rfl, Nat.le_refl _, fun q h h3 => h2 q h h3, fun h => absurd h (by omega)⟩
  obtain ⟨c, hc, j, rfl, hj, h1, h2⟩ := key
  refine ⟨j, hj, ?_, h1, h2⟩
  have hrl : (insF l f j).length ≤ 1048576 := by unfold insF; simp; omega
  unfold impl_FilesAdd filesAddR
  rw [impl_FilesOk_eq l (by omega), hv]
  simp only [Option.bind_some, Bool.not_true, Bool.false_eq_true, if_false]
  rw [hc]
  simp only [bindC_go, cloneFiles_eq l (by omega), Option.bind_some, insFiles_eq l f j hj (by omega), impl_FilesOk_eq _ hrl]
  cases filesV (insF l f j) <;> rfl
theorem insF_at (l : List File) (f : File) (j : Nat) (hj : j ≤ l.length) : ∃ h : j < (insF l f j).length, (insF l f j)[j] = f := by
  refine ⟨by unfold insF; simp; omega, ?_⟩
  simp only [insF]
  rw [List.getElem_append_right (by simp; omega)]
  simp [Nat.min_eq_left hj]
theorem insF_after (l : List File) (f : File) (j : Nat) (hj : j < l.length) : ∃ h : j + 1 < (insF l f j).length, (insF l f j)[j + 1] = l[j] := by
  refine ⟨by unfold insF; simp; omega, ?_⟩
  simp only [insF]
  rw [List.getElem_append_right (by simp; omega)]
  simp [Nat.min_eq_left (Nat.le_of_lt hj)]
theorem insF_ahead (l : List File) (f : File) (j : Nat) (hj : j < l.length) : ∃ h : j < (insF l f (j + 1)).length, (insF l f (j + 1))[j] = l[j] := by
  refine ⟨by unfold insF; simp; omega, ?_⟩
  simp only [insF]
  rw [List.getElem_append_left (by simp; omega)]
  simp
theorem FilesAdd_both (l : List File) (f : File) (h : l.length ≤ 1048576) : ∃ r, spec_FilesAdd l f = some r ∧ impl_FilesAdd l f = some r ∧ r.1.length ≤ 1048577 ∧ (r.2 = true → filesV r.1 = true) := by
  cases hv : filesV l with
  | false =>
    refine ⟨([], false), ?_, ?_, by simp, by simp⟩
    · unfold spec_FilesAdd
      rw [spec_FilesOk_eq l h, hv]
      rfl
    · unfold impl_FilesAdd
      rw [impl_FilesOk_eq l h, hv]
      rfl
  | true =>
    have hl := files_le hv
    have hlen : ∀ j, j ≤ l.length → (filesAddR l f j).1.length ≤ 1048577 ∧ ((filesAddR l f j).2 = true → filesV (filesAddR l f j).1 = true) := by
      intro j hj
      unfold filesAddR
      cases hc : filesV (insF l f j)
      · refine ⟨by simp; omega, by simp⟩
      · refine ⟨?_, fun _ => hc⟩
        simp only [cond_true, insF]; simp; omega
    obtain ⟨j, hj, e, h1, h2⟩ := impl_FilesAdd_at l f hv
    have hlow : ∀ i (hi : i < l.length), i < j → aheadV f l[i] = false := fun i hi hij => ahead_asym (h1 i hi hij)
    by_cases hjl : j = l.length
    · refine ⟨_, spec_FilesAdd_at l f j hv hj hlow (fun hi => by omega), e, hlen j hj⟩
    · have hj' : j < l.length := by omega
      cases ha : aheadV f l[j] with
      | true => exact ⟨_, spec_FilesAdd_at l f j hv hj hlow (fun _ => ha), e, hlen j hj⟩
      | false =>
        have hs := spec_FilesAdd_at l f (j + 1) hv hj' (fun i hi hij => by
          by_cases e : i = j
          · subst e; exact ha
          · exact hlow i hi (by omega)) (fun hi => ahead_same (h2 hj') ha (files_ahead hv j hi))
        have f1 : filesV (insF l f j) = false := by
          cases hc : filesV (insF l f j) with
          | false => rfl
          | true =>
            obtain ⟨p1, q1⟩ := insF_at l f j hj
            obtain ⟨p2, q2⟩ := insF_after l f j hj'
            have := files_ahead hc j p2
            rw [q1, q2, ha] at this
            exact this.symm
        have f2 : filesV (insF l f (j + 1)) = false := by
          cases hc : filesV (insF l f (j + 1)) with
          | false => rfl
          | true =>
            obtain ⟨p1, q1⟩ := insF_at l f (j + 1) hj'
            obtain ⟨p2, q2⟩ := insF_ahead l f j hj'
            have := files_ahead hc j p1
            rw [q1, q2, h2 hj'] at this
            exact this.symm
        refine ⟨(l, false), ?_, ?_, by simp; omega, by simp⟩
        · rw [hs]; unfold filesAddR; rw [f2]; rfl
        · rw [e]; unfold filesAddR; rw [f1]; rfl
theorem any_loop {α : Type} {body : Int → Option (Ctl Int (Ctl Unit Bool))} (l : List α) (p : α → Bool) (h : ∀ k (hk : k < l.length), body (k : Int) = some (if p l[k] = true then .done (.done true) else .go ((k : Int) + 1))) (hn : body (l.length : Int) = some (.done (.go ()))) :
    bindC (loopO body 0) (fun (_ : Unit) => some false) = some (l.any p) := by
  rw [loopO_is (fun k s => s = (k : Int) ∧ l.any p = (l.drop k).any p) l.length (if l.any p = true then Ctl.done true else Ctl.go ()) ?h0 ?h1 ?h2]
  · cases l.any p <;> rfl
  case h0 => exact ⟨rfl, rfl⟩
  · rintro k s hk ⟨rfl, he⟩
    rw [h k hk, he, List.drop_eq_getElem_cons hk, List.any_cons]
    cases hp : p l[k] with
    | true => right; rfl
    | false =>
      left
      refine ⟨(k : Int) + 1, rfl, by omega, ?_⟩
      rw [Bool.false_or]
  · rintro s ⟨rfl, he⟩
    rw [he, List.drop_length, hn]
    rfl
/-- files changed step by step; the first step that fails ends it -/
def runF {β : Type} (gv : List File → β → List File × Bool) (fail : List File × Bool) : List β → List File → Ctl (List File) (List File × Bool)
  | [], l => .go l
  | x :: xs, l => bif (gv l x).2 then runF gv fail xs (gv l x).1 else .done fail
theorem runF_loop {β : Type} (g : List File → β → Option (List File × Bool)) (gv : List File → β → List File × Bool) (fail : List File × Bool) (xs : List β) (P : List File → Prop) (hg : ∀ l x, P l → g l x = some (gv l x)) (hP : ∀ l x, P l → (gv l x).2 = true → P (gv l x).1) (hlen : xs.length ≤ 1048576) (l0 : List File) (h0 : P l0) :
    loopO (fun (S : Int × List File) => if (decide (S.1 < ((xs.length : Nat) : Int))) = true then ((idx xs S.1).bind fun E => (g S.2 E).bind fun R =>
      if (!R.2) = true then (some (.done (.done fail))) else (some (.go (IntKind.i64.wrap (S.1 + (1 : Int)), R.1)))) else (some (.done (.go S.2)))) ((0 : Int), l0) = some (runF gv fail xs l0) := by
  rw [loopO_is (fun k s => s.1 = (k : Int) ∧ P s.2 ∧ runF gv fail xs l0 = runF gv fail (xs.drop k) s.2) xs.length (runF gv fail xs l0) ?h0 ?h1 ?h2]
  case h0 => exact ⟨rfl, h0, rfl⟩
  · rintro k ⟨i, s⟩ hk ⟨rfl, hp, he⟩
    simp only at hp he ⊢
    have hd : xs.drop k = xs[k] :: xs.drop (k + 1) := List.drop_eq_getElem_cons hk
    rw [hd] at he
    simp only [runF] at he
    simp only [idx_nat xs k hk, Option.bind_some, hg s xs[k] hp]
    rw [if_pos (by simpa using hk), wrap_ok (n := (k : Int) + 1) (by omega) (by omega)]
    cases c : (gv s xs[k]).2 with
    | false =>
      right
      rw [he, c]
      rfl
    | true =>
      left
      rw [c] at he
      exact ⟨((k : Int) + 1, (gv s xs[k]).1), rfl, by simp, hP _ _ hp c, he⟩
  · rintro ⟨i, s⟩ ⟨rfl, hp, he⟩
    rw [he, List.drop_length]
    simp [runF]
theorem runF_go {β : Type} (gv : List File → β → List File × Bool) (fail : List File × Bool) (P : List File → Prop) (hP : ∀ l x, P l → (gv l x).2 = true → P (gv l x).1) : ∀ (xs : List β) (l y : List File), P l → runF gv fail xs l = .go y → P y
  | [], l, y, h, e => by
    simp only [runF, Ctl.go.injEq] at e
    subst e; exact h
  | x :: xs, l, y, h, e => by
    simp only [runF] at e
    cases c : (gv l x).2 with
    | false => rw [c] at e; cases e
    | true => rw [c] at e; exact runF_go gv fail P hP xs _ y (hP l x h c) e
theorem runF_done {β : Type} (gv : List File → β → List File × Bool) (fail : List File × Bool) : ∀ (xs : List β) (l : List File) (r : List File × Bool), runF gv fail xs l = .done r → r = fail
  | [], l, r, e => by simp only [runF] at e; cases e
  | x :: xs, l, r, e => by
    simp only [runF] at e
    cases c : (gv l x).2 with
    | false => rw [c] at e; cases e; rfl
    | true => rw [c] at e; exact runF_done gv fail xs _ r e
noncomputable def addV (l : List File) (f : File) : List File × Bool := (spec_FilesAdd l f).getD ([], false)
theorem addV_spec (l : List File) (f : File) (h : l.length ≤ 1048576) : spec_FilesAdd l f = some (addV l f) := by
  obtain ⟨r, h1, _⟩ := FilesAdd_both l f h
  unfold addV
  rw [h1]
  rfl
theorem addV_impl (l : List File) (f : File) (h : l.length ≤ 1048576) : impl_FilesAdd l f = some (addV l f) := by
  obtain ⟨r, h1, h2, _⟩ := FilesAdd_both l f h
  unfold addV
  rw [h1, h2]
  rfl
theorem addV_ok (l : List File) (f : File) (h : l.length ≤ 12) (h2 : (addV l f).2 = true) : (addV l f).1.length ≤ 12 := by
  obtain ⟨r, h1, _, _, h3⟩ := FilesAdd_both l f (by omega)
  unfold addV at h2 ⊢
  rw [h1] at h2 ⊢
  exact files_le (h3 h2)
theorem addV_files (l : List File) (f : File) (h : l.length ≤ 1048576) (h2 : (addV l f).2 = true) : filesV (addV l f).1 = true := by
  obtain ⟨r, h1, _, _, h3⟩ := FilesAdd_both l f h
  unfold addV at h2 ⊢
  rw [h1] at h2 ⊢
  exact h3 h2
theorem dropR_ok (l : List File) (no : Int) (h : l.length ≤ 12) (h2 : (filesDropR l no).2 = true) : (filesDropR l no).1.length ≤ 12 := by
  unfold filesDropR
  split
  · exact Nat.le_trans (List.length_filter_le _ _) h
  · simp
/-- the files behind an edit -/
noncomputable def editR (l : List File) (e : Edit) : List File × Bool := bif filesV l then (match runF filesDropR (l, false) e.Drop l with
  | .done r => r
  | .go x => match runF addV (l, false) e.Add x with
    | .done r => r
    | .go y => (y, true)) else ([], false)
theorem spec_EditFiles_eq (l : List File) (e : Edit) (h : l.length ≤ 1048576) (h1 : e.Drop.length ≤ 1048576) (h2 : e.Add.length ≤ 1048576) : spec_EditFiles l e = some (editR l e) := by
  unfold spec_EditFiles editR
  rw [spec_FilesOk_eq l h]
  cases hv : filesV l with
  | false => rfl
  | true =>
    have hl := files_le hv
    have happ : app 48 ([] : List File) l = some l := by rw [app_ok (by simp; omega) (by simp; omega)]; rfl
    simp only [Option.bind_some, Bool.not_true, Bool.false_eq_true, if_false, cond_true, happ]
    rw [runF_loop spec_FilesDrop filesDropR (l, false) e.Drop (fun x => x.length ≤ 12) (fun x no hx => spec_FilesDrop_eq x no (by omega)) (fun x no hx h2 => dropR_ok x no hx h2) h1 l hl]
    cases hr : runF filesDropR (l, false) e.Drop l with
    | done r => rfl
    | go x =>
      have hx := runF_go filesDropR (l, false) (fun x => x.length ≤ 12) (fun x no hx h2 => dropR_ok x no hx h2) e.Drop l x hl hr
      simp only [bindC_go]
      rw [runF_loop spec_FilesAdd addV (l, false) e.Add (fun x => x.length ≤ 12) (fun x f hx => addV_spec x f (by omega)) (fun x f hx h2 => addV_ok x f hx h2) h2 x hx]
      cases runF addV (l, false) e.Add x with
      | done r => rfl
      | go y => rfl
theorem impl_EditFiles_eq (l : List File) (e : Edit) (h : l.length ≤ 1048576) (h1 : e.Drop.length ≤ 1048576) (h2 : e.Add.length ≤ 1048576) : impl_EditFiles l e = some (editR l e) := by
  unfold impl_EditFiles editR
  rw [impl_FilesOk_eq l h]
  cases hv : filesV l with
  | false => rfl
  | true =>
    have hl := files_le hv
    simp only [Option.bind_some, Bool.not_true, Bool.false_eq_true, if_false, cond_true, cloneFiles_eq l h]
    rw [runF_loop impl_FilesDrop filesDropR (l, false) e.Drop (fun x => x.length ≤ 12) (fun x no hx => impl_FilesDrop_eq x no (by omega)) (fun x no hx h2 => dropR_ok x no hx h2) h1 l hl]
    cases hr : runF filesDropR (l, false) e.Drop l with
    | done r => rfl
    | go x =>
      have hx := runF_go filesDropR (l, false) (fun x => x.length ≤ 12) (fun x no hx h2 => dropR_ok x no hx h2) e.Drop l x hl hr
      simp only [bindC_go]
      rw [runF_loop impl_FilesAdd addV (l, false) e.Add (fun x => x.length ≤ 12) (fun x f hx => addV_impl x f (by omega)) (fun x f hx h2 => addV_ok x f hx h2) h2 x hx]
      cases runF addV (l, false) e.Add x with
      | done r => rfl
      | go y => rfl
theorem editR_len (l : List File) (e : Edit) (h : l.length ≤ 1048576) : (editR l e).1.length ≤ 1048576 := by
  unfold editR
  cases hv : filesV l with
  | false => simp
  | true =>
    have hl := files_le hv
    simp only [cond_true]
    cases hr : runF filesDropR (l, false) e.Drop l with
    | done r => rw [runF_done _ _ _ _ _ hr]; exact h
    | go x =>
      have hx := runF_go filesDropR (l, false) (fun x => x.length ≤ 12) (fun x no hx h2 => dropR_ok x no hx h2) e.Drop l x hl hr
      simp only
      cases hr2 : runF addV (l, false) e.Add x with
      | done r => rw [runF_done _ _ _ _ _ hr2]; exact h
      | go y =>
        have := runF_go addV (l, false) (fun x => x.length ≤ 12) (fun x f hx h2 => addV_ok x f hx h2) e.Add x y hx hr2
        simp only
        omega
theorem half_eq {a : Int} (h0 : 0 ≤ a) (h1 : a ≤ 4611686018427387904) : IntKind.i64.wrap (ishr .u64 (IntKind.u64.wrap (IntKind.i64.wrap a)) (1 : Int)) = a / 2 := by
  have hu : IntKind.u64.wrap a = a := by simp [IntKind.wrap, IntKind.bits, IntKind.signed]; omega
  have hs : ishr .u64 a (1 : Int) = a / 2 := by
    unfold ishr
    show a.fdiv (2 ^ 1) = a / 2
    rw [Int.fdiv_eq_ediv_of_nonneg a (by decide)]
    rfl
  rw [wrap_ok (n := a) (by omega) (by omega), hu, hs, wrap_ok (by omega) (by omega)]
/-- a search by halves: the place where it ends -/
theorem bisect {α ρ : Type} (x : List α) (cf : α → Option Int) (c : α → Int) (hcf : ∀ e ∈ x, cf e = some (c e)) (hx : x.length ≤ 1048576) :
    ∃ j, j ≤ x.length ∧ loopO (ρ := Ctl Int ρ) (fun (S2 : Int × Int) => if (decide (S2.1 < S2.2)) = true then ((idx x (IntKind.i64.wrap (ishr .u64 (IntKind.u64.wrap (IntKind.i64.wrap (S2.1 + S2.2))) (1 : Int)))).bind fun E7 =>
  (cf E7).bind fun R9 =>
  bindC (if (decide (R9 < (0 : Int))) = true then (some (.go (IntKind.i64.wrap (IntKind.i64.wrap (ishr .u64 (IntKind.u64.wrap (IntKind.i64.wrap (S2.1 + S2.2))) (1 : Int)) + (1 : Int)), S2.2)))
  else (some (.go (S2.1, IntKind.i64.wrap (ishr .u64 (IntKind.u64.wrap (IntKind.i64.wrap (S2.1 + S2.2))) (1 : Int))))))
  (fun (T12 : Int × Int) => some (.go (T12.1, T12.2))))
  else (some (.done (.go S2.1)))) ((0 : Int), ((x.length : Nat) : Int)) = some (.go (j : Int)) ∧ (∀ i (hi : i < x.length), i + 1 = j → c x[i] < 0) ∧ (∀ hj : j < x.length, 0 ≤ c x[j]) := by
  obtain ⟨r, hr, j, rfl, h1, h2, h3⟩ := loopO_total (ρ := Ctl Int ρ) (s0 := ((0 : Int), ((x.length : Nat) : Int))) (body := fun (S2 : Int × Int) => if (decide (S2.1 < S2.2)) = true then ((idx x (IntKind.i64.wrap (ishr .u64 (IntKind.u64.wrap (IntKind.i64.wrap (S2.1 + S2.2))) (1 : Int)))).bind fun E7 =>
  (cf E7).bind fun R9 =>
  bindC (if (decide (R9 < (0 : Int))) = true then (some (.go (IntKind.i64.wrap (IntKind.i64.wrap (ishr .u64 (IntKind.u64.wrap (IntKind.i64.wrap (S2.1 + S2.2))) (1 : Int)) + (1 : Int)), S2.2)))
  else (some (.go (S2.1, IntKind.i64.wrap (ishr .u64 (IntKind.u64.wrap (IntKind.i64.wrap (S2.1 + S2.2))) (1 : Int))))))
  (fun (T12 : Int × Int) => some (.go (T12.1, T12.2))))
  else (some (.done (.go S2.1))))
    (fun k s => ∃ a b : Nat, s = ((a : Int), (b : Int)) ∧ a ≤ b ∧ b ≤ x.length ∧ b - a + k ≤ x.length ∧ (∀ i (hi : i < x.length), i + 1 = a → c x[i] < 0) ∧ (∀ hj : b < x.length, 0 ≤ c x[b])) x.length
    (fun r => ∃ j : Nat, r = .go (j : Int) ∧ j ≤ x.length ∧ (∀ i (hi : i < x.length), i + 1 = j → c x[i] < 0) ∧ (∀ hj : j < x.length, 0 ≤ c x[j]))
    ⟨0, x.length, rfl, Nat.zero_le _, Nat.le_refl _, by omega, fun i hi h => by omega, fun h => by omega⟩ (by
      rintro k s hk ⟨a, b, rfl, hab, hb, hd, h1, h2⟩
      by_cases hlt : a < b
      · left
        have hm : ((a : Int) + (b : Int)) / 2 = (((a + b) / 2 : Nat) : Int) := by omega
        have hmx : (a + b) / 2 < x.length := by omega
        simp only [half_eq (a := (a : Int) + (b : Int)) (by omega) (by omega), hm, idx_nat x _ hmx, Option.bind_some, hcf _ (List.getElem_mem hmx)]
        rw [if_pos (by simpa using hlt)]
        by_cases hc : c x[(a + b) / 2] < 0
        · rw [if_pos (by simpa using hc), wrap_ok (by omega) (by omega)]
          refine ⟨_, rfl, (a + b) / 2 + 1, b, rfl, by omega, hb, by omega, fun i hi h => ?_, h2⟩
          obtain rfl : i = (a + b) / 2 := by omega
          exact hc
        · rw [if_neg (by simpa using hc)]
          exact ⟨_, rfl, a, (a + b) / 2, rfl, by omega, by omega, by omega, h1, fun _ => by omega⟩
      · right
        obtain rfl : a = b := by omega
        exact ⟨.go (a : Int), by simp, a, rfl, hb, h1, h2⟩) (by
      rintro s ⟨a, b, rfl, hab, hb, hd, h1, h2⟩
      obtain rfl : a = b := by omega
      exact ⟨.go (a : Int), by simp, a, rfl, hb, h1, h2⟩)
  exact ⟨j, h1, hr, h2, h3⟩
theorem snapsV_up {seq seq' : Int} {l : List Int} (h2 : seq ≤ seq') (h : snapsV seq l = true) : snapsV seq' l = true := by
  unfold snapsV
  rw [List.all_eq_true]
  intro k hk
  have hk' : k < l.length := by simpa using hk
  obtain ⟨a, b⟩ := snaps_at h k hk'
  rw [snapP_at seq' l k hk', Bool.and_eq_true]
  refine ⟨decide_eq_true ⟨a.1, by omega⟩, ?_⟩
  by_cases h0 : 0 < k
  · rw [dif_pos h0]; exact decide_eq_true (b h0)
  · rw [dif_neg h0]
/-! words of bits -/
theorem iand64 {a b : Nat} (ha : a < 2 ^ 63) (hb : b < 2 ^ 63) : iand .i64 (a : Int) (b : Int) = ((a &&& b : Nat) : Int) := by
  unfold iand
  have h1 : a &&& b ≤ a := Nat.and_le_left
  have e : (BitVec.ofInt IntKind.i64.bits (a : Int) &&& BitVec.ofInt IntKind.i64.bits (b : Int)).toNat = a &&& b := by
    show (BitVec.ofInt 64 (a : Int) &&& BitVec.ofInt 64 (b : Int)).toNat = a &&& b
    rw [BitVec.ofInt_natCast, BitVec.ofInt_natCast, BitVec.toNat_and, BitVec.toNat_ofNat, BitVec.toNat_ofNat, Nat.mod_eq_of_lt (by omega), Nat.mod_eq_of_lt (by omega)]
  rw [e]
  exact wrap_ok (by omega) (by omega)
theorem ior64 {a b : Nat} (ha : a < 2 ^ 63) (hb : b < 2 ^ 63) : ior .i64 (a : Int) (b : Int) = ((a ||| b : Nat) : Int) := by
  unfold ior
  have h1 : a ||| b < 2 ^ 63 := Nat.or_lt_two_pow ha hb
  have e : (BitVec.ofInt IntKind.i64.bits (a : Int) ||| BitVec.ofInt IntKind.i64.bits (b : Int)).toNat = a ||| b := by
    show (BitVec.ofInt 64 (a : Int) ||| BitVec.ofInt 64 (b : Int)).toNat = a ||| b
    rw [BitVec.ofInt_natCast, BitVec.ofInt_natCast, BitVec.toNat_or, BitVec.toNat_ofNat, BitVec.toNat_ofNat, Nat.mod_eq_of_lt (by omega), Nat.mod_eq_of_lt (by omega)]
  rw [e]
  exact wrap_ok (by omega) (by omega)
theorem ixor64 {a b : Nat} (ha : a < 2 ^ 63) (hb : b < 2 ^ 63) : ixor .i64 (a : Int) (b : Int) = ((a ^^^ b : Nat) : Int) := by
  unfold ixor
  have h1 : a ^^^ b < 2 ^ 63 := Nat.xor_lt_two_pow ha hb
  have e : (BitVec.ofInt IntKind.i64.bits (a : Int) ^^^ BitVec.ofInt IntKind.i64.bits (b : Int)).toNat = a ^^^ b := by
    show (BitVec.ofInt 64 (a : Int) ^^^ BitVec.ofInt 64 (b : Int)).toNat = a ^^^ b
    rw [BitVec.ofInt_natCast, BitVec.ofInt_natCast, BitVec.toNat_xor, BitVec.toNat_ofNat, BitVec.toNat_ofNat, Nat.mod_eq_of_lt (by omega), Nat.mod_eq_of_lt (by omega)]
  rw [e]
  exact wrap_ok (by omega) (by omega)
theorem wrap32 (n : Int) : IntKind.u32.wrap n = n % 4294967296 := by simp [IntKind.wrap, IntKind.bits, IntKind.signed]
theorem wrap64u (n : Int) : IntKind.u64.wrap n = n % 18446744073709551616 := by simp [IntKind.wrap, IntKind.bits, IntKind.signed]
theorem ior32 {a b : Nat} (ha : a < 2 ^ 32) (hb : b < 2 ^ 32) : ior .u32 (a : Int) (b : Int) = ((a ||| b : Nat) : Int) := by
  unfold ior
  have h1 : a ||| b < 2 ^ 32 := Nat.or_lt_two_pow ha hb
  have e : (BitVec.ofInt IntKind.u32.bits (a : Int) ||| BitVec.ofInt IntKind.u32.bits (b : Int)).toNat = a ||| b := by
    show (BitVec.ofInt 32 (a : Int) ||| BitVec.ofInt 32 (b : Int)).toNat = a ||| b
    rw [BitVec.ofInt_natCast, BitVec.ofInt_natCast, BitVec.toNat_or, BitVec.toNat_ofNat, BitVec.toNat_ofNat, Nat.mod_eq_of_lt (by omega), Nat.mod_eq_of_lt (by omega)]
  rw [e, wrap32]
  omega
theorem ixor32 {a b : Nat} (ha : a < 2 ^ 32) (hb : b < 2 ^ 32) : ixor .u32 (a : Int) (b : Int) = ((a ^^^ b : Nat) : Int) := by
  unfold ixor
  have h1 : a ^^^ b < 2 ^ 32 := Nat.xor_lt_two_pow ha hb
  have e : (BitVec.ofInt IntKind.u32.bits (a : Int) ^^^ BitVec.ofInt IntKind.u32.bits (b : Int)).toNat = a ^^^ b := by
    show (BitVec.ofInt 32 (a : Int) ^^^ BitVec.ofInt 32 (b : Int)).toNat = a ^^^ b
    rw [BitVec.ofInt_natCast, BitVec.ofInt_natCast, BitVec.toNat_xor, BitVec.toNat_ofNat, BitVec.toNat_ofNat, Nat.mod_eq_of_lt (by omega), Nat.mod_eq_of_lt (by omega)]
  rw [e, wrap32]
  omega
theorem iand8 {a b : Nat} (ha : a < 2 ^ 8) (hb : b < 2 ^ 8) : iand .u8 (a : Int) (b : Int) = ((a &&& b : Nat) : Int) := by
  unfold iand
  have h1 : a &&& b ≤ a := Nat.and_le_left
  have e : (BitVec.ofInt IntKind.u8.bits (a : Int) &&& BitVec.ofInt IntKind.u8.bits (b : Int)).toNat = a &&& b := by
    show (BitVec.ofInt 8 (a : Int) &&& BitVec.ofInt 8 (b : Int)).toNat = a &&& b
    rw [BitVec.ofInt_natCast, BitVec.ofInt_natCast, BitVec.toNat_and, BitVec.toNat_ofNat, BitVec.toNat_ofNat, Nat.mod_eq_of_lt (by omega), Nat.mod_eq_of_lt (by omega)]
  rw [e]
  simp [IntKind.wrap, IntKind.bits, IntKind.signed]
  omega
theorem ishr_nat {k : IntKind} {a n : Nat} (hn : n ≤ k.bits) : ishr k (a : Int) (n : Int) = ((a / 2 ^ n : Nat) : Int) := by
  unfold ishr
  rw [Int.toNat_natCast, Nat.min_eq_left hn, Int.fdiv_eq_ediv_of_nonneg _ (by exact_mod_cast Nat.zero_le _)]
  norm_cast
theorem ishl64 {a n : Nat} (hn : n ≤ 64) (h : a * 2 ^ n < 2 ^ 63) : ishl .i64 (a : Int) (n : Int) = ((a * 2 ^ n : Nat) : Int) := by
  unfold ishl
  have hb : IntKind.i64.bits = 64 := rfl
  rw [Int.toNat_natCast, hb, Nat.min_eq_left hn]
  have e : (a : Int) * 2 ^ n = ((a * 2 ^ n : Nat) : Int) := by norm_cast
  rw [e]
  exact wrap_ok (by omega) (by omega)
theorem ishl32 {a n : Nat} (hn : n ≤ 32) : ishl .u32 (a : Int) (n : Int) = ((a * 2 ^ n % 4294967296 : Nat) : Int) := by
  unfold ishl
  have hb : IntKind.u32.bits = 32 := rfl
  have e : (a : Int) * 2 ^ n = ((a * 2 ^ n : Nat) : Int) := by norm_cast
  rw [Int.toNat_natCast, hb, Nat.min_eq_left hn, wrap32, e]
  generalize a * 2 ^ n = z
  omega
/-- the bits of a word turned to the left -/
def rotN (x n : Nat) : Nat := x * 2 ^ n % 4294967296 ||| x / 2 ^ (32 - n)
theorem rotN_lt {x n : Nat} (h : x < 4294967296) : rotN x n < 4294967296 := by
  unfold rotN
  refine Nat.or_lt_two_pow (n := 32) (Nat.mod_lt _ (by decide)) ?_
  exact Nat.lt_of_le_of_lt (Nat.div_le_self _ _) h
theorem ior_same {p q : Int} (hp : 0 ≤ p ∧ p < 4294967296) (hq : 0 ≤ q ∧ q < 4294967296) : ior .u32 p q = ior .i64 p q ∧ 0 ≤ ior .i64 p q ∧ ior .i64 p q < 4294967296 := by
  have e1 : p = (p.toNat : Int) := by omega
  have e2 : q = (q.toNat : Int) := by omega
  have h1 : p.toNat < 2 ^ 32 := by omega
  have h2 : q.toNat < 2 ^ 32 := by omega
  have h3 := Nat.or_lt_two_pow h1 h2
  rw [e1, e2, ior32 h1 h2, ior64 (by omega) (by omega)]
  generalize p.toNat ||| q.toNat = z at h3
  exact ⟨rfl, by omega, by omega⟩
theorem ishl_same (x : UInt8) (n : Nat) (hn : n ≤ 24) : ishl .u32 (IntKind.u32.wrap ((x.toNat : Nat) : Int)) (n : Int) = ishl .i64 (IntKind.i64.wrap ((x.toNat : Nat) : Int)) (n : Int) ∧ 0 ≤ ishl .i64 (IntKind.i64.wrap ((x.toNat : Nat) : Int)) (n : Int) ∧ ishl .i64 (IntKind.i64.wrap ((x.toNat : Nat) : Int)) (n : Int) < 4294967296 := by
  have hx := x.toNat_lt
  have w1 : IntKind.u32.wrap ((x.toNat : Nat) : Int) = ((x.toNat : Nat) : Int) := by rw [wrap32]; omega
  have w2 : IntKind.i64.wrap ((x.toNat : Nat) : Int) = ((x.toNat : Nat) : Int) := wrap_ok (by omega) (by omega)
  have hp : 2 ^ n ≤ 2 ^ 24 := Nat.pow_le_pow_right (by decide) hn
  have hm : x.toNat * 2 ^ n ≤ x.toNat * 2 ^ 24 := Nat.mul_le_mul_left _ hp
  rw [w1, w2, ishl32 (by omega), ishl64 (by omega) (by omega)]
  generalize x.toNat * 2 ^ n = z at hm
  have hz : z < 4294967296 := by omega
  rw [Nat.mod_eq_of_lt hz]
  exact ⟨rfl, by omega, by omega⟩
theorem ishl_samei (x : UInt8) (n : Int) (hn : 0 ≤ n ∧ n ≤ 24) : ishl .u32 (IntKind.u32.wrap ((x.toNat : Nat) : Int)) n = ishl .i64 (IntKind.i64.wrap ((x.toNat : Nat) : Int)) n ∧ 0 ≤ ishl .i64 (IntKind.i64.wrap ((x.toNat : Nat) : Int)) n ∧ ishl .i64 (IntKind.i64.wrap ((x.toNat : Nat) : Int)) n < 4294967296 := by
  have e : n = (n.toNat : Int) := by omega
  rw [e]
  exact ishl_same x n.toNat (by omega)
theorem bind_same {α β : Type} {x : Option α} {f g : α → Option β} (h : ∀ a, f a = g a) : x.bind f = x.bind g := by
  cases x with
  | none => rfl
  | some a => exact h a
theorem little_val (a b c d : UInt8) : ior .u32 (ior .u32 (ior .u32 (IntKind.u32.wrap ((a.toNat : Nat) : Int)) (ishl .u32 (IntKind.u32.wrap ((b.toNat : Nat) : Int)) (8 : Int))) (ishl .u32 (IntKind.u32.wrap ((c.toNat : Nat) : Int)) (16 : Int))) (ishl .u32 (IntKind.u32.wrap ((d.toNat : Nat) : Int)) (24 : Int)) =
      ior .i64 (ior .i64 (ior .i64 (IntKind.i64.wrap ((a.toNat : Nat) : Int)) (ishl .i64 (IntKind.i64.wrap ((b.toNat : Nat) : Int)) (8 : Int))) (ishl .i64 (IntKind.i64.wrap ((c.toNat : Nat) : Int)) (16 : Int))) (ishl .i64 (IntKind.i64.wrap ((d.toNat : Nat) : Int)) (24 : Int)) ∧
      0 ≤ ior .i64 (ior .i64 (ior .i64 (IntKind.i64.wrap ((a.toNat : Nat) : Int)) (ishl .i64 (IntKind.i64.wrap ((b.toNat : Nat) : Int)) (8 : Int))) (ishl .i64 (IntKind.i64.wrap ((c.toNat : Nat) : Int)) (16 : Int))) (ishl .i64 (IntKind.i64.wrap ((d.toNat : Nat) : Int)) (24 : Int)) ∧
      ior .i64 (ior .i64 (ior .i64 (IntKind.i64.wrap ((a.toNat : Nat) : Int)) (ishl .i64 (IntKind.i64.wrap ((b.toNat : Nat) : Int)) (8 : Int))) (ishl .i64 (IntKind.i64.wrap ((c.toNat : Nat) : Int)) (16 : Int))) (ishl .i64 (IntKind.i64.wrap ((d.toNat : Nat) : Int)) (24 : Int)) < 4294967296 := by
  have ha := a.toNat_lt
  have a1 : IntKind.u32.wrap ((a.toNat : Nat) : Int) = IntKind.i64.wrap ((a.toNat : Nat) : Int) := by rw [wrap32, wrap_ok (by omega) (by omega)]; omega
  have a2 : 0 ≤ IntKind.i64.wrap ((a.toNat : Nat) : Int) ∧ IntKind.i64.wrap ((a.toNat : Nat) : Int) < 4294967296 := by rw [wrap_ok (by omega) (by omega)]; omega
  obtain ⟨b1, b2⟩ := ishl_samei b 8 (by omega)
  obtain ⟨c1, c2⟩ := ishl_samei c 16 (by omega)
  obtain ⟨d1, d2⟩ := ishl_samei d 24 (by omega)
  obtain ⟨o1, o2⟩ := ior_same a2 b2
  obtain ⟨p1, p2⟩ := ior_same o2 c2
  obtain ⟨q1, q2⟩ := ior_same p2 d2
  refine ⟨?_, q2⟩
  rw [a1, b1, c1, d1, o1, p1, q1]
theorem sidx_nat (s : List UInt8) (i : Nat) (h : i < s.length) : sidx s (i : Int) = some s[i] := by
  unfold sidx
  rw [if_pos (by omega), Int.toNat_natCast, List.getElem?_eq_getElem h]
/-- words of 32 bits -/
def okW (l : List Wrd) : Prop := ∀ x ∈ l, 0 ≤ x.v ∧ x.v < 4294967296
theorem okW_set {l : List Wrd} {i : Nat} {x : Wrd} (h : okW l) (hx : 0 ≤ x.v ∧ x.v < 4294967296) : okW (l.set i x) := by
  intro y hy
  rcases List.mem_or_eq_of_mem_set hy with h1 | h1
  · exact h y h1
  · rw [h1]; exact hx
theorem okW_nat {l : List Wrd} (h : okW l) (k : Nat) (hk : k < l.length) : ∃ n : Nat, l[k].v = (n : Int) ∧ n < 4294967296 := by
  obtain ⟨h1, h2⟩ := h _ (List.getElem_mem hk)
  exact ⟨l[k].v.toNat, by omega, by omega⟩
/-- sixteen words -/
def goodW (l : List Wrd) : Prop := l.length = 16 ∧ okW l
noncomputable def selW (k : Nat) (i : Nat) (n : Nat) : Wrd := bif Nat.blt i k then Wrd.mk (n : Int) else Wrd.mk 0
def bytes4 (n : Nat) : List UInt8 := [toU8 (n : Int), toU8 ((n / 256 : Nat) : Int), toU8 ((n / 65536 : Nat) : Int), toU8 ((n / 16777216 : Nat) : Int)]
/-- the bytes of the first k words -/
noncomputable def outW (w s : List Wrd) : Nat → List UInt8
  | 0 => []
  | k + 1 => outW w s k ++ (match w[k]?, s[k]? with | some x, some y => bytes4 ((x.v + y.v).toNat % 4294967296) | _, _ => [])
theorem outW_succ (w s : List Wrd) (k : Nat) (hw : k < w.length) (hs : k < s.length) : outW w s (k + 1) = outW w s k ++ bytes4 ((w[k].v + s[k].v).toNat % 4294967296) := by
  show outW w s k ++ (match w[k]?, s[k]? with | some x, some y => _ | _, _ => _) = _
  rw [List.getElem?_eq_getElem hw, List.getElem?_eq_getElem hs]
theorem outW_len (w s : List Wrd) (hw : w.length = 16) (hs : s.length = 16) : ∀ k, k ≤ 16 → (outW w s k).length = 4 * k
  | 0, _ => rfl
  | k + 1, hk => by
    rw [outW_succ w s k (by omega) (by omega), List.length_append, outW_len w s hw hs k (by omega)]
    show 4 * k + 4 = _
    omega
theorem toU8_mod (n : Nat) : toU8 ((n % 256 : Nat) : Int) = toU8 (n : Int) := by
  unfold toU8
  congr 1
  omega
def chaOk (key : List UInt8) (counter : Int) (nonce : List UInt8) : Bool := decide (key.length = 32) && (decide (nonce.length = 12) && decide (0 ≤ counter ∧ counter ≤ 4294967295))
theorem chaOk_iff {key : List UInt8} {counter : Int} {nonce : List UInt8} (h : chaOk key counter nonce = true) : key.length = 32 ∧ nonce.length = 12 ∧ 0 ≤ counter ∧ counter ≤ 4294967295 := by
  unfold chaOk at h
  simp only [Bool.and_eq_true, decide_eq_true_eq] at h
  exact h
theorem bind_of {α β : Type} {x : Option α} {a : α} {f : α → Option β} {r : Option β} (h : x = some a) (h2 : f a = r) : x.bind f = r := by rw [h]; exact h2
/-- bytes of a number, the highest first -/
def fixV (n : Nat) : Nat → List UInt8
  | 0 => []
  | j + 1 => toU8 ((n / 256 ^ j : Nat) : Int) :: fixV n j
theorem fixV_len (n : Nat) : ∀ j, (fixV n j).length = j
  | 0 => rfl
  | j + 1 => by rw [fixV, List.length_cons, fixV_len n j]
theorem div_pow_succ (n b j : Nat) : n / b ^ j / b = n / b ^ (j + 1) := by rw [Nat.div_div_eq_div_mul, Nat.pow_succ]
def fixedV (n w : Int) : List UInt8 := bif decide (1 ≤ w ∧ w ≤ 7) && (decide (0 ≤ n) && decide (n.toNat / 256 ^ w.toNat = 0)) then fixV n.toNat w.toNat else []
theorem spec_Fixed_eq (n w : Int) (hn : n ≤ 4611686018427387904) : spec_Fixed n w = some (fixedV n w) := by
  unfold spec_Fixed fixedV
  rw [l1In_eq]
  by_cases h1 : 1 ≤ w ∧ w ≤ 7
  · rw [decide_eq_true h1]
    by_cases h2 : 0 ≤ n
    · obtain ⟨m, rfl⟩ : ∃ m : Nat, n = (m : Int) := ⟨n.toNat, by omega⟩
      obtain ⟨u, rfl⟩ : ∃ u : Nat, w = (u : Int) := ⟨w.toNat, by omega⟩
      rw [decide_eq_true h2, decide_eq_false (by omega : ¬ (m : Int) < 0)]
      simp only [Option.bind_some, Bool.not_true, Bool.false_eq_true, if_false, Int.toNat_natCast]
      rw [loopO_count (fun j => (((m / 256 ^ j : Nat) : Int), fixV m j, (j : Int))) u (r := Ctl.go (((m / 256 ^ u : Nat) : Int), fixV m u)) ?h0]
      case h0 => simp [fixV]
      · simp only [bindC_go]
        by_cases h3 : m / 256 ^ u = 0
        · rw [decide_eq_true h3, decide_eq_false (by rw [h3]; decide : ¬ ((m / 256 ^ u : Nat) : Int) > 0)]; rfl
        · have h4 : ((m / 256 ^ u : Nat) : Int) > 0 := Int.ofNat_lt.2 (Nat.pos_of_ne_zero h3)
          rw [decide_eq_false h3, decide_eq_true h4]; rfl
      · intro j hj
        have e1 : Int.tmod ((m / 256 ^ j : Nat) : Int) (256 : Int) = ((m / 256 ^ j % 256 : Nat) : Int) := by rw [show (256 : Int) = ((256 : Nat) : Int) from rfl, ← Int.ofNat_tmod]
        have e2 : Int.tdiv ((m / 256 ^ j : Nat) : Int) (256 : Int) = ((m / 256 ^ (j + 1) : Nat) : Int) := by rw [show (256 : Int) = ((256 : Nat) : Int) from rfl, ← Int.ofNat_tdiv, div_pow_succ]
        have e3 : ((m / 256 ^ (j + 1) : Nat) : Int) ≤ (m : Int) := Int.ofNat_le.2 (Nat.div_le_self _ _)
        have e4 : (0 : Int) ≤ ((m / 256 ^ (j + 1) : Nat) : Int) := Int.natCast_nonneg _
        have hl := fixV_len m j
        simp only [e1, e2, toU8_mod]
        rw [if_pos (by simp only [decide_eq_true_eq]; omega), wrap_ok (n := (j : Int) + 1) (by omega) (by omega), wrap_ok (by omega) (by omega)]
        rw [cat_ok (by rw [hl]; simp; omega)]
        rfl
      · simp
    · rw [decide_eq_false h2, decide_eq_true (by omega : n < 0)]
      rfl
  · rw [decide_eq_false h1]
    rfl
theorem impl_Fixed_eq (n w : Int) (hn : n ≤ 4611686018427387904) : impl_Fixed n w = some (fixedV n w) := by
  unfold impl_Fixed fixedV
  rw [inRange_eq]
  by_cases h1 : 1 ≤ w ∧ w ≤ 7
  · rw [decide_eq_true h1]
    by_cases h2 : 0 ≤ n
    · obtain ⟨m, rfl⟩ : ∃ m : Nat, n = (m : Int) := ⟨n.toNat, by omega⟩
      obtain ⟨u, rfl⟩ : ∃ u : Nat, w = (u : Int) := ⟨w.toNat, by omega⟩
      have e0 : IntKind.u64.wrap (IntKind.i64.wrap ((8 : Int) * (u : Int))) = ((8 * u : Nat) : Int) := by rw [wrap_ok (by omega) (by omega), wrap64u]; omega
      have e5 : ishr .i64 (m : Int) ((8 * u : Nat) : Int) = ((m / 256 ^ u : Nat) : Int) := by
        rw [ishr_nat (by show 8 * u ≤ 64; omega), Nat.pow_mul]
      have e6 : decide (((m / 256 ^ u : Nat) : Int) = 0) = decide (m / 256 ^ u = 0) := decide_eq_decide.2 (by omega)
      rw [decide_eq_true h2, decide_eq_false (by omega : ¬ (m : Int) < 0)]
      simp only [Option.bind_some, Bool.not_true, Bool.false_eq_true, if_false, Int.toNat_natCast, e0, e5, e6]
      by_cases h3 : m / 256 ^ u = 0
      · rw [decide_eq_true h3]
        simp only [Bool.not_true, Bool.false_eq_true, if_false, Bool.true_and, cond_true]
        rw [mkLen_ok (by omega) (by omega)]
        simp only [Option.bind_some]
        rw [loopO_count (fun j => (((m / 256 ^ j : Nat) : Int), (u : Int) - 1 - (j : Int), List.replicate (u - j) (0 : UInt8) ++ fixV m j)) u (r := Ctl.go (fixV m u)) ?h0]
        case h0 => rw [wrap_ok (by omega) (by omega)]; simp [fixV]
        · rfl
        · intro j hj
          have e1 : ishr .i64 ((m / 256 ^ j : Nat) : Int) (8 : Int) = ((m / 256 ^ (j + 1) : Nat) : Int) := by
            rw [show ishr .i64 ((m / 256 ^ j : Nat) : Int) (8 : Int) = ((m / 256 ^ j / 256 : Nat) : Int) from ishr_nat (n := 8) (by decide), div_pow_succ]
          have hl := fixV_len m j
          have hi : (u : Int) - 1 - (j : Int) = ((u - 1 - j : Nat) : Int) := by omega
          have hlen : u - 1 - j < (List.replicate (u - j) (0 : UInt8) ++ fixV m j).length := by simp; omega
          have hset : (List.replicate (u - j) (0 : UInt8) ++ fixV m j).set (u - 1 - j) (toU8 ((m / 256 ^ j : Nat) : Int)) = List.replicate (u - (j + 1)) (0 : UInt8) ++ fixV m (j + 1) := by
            rw [show u - j = (u - (j + 1)) + 1 by omega, List.replicate_succ', List.append_assoc, show u - 1 - j = u - (j + 1) by omega, List.set_append_right _ _ (by simp)]
            simp [fixV]
          simp only [hi, e1, idx_nat _ _ hlen, Option.bind_some, Int.toNat_natCast, hset]
          rw [if_pos (by simp only [decide_eq_true_eq]; omega), wrap_ok (by omega) (by omega)]
          rw [show ((u - 1 - j : Nat) : Int) - 1 = (u : Int) - 1 - ((j + 1 : Nat) : Int) by omega]
        · rw [if_neg (by simp only [decide_eq_true_eq]; omega)]
          simp
      · rw [decide_eq_false h3]
        rfl
    · rw [decide_eq_false h2, decide_eq_true (by omega : n < 0)]
      rfl
  · rw [decide_eq_false h1]
    rfl
/-- a number in bytes of seven bits, the lowest first -/
def varN : Nat → Nat → List UInt8
  | 0, n => [toU8 (n : Int)]
  | f + 1, n => bif decide (n < 128) then [toU8 (n : Int)] else toU8 ((128 + n % 128 : Nat) : Int) :: varN f (n / 128)
theorem varN_lt {f n : Nat} (h : n < 128) : varN f n = [toU8 (n : Int)] := by
  cases f with
  | zero => rfl
  | succ f => rw [varN, decide_eq_true h]; rfl
theorem varN_ge {f n : Nat} (h : 128 ≤ n) : varN (f + 1) n = toU8 ((128 + n % 128 : Nat) : Int) :: varN f (n / 128) := by
  rw [varN, decide_eq_false (by omega)]; rfl
/-- a loop that takes seven bits at a time -/
theorem var_loop {body : Int × List UInt8 → Option (Ctl (Int × List UInt8) (Ctl (Int × List UInt8) (List UInt8)))}
    (h1 : ∀ (n : Nat) (out : List UInt8), 128 ≤ n → n < 562949953421312 → out.length ≤ 100 → body ((n : Int), out) = some (.go (((n / 128 : Nat) : Int), out ++ [toU8 ((128 + n % 128 : Nat) : Int)])))
    (h2 : ∀ (n : Nat) (out : List UInt8), n < 128 → body ((n : Int), out) = some (.done (.go ((n : Int), out)))) :
    ∀ (f n : Nat) (out : List UInt8), n < 128 ^ (f + 1) → n < 562949953421312 → out.length + f ≤ 100 → ∃ (m : Nat) (out' : List UInt8), loopO body ((n : Int), out) = some (.go ((m : Int), out')) ∧ out' ++ [toU8 (m : Int)] = out ++ varN f n ∧ out'.length ≤ 100 := by
  intro f
  induction f with
  | zero =>
    intro n out hn _ ho
    have hn' : n < 128 := by simpa using hn
    exact ⟨n, out, by rw [loopO_eq, h2 n out hn'], by rw [varN_lt hn'], by omega⟩
  | succ f ih =>
    intro n out hn hb ho
    by_cases h : n < 128
    · exact ⟨n, out, by rw [loopO_eq, h2 n out h], by rw [varN_lt h], by omega⟩
    · have hn2 : n / 128 < 128 ^ (f + 1) := by
        rw [Nat.div_lt_iff_lt_mul (by decide)]
        rw [Nat.pow_succ] at hn
        exact hn
      obtain ⟨m, out', e1, e2, e3⟩ := ih (n / 128) (out ++ [toU8 ((128 + n % 128 : Nat) : Int)]) hn2 (by omega) (by simp; omega)
      refine ⟨m, out', ?_, ?_, e3⟩
      · rw [loopO_eq, h1 n out (by omega) hb (by omega)]
        exact e1
      · rw [e2, varN_ge (by omega), List.append_assoc]; rfl
def varV (n : Int) : List UInt8 := bif decide (0 ≤ n ∧ n ≤ 562949953421311) then varN 6 n.toNat else []
theorem spec_Var_eq (n : Int) : spec_Var n = some (varV n) := by
  unfold spec_Var varV
  rw [l1In_eq]
  by_cases h : 0 ≤ n ∧ n ≤ 562949953421311
  · rw [decide_eq_true h]
    obtain ⟨m, rfl⟩ : ∃ m : Nat, n = (m : Int) := ⟨n.toNat, by omega⟩
    simp only [Option.bind_some, Bool.not_true, Bool.false_eq_true, if_false, cond_true, Int.toNat_natCast]
    obtain ⟨p, out, e1, e2, e3⟩ := var_loop (body := fun (S6 : Int × List UInt8) => if (decide (S6.1 ≥ (128 : Int))) = true then ((app 1 S6.2 ([toU8 (IntKind.i64.wrap ((128 : Int) + (Int.tmod S6.1 (128 : Int))))])).bind fun E13 =>
      some (.go (IntKind.i64.wrap (Int.tdiv S6.1 (128 : Int)), E13)))
      else (some (.done (.go (S6.1, S6.2))))) (by
        intro n out h1 h2 ho
        have t1 : Int.tmod (n : Int) (128 : Int) = ((n % 128 : Nat) : Int) := by rw [show (128 : Int) = ((128 : Nat) : Int) from rfl, ← Int.ofNat_tmod]
        have t2 : Int.tdiv (n : Int) (128 : Int) = ((n / 128 : Nat) : Int) := by rw [show (128 : Int) = ((128 : Nat) : Int) from rfl, ← Int.ofNat_tdiv]
        have t3 : IntKind.i64.wrap ((128 : Int) + ((n % 128 : Nat) : Int)) = ((128 + n % 128 : Nat) : Int) := by rw [wrap_ok (by omega) (by omega)]; omega
        simp only [t1, t2, t3]
        rw [if_pos (by simp only [decide_eq_true_eq]; omega), app_ok (by simp; omega) (by simp; omega), wrap_ok (by omega) (by omega)]
        rfl) (by
        intro n out h1
        rw [if_neg (by simp only [decide_eq_true_eq]; omega)]) 6 m [] (by omega) (by omega) (by simp)
    rw [e1]
    simp only [bindC_go]
    rw [app_ok (by simp; omega) (by simp; omega), e2]
    rfl
  · rw [decide_eq_false h]
    rfl
theorem or128 (m : Nat) (h : m < 128) : 128 ||| m = 128 + m := by
  have := Nat.two_pow_add_eq_or_of_lt (i := 7) (b := m) h 1
  rw [show 2 ^ 7 * 1 = 128 from rfl] at this
  exact this.symm
theorem impl_Var_eq (n : Int) : impl_Var n = some (varV n) := by
  unfold impl_Var varV
  rw [inRange_eq]
  by_cases h : 0 ≤ n ∧ n ≤ 562949953421311
  · rw [decide_eq_true h]
    obtain ⟨m, rfl⟩ : ∃ m : Nat, n = (m : Int) := ⟨n.toNat, by omega⟩
    simp only [Option.bind_some, Bool.not_true, Bool.false_eq_true, if_false, cond_true, Int.toNat_natCast]
    obtain ⟨p, out, e1, e2, e3⟩ := var_loop (body := fun (S5 : Int × List UInt8) => if (decide (S5.1 > (127 : Int))) = true then ((app 1 S5.2 ([toU8 (ior .i64 (128 : Int) (iand .i64 S5.1 (127 : Int)))])).bind fun E12 =>
      some (.go (ishr .i64 S5.1 (7 : Int), E12)))
      else (some (.done (.go (S5.1, S5.2))))) (by
        intro n out h1 h2 ho
        have t1 : iand .i64 (n : Int) (127 : Int) = ((n % 128 : Nat) : Int) := by
          rw [show (127 : Int) = ((127 : Nat) : Int) from rfl, iand64 (by omega) (by decide), show n &&& 127 = n % 128 from Nat.and_two_pow_sub_one_eq_mod n 7]
        have t2 : ishr .i64 (n : Int) (7 : Int) = ((n / 128 : Nat) : Int) := ishr_nat (n := 7) (by decide)
        have hm : n % 128 < 128 := Nat.mod_lt _ (by decide)
        have t3 : ior .i64 (128 : Int) ((n % 128 : Nat) : Int) = ((128 + n % 128 : Nat) : Int) := by
          rw [show (128 : Int) = ((128 : Nat) : Int) from rfl, ior64 (by decide) (by omega), or128 _ hm]
        simp only [t1, t2, t3]
        rw [if_pos (by simp only [decide_eq_true_eq]; omega), app_ok (by simp; omega) (by simp; omega)]
        rfl) (by
        intro n out h1
        rw [if_neg (by simp only [decide_eq_true_eq]; omega)]) 6 m [] (by omega) (by omega) (by simp)
    rw [e1]
    simp only [bindC_go]
    rw [app_ok (by simp; omega) (by simp; omega), e2]
    rfl
  · rw [decide_eq_false h]
    rfl
/-- the number that bytes of seven bits come to -/
def numV : List UInt8 → Nat
  | [] => 0
  | x :: l => x.toNat % 128 + 128 * numV l
theorem numV_lt : ∀ (l : List UInt8), numV l < 128 ^ l.length
  | [] => by decide
  | x :: l => by
    have := numV_lt l
    have hx : x.toNat % 128 < 128 := Nat.mod_lt _ (by decide)
    rw [numV, List.length_cons, Nat.pow_succ]
    omega
theorem numV_snoc : ∀ (l : List UInt8) (x : UInt8), numV (l ++ [x]) = numV l + 128 ^ l.length * (x.toNat % 128)
  | [], x => by simp [numV]
  | y :: l, x => by
    rw [List.cons_append, numV, numV, numV_snoc l x, List.length_cons, Nat.pow_succ, Nat.mul_add, Nat.mul_comm (128 ^ l.length) 128, Nat.mul_assoc]
    omega
/-- reading: the number and how many bytes -/
def readN : Nat → List UInt8 → Option (Nat × Nat)
  | 0, _ => none
  | _ + 1, [] => none
  | f + 1, x :: l => bif decide (x.toNat < 128) then some (x.toNat, 1) else match readN f l with
    | some (m, k) => bif decide (m = 0) then none else some (x.toNat % 128 + 128 * m, k + 1)
    | none => none
theorem toU8_toNat (n : Nat) : (toU8 (n : Int)).toNat = n % 256 := by
  unfold toU8
  rw [UInt8.toNat_ofNat']
  omega
theorem toU8_of (x : UInt8) : toU8 ((x.toNat : Nat) : Int) = x := by
  have := x.toNat_lt
  apply UInt8.toNat_inj.1
  rw [toU8_toNat]
  omega
/-- a beginning that is the form of its number -/
def goodV (l : List UInt8) : Prop := ∃ f, l.length ≤ f + 1 ∧ varN f (numV l) = l
theorem varN_more : ∀ (f g n : Nat), n < 128 ^ (f + 1) → n < 128 ^ (g + 1) → varN f n = varN g n
  | f, g, n, h1, h2 => by
    by_cases h : n < 128
    · rw [varN_lt h, varN_lt h]
    · cases f with
      | zero => simp at h1; omega
      | succ f =>
        cases g with
        | zero => simp at h2; omega
        | succ g =>
          rw [varN_ge (by omega), varN_ge (by omega), varN_more f g (n / 128) ?_ ?_]
          · rw [Nat.div_lt_iff_lt_mul (by decide)]; rw [Nat.pow_succ] at h1; exact h1
          · rw [Nat.div_lt_iff_lt_mul (by decide)]; rw [Nat.pow_succ] at h2; exact h2
theorem take_ne {α : Type} {l : List α} {j : Nat} (h1 : 1 ≤ j) (h2 : j ≤ l.length) : l.take j ≠ [] := by
  intro e
  have := congrArg List.length e
  rw [List.length_take, List.length_nil] at this
  omega
theorem good_one (f : Nat) (x : UInt8) : varN f (numV [x]) = [x] ↔ x.toNat < 128 := by
  have hx : x.toNat % 128 < 128 := Nat.mod_lt _ (by decide)
  rw [show numV [x] = x.toNat % 128 by simp [numV], varN_lt hx]
  constructor
  · intro h
    have h2 : toU8 ((x.toNat % 128 : Nat) : Int) = x := by simpa using h
    have h3 := congrArg UInt8.toNat h2
    rw [toU8_toNat] at h3
    omega
  · intro h
    rw [Nat.mod_eq_of_lt h, toU8_of]
theorem good_more (f : Nat) (x : UInt8) (l : List UInt8) (hl : l ≠ []) : varN (f + 1) (numV (x :: l)) = x :: l ↔ 128 ≤ x.toNat ∧ numV l ≠ 0 ∧ varN f (numV l) = l := by
  have hx : x.toNat % 128 < 128 := Nat.mod_lt _ (by decide)
  have hx2 := x.toNat_lt
  have hm : (x.toNat % 128 + 128 * numV l) % 128 = x.toNat % 128 := by omega
  have hd : (x.toNat % 128 + 128 * numV l) / 128 = numV l := by omega
  by_cases h0 : numV l = 0
  · rw [numV, h0, varN_lt (by omega)]
    constructor
    · intro h
      have : [] = l := by simpa using (List.cons.inj h).2
      exact absurd this.symm hl
    · rintro ⟨_, h, _⟩
      exact absurd rfl h
  · rw [numV, varN_ge (by omega), hm, hd]
    constructor
    · intro h
      obtain ⟨h1, h2⟩ := List.cons.inj h
      have h3 := congrArg UInt8.toNat h1
      rw [toU8_toNat] at h3
      exact ⟨by omega, h0, h2⟩
    · rintro ⟨h1, _, h2⟩
      rw [h2, show 128 + x.toNat % 128 = x.toNat by omega, toU8_of]
theorem readN_some : ∀ (f : Nat) (s : List UInt8) (n k : Nat), readN f s = some (n, k) → 1 ≤ k ∧ k ≤ f ∧ k ≤ s.length ∧ n = numV (s.take k) ∧ varN (f - 1) n = s.take k ∧ ∀ g j, 1 ≤ j → j ≤ g + 1 → j ≤ s.length → varN g (numV (s.take j)) = s.take j → j = k
  | 0, s, n, k, h => by cases h
  | f + 1, [], n, k, h => by cases h
  | f + 1, x :: l, n, k, h => by
    rw [readN] at h
    by_cases hx : x.toNat < 128
    · rw [decide_eq_true hx] at h
      simp only [cond_true, Option.some.injEq, Prod.mk.injEq] at h
      obtain ⟨rfl, rfl⟩ := h
      have hm : x.toNat % 128 = x.toNat := Nat.mod_eq_of_lt hx
      refine ⟨Nat.le_refl _, by omega, by simp, by simp [numV, hm], ?_, fun g j hj1 hjg hjl he => ?_⟩
      · have := (good_one (f + 1 - 1) x).2 hx
        rw [show numV [x] = x.toNat by simp [numV, hm]] at this
        exact this
      · cases j with
        | zero => omega
        | succ j =>
          cases j with
          | zero => rfl
          | succ j =>
            cases g with
            | zero => omega
            | succ g =>
              rw [List.take_succ_cons] at he
              have := (good_more g x (l.take (j + 1)) (take_ne (by omega) (by rw [List.length_cons] at hjl; omega))).1 he
              omega
    · rw [decide_eq_false hx] at h
      simp only [cond_false] at h
      cases hr : readN f l with
      | none => rw [hr] at h; cases h
      | some p =>
        obtain ⟨m, k'⟩ := p
        rw [hr] at h
        simp only at h
        by_cases hm : m = 0
        · rw [decide_eq_true hm] at h; cases h
        · rw [decide_eq_false hm] at h
          simp only [cond_false, Option.some.injEq, Prod.mk.injEq] at h
          obtain ⟨rfl, rfl⟩ := h
          obtain ⟨h1, h2, h3, h4, h5, h6⟩ := readN_some f l m k' hr
          have hne : l.take k' ≠ [] := take_ne h1 h3
          refine ⟨by omega, by omega, by simp; omega, by rw [List.take_succ_cons, numV, ← h4], ?_, fun g j hj1 hjg hjl he => ?_⟩
          · rw [List.take_succ_cons, Nat.add_sub_cancel]
            obtain ⟨f', rfl⟩ : ∃ f', f = f' + 1 := ⟨f - 1, by omega⟩
            rw [Nat.add_sub_cancel] at h5
            have := (good_more f' x (l.take k') hne).2 ⟨by omega, by rw [← h4]; exact hm, by rw [← h4]; exact h5⟩
            rw [numV, ← h4] at this
            exact this
          · cases j with
            | zero => omega
            | succ j =>
              cases j with
              | zero =>
                rw [List.take_succ_cons, List.take_zero] at he
                exact absurd ((good_one g x).1 he) hx
              | succ j =>
                cases g with
                | zero => omega
                | succ g =>
                  rw [List.take_succ_cons] at he
                  have hjl' : j + 1 ≤ l.length := by simp at hjl; omega
                  have := (good_more g x (l.take (j + 1)) (take_ne (by omega) hjl')).1 he
                  have := h6 g (j + 1) (by omega) (by omega) hjl' this.2.2
                  omega
theorem readN_none : ∀ (f : Nat) (s : List UInt8), readN f s = none → ∀ g j, 1 ≤ j → j ≤ f → j ≤ g + 1 → j ≤ s.length → varN g (numV (s.take j)) ≠ s.take j
  | 0, s, h => fun g j h1 h2 => by omega
  | f + 1, [], h => fun g j h1 h2 h3 h4 => by simp at h4; omega
  | f + 1, x :: l, h => by
    intro g j hj1 hjf hjg hjl he
    rw [readN] at h
    by_cases hx : x.toNat < 128
    · rw [decide_eq_true hx] at h; cases h
    · rw [decide_eq_false hx] at h
      simp only [cond_false] at h
      cases j with
      | zero => omega
      | succ j =>
        cases j with
        | zero =>
          rw [List.take_succ_cons, List.take_zero] at he
          exact hx ((good_one g x).1 he)
        | succ j =>
          cases g with
          | zero => omega
          | succ g =>
            rw [List.take_succ_cons] at he
            have hjl' : j + 1 ≤ l.length := by simp at hjl; omega
            obtain ⟨q1, q2, q3⟩ := (good_more g x (l.take (j + 1)) (take_ne (by omega) hjl')).1 he
            cases hr : readN f l with
            | none => exact readN_none f l hr g (j + 1) (by omega) (by omega) (by omega) hjl' q3
            | some p =>
              obtain ⟨m, k'⟩ := p
              rw [hr] at h
              simp only at h
              by_cases hm : m = 0
              · obtain ⟨h1, h2, h3, h4, h5, h6⟩ := readN_some f l m k' hr
                have := h6 g (j + 1) (by omega) (by omega) hjl' q3
                rw [← this] at h4
                exact q2 (by rw [← h4]; exact hm)
              · rw [decide_eq_false hm] at h; cases h
def readR : Option (Nat × Nat) → Int × Int
  | some (n, k) => ((n : Int), (k : Int))
  | none => (0, 0)
/-- reading of what comes behind i bytes -/
def readI (n i : Nat) : Option (Nat × Nat) → Int × Int
  | some (m, k) => bif decide (m = 0 ∧ 0 < i) then (0, 0) else (((n + 128 ^ i * m : Nat) : Int), ((i + k : Nat) : Int))
  | none => (0, 0)
theorem readI_zero (p : Option (Nat × Nat)) : readI 0 0 p = readR p := by
  cases p with
  | none => rfl
  | some p => simp [readI, readR]
theorem readI_step (n i f : Nat) (x : UInt8) (l : List UInt8) (hx : ¬ x.toNat < 128) : readI n i (readN (f + 1) (x :: l)) = readI (n + 128 ^ i * (x.toNat % 128)) (i + 1) (readN f l) := by
  rw [readN, decide_eq_false hx]
  simp only [cond_false]
  cases readN f l with
  | none => rfl
  | some p =>
    obtain ⟨m, k⟩ := p
    simp only
    by_cases hm : m = 0
    · simp [hm, readI]
    · rw [decide_eq_false hm]
      simp only [cond_false, readI]
      rw [decide_eq_false (by omega), decide_eq_false (by omega)]
      simp only [cond_false]
      have e : n + 128 ^ i * (x.toNat % 128 + 128 * m) = n + 128 ^ i * (x.toNat % 128) + 128 ^ i * 128 * m := by rw [Nat.mul_add, Nat.mul_assoc, Nat.add_assoc]
      rw [Nat.pow_succ, e, show i + (k + 1) = i + 1 + k by omega]
theorem or_add (n d i : Nat) (h : n < 2 ^ (7 * i)) : n ||| d * 2 ^ (7 * i) = n + 2 ^ (7 * i) * d := by
  rw [Nat.or_comm, Nat.mul_comm, ← Nat.two_pow_add_eq_or_of_lt h]
  omega
theorem pow128 (i : Nat) : 128 ^ i = 2 ^ (7 * i) := by rw [Nat.pow_mul]
theorem impl_ReadVar_eq (s : List UInt8) (hs : s.length ≤ 1099511627776) : impl_ReadVar s = some (readR (readN 7 s)) := by
  unfold impl_ReadVar
  obtain ⟨r, hr, hq⟩ := loopO_total (ρ := Ctl Unit (Int × Int)) (s0 := ((0 : Int), (0 : Int))) (body := fun (S1 : Int × Int) => (if (decide (S1.2 < (7 : Int))) = true then (some (decide (S1.2 < ((s.length : Nat) : Int))))
  else (some false)).bind (fun (T5 : Bool) =>
  if T5 = true then ((sidx s S1.2).bind fun E9 =>
  if (decide (((E9.toNat : Nat) : Int) ≥ (128 : Int))) = true then (some (.go (ior .i64 S1.1 (ishl .i64 (IntKind.i64.wrap (iand .u8 ((E9.toNat : Nat) : Int) (127 : Int))) (IntKind.u64.wrap (IntKind.i64.wrap ((7 : Int) * S1.2)))), IntKind.i64.wrap (S1.2 + (1 : Int)))))
  else ((if (decide (((E9.toNat : Nat) : Int) = (0 : Int))) = true then (some (decide (S1.2 > (0 : Int))))
  else (some false)).bind (fun (T12 : Bool) =>
  if T12 = true then (some (.done (.done ((0 : Int), (0 : Int)))))
  else (some (.done (.done (ior .i64 S1.1 (ishl .i64 (IntKind.i64.wrap (iand .u8 ((E9.toNat : Nat) : Int) (127 : Int))) (IntKind.u64.wrap (IntKind.i64.wrap ((7 : Int) * S1.2)))), IntKind.i64.wrap (S1.2 + (1 : Int)))))))))
  else (some (.done (.go ())))))
    (fun i S => S.1 = (numV (s.take i) : Int) ∧ S.2 = (i : Int) ∧ i ≤ s.length ∧ readR (readN 7 s) = readI (numV (s.take i)) i (readN (7 - i) (s.drop i))) 7 (fun r => r = .done (readR (readN 7 s)) ∨ (r = .go () ∧ readR (readN 7 s) = (0, 0))) ⟨by simp [numV], rfl, Nat.zero_le _, by simp [numV, readI_zero]⟩ (by
      rintro i ⟨n, j⟩ hi ⟨h1, h2, h3, h4⟩
      simp only at h1 h2
      subst h1 h2
      rw [h4]
      simp only
      rw [decide_eq_true (by omega : ((i : Int) < 7))]
      simp only [if_true, Option.bind_some]
      by_cases hl : i < s.length
      · have hd : s.drop i = s[i] :: s.drop (i + 1) := List.drop_eq_getElem_cons hl
        have ht : s.take (i + 1) = s.take i ++ [s[i]] := by rw [List.take_add_one, List.getElem?_eq_getElem hl]; rfl
        have hx := s[i].toNat_lt
        have hn := numV_lt (s.take i)
        rw [List.length_take, Nat.min_eq_left h3, pow128] at hn
        have hp : 2 ^ (7 * i) ≤ 2 ^ 42 := Nat.pow_le_pow_right (by decide) (by omega)
        have hdm : s[i].toNat % 128 < 128 := Nat.mod_lt _ (by decide)
        have ea : iand .u8 ((s[i].toNat : Nat) : Int) (127 : Int) = ((s[i].toNat % 128 : Nat) : Int) := by
          rw [show (127 : Int) = ((127 : Nat) : Int) from rfl, iand8 (by omega) (by decide), show s[i].toNat &&& 127 = s[i].toNat % 128 from Nat.and_two_pow_sub_one_eq_mod _ 7]
        have eb : IntKind.u64.wrap (IntKind.i64.wrap ((7 : Int) * (i : Int))) = ((7 * i : Nat) : Int) := by rw [wrap_ok (by omega) (by omega), wrap64u]; omega
        have hmul : s[i].toNat % 128 * 2 ^ (7 * i) ≤ 127 * 2 ^ 42 := Nat.mul_le_mul (by omega) hp
        have ec : ior .i64 (numV (s.take i) : Int) (ishl .i64 (IntKind.i64.wrap ((s[i].toNat % 128 : Nat) : Int)) ((7 * i : Nat) : Int)) = ((numV (s.take i) + 128 ^ i * (s[i].toNat % 128) : Nat) : Int) := by
          rw [wrap_ok (by omega) (by omega), ishl64 (by omega) (by omega), ior64 (by omega) (by omega), or_add _ _ _ hn, pow128]
        rw [decide_eq_true (by omega : (i : Int) < ((s.length : Nat) : Int)), sidx_nat s i hl, hd]
        simp only [if_true, Option.bind_some, ea, eb, ec]
        rw [wrap_ok (by omega) (by omega), show 7 - i = (7 - (i + 1)) + 1 by omega]
        by_cases hc : s[i].toNat < 128
        · right
          refine ⟨_, ?_, .inl rfl⟩
          rw [decide_eq_false (by omega : ¬ ((s[i].toNat : Nat) : Int) ≥ 128), readN, decide_eq_true hc]
          simp only [Bool.false_eq_true, if_false, cond_true, readI]
          have hm : s[i].toNat % 128 = s[i].toNat := Nat.mod_eq_of_lt hc
          rw [hm]
          by_cases hz : s[i].toNat = 0
          · by_cases h0 : 0 < i
            · rw [decide_eq_true (⟨hz, h0⟩ : s[i].toNat = 0 ∧ 0 < i), decide_eq_true (by omega : ((s[i].toNat : Nat) : Int) = 0), decide_eq_true (by omega : (i : Int) > 0)]
              rfl
            · rw [decide_eq_false (by omega : ¬ (s[i].toNat = 0 ∧ 0 < i)), decide_eq_true (by omega : ((s[i].toNat : Nat) : Int) = 0), decide_eq_false (by omega : ¬ (i : Int) > 0)]
              rfl
          · rw [decide_eq_false (by omega : ¬ (s[i].toNat = 0 ∧ 0 < i)), decide_eq_false (by omega : ¬ ((s[i].toNat : Nat) : Int) = 0)]
            rfl
        · left
          rw [decide_eq_true (by omega : ((s[i].toNat : Nat) : Int) ≥ 128)]
          have hns : numV (s.take (i + 1)) = numV (s.take i) + 128 ^ i * (s[i].toNat % 128) := by
            rw [ht, numV_snoc, List.length_take, Nat.min_eq_left h3]
          refine ⟨(_, _), rfl, by rw [hns], by simp, by omega, ?_⟩
          rw [readI_step _ _ _ _ _ hc, hns]
      · right
        have hd : s.drop i = [] := List.drop_eq_nil_of_le (by omega)
        rw [decide_eq_false (by omega : ¬ (i : Int) < ((s.length : Nat) : Int)), hd, show 7 - i = (7 - (i + 1)) + 1 by omega]
        exact ⟨.go (), rfl, .inr ⟨rfl, rfl⟩⟩) (by
      rintro ⟨n, j⟩ ⟨h1, h2, h3, h4⟩
      simp only at h1 h2
      subst h1 h2
      exact ⟨.go (), rfl, .inr ⟨rfl, h4⟩⟩)
  rw [hr]
  rcases hq with rfl | ⟨rfl, h⟩
  · rfl
  · rw [h]; rfl

theorem ssub_nat (s : List UInt8) (a b : Nat) (h1 : a ≤ b) (h2 : b ≤ s.length) : ssub s (a : Int) (b : Int) = some ((s.drop a).take (b - a)) := by
  unfold ssub
  rw [if_pos ⟨by omega, by omega, by omega⟩, Int.toNat_natCast, Int.toNat_natCast]
theorem ssub_end (s : List UInt8) (a : Nat) (h : a ≤ s.length) : ssub s (a : Int) (s.length : Int) = some (s.drop a) := by
  rw [ssub_nat s a s.length h (Nat.le_refl _), List.take_of_length_le (by simp)]
theorem num_loop {ρ : Type} (s : List UInt8) (k : Nat) (h1 : 1 ≤ k) (h7 : k ≤ 7) (hk : k ≤ s.length) :
    loopO (ρ := Ctl Int ρ) (fun (S9 : Int × Int) => if (decide (S9.2 ≥ (0 : Int))) = true then ((sidx s S9.2).bind fun E14 =>
  some (.go (IntKind.i64.wrap (IntKind.i64.wrap (S9.1 * (128 : Int)) + (Int.tmod (IntKind.i64.wrap ((E14.toNat : Nat) : Int)) (128 : Int))), IntKind.i64.wrap (S9.2 - (1 : Int)))))
  else (some (.done (.go S9.1))))
  ((0 : Int), (k : Int) - 1) = some (.go (numV (s.take k) : Int)) := by
  have hlen : (s.take k).length = k := by rw [List.length_take]; omega
  rw [loopO_count (fun t => ((numV ((s.take k).drop (k - t)) : Int), (k : Int) - 1 - (t : Int))) k (r := Ctl.go (numV (s.take k) : Int)) ?h0]
  case h0 => rw [show k - 0 = k by omega, List.drop_of_length_le (by omega)]; simp [numV]
  · intro t ht
    have hi : (k : Int) - 1 - (t : Int) = ((k - 1 - t : Nat) : Int) := by omega
    have hd : (s.take k).drop (k - (t + 1)) = s[k - 1 - t] :: (s.take k).drop (k - t) := by
      rw [show k - (t + 1) = k - 1 - t by omega, List.drop_eq_getElem_cons (by omega), List.getElem_take]
      rw [show k - 1 - t + 1 = k - t by omega]
    have hx := (s[k - 1 - t]).toNat_lt
    have hn := numV_lt ((s.take k).drop (k - t))
    have hl : ((s.take k).drop (k - t)).length = t := by rw [List.length_drop, hlen]; omega
    rw [hl] at hn
    have hp : 128 ^ t ≤ 128 ^ 6 := Nat.pow_le_pow_right (by decide) (by omega)
    have hm : Int.tmod (((s[k - 1 - t]).toNat : Nat) : Int) (128 : Int) = (((s[k - 1 - t]).toNat % 128 : Nat) : Int) := by rw [show (128 : Int) = ((128 : Nat) : Int) from rfl, ← Int.ofNat_tmod]
    simp only [hi, sidx_nat s (k - 1 - t) (by omega), Option.bind_some]
    rw [if_pos (by simp only [decide_eq_true_eq]; omega), wrap_ok (n := (((s[k - 1 - t]).toNat : Nat) : Int)) (by omega) (by omega), hm, hd, numV]
    generalize numV ((s.take k).drop (k - t)) = z at hn
    rw [wrap_ok (n := (z : Int) * 128) (by omega) (by omega), wrap_ok (by omega) (by omega), wrap_ok (by omega) (by omega)]
    congr 3
    · omega
    · omega
  · rw [if_neg (by simp only [decide_eq_true_eq]; omega)]
    simp
theorem spec_ReadVar_eq (s : List UInt8) (hs : s.length ≤ 1099511627776) : spec_ReadVar s = some (readR (readN 7 s)) := by
  unfold spec_ReadVar
  obtain ⟨r, hr, hq⟩ := loopO_total (ρ := Ctl Unit (Int × Int)) (s0 := (1 : Int)) (body := fun (S1 : Int) => (if (decide (S1 ≤ (7 : Int))) = true then (some (decide (S1 ≤ ((s.length : Nat) : Int))))
  else (some false)).bind (fun (T5 : Bool) =>
  if T5 = true then (bindC (loopO (fun (S9 : Int × Int) => if (decide (S9.2 ≥ (0 : Int))) = true then ((sidx s S9.2).bind fun E14 =>
  some (.go (IntKind.i64.wrap (IntKind.i64.wrap (S9.1 * (128 : Int)) + (Int.tmod (IntKind.i64.wrap ((E14.toNat : Nat) : Int)) (128 : Int))), IntKind.i64.wrap (S9.2 - (1 : Int)))))
  else (some (.done (.go S9.1))))
  ((0 : Int), IntKind.i64.wrap (S1 - (1 : Int))))
  (fun (T11 : Int) => (ssub s 0 S1).bind fun E16 =>
  (spec_Var T11).bind fun R18 =>
  if (decide (R18 = E16)) = true then (some (.done (.done (T11, S1))))
  else (some (.go (IntKind.i64.wrap (S1 + (1 : Int)))))))
  else (some (.done (.go ())))))
    (fun i S => S = ((i + 1 : Nat) : Int) ∧ ∀ j, 1 ≤ j → j ≤ i → j ≤ s.length → varN 6 (numV (s.take j)) ≠ s.take j) 7 (fun r => (∃ n k, readN 7 s = some (n, k) ∧ r = .done ((n : Int), (k : Int))) ∨ (readN 7 s = none ∧ r = .go ())) ⟨rfl, fun j h1 h2 => by omega⟩ (by
      rintro i S hi ⟨rfl, h⟩
      rw [decide_eq_true (by omega : ((i + 1 : Nat) : Int) ≤ 7)]
      simp only [if_true, Option.bind_some]
      by_cases hl : i + 1 ≤ s.length
      · rw [decide_eq_true (by omega : ((i + 1 : Nat) : Int) ≤ ((s.length : Nat) : Int)), wrap_ok (n := ((i + 1 : Nat) : Int) - 1) (by omega) (by omega)]
        simp only [if_true]
        rw [num_loop s (i + 1) (by omega) (by omega) hl]
        have hsub : ssub s 0 ((i + 1 : Nat) : Int) = some (s.take (i + 1)) := ssub_nat s 0 (i + 1) (by omega) hl
        have hn := numV_lt (s.take (i + 1))
        rw [List.length_take, Nat.min_eq_left hl] at hn
        have hp : 128 ^ (i + 1) ≤ 128 ^ 7 := Nat.pow_le_pow_right (by decide) (by omega)
        have hv : varV (numV (s.take (i + 1)) : Int) = varN 6 (numV (s.take (i + 1))) := by
          unfold varV
          rw [decide_eq_true (by omega), cond_true, Int.toNat_natCast]
        simp only [bindC_go, hsub, Option.bind_some, spec_Var_eq, hv]
        by_cases he : varN 6 (numV (s.take (i + 1))) = s.take (i + 1)
        · right
          rw [decide_eq_true he]
          refine ⟨_, rfl, .inl ⟨numV (s.take (i + 1)), i + 1, ?_, rfl⟩⟩
          cases hr : readN 7 s with
          | none => exact absurd he (readN_none 7 s hr 6 (i + 1) (by omega) (by omega) (by omega) hl)
          | some p =>
            obtain ⟨n, k⟩ := p
            obtain ⟨_, _, _, h4, _, h6⟩ := readN_some 7 s n k hr
            have := h6 6 (i + 1) (by omega) (by omega) hl he
            subst this
            rw [h4]
        · left
          rw [decide_eq_false he]
          refine ⟨_, rfl, by rw [wrap_ok (by omega) (by omega)]; omega, fun j h1 h2 h3 => ?_⟩
          by_cases e : j = i + 1
          · subst e; exact he
          · exact h j h1 (by omega) h3
      · right
        rw [decide_eq_false (by omega : ¬ ((i + 1 : Nat) : Int) ≤ ((s.length : Nat) : Int))]
        refine ⟨.go (), rfl, .inr ⟨?_, rfl⟩⟩
        cases hr : readN 7 s with
        | none => rfl
        | some p =>
          obtain ⟨n, k⟩ := p
          obtain ⟨h1, _, h3, h4, h5, _⟩ := readN_some 7 s n k hr
          rw [h4] at h5
          exact absurd h5 (h k h1 (by omega) h3)) (by
      rintro S ⟨rfl, h⟩
      refine ⟨.go (), rfl, .inr ⟨?_, rfl⟩⟩
      cases hr : readN 7 s with
      | none => rfl
      | some p =>
        obtain ⟨n, k⟩ := p
        obtain ⟨h1, h2, h3, h4, h5, _⟩ := readN_some 7 s n k hr
        rw [h4] at h5
        exact absurd h5 (h k h1 h2 h3))
  rw [hr]
  rcases hq with ⟨n, k, e, rfl⟩ | ⟨e, rfl⟩
  · rw [e]; rfl
  · rw [e]; rfl
/-- so many numbers read from a place on -/
def l6V (s : List UInt8) : Nat → Nat → List Int × Int
  | 0, a => ([], (a : Int))
  | n + 1, a => bif decide (s.length < a) then ([], -1) else match readN 7 (s.drop a) with
    | some (x, k) => ((x : Int) :: (l6V s n (a + k)).1, (l6V s n (a + k)).2)
    | none => ([], -1)
theorem spec_l6Vars_eq (s : List UInt8) (a n : Nat) (hs : s.length ≤ 1099511627776) (hn : n ≤ 1048576) (ha : a ≤ 2199023255552) : spec_l6Vars s (a : Int) (n : Int) = some (l6V s n a) := by
  unfold spec_l6Vars
  have key : ∀ (m i a : Nat) (out : List Int), i + m = n → out.length = i → a ≤ 2199023255552 →
      bindC (loopO (fun (S2 : Int × Int × List Int) => if (decide (S2.2.1 < (n : Int))) = true then ((if (decide (S2.1 < (0 : Int))) = true then (some true)
  else (some (decide (S2.1 > ((s.length : Nat) : Int))))).bind (fun (T7 : Bool) =>
  if T7 = true then (some (.done (.done (S2.2.2, (-1 : Int)))))
  else ((ssub s S2.1 (s.length : Int)).bind fun E11 =>
  (spec_ReadVar E11).bind fun R13 =>
  if (decide (R13.2 = (0 : Int))) = true then (some (.done (.done (S2.2.2, (-1 : Int)))))
  else ((app 8 S2.2.2 ([R13.1])).bind fun E19 =>
  some (.go (IntKind.i64.wrap (S2.1 + R13.2), IntKind.i64.wrap (S2.2.1 + (1 : Int)), E19))))))
  else (some (.done (.go (S2.1, S2.2.2)))))
  ((a : Int), (i : Int), out)) (fun (T4 : Int × List Int) => some (T4.2, T4.1)) = some (out ++ (l6V s m a).1, (l6V s m a).2) := by
    intro m
    induction m with
    | zero =>
      intro i a out hi ho ha
      rw [loopO_eq]
      simp only
      rw [if_neg (by simp only [decide_eq_true_eq]; omega)]
      simp [l6V]
    | succ m ih =>
      intro i a out hi ho ha
      rw [loopO_eq]
      simp only
      rw [if_pos (by simp only [decide_eq_true_eq]; omega), decide_eq_false (by omega : ¬ (a : Int) < 0)]
      simp only [Bool.false_eq_true, if_false, Option.bind_some, l6V]
      by_cases hl : s.length < a
      · rw [decide_eq_true hl, decide_eq_true (by omega : (a : Int) > ((s.length : Nat) : Int))]
        simp
      · rw [decide_eq_false hl, decide_eq_false (by omega : ¬ (a : Int) > ((s.length : Nat) : Int))]
        simp only [Bool.false_eq_true, if_false, ssub_end s a (by omega), Option.bind_some, spec_ReadVar_eq (s.drop a) (by simp; omega), cond_false]
        cases hr : readN 7 (s.drop a) with
        | none => simp [readR]
        | some p =>
          obtain ⟨x, k⟩ := p
          obtain ⟨h1, h2, _⟩ := readN_some 7 _ x k hr
          have hk0 : decide ((readR (some (x, k))).2 = 0) = false := decide_eq_false (by show ¬ (k : Int) = 0; omega)
          rw [hk0]
          simp only [Bool.false_eq_true, if_false, readR]
          rw [app_ok (by simp; omega) (by simp; omega)]
          simp only [Option.bind_some]
          rw [wrap_ok (n := (a : Int) + (k : Int)) (by omega) (by omega), wrap_ok (n := (i : Int) + 1) (by omega) (by omega)]
          have := ih (i + 1) (a + k) (out ++ [(x : Int)]) (by omega) (by simp; omega) (by omega)
          rw [show ((a : Int) + (k : Int)) = ((a + k : Nat) : Int) by omega, show ((i : Int) + 1) = ((i + 1 : Nat) : Int) by omega, this, List.append_assoc]
          rfl
  have := key n 0 a [] (by omega) rfl ha
  simpa using this

def nonceV (kind n : Int) : List UInt8 := bif decide (0 ≤ kind ∧ kind ≤ 255) && decide (0 ≤ n ∧ n ≤ 562949953421311) then [toU8 kind, 0, 0, 0, 0] ++ fixedV n 7 else []
theorem fixedV_len (n : Int) (w : Nat) : (fixedV n w).length ≤ w := by
  unfold fixedV
  cases decide (1 ≤ (w : Int) ∧ (w : Int) ≤ 7) && (decide (0 ≤ n) && decide (n.toNat / 256 ^ (w : Int).toNat = 0))
  · simp
  · rw [cond_true, fixV_len]; simp
theorem fixedV_len7 (n : Int) (h : 0 ≤ n ∧ n ≤ 562949953421311) : (fixedV n 7).length = 7 := by
  unfold fixedV
  have h1 : n.toNat / 256 ^ (7 : Int).toNat = 0 := Nat.div_eq_of_lt (by show n.toNat < 256 ^ 7; omega)
  rw [decide_eq_true h.1, decide_eq_true h1]
  show (fixV n.toNat 7).length = 7
  exact fixV_len _ 7
theorem varN_len : ∀ (f n : Nat), (varN f n).length ≤ f + 1
  | 0, n => Nat.le_refl _
  | f + 1, n => by
    by_cases h : n < 128
    · rw [varN_lt h]; simp
    · rw [varN_ge (by omega), List.length_cons]
      have := varN_len f (n / 128)
      omega
theorem varV_len (n : Int) : (varV n).length ≤ 7 := by
  unfold varV
  cases decide (0 ≤ n ∧ n ≤ 562949953421311)
  · simp
  · exact varN_len 6 _
def mintOk (secret : List UInt8) (t e : Int) : Bool := decide (secret.length = 32) && (decide (1 ≤ t ∧ t ≤ 99) && decide (0 ≤ e ∧ e ≤ 1000000))
theorem mintOk_iff {secret : List UInt8} {t e : Int} (h : mintOk secret t e = true) : secret.length = 32 ∧ (1 ≤ t ∧ t ≤ 99) ∧ 0 ≤ e ∧ e ≤ 1000000 := by
  unfold mintOk at h
  simp only [Bool.and_eq_true, decide_eq_true_eq] at h
  exact h
theorem readN_var {s : List UInt8} {n k : Nat} (h : readN 7 s = some (n, k)) : varV (n : Int) = s.take k ∧ k ≤ s.length ∧ 1 ≤ k ∧ k ≤ 7 := by
  obtain ⟨h1, h2, h3, h4, h5, _⟩ := readN_some 7 s n k h
  have hn := numV_lt (s.take k)
  rw [List.length_take, Nat.min_eq_left h3, ← h4] at hn
  have hp : 128 ^ k ≤ 128 ^ 7 := Nat.pow_le_pow_right (by decide) h2
  refine ⟨?_, h3, h1, h2⟩
  unfold varV
  rw [decide_eq_true (by omega), cond_true, Int.toNat_natCast]
  exact h5
theorem skip_eq (w tenant k t : Int) : (if (!(decide (w = (0 : Int)))) = true then (if (!(decide (w = tenant))) = true then (some true)
  else (if (decide (k = (13 : Int))) = true then (some (!(decide (t = tenant))))
  else (some false)))
  else (if (decide (k = (13 : Int))) = true then (some (!(decide (t = tenant))))
  else (some false))) = some ((!decide (w = 0) && !decide (w = tenant)) || (decide (k = 13) && !decide (t = tenant))) := by
  cases decide (w = 0) <;> cases decide (w = tenant) <;> cases decide (k = 13) <;> cases decide (t = tenant) <;> rfl
theorem iand32 {a b : Nat} (ha : a < 2 ^ 32) (hb : b < 2 ^ 32) : iand .u32 (a : Int) (b : Int) = ((a &&& b : Nat) : Int) := by
  unfold iand
  have h1 : a &&& b ≤ a := Nat.and_le_left
  have e : (BitVec.ofInt IntKind.u32.bits (a : Int) &&& BitVec.ofInt IntKind.u32.bits (b : Int)).toNat = a &&& b := by
    show (BitVec.ofInt 32 (a : Int) &&& BitVec.ofInt 32 (b : Int)).toNat = a &&& b
    rw [BitVec.ofInt_natCast, BitVec.ofInt_natCast, BitVec.toNat_and, BitVec.toNat_ofNat, BitVec.toNat_ofNat, Nat.mod_eq_of_lt (by omega), Nat.mod_eq_of_lt (by omega)]
  rw [e, wrap32]
  omega
/-- a step of the checksum -/
def crcS (c : Nat) : Nat := bif decide (c % 2 = 1) then (c / 2) ^^^ 2197175160 else c / 2
theorem crcS_lt {c : Nat} (h : c < 2 ^ 32) : crcS c < 2 ^ 32 := by
  unfold crcS
  have h2 : c / 2 < 2 ^ 32 := by omega
  cases decide (c % 2 = 1)
  · exact h2
  · exact Nat.xor_lt_two_pow h2 (by decide)
def crcR : Nat → Nat → Nat
  | 0, c => c
  | k + 1, c => crcS (crcR k c)
theorem crcR_lt {c : Nat} (h : c < 2 ^ 32) : ∀ k, crcR k c < 2 ^ 32
  | 0 => h
  | k + 1 => crcS_lt (crcR_lt h k)
def crcN (s : List UInt8) : Nat → Nat
  | 0 => 4294967295
  | k + 1 => match s[k]? with
    | some x => crcR 8 (crcN s k ^^^ x.toNat)
    | none => crcN s k
theorem crcN_succ (s : List UInt8) (k : Nat) (h : k < s.length) : crcN s (k + 1) = crcR 8 (crcN s k ^^^ s[k].toNat) := by
  show (match s[k]? with | some x => _ | none => _) = _
  rw [List.getElem?_eq_getElem h]
theorem byte_lt (x : UInt8) : x.toNat < 2 ^ 32 := by have := x.toNat_lt; omega
theorem crcN_lt (s : List UInt8) : ∀ k, k ≤ s.length → crcN s k < 2 ^ 32
  | 0, _ => by show 4294967295 < 2 ^ 32; decide
  | k + 1, h => by rw [crcN_succ s k (by omega)]; exact crcR_lt (Nat.xor_lt_two_pow (crcN_lt s k (by omega)) (byte_lt _)) 8
def crcV (s : List UInt8) : Int := 4294967295 - (crcN s s.length : Int)
theorem crcV_range (s : List UInt8) : 0 ≤ crcV s ∧ crcV s ≤ 4294967295 := by
  have := crcN_lt s s.length (Nat.le_refl _)
  unfold crcV
  omega
theorem impl_Crc_eq (s : List UInt8) (h : s.length ≤ 1099511627776) : impl_Crc s = some (crcV s) := by
  unfold impl_Crc
  rw [loopO_count (fun k => ((crcN s k : Int), (k : Int))) s.length (r := Ctl.go (crcN s s.length : Int)) ?h0]
  case h0 => rfl
  · have hl := crcN_lt s s.length (Nat.le_refl _)
    simp only [bindC_go]
    unfold crcV
    generalize crcN s s.length = z at hl
    rw [wrap_ok (n := (z : Int)) (by omega) (by omega), wrap_ok (by omega) (by omega)]
  · intro k hk
    have hl := crcN_lt s k (by omega)
    have hx := byte_lt s[k]
    have e1 : IntKind.u32.wrap ((s[k].toNat : Nat) : Int) = ((s[k].toNat : Nat) : Int) := by rw [wrap32]; omega
    have hc := Nat.xor_lt_two_pow hl hx
    simp only [sidx_nat s k hk, Option.bind_some, e1, ixor32 hl hx, crcN_succ s k hk]
    generalize crcN s k ^^^ s[k].toNat = c at hc
    rw [if_pos (by simpa using hk), loopO_count (fun j => ((crcR j c : Int), (j : Int))) 8 (r := Ctl.go (crcR 8 c : Int)) ?h1]
    case h1 => rfl
    · simp only [bindC_go]
      rw [wrap_ok (by omega) (by omega)]
      rfl
    · intro j hj
      have hj2 := crcR_lt hc j
      have e3 : ((crcR (j + 1) c : Nat) : Int) = ((crcS (crcR j c) : Nat) : Int) := rfl
      rw [e3]
      generalize crcR j c = q at hj2
      have a1 : iand .u32 (q : Int) (1 : Int) = ((q % 2 : Nat) : Int) := by
        rw [show (1 : Int) = ((1 : Nat) : Int) from rfl, iand32 hj2 (by decide), show q &&& 1 = q % 2 from Nat.and_two_pow_sub_one_eq_mod q 1]
      have a2 : ishr .u32 (q : Int) (1 : Int) = ((q / 2 : Nat) : Int) := ishr_nat (n := 1) (by decide)
      have a3 : ixor .u32 ((q / 2 : Nat) : Int) (2197175160 : Int) = ((q / 2 ^^^ 2197175160 : Nat) : Int) := ixor32 (by omega) (by decide)
      simp only [a1, a2, a3]
      rw [if_pos (by simp only [decide_eq_true_eq]; omega), wrap_ok (n := (j : Int) + 1) (by omega) (by omega)]
      unfold crcS
      by_cases h2 : q % 2 = 1
      · rw [decide_eq_true h2, decide_eq_true (by omega : ((q % 2 : Nat) : Int) = 1)]
        rfl
      · rw [decide_eq_false h2, decide_eq_false (by omega : ¬ ((q % 2 : Nat) : Int) = 1)]
        rfl
    · simp
  · simp
theorem spec_Crc_eq (s : List UInt8) (h : s.length ≤ 1099511627776) : spec_Crc s = some (crcV s) := by
  unfold spec_Crc
  rw [loopO_count (fun k => ((crcN s k : Int), (k : Int))) s.length (r := Ctl.go (crcN s s.length : Int)) ?h0]
  case h0 => rfl
  · have hl := crcN_lt s s.length (Nat.le_refl _)
    simp only [bindC_go]
    unfold crcV
    generalize crcN s s.length = z at hl
    rw [wrap_ok (by omega) (by omega)]
  · intro k hk
    have hl := crcN_lt s k (by omega)
    have hx := byte_lt s[k]
    have e1 : IntKind.i64.wrap ((s[k].toNat : Nat) : Int) = ((s[k].toNat : Nat) : Int) := wrap_ok (by omega) (by omega)
    have hc := Nat.xor_lt_two_pow hl hx
    have e2 : ixor .i64 (crcN s k : Int) ((s[k].toNat : Nat) : Int) = ((crcN s k ^^^ s[k].toNat : Nat) : Int) := ixor64 (by omega) (by omega)
    simp only [sidx_nat s k hk, Option.bind_some, e1, e2, crcN_succ s k hk]
    generalize crcN s k ^^^ s[k].toNat = c at hc
    rw [if_pos (by simpa using hk), loopO_count (fun j => ((crcR j c : Int), (j : Int))) 8 (r := Ctl.go (crcR 8 c : Int)) ?h1]
    case h1 => rfl
    · simp only [bindC_go]
      rw [wrap_ok (by omega) (by omega)]
      rfl
    · intro j hj
      have hj2 := crcR_lt hc j
      have e3 : ((crcR (j + 1) c : Nat) : Int) = ((crcS (crcR j c) : Nat) : Int) := rfl
      rw [e3]
      generalize crcR j c = q at hj2
      have a1 : Int.tmod (q : Int) (2 : Int) = ((q % 2 : Nat) : Int) := by rw [show (2 : Int) = ((2 : Nat) : Int) from rfl, ← Int.ofNat_tmod]
      have a2 : IntKind.i64.wrap (Int.tdiv (q : Int) (2 : Int)) = ((q / 2 : Nat) : Int) := by rw [show (2 : Int) = ((2 : Nat) : Int) from rfl, ← Int.ofNat_tdiv, wrap_ok (by omega) (by omega)]
      have a3 : ixor .i64 ((q / 2 : Nat) : Int) (2197175160 : Int) = ((q / 2 ^^^ 2197175160 : Nat) : Int) := ixor64 (by omega) (by decide)
      simp only [a1, a2, a3]
      rw [if_pos (by simp only [decide_eq_true_eq]; omega), wrap_ok (n := (j : Int) + 1) (by omega) (by omega)]
      unfold crcS
      by_cases h2 : q % 2 = 1
      · rw [decide_eq_true h2, decide_eq_true (by omega : ((q % 2 : Nat) : Int) = 1)]
        rfl
      · rw [decide_eq_false h2, decide_eq_false (by omega : ¬ ((q % 2 : Nat) : Int) = 1)]
        rfl
    · simp
  · simp
/-- an edit as required -/
def numV1 (n : Int) : Bool := decide (0 ≤ n ∧ n ≤ 1000000)
def fileE (f : File) : Bool := numV1 f.No && (numV1 f.Level && (decide (f.Lo.length ≤ 10) && decide (f.Hi.length ≤ 10)))
def editV (e : Edit) : Bool := decide (e.Add.length ≤ 12) && (decide (e.Drop.length ≤ 12) && (e.Drop.all numV1 && e.Add.all fileE))
theorem editV_iff {e : Edit} (h : editV e = true) : e.Add.length ≤ 12 ∧ e.Drop.length ≤ 12 ∧ (∀ n ∈ e.Drop, 0 ≤ n ∧ n ≤ 1000000) ∧ ∀ f ∈ e.Add, (0 ≤ f.No ∧ f.No ≤ 1000000) ∧ (0 ≤ f.Level ∧ f.Level ≤ 1000000) ∧ f.Lo.length ≤ 10 ∧ f.Hi.length ≤ 10 := by
  unfold editV fileE numV1 at h
  simp only [Bool.and_eq_true, decide_eq_true_eq, List.all_eq_true] at h
  exact h
theorem passes {ρ α : Type} (l : List α) (p : α → Bool) (body : Int → Option (Ctl Int (Ctl Unit Bool))) (h : ∀ k (hk : k < l.length), body (k : Int) = some (if p l[k] = true then .go ((k : Int) + 1) else .done (.done false))) (hn : body (l.length : Int) = some (.done (.go ()))) :
    loopO body 0 = some (if l.all p = true then .go () else .done false) := by
  rw [loopO_is (fun k s => s = (k : Int) ∧ l.all p = (l.drop k).all p) l.length (if l.all p = true then Ctl.go () else Ctl.done false) ?h0 ?h1 ?h2]
  case h0 => exact ⟨rfl, rfl⟩
  · rintro k s hk ⟨rfl, he⟩
    rw [h k hk, he, List.drop_eq_getElem_cons hk, List.all_cons]
    cases p l[k] with
    | false => right; rfl
    | true => left; exact ⟨(k : Int) + 1, rfl, by omega, by simp⟩
  · rintro s ⟨rfl, he⟩
    rw [he, List.drop_length, hn]
    rfl
theorem fileE_eq (f : File) (g : Int → Option Bool) (hg : ∀ n, g n = some (numV1 n)) : ((g f.No).bind fun R27 =>
  if (!R27) = true then (some true)
  else ((g f.Level).bind fun R31 =>
  if (!R31) = true then (some true)
  else (if (decide (((f.Lo.length : Nat) : Int) > (10 : Int))) = true then (some true)
  else (some (decide (((f.Hi.length : Nat) : Int) > (10 : Int))))))) = some (!fileE f) := by
  unfold fileE
  rw [hg, hg]
  simp only [Option.bind_some]
  have e1 : decide (((f.Lo.length : Nat) : Int) > (10 : Int)) = !decide (f.Lo.length ≤ 10) := by
    by_cases h : f.Lo.length ≤ 10
    · rw [decide_eq_true h, decide_eq_false (by omega)]; rfl
    · rw [decide_eq_false h, decide_eq_true (by omega)]; rfl
  have e2 : decide (((f.Hi.length : Nat) : Int) > (10 : Int)) = !decide (f.Hi.length ≤ 10) := by
    by_cases h : f.Hi.length ≤ 10
    · rw [decide_eq_true h, decide_eq_false (by omega)]; rfl
    · rw [decide_eq_false h, decide_eq_true (by omega)]; rfl
  rw [e1, e2]
  cases numV1 f.No <;> cases numV1 f.Level <;> cases decide (f.Lo.length ≤ 10) <;> cases decide (f.Hi.length ≤ 10) <;> rfl
theorem lens_eq (a b : Nat) : (if (decide ((a : Int) > (12 : Int))) = true then (some true) else (some (decide ((b : Int) > (12 : Int))))) = some (!(decide (a ≤ 12) && decide (b ≤ 12))) := by
  by_cases h : a ≤ 12
  · rw [decide_eq_true h, decide_eq_false (by omega : ¬ (a : Int) > 12)]
    by_cases h2 : b ≤ 12
    · rw [decide_eq_true h2, decide_eq_false (by omega : ¬ (b : Int) > 12)]; rfl
    · rw [decide_eq_false h2, decide_eq_true (by omega : (b : Int) > 12)]; rfl
  · rw [decide_eq_false h, decide_eq_true (by omega : (a : Int) > 12)]; rfl
theorem spec_l17Ok_eq (e : Edit) : spec_l17Ok e = some (editV e) := by
  unfold spec_l17Ok editV
  simp only [lens_eq, Option.bind_some]
  by_cases ha : e.Add.length ≤ 12
  · by_cases hd : e.Drop.length ≤ 12
    · rw [decide_eq_true ha, decide_eq_true hd]
      simp only [Bool.and_self, Bool.not_true, Bool.false_eq_true, if_false, Bool.true_and]
      rw [passes (ρ := Unit) e.Drop numV1 _ ?h1 ?h2]
      case h2 => simp
      case h1 =>
        intro k hk
        simp only [idx_nat e.Drop k hk, Option.bind_some, l1In_eq]
        rw [if_pos (by simpa using hk), wrap_ok (n := (k : Int) + 1) (by omega) (by omega)]
        show _ = some (if numV1 e.Drop[k] = true then _ else _)
        unfold numV1
        cases decide (0 ≤ e.Drop[k] ∧ e.Drop[k] ≤ 1000000) <;> rfl
      cases e.Drop.all numV1 with
      | false => simp
      | true =>
        simp only [if_true, bindC_go, Bool.true_and]
        rw [passes (ρ := Unit) e.Add fileE _ ?h3 ?h4]
        case h4 => simp
        case h3 =>
          intro k hk
          simp only [idx_nat e.Add k hk, Option.bind_some]
          rw [fileE_eq e.Add[k] (fun n => spec_l1In n 0 1000000) (fun n => l1In_eq n 0 1000000)]
          rw [if_pos (by simpa using hk), wrap_ok (n := (k : Int) + 1) (by omega) (by omega)]
          cases fileE e.Add[k] <;> rfl
        cases e.Add.all fileE <;> simp
    · rw [decide_eq_true ha, decide_eq_false hd]
      simp
  · rw [decide_eq_false ha]
    simp
theorem impl_editOk_eq (e : Edit) : impl_editOk e = some (editV e) := by
  unfold impl_editOk editV
  have hnum : ∀ n, impl_isNumber n = some (numV1 n) := fun n => by unfold impl_isNumber; rw [inRange_eq]; rfl
  simp only [lens_eq, Option.bind_some]
  by_cases ha : e.Add.length ≤ 12
  · by_cases hd : e.Drop.length ≤ 12
    · rw [decide_eq_true ha, decide_eq_true hd]
      simp only [Bool.and_self, Bool.not_true, Bool.false_eq_true, if_false, Bool.true_and]
      rw [passes (ρ := Unit) e.Drop numV1 _ ?h1 ?h2]
      case h2 => simp
      case h1 =>
        intro k hk
        simp only [idx_nat e.Drop k hk, Option.bind_some, hnum]
        rw [if_pos (by simpa using hk), wrap_ok (n := (k : Int) + 1) (by omega) (by omega)]
        cases numV1 e.Drop[k] <;> rfl
      cases e.Drop.all numV1 with
      | false => simp
      | true =>
        simp only [if_true, bindC_go, Bool.true_and]
        rw [passes (ρ := Unit) e.Add fileE _ ?h3 ?h4]
        case h4 => simp
        case h3 =>
          intro k hk
          simp only [idx_nat e.Add k hk, Option.bind_some]
          rw [fileE_eq e.Add[k] impl_isNumber hnum]
          rw [if_pos (by simpa using hk), wrap_ok (n := (k : Int) + 1) (by omega) (by omega)]
          cases fileE e.Add[k] <;> rfl
        cases e.Add.all fileE <;> simp
    · rw [decide_eq_true ha, decide_eq_false hd]
      simp
  · rw [decide_eq_false ha]
    simp
/-- a string behind its length -/
def pieceV (s : List UInt8) : List UInt8 := varV (s.length : Int) ++ s
theorem spec_l6Piece_eq (s : List UInt8) (h : s.length ≤ 1099511627776) : spec_l6Piece s = some (pieceV s) := by
  unfold spec_l6Piece pieceV
  have := varV_len (s.length : Int)
  rw [spec_Var_eq]
  simp only [Option.bind_some]
  rw [cat_ok (by omega)]
  rfl
theorem impl_short_eq (s : List UInt8) (h : s.length ≤ 1099511627776) : impl_short s = some (pieceV s) := by
  unfold impl_short pieceV
  have := varV_len (s.length : Int)
  rw [impl_Var_eq]
  simp only [Option.bind_some]
  rw [cat_ok (by omega)]
  rfl
def fileB (f : File) : List UInt8 := varV f.No ++ varV f.Level ++ pieceV f.Lo ++ pieceV f.Hi
def bodyV (e : Edit) : List UInt8 := varV (e.Drop.length : Int) ++ e.Drop.flatMap varV ++ varV (e.Add.length : Int) ++ e.Add.flatMap fileB
def showV (e : Edit) : List UInt8 := bif editV e then fixedV (crcV (bodyV e)) 4 ++ bodyV e else []
theorem pieceV_len (s : List UInt8) : (pieceV s).length ≤ 7 + s.length := by
  have := varV_len (s.length : Int)
  unfold pieceV
  rw [List.length_append]; omega
theorem fileB_len {f : File} (h : f.Lo.length ≤ 10 ∧ f.Hi.length ≤ 10) : (fileB f).length ≤ 48 := by
  have h1 := varV_len f.No
  have h2 := varV_len f.Level
  have h3 := pieceV_len f.Lo
  have h4 := pieceV_len f.Hi
  unfold fileB
  rw [List.length_append, List.length_append, List.length_append]; omega
theorem flat_len {α : Type} (g : α → List UInt8) (m : Nat) : ∀ (l : List α), (∀ x ∈ l, (g x).length ≤ m) → (l.flatMap g).length ≤ m * l.length
  | [], _ => by simp
  | x :: l, h => by
    have h1 := h x (by simp)
    have h2 := flat_len g m l fun y hy => h y (by simp [hy])
    rw [List.flatMap_cons, List.length_append, List.length_cons, Nat.mul_succ]
    omega
theorem flat_take {α : Type} (g : α → List UInt8) (l : List α) (k : Nat) (h : k < l.length) : (l.take (k + 1)).flatMap g = (l.take k).flatMap g ++ g l[k] := by
  rw [List.take_add_one, List.getElem?_eq_getElem h, List.flatMap_append]
  simp
theorem flat_take_len {α : Type} (g : α → List UInt8) (m : Nat) (l : List α) (k : Nat) (h : ∀ x ∈ l, (g x).length ≤ m) : ((l.take k).flatMap g).length ≤ m * l.length := by
  have h1 := flat_len g m (l.take k) fun x hx => h x (List.mem_of_mem_take hx)
  have h2 : m * (l.take k).length ≤ m * l.length := Nat.mul_le_mul_left _ (by simp; omega)
  omega
theorem bodyV_len {e : Edit} (h : editV e = true) : (bodyV e).length ≤ 700 := by
  obtain ⟨h1, h2, h3, h4⟩ := editV_iff h
  have a1 := varV_len (e.Drop.length : Int)
  have a2 := varV_len (e.Add.length : Int)
  have a3 := flat_len varV 7 e.Drop fun x _ => varV_len x
  have a4 := flat_len fileB 48 e.Add fun f hf => fileB_len (h4 f hf).2.2
  unfold bodyV
  rw [List.length_append, List.length_append, List.length_append]
  omega
theorem varN_ne (f n : Nat) : varN f n ≠ [] := by
  by_cases h : n < 128
  · rw [varN_lt h]; simp
  · cases f with
    | zero => simp [varN]
    | succ f => rw [varN_ge (by omega)]; simp
theorem varV_ne {n : Int} (h : 0 ≤ n ∧ n ≤ 562949953421311) : varV n ≠ [] := by
  unfold varV
  rw [decide_eq_true h]
  exact varN_ne 6 _
theorem summed_eq (b : List UInt8) (h : b.length ≤ 1048576) : impl_summed b = some (fixedV (crcV b) 4 ++ b) := by
  have hr := crcV_range b
  have hl := fixedV_len (crcV b) 4
  unfold impl_summed
  rw [impl_Crc_eq b (by omega)]
  simp only [Option.bind_some, impl_Fixed_eq (crcV b) 4 (by omega)]
  rw [cat_ok (by have : (fixedV (crcV b) 4).length ≤ 4 := hl; omega)]
  rfl
theorem spec_ShowEdit_eq (e : Edit) : spec_ShowEdit e = some (showV e) := by
  unfold spec_ShowEdit showV
  rw [spec_l17Ok_eq]
  cases hv : editV e with
  | false => rfl
  | true =>
    obtain ⟨h1, h2, h3, h4⟩ := editV_iff hv
    have hb := bodyV_len hv
    have a1 := varV_len (e.Drop.length : Int)
    have a2 := varV_len (e.Add.length : Int)
    simp only [Option.bind_some, Bool.not_true, Bool.false_eq_true, if_false, cond_true, spec_Var_eq]
    rw [loopO_count (fun k => (varV (e.Drop.length : Int) ++ (e.Drop.take k).flatMap varV, (k : Int))) e.Drop.length (r := Ctl.go (varV (e.Drop.length : Int) ++ e.Drop.flatMap varV)) ?h0]
    case h0 => simp
    · have a3 := flat_len varV 7 e.Drop fun x _ => varV_len x
      simp only [bindC_go]
      rw [cat_ok (by rw [List.length_append]; omega)]
      simp only [Option.bind_some]
      rw [loopO_count (fun k => (varV (e.Drop.length : Int) ++ e.Drop.flatMap varV ++ varV (e.Add.length : Int) ++ (e.Add.take k).flatMap fileB, (k : Int))) e.Add.length (r := Ctl.go (bodyV e)) ?h1]
      case h1 => simp
      · have hr := crcV_range (bodyV e)
        have hl : (fixedV (crcV (bodyV e)) 4).length ≤ 4 := fixedV_len (crcV (bodyV e)) 4
        simp only [bindC_go, spec_Crc_eq (bodyV e) (by omega), Option.bind_some, spec_Fixed_eq (crcV (bodyV e)) 4 (by omega)]
        rw [cat_ok (by omega)]
        rfl
      · intro k hk
        obtain ⟨q1, q2, q3, q4⟩ := h4 _ (List.getElem_mem hk)
        have b1 := varV_len e.Add[k].No
        have b2 := varV_len e.Add[k].Level
        have b3 := pieceV_len e.Add[k].Lo
        have b4 := pieceV_len e.Add[k].Hi
        have b5 := flat_take_len fileB 48 e.Add k fun f hf => fileB_len (h4 f hf).2.2
        have b6 : (varV (e.Drop.length : Int) ++ e.Drop.flatMap varV ++ varV (e.Add.length : Int) ++ (e.Add.take k).flatMap fileB).length ≤ 700 := by
          rw [List.length_append, List.length_append, List.length_append]; omega
        simp only [idx_nat e.Add k hk, Option.bind_some, spec_l6Piece_eq e.Add[k].Lo (by omega), spec_l6Piece_eq e.Add[k].Hi (by omega), flat_take fileB e.Add k hk]
        generalize varV (e.Drop.length : Int) ++ e.Drop.flatMap varV ++ varV (e.Add.length : Int) = z at b6
        generalize (e.Add.take k).flatMap fileB = y at b6
        rw [List.length_append] at b6
        rw [if_pos (by simpa using hk), wrap_ok (n := (k : Int) + 1) (by omega) (by omega)]
        rw [cat_ok (by simp only [List.length_append]; omega)]
        simp only [Option.bind_some]
        rw [cat_ok (by simp only [List.length_append]; omega)]
        simp only [Option.bind_some]
        rw [cat_ok (by simp only [List.length_append]; omega)]
        simp only [Option.bind_some]
        rw [cat_ok (by simp only [List.length_append]; omega)]
        simp [fileB]
      · rw [List.take_length]
        simp [bodyV]
    · intro k hk
      have b1 := varV_len e.Drop[k]
      have b5 := flat_take_len varV 7 e.Drop k fun x _ => varV_len x
      simp only [idx_nat e.Drop k hk, Option.bind_some, flat_take varV e.Drop k hk]
      rw [if_pos (by simpa using hk), wrap_ok (n := (k : Int) + 1) (by omega) (by omega), cat_ok (by rw [List.length_append]; omega)]
      simp
    · simp
theorem impl_ShowEdit_eq (e : Edit) : impl_ShowEdit e = some (showV e) := by
  unfold impl_ShowEdit showV
  rw [impl_editOk_eq]
  cases hv : editV e with
  | false => rfl
  | true =>
    obtain ⟨h1, h2, h3, h4⟩ := editV_iff hv
    have hb := bodyV_len hv
    have a1 := varV_len (e.Drop.length : Int)
    have a2 := varV_len (e.Add.length : Int)
    simp only [Option.bind_some, Bool.not_true, Bool.false_eq_true, if_false, cond_true, impl_Var_eq]
    rw [app_ok (by simp; omega) (by simp; omega)]
    simp only [Option.bind_some, List.nil_append]
    rw [loopO_count (fun k => ((k : Int), varV (e.Drop.length : Int) ++ (e.Drop.take k).flatMap varV)) e.Drop.length (r := Ctl.go (varV (e.Drop.length : Int) ++ e.Drop.flatMap varV)) ?h0]
    case h0 => simp
    · have a3 := flat_len varV 7 e.Drop fun x _ => varV_len x
      simp only [bindC_go]
      rw [app_ok (by rw [List.length_append]; omega) (by rw [List.length_append]; omega)]
      simp only [Option.bind_some]
      rw [loopO_count (fun k => ((k : Int), varV (e.Drop.length : Int) ++ e.Drop.flatMap varV ++ varV (e.Add.length : Int) ++ (e.Add.take k).flatMap fileB)) e.Add.length (r := Ctl.go (bodyV e)) ?h1]
      case h1 => simp
      · have hne : bodyV e ≠ [] := by
          intro he
          have := congrArg List.length he
          unfold bodyV at this
          rw [List.length_append, List.length_append, List.length_append, List.length_nil] at this
          exact varV_ne (n := (e.Drop.length : Int)) (by omega) (List.eq_nil_of_length_eq_zero (by omega))
        have hs : strOf (bodyV e) = some (bodyV e) := by unfold strOf; rw [if_neg hne]
        simp only [bindC_go, hs, Option.bind_some, summed_eq (bodyV e) (by omega)]
      · intro k hk
        obtain ⟨q1, q2, q3, q4⟩ := h4 _ (List.getElem_mem hk)
        have b1 := varV_len e.Add[k].No
        have b2 := varV_len e.Add[k].Level
        have b3 := pieceV_len e.Add[k].Lo
        have b4 := pieceV_len e.Add[k].Hi
        have b5 := flat_take_len fileB 48 e.Add k fun f hf => fileB_len (h4 f hf).2.2
        have b6 : (varV (e.Drop.length : Int) ++ e.Drop.flatMap varV ++ varV (e.Add.length : Int) ++ (e.Add.take k).flatMap fileB).length ≤ 700 := by
          rw [List.length_append, List.length_append, List.length_append]; omega
        simp only [idx_nat e.Add k hk, Option.bind_some, impl_short_eq e.Add[k].Lo (by omega), impl_short_eq e.Add[k].Hi (by omega), flat_take fileB e.Add k hk]
        generalize varV (e.Drop.length : Int) ++ e.Drop.flatMap varV ++ varV (e.Add.length : Int) = z at b6
        generalize (e.Add.take k).flatMap fileB = y at b6
        rw [List.length_append] at b6
        rw [if_pos (by simpa using hk), wrap_ok (n := (k : Int) + 1) (by omega) (by omega)]
        rw [cat_ok (by omega)]
        simp only [Option.bind_some]
        rw [cat_ok (by simp only [List.length_append]; omega)]
        simp only [Option.bind_some]
        rw [cat_ok (by simp only [List.length_append]; omega)]
        simp only [Option.bind_some]
        have b7 : (varV e.Add[k].No ++ varV e.Add[k].Level ++ pieceV e.Add[k].Lo ++ pieceV e.Add[k].Hi).length ≤ 48 := fileB_len (h4 _ (List.getElem_mem hk)).2.2
        rw [app_ok (by rw [List.length_append]; omega) (by rw [List.length_append]; omega)]
        simp [fileB]
      · rw [List.take_length]
        simp [bodyV]
    · intro k hk
      have b1 := varV_len e.Drop[k]
      have b5 := flat_take_len varV 7 e.Drop k fun x _ => varV_len x
      simp only [idx_nat e.Drop k hk, Option.bind_some, flat_take varV e.Drop k hk]
      rw [if_pos (by simpa using hk), wrap_ok (n := (k : Int) + 1) (by omega) (by omega), app_ok (by rw [List.length_append]; omega) (by rw [List.length_append]; omega)]
      simp
    · simp
theorem readN_enc : ∀ (f n : Nat) (rest : List UInt8), n < 128 ^ (f + 1) → readN (f + 1) (varN f n ++ rest) = some (n, (varN f n).length)
  | 0, n, rest, h => by
    have hn : n < 128 := by simpa using h
    rw [varN_lt hn]
    show readN 1 (toU8 (n : Int) :: rest) = _
    rw [readN, toU8_toNat, Nat.mod_eq_of_lt (by omega), decide_eq_true hn]
    rfl
  | f + 1, n, rest, h => by
    by_cases hn : n < 128
    · rw [varN_lt hn]
      show readN (f + 2) (toU8 (n : Int) :: rest) = _
      rw [readN, toU8_toNat, Nat.mod_eq_of_lt (by omega), decide_eq_true hn]
      rfl
    · have h2 : n / 128 < 128 ^ (f + 1) := by
        rw [Nat.div_lt_iff_lt_mul (by decide)]; rw [Nat.pow_succ] at h; exact h
      rw [varN_ge (by omega), List.cons_append, readN, toU8_toNat, Nat.mod_eq_of_lt (by omega), decide_eq_false (by omega), readN_enc f (n / 128) rest h2]
      simp only [cond_false]
      rw [decide_eq_false (by omega)]
      simp only [cond_false, List.length_cons]
      congr 2
      omega
theorem readV_enc (n : Int) (h : 0 ≤ n ∧ n ≤ 562949953421311) (rest : List UInt8) : readN 7 (varV n ++ rest) = some (n.toNat, (varV n).length) := by
  unfold varV
  rw [decide_eq_true h]
  exact readN_enc 6 n.toNat rest (by show n.toNat < 562949953421312; omega)
theorem readN_range {s : List UInt8} {n k : Nat} (h : readN 7 s = some (n, k)) : n < 562949953421312 ∧ 1 ≤ k ∧ k ≤ s.length := by
  obtain ⟨h1, h2, h3, h4, _, _⟩ := readN_some 7 s n k h
  have hn := numV_lt (s.take k)
  rw [List.length_take, Nat.min_eq_left h3, ← h4] at hn
  have hp : 128 ^ k ≤ 128 ^ 7 := Nat.pow_le_pow_right (by decide) h2
  exact ⟨Nat.lt_of_lt_of_le hn hp, h1, h3⟩
/-- a number read on -/
def rdN (t : List UInt8) (a : Nat) (bad : Bool) : Int × Nat × Bool := bif bad then (0, a, true) else match readN 7 (t.drop a) with
  | none => (0, a, true)
  | some (x, k) => ((x : Int), a + k, false)
theorem rdN_range (t : List UInt8) (a : Nat) (bad : Bool) (h : a ≤ t.length) : (0 ≤ (rdN t a bad).1 ∧ (rdN t a bad).1 ≤ 562949953421311) ∧ (rdN t a bad).2.1 ≤ t.length ∧ ((rdN t a bad).2.2 = false → bad = false ∧ a < (rdN t a bad).2.1) := by
  unfold rdN
  cases bad with
  | true => exact ⟨⟨by simp, by simp⟩, h, fun e => by cases e⟩
  | false =>
    simp only [cond_false]
    cases hr : readN 7 (t.drop a) with
    | none => exact ⟨⟨by simp, by simp⟩, h, fun e => by cases e⟩
    | some p =>
      obtain ⟨x, k⟩ := p
      obtain ⟨h1, h2, h3⟩ := readN_range hr
      rw [List.length_drop] at h3
      refine ⟨⟨by simp, by simp only; omega⟩, by simp only; omega, fun _ => ?_⟩
      exact ⟨trivial, show a < a + k by omega⟩
theorem number_eq (t : List UInt8) (a : Nat) (bad : Bool) (h : a ≤ t.length) (ht : t.length ≤ 1099511627776) : impl_reader_number { text := t, at_ := (a : Int), bad := bad } = some ((rdN t a bad).1, { text := t, at_ := ((rdN t a bad).2.1 : Int), bad := (rdN t a bad).2.2 }) := by
  unfold impl_reader_number rdN
  cases bad with
  | true => rfl
  | false =>
    simp only [Bool.false_eq_true, if_false, ssub_end t a h, Option.bind_some, impl_ReadVar_eq (t.drop a) (by simp; omega), cond_false]
    cases hr : readN 7 (t.drop a) with
    | none => rfl
    | some p =>
      obtain ⟨x, k⟩ := p
      obtain ⟨h1, h2, h3⟩ := readN_range hr
      rw [List.length_drop] at h3
      have hk0 : decide ((readR (some (x, k))).2 = 0) = false := decide_eq_false (by show ¬ (k : Int) = 0; omega)
      rw [hk0]
      simp only [Bool.false_eq_true, if_false, readR]
      rw [wrap_ok (by omega) (by omega), show (a : Int) + (k : Int) = ((a + k : Nat) : Int) by omega]
/-- bytes read on -/
def rdB (t : List UInt8) (a : Nat) (bad : Bool) (n : Int) : List UInt8 × Nat × Bool := bif bad || decide (t.length < a + n.toNat) then ([], a, true) else ((t.drop a).take n.toNat, a + n.toNat, false)
theorem rdB_range (t : List UInt8) (a : Nat) (bad : Bool) (n : Int) (h : a ≤ t.length) : (rdB t a bad n).2.1 ≤ t.length ∧ a ≤ (rdB t a bad n).2.1 ∧ ((rdB t a bad n).2.2 = false → bad = false) := by
  unfold rdB
  cases bad with
  | true => exact ⟨h, Nat.le_refl _, fun e => by cases e⟩
  | false =>
    by_cases c : t.length < a + n.toNat
    · rw [decide_eq_true c]; exact ⟨h, Nat.le_refl _, fun e => by cases e⟩
    · rw [decide_eq_false c]; exact ⟨by simp only [Bool.or_self, cond_false]; omega, by simp, fun _ => rfl⟩
theorem bytes_eq (t : List UInt8) (a : Nat) (bad : Bool) (n : Int) (h : a ≤ t.length) (ht : t.length ≤ 1099511627776) (hn : 0 ≤ n ∧ n ≤ 562949953421311) : impl_reader_bytes { text := t, at_ := (a : Int), bad := bad } n = some ((rdB t a bad n).1, { text := t, at_ := ((rdB t a bad n).2.1 : Int), bad := (rdB t a bad n).2.2 }) := by
  unfold impl_reader_bytes rdB
  cases bad with
  | true => rfl
  | false =>
    simp only [Bool.false_eq_true, if_false, Option.bind_some, Bool.false_or]
    rw [wrap_ok (n := ((t.length : Nat) : Int) - (a : Int)) (by omega) (by omega)]
    by_cases c : t.length < a + n.toNat
    · rw [decide_eq_true c, decide_eq_true (by omega : n > ((t.length : Nat) : Int) - (a : Int))]
      rfl
    · rw [decide_eq_false c, decide_eq_false (by omega : ¬ n > ((t.length : Nat) : Int) - (a : Int))]
      simp only [Bool.false_eq_true, if_false, cond_false]
      rw [wrap_ok (n := (a : Int) + n) (by omega) (by omega), wrap_ok (n := (a : Int) + n - n) (by omega) (by omega), show (a : Int) + n - n = (a : Int) by omega, show (a : Int) + n = ((a + n.toNat : Nat) : Int) by omega, ssub_nat t a (a + n.toNat) (by omega) (by omega)]
      simp only [Option.bind_some, Nat.add_sub_cancel_left]
def rdS (t : List UInt8) (a : Nat) (bad : Bool) : List UInt8 × Nat × Bool := rdB t (rdN t a bad).2.1 (rdN t a bad).2.2 (rdN t a bad).1
theorem short_eq (t : List UInt8) (a : Nat) (bad : Bool) (h : a ≤ t.length) (ht : t.length ≤ 1099511627776) : impl_reader_short { text := t, at_ := (a : Int), bad := bad } = some ((rdS t a bad).1, { text := t, at_ := ((rdS t a bad).2.1 : Int), bad := (rdS t a bad).2.2 }) := by
  obtain ⟨h1, h2, _⟩ := rdN_range t a bad h
  unfold impl_reader_short rdS
  rw [number_eq t a bad h ht]
  simp only [Option.bind_some]
  rw [bytes_eq t _ _ _ h2 ht h1]
  rfl
theorem rdS_range (t : List UInt8) (a : Nat) (bad : Bool) (h : a ≤ t.length) : (rdS t a bad).2.1 ≤ t.length ∧ ((rdS t a bad).2.2 = false → bad = false ∧ a < (rdS t a bad).2.1) := by
  obtain ⟨h1, h2, h3⟩ := rdN_range t a bad h
  obtain ⟨h4, h5, h6⟩ := rdB_range t (rdN t a bad).2.1 (rdN t a bad).2.2 (rdN t a bad).1 h2
  unfold rdS
  refine ⟨h4, fun e => ?_⟩
  obtain ⟨h7, h8⟩ := h3 (h6 e)
  exact ⟨h7, by omega⟩
/-- items read on, as many as are said, up to one that is bad -/
def itemsI {α : Type} (g : Nat → α × Nat × Bool) : Nat → Nat → Bool → Int → List α → Nat × Bool × List α
  | 0, a, bad, _, out => (a, bad, out)
  | f + 1, a, bad, n, out => bif decide (n > 0) && !bad then itemsI g f (g a).2.1 (g a).2.2 (n - 1) (out ++ [(g a).1]) else (a, bad, out)
theorem items_loop {α ρ : Type} (t : List UInt8) (g : Nat → α × Nat × Bool) (body : List UInt8 × Int × Bool × Int × List α → Option (Ctl (List UInt8 × Int × Bool × Int × List α) (Ctl (List UInt8 × Int × Bool × List α) ρ)))
    (hg : ∀ a, a ≤ t.length → (g a).2.1 ≤ t.length ∧ ((g a).2.2 = false → a < (g a).2.1))
    (h1 : ∀ (a : Nat) (n : Int) (out : List α), a ≤ t.length → 0 < n → n ≤ 562949953421311 → out.length ≤ 4194304 → body (t, (a : Int), false, n, out) = some (.go (t, ((g a).2.1 : Int), (g a).2.2, n - 1, out ++ [(g a).1])))
    (h2 : ∀ (a : Nat) (bad : Bool) (n : Int) (out : List α), n ≤ 0 ∨ bad = true → body (t, (a : Int), bad, n, out) = some (.done (.go (t, (a : Int), bad, out)))) :
    ∀ (f a : Nat) (bad : Bool) (n : Int) (out : List α), a ≤ t.length → n ≤ 562949953421311 → (bad = true ∨ t.length - a + 1 ≤ f) → out.length + f ≤ 4194304 →
      loopO body (t, (a : Int), bad, n, out) = some (.go (t, ((itemsI g (f + 1) a bad n out).1 : Int), (itemsI g (f + 1) a bad n out).2.1, (itemsI g (f + 1) a bad n out).2.2)) := by
  intro f
  induction f with
  | zero =>
    intro a bad n out ha hn hf ho
    obtain rfl : bad = true := by rcases hf with h | h; exact h; omega
    rw [loopO_eq, h2 a true n out (.inr rfl)]
    simp [itemsI]
  | succ f ih =>
    intro a bad n out ha hn hf ho
    rw [loopO_eq]
    by_cases c : 0 < n ∧ bad = false
    · obtain ⟨c1, rfl⟩ := c
      obtain ⟨g1, g2⟩ := hg a ha
      rw [h1 a n out ha c1 hn (by omega)]
      simp only
      rw [itemsI, decide_eq_true (by omega : n > 0)]
      simp only [Bool.not_false, Bool.and_self, cond_true]
      refine ih _ _ _ _ g1 (by omega) ?_ (by simp; omega)
      cases hb : (g a).2.2 with
      | true => exact .inl rfl
      | false =>
        have := g2 hb
        rcases hf with h | h
        · cases h
        · right; omega
    · have c2 : n ≤ 0 ∨ bad = true := by
        cases bad with
        | true => exact .inr rfl
        | false => left; have : ¬ 0 < n := fun h => c ⟨h, rfl⟩; omega
      rw [h2 a bad n out c2, itemsI]
      have : (decide (n > 0) && !bad) = false := by
        rcases c2 with h | h
        · rw [decide_eq_false (by omega)]; rfl
        · rw [h]; simp
      rw [this]
      rfl
theorem itemsI_out {α : Type} (g : Nat → α × Nat × Bool) (t : List UInt8) (hg : ∀ a, a ≤ t.length → (g a).2.1 ≤ t.length ∧ ((g a).2.2 = false → a < (g a).2.1)) : ∀ (f a : Nat) (bad : Bool) (n : Int) (out : List α), a ≤ t.length → (itemsI g f a bad n out).1 ≤ t.length
  | 0, a, bad, n, out, h => h
  | f + 1, a, bad, n, out, h => by
    rw [itemsI]
    cases decide (n > 0) && !bad
    · exact h
    · exact itemsI_out g t hg f _ _ _ _ (hg a h).1
theorem drop_enc {t x rest : List UInt8} {a : Nat} (h : t.drop a = x ++ rest) : t.drop (a + x.length) = rest := by
  rw [← List.drop_drop, h, List.drop_left]
/-- .. of what was written so -/
theorem items_enc {α : Type} (g : Nat → α × Nat × Bool) (enc : α → List UInt8) (t : List UInt8) : ∀ (l : List α) (f a : Nat) (out : List α) (rest : List UInt8), (∀ x ∈ l, ∀ a rest, t.drop a = enc x ++ rest → g a = (x, a + (enc x).length, false)) →
    t.drop a = l.flatMap enc ++ rest → l.length ≤ f → itemsI g f a false (l.length : Int) out = (a + (l.flatMap enc).length, false, out ++ l)
  | [], f, a, out, rest, _, _, _ => by
    cases f with
    | zero => simp [itemsI]
    | succ f => simp [itemsI]
  | x :: l, f, a, out, rest, hg, hd, hf => by
    cases f with
    | zero => simp at hf
    | succ f =>
      have h1 : t.drop a = enc x ++ (l.flatMap enc ++ rest) := by rw [hd, List.flatMap_cons, List.append_assoc]
      rw [itemsI, hg x (by simp) a _ h1, decide_eq_true (by simp only [List.length_cons]; omega : ((x :: l).length : Int) > 0)]
      simp only [Bool.not_false, Bool.and_self, cond_true]
      rw [show (((x :: l).length : Nat) : Int) - 1 = ((l.length : Nat) : Int) by simp only [List.length_cons]; omega, items_enc g enc t l f (a + (enc x).length) (out ++ [x]) rest (fun y hy => hg y (by simp [hy])) (drop_enc h1) (by simpa using hf)]
      simp only [List.flatMap_cons, List.length_append, List.append_assoc, List.cons_append, List.nil_append, Nat.add_assoc]
theorem rdN_enc {t rest : List UInt8} {a : Nat} {n : Int} (h : t.drop a = varV n ++ rest) (hn : 0 ≤ n ∧ n ≤ 562949953421311) : rdN t a false = (n, a + (varV n).length, false) := by
  unfold rdN
  rw [h, readV_enc n hn rest]
  simp only [cond_false]
  rw [show ((n.toNat : Nat) : Int) = n by omega]
theorem rdS_enc {t rest x : List UInt8} {a : Nat} (h : t.drop a = pieceV x ++ rest) (hx : x.length ≤ 1048576) (ha : a ≤ t.length) : rdS t a false = (x, a + (pieceV x).length, false) := by
  have h1 : t.drop a = varV (x.length : Int) ++ (x ++ rest) := by rw [h]; unfold pieceV; rw [List.append_assoc]
  have h2 := drop_enc h1
  have hl := congrArg List.length h2
  rw [List.length_drop, List.length_append] at hl
  unfold rdS
  rw [rdN_enc h1 (by omega)]
  unfold rdB
  simp only [Bool.false_or, Int.toNat_natCast]
  by_cases hx0 : x.length = 0
  · have h0 : x = [] := List.eq_nil_of_length_eq_zero hx0
    have hl2 := congrArg List.length h1
    rw [List.length_drop, List.length_append] at hl2
    rw [decide_eq_false (by omega)]
    simp only [cond_false]
    subst h0
    simp [pieceV]
  · rw [decide_eq_false (by omega)]
    simp only [cond_false]
    rw [h2, List.take_left]
    simp only [pieceV, List.length_append, Nat.add_assoc]
/-- a file read on -/
def gF (t : List UInt8) (a : Nat) : File × Nat × Bool :=
  ({ No := (rdN t a false).1, Level := (rdN t (rdN t a false).2.1 (rdN t a false).2.2).1, Lo := (rdS t (rdN t (rdN t a false).2.1 (rdN t a false).2.2).2.1 (rdN t (rdN t a false).2.1 (rdN t a false).2.2).2.2).1,
     Hi := (rdS t (rdS t (rdN t (rdN t a false).2.1 (rdN t a false).2.2).2.1 (rdN t (rdN t a false).2.1 (rdN t a false).2.2).2.2).2.1 (rdS t (rdN t (rdN t a false).2.1 (rdN t a false).2.2).2.1 (rdN t (rdN t a false).2.1 (rdN t a false).2.2).2.2).2.2).1 },
   (rdS t (rdS t (rdN t (rdN t a false).2.1 (rdN t a false).2.2).2.1 (rdN t (rdN t a false).2.1 (rdN t a false).2.2).2.2).2.1 (rdS t (rdN t (rdN t a false).2.1 (rdN t a false).2.2).2.1 (rdN t (rdN t a false).2.1 (rdN t a false).2.2).2.2).2.2).2)
theorem gF_range (t : List UInt8) (a : Nat) (h : a ≤ t.length) : (gF t a).2.1 ≤ t.length ∧ ((gF t a).2.2 = false → a < (gF t a).2.1) := by
  obtain ⟨_, h1, h2⟩ := rdN_range t a false h
  obtain ⟨_, h3, h4⟩ := rdN_range t (rdN t a false).2.1 (rdN t a false).2.2 h1
  obtain ⟨h5, h6⟩ := rdS_range t (rdN t (rdN t a false).2.1 (rdN t a false).2.2).2.1 (rdN t (rdN t a false).2.1 (rdN t a false).2.2).2.2 h3
  obtain ⟨h7, h8⟩ := rdS_range t (rdS t (rdN t (rdN t a false).2.1 (rdN t a false).2.2).2.1 (rdN t (rdN t a false).2.1 (rdN t a false).2.2).2.2).2.1 (rdS t (rdN t (rdN t a false).2.1 (rdN t a false).2.2).2.1 (rdN t (rdN t a false).2.1 (rdN t a false).2.2).2.2).2.2 h5
  refine ⟨h7, fun e => ?_⟩
  obtain ⟨e1, l1⟩ := h8 e
  obtain ⟨e2, l2⟩ := h6 e1
  obtain ⟨e3, l3⟩ := h4 e2
  obtain ⟨e4, l4⟩ := h2 e3
  show a < (rdS t _ _).2.1
  omega
theorem gF_enc {t rest : List UInt8} {a : Nat} {x : File} (hx : (0 ≤ x.No ∧ x.No ≤ 1000000) ∧ (0 ≤ x.Level ∧ x.Level ≤ 1000000) ∧ x.Lo.length ≤ 10 ∧ x.Hi.length ≤ 10) (h : t.drop a = fileB x ++ rest) : gF t a = (x, a + (fileB x).length, false) := by
  obtain ⟨q1, q2, q3, q4⟩ := hx
  have h1 : t.drop a = varV x.No ++ (varV x.Level ++ (pieceV x.Lo ++ (pieceV x.Hi ++ rest))) := by rw [h]; unfold fileB; simp only [List.append_assoc]
  have h2 := drop_enc h1
  have h3 := drop_enc h2
  have h4 := drop_enc h3
  have hne := varV_ne (n := x.No) (by omega)
  have hlen : a + (varV x.No).length + (varV x.Level).length + (pieceV x.Lo).length ≤ t.length := by
    have hl := congrArg List.length h1
    rw [List.length_drop] at hl
    simp only [List.length_append] at hl
    have := List.length_pos_iff.2 hne
    omega
  unfold gF
  rw [rdN_enc h1 (by omega)]
  simp only
  rw [rdN_enc h2 (by omega)]
  simp only
  rw [rdS_enc h3 (by omega) (by omega)]
  simp only
  rw [rdS_enc h4 (by omega) (by omega)]
  simp only [fileB, List.length_append, Nat.add_assoc]
theorem fixed4_len (n : Int) (h : 0 ≤ n ∧ n ≤ 4294967295) : (fixedV n 4).length = 4 := by
  unfold fixedV
  have h1 : n.toNat / 256 ^ (4 : Int).toNat = 0 := Nat.div_eq_of_lt (by show n.toNat < 256 ^ 4; omega)
  rw [decide_eq_true h.1, decide_eq_true h1]
  show (fixV n.toNat 4).length = 4
  exact fixV_len _ 4
theorem showV_parts {e : Edit} {s : List UInt8} (h : showV e = s) (hs : s ≠ []) : editV e = true ∧ s.take 4 = fixedV (crcV (bodyV e)) 4 ∧ s.drop 4 = bodyV e ∧ 4 ≤ s.length := by
  unfold showV at h
  cases hv : editV e with
  | false => rw [hv] at h; exact absurd h.symm hs
  | true =>
    rw [hv, cond_true] at h
    have hl := fixed4_len (crcV (bodyV e)) (crcV_range _)
    subst h
    refine ⟨rfl, ?_, ?_, by rw [List.length_append]; omega⟩
    · rw [← hl, List.take_left]
    · conv => lhs; rw [← hl]
      rw [List.drop_left]
/-- what the program reads -/
noncomputable def readD (t : List UInt8) : Nat × Bool × List Int := itemsI (fun a => rdN t a false) (t.length + 2) (rdN t 0 false).2.1 (rdN t 0 false).2.2 (rdN t 0 false).1 []
noncomputable def readA (t : List UInt8) : Nat × Bool × List File := itemsI (gF t) (t.length + 2) (rdN t (readD t).1 (readD t).2.1).2.1 (rdN t (readD t).1 (readD t).2.1).2.2 (rdN t (readD t).1 (readD t).2.1).1 []
def noEdit : Edit := { Add := [], Drop := [] }
noncomputable def readE (s : List UInt8) : Edit × Bool :=
  bif decide (4 ≤ s.length) && decide (fixedV (crcV (s.drop 4)) 4 = s.take 4) then
    (bif (!(readA (s.drop 4)).2.1 && decide ((readA (s.drop 4)).1 = (s.drop 4).length)) && decide (showV { Add := (readA (s.drop 4)).2.2, Drop := (readD (s.drop 4)).2.2 } = s)
      then ({ Add := (readA (s.drop 4)).2.2, Drop := (readD (s.drop 4)).2.2 }, true) else (noEdit, false)) else (noEdit, false)
theorem unsummed_eq (s : List UInt8) (h : s.length ≤ 1048576) : impl_unsummed s = some (bif decide (4 ≤ s.length) && decide (fixedV (crcV (s.drop 4)) 4 = s.take 4) then (s.drop 4, true) else ([], false)) := by
  unfold impl_unsummed
  by_cases h4 : 4 ≤ s.length
  · have hr := crcV_range (s.drop 4)
    rw [decide_eq_true h4, decide_eq_false (by omega : ¬ ((s.length : Nat) : Int) < 4)]
    rw [show ssub s (4 : Int) (s.length : Int) = some (s.drop 4) from ssub_end s 4 h4, show ssub s 0 (4 : Int) = some (s.take 4) from ssub_nat s 0 4 (by omega) h4]
    simp only [Bool.false_eq_true, if_false, Option.bind_some, impl_Crc_eq (s.drop 4) (by simp; omega), impl_Fixed_eq (crcV (s.drop 4)) 4 (by omega), Bool.true_and]
    cases decide (fixedV (crcV (s.drop 4)) 4 = s.take 4) <;> rfl
  · rw [decide_eq_false h4, decide_eq_true (by omega : ((s.length : Nat) : Int) < 4)]
    rfl
theorem impl_ReadEdit_eq (s : List UInt8) (h : s.length ≤ 1048576) : impl_ReadEdit s = some (readE s) := by
  unfold impl_ReadEdit readE
  rw [unsummed_eq s h]
  cases decide (4 ≤ s.length) && decide (fixedV (crcV (s.drop 4)) 4 = s.take 4) with
  | false => rfl
  | true =>
    simp only [cond_true, Option.bind_some, Bool.not_true, Bool.false_eq_true, if_false]
    have ht : (s.drop 4).length ≤ 1048576 := by simp; omega
    generalize s.drop 4 = t at ht
    obtain ⟨n1, n2, _⟩ := rdN_range t 0 false (Nat.zero_le _)
    rw [show impl_reader_number { text := t, at_ := (0 : Int), bad := false } = _ from number_eq t 0 false (Nat.zero_le _) (by omega)]
    simp only [Option.bind_some]
    have hgD : ∀ a, a ≤ t.length → ((fun a => rdN t a false) a).2.1 ≤ t.length ∧ (((fun a => rdN t a false) a).2.2 = false → a < ((fun a => rdN t a false) a).2.1) := fun a ha => by
      obtain ⟨_, p, q⟩ := rdN_range t a false ha
      exact ⟨p, fun e => (q e).2⟩
    rw [items_loop t (fun a => rdN t a false) _ hgD ?h1 ?h2 (t.length + 1) (rdN t 0 false).2.1 (rdN t 0 false).2.2 (rdN t 0 false).1 [] n2 n1.2 (.inr (by omega)) (by simp; omega)]
    case h1 =>
      intro a n out ha h0 hn ho
      simp only [number_eq t a false ha (by omega), Option.bind_some]
      rw [decide_eq_true (by omega : n > 0), app_ok (by simp; omega) (by simp; omega), wrap_ok (n := n - 1) (by omega) (by omega)]
      rfl
    case h2 =>
      intro a bad n out hc
      simp only
      rcases hc with hc | hc
      · rw [decide_eq_false (by omega : ¬ n > 0)]; rfl
      · subst hc; cases decide (n > 0) <;> rfl
    have eD : itemsI (fun a => rdN t a false) (t.length + 1 + 1) (rdN t 0 false).2.1 (rdN t 0 false).2.2 (rdN t 0 false).1 [] = readD t := rfl
    rw [eD]
    have hD : (readD t).1 ≤ t.length := itemsI_out _ t hgD _ _ _ _ _ n2
    obtain ⟨m1, m2, _⟩ := rdN_range t (readD t).1 (readD t).2.1 hD
    simp only [bindC_go, number_eq t (readD t).1 (readD t).2.1 hD (by omega), Option.bind_some]
    rw [items_loop t (gF t) _ (gF_range t) ?h3 ?h4 (t.length + 1) (rdN t (readD t).1 (readD t).2.1).2.1 (rdN t (readD t).1 (readD t).2.1).2.2 (rdN t (readD t).1 (readD t).2.1).1 [] m2 m1.2 (.inr (by omega)) (by simp; omega)]
    case h3 =>
      intro a n out ha h0 hn ho
      obtain ⟨_, g1, _⟩ := rdN_range t a false ha
      obtain ⟨_, g2, _⟩ := rdN_range t (rdN t a false).2.1 (rdN t a false).2.2 g1
      obtain ⟨g3, _⟩ := rdS_range t (rdN t (rdN t a false).2.1 (rdN t a false).2.2).2.1 (rdN t (rdN t a false).2.1 (rdN t a false).2.2).2.2 g2
      simp only [number_eq t a false ha (by omega), Option.bind_some, number_eq t _ _ g1 (by omega), short_eq t _ _ g2 (by omega), short_eq t _ _ g3 (by omega)]
      rw [decide_eq_true (by omega : n > 0), app_ok (by simp; omega) (by simp; omega), wrap_ok (n := n - 1) (by omega) (by omega)]
      rfl
    case h4 =>
      intro a bad n out hc
      simp only
      rcases hc with hc | hc
      · rw [decide_eq_false (by omega : ¬ n > 0)]; rfl
      · subst hc; cases decide (n > 0) <;> rfl
    have eA : itemsI (gF t) (t.length + 1 + 1) (rdN t (readD t).1 (readD t).2.1).2.1 (rdN t (readD t).1 (readD t).2.1).2.2 (rdN t (readD t).1 (readD t).2.1).1 [] = readA t := rfl
    rw [eA]
    unfold impl_reader_done
    simp only [bindC_go, impl_ShowEdit_eq, Option.bind_some]
    have e1 : decide ((((readA t).1 : Nat) : Int) = ((t.length : Nat) : Int)) = decide ((readA t).1 = t.length) := decide_eq_decide.2 (by omega)
    rw [e1]
    cases (readA t).2.1 with
    | true => rfl
    | false =>
      cases decide ((readA t).1 = t.length) with
      | false => rfl
      | true =>
        simp only [Bool.not_false, if_true, Option.bind_some, Bool.not_true, Bool.false_eq_true, if_false, Bool.and_self, Bool.true_and]
        cases decide (showV { Add := (readA t).2.2, Drop := (readD t).2.2 } = s) <;> rfl
theorem readE_sound {s : List UInt8} (hb : (readE s).2 = true) : showV (readE s).1 = s ∧ s ≠ [] := by
  unfold readE at hb ⊢
  cases h1 : decide (4 ≤ s.length) && decide (fixedV (crcV (s.drop 4)) 4 = s.take 4) with
  | false => rw [h1] at hb; cases hb
  | true =>
    rw [h1] at hb
    simp only [cond_true] at hb ⊢
    cases h2 : (!(readA (s.drop 4)).2.1 && decide ((readA (s.drop 4)).1 = (s.drop 4).length)) && decide (showV { Add := (readA (s.drop 4)).2.2, Drop := (readD (s.drop 4)).2.2 } = s) with
    | false => rw [h2] at hb; cases hb
    | true =>
      simp only [cond_true]
      simp only [Bool.and_eq_true, decide_eq_true_eq] at h1 h2
      refine ⟨h2.2, fun e => ?_⟩
      rw [e] at h1
      simp at h1
theorem readE_false {s : List UInt8} (hb : (readE s).2 = false) : (readE s).1 = noEdit := by
  unfold readE at hb ⊢
  cases h1 : decide (4 ≤ s.length) && decide (fixedV (crcV (s.drop 4)) 4 = s.take 4) with
  | false => rfl
  | true =>
    rw [h1] at hb
    simp only [cond_true] at hb ⊢
    cases h2 : (!(readA (s.drop 4)).2.1 && decide ((readA (s.drop 4)).1 = (s.drop 4).length)) && decide (showV { Add := (readA (s.drop 4)).2.2, Drop := (readD (s.drop 4)).2.2 } = s) with
    | false => rfl
    | true => rw [h2] at hb; cases hb
theorem body_parts {e : Edit} (hv : editV e = true) {t : List UInt8} (ht : t = bodyV e) : readD t = ((varV (e.Drop.length : Int)).length + (e.Drop.flatMap varV).length, false, e.Drop) ∧ readA t = (t.length, false, e.Add) := by
  obtain ⟨h1, h2, h3, h4⟩ := editV_iff hv
  have p0 : t.drop 0 = varV (e.Drop.length : Int) ++ (e.Drop.flatMap varV ++ (varV (e.Add.length : Int) ++ (e.Add.flatMap fileB ++ []))) := by
    rw [ht]; unfold bodyV; simp only [List.drop_zero, List.append_assoc, List.append_nil]
  have p1 := drop_enc p0
  have p2 := drop_enc p1
  have p3 := drop_enc p2
  have hl := congrArg List.length p0
  rw [List.drop_zero] at hl
  simp only [List.length_append, List.length_nil] at hl
  have hD : readD t = ((varV (e.Drop.length : Int)).length + (e.Drop.flatMap varV).length, false, e.Drop) := by
    unfold readD
    rw [rdN_enc p0 (by omega)]
    simp only
    rw [items_enc (fun a => rdN t a false) varV t e.Drop (t.length + 2) (0 + (varV (e.Drop.length : Int)).length) [] _ (fun x hx a rest hd => rdN_enc hd (by have := h3 x hx; omega)) p1 ?_]
    · simp
    · have hle : e.Drop.length ≤ (e.Drop.flatMap varV).length := by
        have key : ∀ l : List Int, (∀ x ∈ l, 0 ≤ x ∧ x ≤ 1000000) → l.length ≤ (l.flatMap varV).length := by
          intro l
          induction l with
          | nil => intro _; simp
          | cons x l ih =>
            intro hx
            have := List.length_pos_iff.2 (varV_ne (n := x) (by have := hx x (by simp); omega))
            have := ih fun y hy => hx y (by simp [hy])
            rw [List.flatMap_cons, List.length_append, List.length_cons]
            omega
        exact key _ h3
      omega
  refine ⟨hD, ?_⟩
  unfold readA
  rw [hD]
  simp only
  rw [show (varV (e.Drop.length : Int)).length + (e.Drop.flatMap varV).length = 0 + (varV (e.Drop.length : Int)).length + (e.Drop.flatMap varV).length by omega, rdN_enc p2 (by omega)]
  simp only
  rw [items_enc (gF t) fileB t e.Add (t.length + 2) _ [] _ (fun x hx a rest hd => gF_enc (h4 x hx) hd) p3 ?_]
  · simp only [List.nil_append]
    congr 1
    omega
  · have hle : e.Add.length ≤ (e.Add.flatMap fileB).length := by
      have key : ∀ l : List File, (∀ x ∈ l, 0 ≤ x.No ∧ x.No ≤ 1000000) → l.length ≤ (l.flatMap fileB).length := by
        intro l
        induction l with
        | nil => intro _; simp
        | cons x l ih =>
          intro hx
          have := List.length_pos_iff.2 (varV_ne (n := x.No) (by have := hx x (by simp); omega))
          have := ih fun y hy => hx y (by simp [hy])
          have hf : (varV x.No).length ≤ (fileB x).length := by unfold fileB; simp only [List.length_append]; omega
          rw [List.flatMap_cons, List.length_append, List.length_cons]
          omega
      exact key _ fun x hx => (h4 x hx).1
    omega
theorem readE_complete {e : Edit} {s : List UInt8} (h : showV e = s) (hs : s ≠ []) : readE s = (e, true) := by
  obtain ⟨hv, h1, h2, h3⟩ := showV_parts h hs
  obtain ⟨hD, hA⟩ := body_parts hv h2
  unfold readE
  rw [hD, hA, h2, h1, decide_eq_true h3, decide_eq_true rfl]
  simp only [Bool.not_false, decide_true, Bool.and_self, Bool.true_and, cond_true]
  rw [decide_eq_true (show showV { Add := e.Add, Drop := e.Drop } = s from h)]
  rfl

theorem l6V_range (s : List UInt8) : ∀ (n a : Nat), a ≤ s.length → ((l6V s n a).2 = -1 ∨ ∃ b : Nat, (l6V s n a).2 = (b : Int) ∧ b ≤ s.length ∧ (l6V s n a).1.length = n) ∧ ∀ x ∈ (l6V s n a).1, 0 ≤ x ∧ x ≤ 562949953421311
  | 0, a, h => ⟨.inr ⟨a, rfl, h, rfl⟩, fun x hx => by cases hx⟩
  | n + 1, a, h => by
    rw [l6V, decide_eq_false (by omega), cond_false]
    cases hr : readN 7 (s.drop a) with
    | none => exact ⟨.inl rfl, fun x hx => by cases hx⟩
    | some p =>
      obtain ⟨x, k⟩ := p
      obtain ⟨h1, h2, h3⟩ := readN_range hr
      rw [List.length_drop] at h3
      obtain ⟨q1, q2⟩ := l6V_range s n (a + k) (by omega)
      simp only
      refine ⟨?_, fun y hy => ?_⟩
      · rcases q1 with q | ⟨b, q3, q4, q5⟩
        · exact .inl q
        · exact .inr ⟨b, q3, q4, by rw [List.length_cons, q5]⟩
      · rcases List.mem_cons.1 hy with rfl | hy
        · omega
        · exact q2 y hy
theorem l6V_enc (s : List UInt8) : ∀ (l : List Int) (a : Nat) (rest : List UInt8), (∀ x ∈ l, 0 ≤ x ∧ x ≤ 1000000) → a ≤ s.length → s.drop a = l.flatMap varV ++ rest → l6V s l.length a = (l, ((a + (l.flatMap varV).length : Nat) : Int))
  | [], a, rest, _, _, _ => by simp [l6V]
  | x :: l, a, rest, hx, ha, h => by
    have h1 : s.drop a = varV x ++ (l.flatMap varV ++ rest) := by rw [h, List.flatMap_cons, List.append_assoc]
    have h2 := drop_enc h1
    have hx0 := hx x (by simp)
    have hl := congrArg List.length h1
    rw [List.length_drop, List.length_append] at hl
    have hb : a + (varV x).length ≤ s.length := by
      have := List.length_pos_iff.2 (varV_ne (n := x) (by omega))
      omega
    rw [List.length_cons, l6V, decide_eq_false (by omega), cond_false, h1, readV_enc x (by omega)]
    simp only
    rw [l6V_enc s l (a + (varV x).length) rest (fun y hy => hx y (by simp [hy])) hb h2]
    simp only [List.flatMap_cons, List.length_append, Nat.add_assoc]
    rw [show ((x.toNat : Nat) : Int) = x by omega]
theorem spec_l6Vars_neg (s : List UInt8) (n : Int) (hn : 0 < n) : spec_l6Vars s (-1) n = some ([], -1) := by
  unfold spec_l6Vars
  rw [loopO_eq]
  simp only
  rw [if_pos (by simp only [decide_eq_true_eq]; omega), decide_eq_true (by omega : (-1 : Int) < 0)]
  rfl
theorem spec_l6Vars_zero (s : List UInt8) : spec_l6Vars s (-1) 0 = some ([], -1) := by
  unfold spec_l6Vars
  rw [loopO_eq]
  rfl
/-- bytes behind their number -/
def takeB (s : List UInt8) (a : Nat) : List UInt8 × Int := match readN 7 (s.drop a) with
  | none => ([], -1)
  | some (x, k) => bif decide (x ≤ s.length - (a + k)) then ((s.drop (a + k)).take x, ((a + k + x : Nat) : Int)) else ([], -1)
theorem takeB_range (s : List UInt8) (a : Nat) (h : a ≤ s.length) : (takeB s a).2 = -1 ∨ ∃ b : Nat, (takeB s a).2 = (b : Int) ∧ b ≤ s.length := by
  unfold takeB
  cases hr : readN 7 (s.drop a) with
  | none => exact .inl rfl
  | some p =>
    obtain ⟨x, k⟩ := p
    obtain ⟨h1, h2, h3⟩ := readN_range hr
    rw [List.length_drop] at h3
    simp only
    by_cases c : x ≤ s.length - (a + k)
    · rw [decide_eq_true c]; exact .inr ⟨a + k + x, rfl, by omega⟩
    · rw [decide_eq_false c]; exact .inl rfl
theorem spec_l6Take_neg (s : List UInt8) : spec_l6Take s (-1) = some ([], -1) := by
  unfold spec_l6Take
  rw [spec_l6Vars_neg s 1 (by omega)]
  rfl
theorem spec_l6Take_eq (s : List UInt8) (a : Nat) (h : a ≤ s.length) (hs : s.length ≤ 1048576) : spec_l6Take s (a : Int) = some (takeB s a) := by
  unfold spec_l6Take takeB
  rw [show spec_l6Vars s (a : Int) (1 : Int) = some (l6V s 1 a) from spec_l6Vars_eq s a 1 (by omega) (by decide) (by omega)]
  simp only [Option.bind_some, l6V]
  rw [decide_eq_false (by omega : ¬ s.length < a), cond_false]
  cases hr : readN 7 (s.drop a) with
  | none => rfl
  | some p =>
    obtain ⟨x, k⟩ := p
    obtain ⟨h1, h2, h3⟩ := readN_range hr
    rw [List.length_drop] at h3
    simp only
    rw [decide_eq_false (by omega : ¬ ((a + k : Nat) : Int) < 0)]
    have i0 : idx [(x : Int)] (0 : Int) = some (x : Int) := rfl
    simp only [Bool.false_eq_true, if_false, i0, Option.bind_some]
    rw [wrap_ok (n := ((s.length : Nat) : Int) - ((a + k : Nat) : Int)) (by omega) (by omega)]
    by_cases c : x ≤ s.length - (a + k)
    · rw [decide_eq_true c, decide_eq_false (by omega : ¬ (x : Int) > ((s.length : Nat) : Int) - ((a + k : Nat) : Int))]
      simp only [Bool.false_eq_true, if_false, cond_true]
      rw [wrap_ok (by omega) (by omega), show ((a + k : Nat) : Int) + (x : Int) = ((a + k + x : Nat) : Int) by omega, ssub_nat s (a + k) (a + k + x) (by omega) (by omega)]
      simp only [Option.bind_some, Nat.add_sub_cancel_left]
    · rw [decide_eq_false c, decide_eq_true (by omega : (x : Int) > ((s.length : Nat) : Int) - ((a + k : Nat) : Int))]
      rfl
theorem takeB_enc {s x rest : List UInt8} {a : Nat} (h : s.drop a = pieceV x ++ rest) (hx : x.length ≤ 1048576) (ha : a + (pieceV x).length ≤ s.length) : takeB s a = (x, ((a + (pieceV x).length : Nat) : Int)) := by
  have h1 : s.drop a = varV (x.length : Int) ++ (x ++ rest) := by rw [h]; unfold pieceV; rw [List.append_assoc]
  have h2 := drop_enc h1
  have hp : (pieceV x).length = (varV (x.length : Int)).length + x.length := by unfold pieceV; rw [List.length_append]
  unfold takeB
  rw [h1, readV_enc (x.length : Int) (by omega)]
  simp only [Int.toNat_natCast]
  rw [decide_eq_true (by omega)]
  simp only [cond_true]
  rw [h2, List.take_left, hp, Nat.add_assoc]
/-- what the files of an edit are read as, by the reference -/
theorem spec_files (s : List UInt8) (hs : s.length ≤ 1048576) (m : Int) (hm : m ≤ 12) (x : Int) (l : List Int) (hx : idx l (0 : Int) = some m) (a0 : Nat) (ha : a0 ≤ s.length) :
    ∃ r, loopO (ρ := Ctl (List File) (Edit × Bool)) (fun (S30 : Int × Int × List File) => (idx l (0 : Int)).bind fun E34 =>
  if (decide (S30.2.1 < E34)) = true then ((spec_l6Vars s S30.1 (2 : Int)).bind fun R37 =>
  (spec_l6Take s R37.2).bind fun R40 =>
  (spec_l6Take s R40.2).bind fun R43 =>
  if (decide (R43.2 < (0 : Int))) = true then (some (.done (.done ({ Add := ([] : List File), Drop := ([] : List Int) : Edit }, false))))
  else ((idx R37.1 (0 : Int)).bind fun E49 =>
  (idx R37.1 (1 : Int)).bind fun E51 =>
  (app 48 S30.2.2 ([{ No := E49, Level := E51, Lo := R40.1, Hi := R43.1 : File }])).bind fun E56 =>
  some (.go (R43.2, IntKind.i64.wrap (S30.2.1 + (1 : Int)), E56))))
  else (some (.done (.go S30.2.2)))) ((a0 : Int), (0 : Int), ([] : List File)) = some r ∧ (r = .done (noEdit, false) ∨ ∃ out, r = .go out) := by
  refine loopO_total (ρ := Ctl (List File) (Edit × Bool)) (fun i S => ∃ a : Nat, a ≤ s.length ∧ S.1 = (a : Int) ∧ S.2.1 = (i : Int) ∧ S.2.2.length = i) 12 (fun r => r = .done (noEdit, false) ∨ ∃ out, r = .go out) ⟨a0, ha, rfl, rfl, rfl⟩ ?_ ?_
  · rintro i ⟨p, q, out⟩ hi ⟨a, h1, h2, h3, h4⟩
    simp only at h2 h3 h4
    subst h2 h3
    simp only [hx, Option.bind_some]
    by_cases c : (i : Int) < m
    · rw [decide_eq_true c]
      simp only [if_true]
      rw [show spec_l6Vars s (a : Int) (2 : Int) = some (l6V s 2 a) from spec_l6Vars_eq s a 2 (by omega) (by decide) (by omega)]
      simp only [Option.bind_some]
      rcases (l6V_range s 2 a h1).1 with e | ⟨b, e1, e2, e3⟩
      · right
        rw [e, spec_l6Take_neg]
        simp only [Option.bind_some, spec_l6Take_neg]
        exact ⟨_, rfl, .inl rfl⟩
      · rw [e1, spec_l6Take_eq s b e2 hs]
        simp only [Option.bind_some]
        rcases takeB_range s b e2 with f | ⟨d, f1, f2⟩
        · right
          rw [f, spec_l6Take_neg]
          exact ⟨_, rfl, .inl rfl⟩
        · rw [f1, spec_l6Take_eq s d f2 hs]
          simp only [Option.bind_some]
          rcases takeB_range s d f2 with g | ⟨k, g1, g2⟩
          · right
            rw [g]
            exact ⟨_, rfl, .inl rfl⟩
          · left
            rw [g1, decide_eq_false (by omega : ¬ (k : Int) < 0)]
            simp only [Bool.false_eq_true, if_false]
            have j0 : idx (l6V s 2 a).1 (0 : Int) = some ((l6V s 2 a).1[0]'(by omega)) := idx_nat _ 0 (by omega)
            have j1 : idx (l6V s 2 a).1 (1 : Int) = some ((l6V s 2 a).1[1]'(by omega)) := idx_nat _ 1 (by omega)
            rw [j0, j1]
            simp only [Option.bind_some]
            rw [app_ok (by simp; omega) (by simp; omega), wrap_ok (by omega) (by omega)]
            exact ⟨_, rfl, k, g2, rfl, by simp, by simp; omega⟩
    · right
      rw [decide_eq_false c]
      exact ⟨.go out, rfl, .inr ⟨out, rfl⟩⟩
  · rintro ⟨p, q, out⟩ ⟨a, h1, h2, h3, h4⟩
    simp only at h2 h3 h4
    subst h2 h3
    simp only [hx, Option.bind_some]
    rw [decide_eq_false (by omega)]
    exact ⟨.go out, rfl, .inr ⟨out, rfl⟩⟩
theorem spec_ReadEdit_sound (s : List UInt8) (hs : s.length ≤ 1048576) : ∃ r, spec_ReadEdit s = some r ∧ ((r.2 = true ∧ showV r.1 = s ∧ s ≠ []) ∨ r = (noEdit, false)) := by
  unfold spec_ReadEdit
  rw [show spec_l6Vars s (4 : Int) (1 : Int) = some (l6V s 1 4) from spec_l6Vars_eq s 4 1 (by omega) (by decide) (by decide)]
  simp only [Option.bind_some]
  by_cases h4 : 4 ≤ s.length
  · obtain ⟨q1, q2⟩ := l6V_range s 1 4 h4
    rcases q1 with e | ⟨b, e1, e2, e3⟩
    · rw [e]
      exact ⟨_, rfl, .inr rfl⟩
    · have hne : s ≠ [] := by intro h; rw [h] at h4; simp at h4
      have j0 : idx (l6V s 1 4).1 (0 : Int) = some ((l6V s 1 4).1[0]'(by omega)) := idx_nat _ 0 (by omega)
      have hrange := q2 _ (List.getElem_mem (by omega : 0 < (l6V s 1 4).1.length))
      rw [e1, decide_eq_false (by omega : ¬ (b : Int) < 0), j0]
      generalize (l6V s 1 4).1[0]'(by omega) = n at hrange
      simp only [Bool.false_eq_true, if_false, Option.bind_some]
      by_cases hn : n > 12
      · rw [decide_eq_true hn]
        exact ⟨_, rfl, .inr rfl⟩
      · rw [decide_eq_false hn]
        simp only [Bool.false_eq_true, if_false]
        obtain ⟨nn, rfl⟩ : ∃ k : Nat, n = (k : Int) := ⟨n.toNat, by omega⟩
        rw [spec_l6Vars_eq s b nn (by omega) (by omega) (by omega)]
        simp only [Option.bind_some]
        obtain ⟨p1, p2⟩ := l6V_range s nn b e2
        have key : ∃ l at_, spec_l6Vars s (l6V s nn b).2 (1 : Int) = some (l, at_) ∧ (at_ = -1 ∨ ∃ c : Nat, at_ = (c : Int) ∧ c ≤ s.length ∧ ∃ m : Int, idx l (0 : Int) = some m) := by
          rcases p1 with f | ⟨c, f1, f2, f3⟩
          · exact ⟨[], -1, by rw [f]; exact spec_l6Vars_neg s 1 (by omega), .inl rfl⟩
          · refine ⟨(l6V s 1 c).1, (l6V s 1 c).2, by rw [f1]; exact spec_l6Vars_eq s c 1 (by omega) (by decide) (by omega), ?_⟩
            rcases (l6V_range s 1 c f2).1 with g | ⟨d, g1, g2, g3⟩
            · exact .inl g
            · exact .inr ⟨d, g1, g2, _, idx_nat _ 0 (by omega)⟩
        obtain ⟨l, at_, k1, k2⟩ := key
        rw [k1]
        simp only [Option.bind_some]
        rcases k2 with rfl | ⟨c, rfl, c2, m, hm⟩
        · exact ⟨_, rfl, .inr rfl⟩
        · rw [decide_eq_false (by omega : ¬ (c : Int) < 0)]
          simp only [Bool.false_eq_true, if_false, hm, Option.bind_some]
          by_cases hm12 : m > 12
          · rw [decide_eq_true hm12]
            exact ⟨_, rfl, .inr rfl⟩
          · rw [decide_eq_false hm12]
            simp only [Bool.false_eq_true, if_false]
            obtain ⟨r, hr, hq⟩ := spec_files s hs m (by omega) 0 l hm c c2
            simp only [hm, Option.bind_some] at hr
            rw [hr]
            rcases hq with rfl | ⟨out, rfl⟩
            · exact ⟨_, rfl, .inr rfl⟩
            · simp only [bindC_go, spec_ShowEdit_eq, Option.bind_some]
              by_cases hsh : showV { Add := out, Drop := (l6V s nn b).1 } = s
              · rw [decide_eq_true hsh]
                exact ⟨_, rfl, .inl ⟨rfl, hsh, hne⟩⟩
              · rw [decide_eq_false hsh]
                exact ⟨_, rfl, .inr rfl⟩
  · have e : l6V s 1 4 = ([], -1) := by rw [l6V, decide_eq_true (by omega)]; rfl
    rw [e]
    exact ⟨_, rfl, .inr rfl⟩
theorem spec_ReadEdit_complete {e : Edit} {s : List UInt8} (h : showV e = s) (hne : s ≠ []) (hs : s.length ≤ 1048576) : spec_ReadEdit s = some (e, true) := by
  obtain ⟨hv, _, h2, h3⟩ := showV_parts h hne
  obtain ⟨q1, q2, q3, q4⟩ := editV_iff hv
  have p0 : s.drop 4 = varV (e.Drop.length : Int) ++ (e.Drop.flatMap varV ++ (varV (e.Add.length : Int) ++ (e.Add.flatMap fileB ++ []))) := by
    rw [h2]; unfold bodyV; simp only [List.append_assoc, List.append_nil]
  have p1 := drop_enc p0
  have p2 := drop_enc p1
  have p3 := drop_enc p2
  have hl := congrArg List.length p0
  rw [List.length_drop] at hl
  simp only [List.length_append, List.length_nil] at hl
  have l1 : ∀ (n : Int) (a : Nat) (rest : List UInt8), 0 ≤ n ∧ n ≤ 1000000 → a ≤ s.length → s.drop a = varV n ++ rest → spec_l6Vars s (a : Int) (1 : Int) = some ([n], ((a + (varV n).length : Nat) : Int)) := by
    intro n a rest hn ha hd
    have := l6V_enc s [n] a rest (fun x hx => by rw [List.mem_singleton] at hx; rw [hx]; exact hn) ha (by simpa using hd)
    rw [show spec_l6Vars s (a : Int) (1 : Int) = some (l6V s 1 a) from spec_l6Vars_eq s a 1 (by omega) (by decide) (by omega)]
    have h3 : l6V s 1 a = l6V s [n].length a := rfl
    rw [h3, this]
    simp
  unfold spec_ReadEdit
  rw [show spec_l6Vars s (4 : Int) (1 : Int) = _ from l1 (e.Drop.length : Int) 4 _ (by omega) h3 p0]
  have i0 : ∀ n : Int, idx [n] (0 : Int) = some n := fun n => rfl
  simp only [Option.bind_some, i0]
  rw [decide_eq_false (by omega : ¬ ((4 + (varV (e.Drop.length : Int)).length : Nat) : Int) < 0), decide_eq_false (by omega : ¬ ((e.Drop.length : Nat) : Int) > 12)]
  simp only [Bool.false_eq_true, if_false]
  rw [spec_l6Vars_eq s _ e.Drop.length (by omega) (by omega) (by omega), l6V_enc s e.Drop _ _ q3 (by omega) p1]
  simp only [Option.bind_some]
  rw [l1 (e.Add.length : Int) _ _ (by omega) (by omega) p2]
  simp only [Option.bind_some, i0]
  rw [decide_eq_false (by omega : ¬ ((4 + (varV (e.Drop.length : Int)).length + (e.Drop.flatMap varV).length + (varV (e.Add.length : Int)).length : Nat) : Int) < 0), decide_eq_false (by omega : ¬ ((e.Add.length : Nat) : Int) > 12)]
  simp only [Bool.false_eq_true, if_false]
  generalize ha0 : 4 + (varV (e.Drop.length : Int)).length + (e.Drop.flatMap varV).length + (varV (e.Add.length : Int)).length = a0 at p3
  rw [loopO_count (fun k => (((a0 + ((e.Add.take k).flatMap fileB).length : Nat) : Int), (k : Int), e.Add.take k)) e.Add.length (r := Ctl.go e.Add) ?h0]
  case h0 => simp
  · simp only [bindC_go, spec_ShowEdit_eq, Option.bind_some]
    rw [decide_eq_true (show showV { Add := e.Add, Drop := e.Drop } = s from h)]
    rfl
  · intro k hk
    obtain ⟨f1, f2, f3, f4⟩ := q4 _ (List.getElem_mem hk)
    have hsplit : e.Add.flatMap fileB = (e.Add.take k).flatMap fileB ++ (fileB e.Add[k] ++ (e.Add.drop (k + 1)).flatMap fileB) := by
      conv => lhs; rw [← List.take_append_drop k e.Add, List.drop_eq_getElem_cons hk]
      rw [List.flatMap_append, List.flatMap_cons]
    have hsl := congrArg List.length hsplit
    simp only [List.length_append] at hsl
    rw [hsplit, List.append_nil] at p3
    have p4 := drop_enc p3
    have p5 : s.drop (a0 + ((e.Add.take k).flatMap fileB).length) = varV e.Add[k].No ++ (varV e.Add[k].Level ++ (pieceV e.Add[k].Lo ++ (pieceV e.Add[k].Hi ++ (e.Add.drop (k + 1)).flatMap fileB))) := by
      rw [p4]; unfold fileB; simp only [List.append_assoc]
    have hfb : (fileB e.Add[k]).length = (varV e.Add[k].No).length + (varV e.Add[k].Level).length + (pieceV e.Add[k].Lo).length + (pieceV e.Add[k].Hi).length := by unfold fileB; simp only [List.length_append]
    generalize hA : a0 + ((e.Add.take k).flatMap fileB).length = A at p5
    have p6 := drop_enc p5
    have p7 := drop_enc p6
    have p8 := drop_enc p7
    have hv2 : l6V s 2 A = ([e.Add[k].No, e.Add[k].Level], ((A + (varV e.Add[k].No).length + (varV e.Add[k].Level).length : Nat) : Int)) := by
      have := l6V_enc s [e.Add[k].No, e.Add[k].Level] A (pieceV e.Add[k].Lo ++ (pieceV e.Add[k].Hi ++ (e.Add.drop (k + 1)).flatMap fileB)) (fun x hx => by
        simp only [List.mem_cons, List.not_mem_nil, or_false] at hx
        rcases hx with rfl | rfl
        · exact f1
        · exact f2) (by omega) (by rw [p5]; simp)
      have h3 : l6V s 2 A = l6V s [e.Add[k].No, e.Add[k].Level].length A := rfl
      rw [h3, this]
      simp [Nat.add_assoc]
    have k0 : ∀ n m : Int, idx [n, m] (0 : Int) = some n := fun _ _ => rfl
    have k1 : ∀ n m : Int, idx [n, m] (1 : Int) = some m := fun _ _ => rfl
    have ht : e.Add.take (k + 1) = e.Add.take k ++ [e.Add[k]] := by rw [List.take_add_one, List.getElem?_eq_getElem hk]; rfl
    simp only [hA]
    rw [if_pos (by simpa using hk), show spec_l6Vars s (A : Int) (2 : Int) = some (l6V s 2 A) from spec_l6Vars_eq s A 2 (by omega) (by decide) (by omega), hv2]
    simp only [Option.bind_some]
    rw [spec_l6Take_eq s _ (by omega) hs, takeB_enc p7 (by omega) (by omega)]
    simp only [Option.bind_some]
    rw [spec_l6Take_eq s _ (by omega) hs, takeB_enc p8 (by omega) (by omega)]
    simp only [Option.bind_some, k0, k1]
    rw [if_neg (by simp only [decide_eq_true_eq]; omega), app_ok (by simp; omega) (by simp; omega), wrap_ok (n := (k : Int) + 1) (by omega) (by omega), ht, List.flatMap_append]
    simp only [Option.bind_some, List.flatMap_cons, List.flatMap_nil, List.append_nil, List.length_append, hfb]
    congr 3
    omega
  · rw [if_neg (by simp)]
    simp
theorem ReadEdit_both (s : List UInt8) (hs : s.length ≤ 1048576) : spec_ReadEdit s = some (readE s) ∧ (readE s).1.Add.length ≤ 12 ∧ (readE s).1.Drop.length ≤ 12 := by
  obtain ⟨r, h1, h2⟩ := spec_ReadEdit_sound s hs
  have hb : spec_ReadEdit s = some (readE s) := by
    rcases h2 with ⟨b, h3, h4⟩ | rfl
    · have h5 := readE_complete h3 h4
      rw [h1, h5]
      obtain ⟨x, y⟩ := r
      simp only at b
      rw [b]
    · cases hc : (readE s).2 with
      | true =>
        obtain ⟨h3, h4⟩ := readE_sound hc
        have := spec_ReadEdit_complete h3 h4 hs
        rw [h1] at this
        simp at this
      | false =>
        rw [h1]
        have := readE_false hc
        rw [← this, ← hc]
  refine ⟨hb, ?_⟩
  cases hc : (readE s).2 with
  | true =>
    obtain ⟨h3, h4⟩ := readE_sound hc
    have := editV_iff (showV_parts h3 h4).1
    exact ⟨this.1, this.2.1⟩
  | false =>
    rw [readE_false hc]
    exact ⟨by simp [noEdit], by simp [noEdit]⟩
theorem editR_ok {l : List File} {e : Edit} (hl : l.length ≤ 12) (h : (editR l e).2 = true) : (editR l e).1.length ≤ 12 := by
  unfold editR at h ⊢
  cases hv : filesV l with
  | false => simp
  | true =>
    rw [hv] at h
    simp only [cond_true] at h ⊢
    cases hr : runF filesDropR (l, false) e.Drop l with
    | done r => simp only; rw [runF_done _ _ _ _ _ hr]; exact hl
    | go x =>
      have hx := runF_go filesDropR (l, false) (fun x => x.length ≤ 12) (fun x no hx h2 => dropR_ok x no hx h2) e.Drop l x hl hr
      simp only
      cases hr2 : runF addV (l, false) e.Add x with
      | done r => simp only; rw [runF_done _ _ _ _ _ hr2]; exact hl
      | go y => exact runF_go addV (l, false) (fun x => x.length ≤ 12) (fun x f hx h2 => addV_ok x f hx h2) e.Add x y hx hr2
/-- a log of edits, up to the first one that does not fit -/
noncomputable def replayR : Nat → List (List UInt8) → List File → List File × Int
  | k, [], l => (l, (k : Int))
  | k, s :: r, l => bif (readE s).2 && (editR l (readE s).1).2 then replayR (k + 1) r (editR l (readE s).1).1 else (l, (k : Int))
theorem replayR_len : ∀ (r : List (List UInt8)) (k : Nat) (l : List File), l.length ≤ 12 → (replayR k r l).1.length ≤ 12
  | [], _, _, h => h
  | s :: r, k, l, h => by
    rw [replayR]
    cases hc : (readE s).2 && (editR l (readE s).1).2 with
    | false => exact h
    | true =>
      rw [Bool.and_eq_true] at hc
      exact replayR_len r (k + 1) _ (editR_ok h hc.2)
theorem replay_loop (rd : List UInt8 → Option (Edit × Bool)) (ef : List File → Edit → Option (List File × Bool)) (log : List (List UInt8)) (hlog : log.length ≤ 1048576) (hrd : ∀ s ∈ log, rd s = some (readE s) ∧ (readE s).1.Add.length ≤ 12 ∧ (readE s).1.Drop.length ≤ 12)
    (hef : ∀ l e, l.length ≤ 12 → e.Drop.length ≤ 12 → e.Add.length ≤ 12 → ef l e = some (editR l e)) :
    bindC (loopO (fun (S1 : Int × List File) => if (decide (S1.1 < ((log.length : Nat) : Int))) = true then ((idx log S1.1).bind fun E6 =>
  (rd E6).bind fun R8 =>
  if (!R8.2) = true then (some (.done (.done (S1.2, S1.1))))
  else ((ef S1.2 R8.1).bind fun R13 =>
  if (!R13.2) = true then (some (.done (.done (S1.2, S1.1))))
  else (some (.go (IntKind.i64.wrap (S1.1 + (1 : Int)), R13.1)))))
  else (some (.done (.go S1.2))))
  ((0 : Int), ([] : List File)))
  (fun (T3 : List File) => some (T3, ((log.length : Nat) : Int))) = some (replayR 0 log []) := by
  obtain ⟨r, hr, hq⟩ := loopO_total (ρ := Ctl (List File) (List File × Int)) (s0 := ((0 : Int), ([] : List File))) (body := fun (S1 : Int × List File) => if (decide (S1.1 < ((log.length : Nat) : Int))) = true then ((idx log S1.1).bind fun E6 =>
  (rd E6).bind fun R8 =>
  if (!R8.2) = true then (some (.done (.done (S1.2, S1.1))))
  else ((ef S1.2 R8.1).bind fun R13 =>
  if (!R13.2) = true then (some (.done (.done (S1.2, S1.1))))
  else (some (.go (IntKind.i64.wrap (S1.1 + (1 : Int)), R13.1)))))
  else (some (.done (.go S1.2))))
    (fun k S => S.1 = (k : Int) ∧ S.2.length ≤ 12 ∧ replayR 0 log [] = replayR k (log.drop k) S.2) log.length (fun r => r = .done (replayR 0 log []) ∨ ∃ l, r = .go l ∧ replayR 0 log [] = (l, ((log.length : Nat) : Int))) ⟨rfl, by simp, rfl⟩ (by
      rintro k ⟨i, l⟩ hk ⟨h1, h2, h3⟩
      simp only at h1 h2 h3
      subst h1
      have hd : log.drop k = log[k] :: log.drop (k + 1) := List.drop_eq_getElem_cons hk
      obtain ⟨q1, q2, q3⟩ := hrd _ (List.getElem_mem hk)
      rw [hd, replayR] at h3
      simp only [idx_nat log k hk, Option.bind_some, q1, hef l _ h2 q3 q2]
      rw [if_pos (by simpa using hk), wrap_ok (n := (k : Int) + 1) (by omega) (by omega)]
      cases c1 : (readE log[k]).2 with
      | false =>
        right
        rw [c1] at h3
        exact ⟨_, rfl, .inl (by rw [h3]; rfl)⟩
      | true =>
        cases c2 : (editR l (readE log[k]).1).2 with
        | false =>
          right
          rw [c1, c2] at h3
          exact ⟨_, rfl, .inl (by rw [h3]; rfl)⟩
        | true =>
          left
          rw [c1, c2] at h3
          exact ⟨_, rfl, rfl, editR_ok h2 c2, h3⟩) (by
      rintro ⟨i, l⟩ ⟨h1, h2, h3⟩
      simp only at h1 h2 h3
      subst h1
      rw [List.drop_length, replayR] at h3
      exact ⟨.go l, by simp, .inr ⟨l, rfl, h3⟩⟩)
  rw [hr]
  rcases hq with rfl | ⟨l, rfl, h⟩
  · rfl
  · rw [h]; rfl
/-! draws -/
theorem iand255 (p : Int) : 0 ≤ iand .i64 p (255 : Int) ∧ iand .i64 p (255 : Int) ≤ 255 := by
  unfold iand
  have e : (BitVec.ofInt IntKind.i64.bits p &&& BitVec.ofInt IntKind.i64.bits (255 : Int)).toNat ≤ 255 := by
    show (BitVec.ofInt 64 p &&& BitVec.ofInt 64 ((255 : Nat) : Int)).toNat ≤ 255
    rw [BitVec.ofInt_natCast, BitVec.toNat_and, BitVec.toNat_ofNat]
    exact Nat.and_le_right
  generalize (BitVec.ofInt IntKind.i64.bits p &&& BitVec.ofInt IntKind.i64.bits (255 : Int)).toNat = z at e
  rw [wrap_ok (by omega) (by omega)]
  omega
theorem l1New_ok (code : List UInt8) (h : code.length ≤ 1048576) : ∃ q, spec_l1New code = some { b := code, i := 0, h := q } := by
  unfold spec_l1New
  obtain ⟨r, hr, q, rfl⟩ := loopO_total (ρ := Ctl Int L1Cur) (s0 := (IntKind.i64.wrap ((10101 : Int) + ((code.length : Nat) : Int)), (0 : Int))) (body := fun (S1 : Int × Int) => (if (decide (S1.2 < ((code.length : Nat) : Int))) = true then (some (decide (S1.2 < (4000 : Int))))
  else (some false)).bind (fun (T5 : Bool) =>
  if T5 = true then ((idx code S1.2).bind fun E9 =>
  some (.go (iand .i64 (IntKind.i64.wrap (IntKind.i64.wrap (IntKind.i64.wrap (S1.1 * (131 : Int)) + (IntKind.i64.wrap ((E9.toNat : Nat) : Int))) + (7 : Int))) (1073741823 : Int), IntKind.i64.wrap (S1.2 + (1 : Int)))))
  else (some (.done (.go S1.1))))) (fun k S => S.2 = (k : Int)) code.length (fun r => ∃ q, r = .go q) rfl (by
    rintro k ⟨p, i⟩ hk rfl
    simp only
    rw [decide_eq_true (by omega : (k : Int) < ((code.length : Nat) : Int))]
    by_cases c : (k : Int) < 4000
    · left
      rw [decide_eq_true c]
      simp only [if_true, Option.bind_some, idx_nat code k hk]
      exact ⟨_, rfl, by simp only; rw [wrap_ok (by omega) (by omega)]; omega⟩
    · right
      rw [decide_eq_false c]
      exact ⟨.go p, rfl, p, rfl⟩) (by
    rintro ⟨p, i⟩ rfl
    simp only
    rw [decide_eq_false (by omega : ¬ ((code.length : Nat) : Int) < ((code.length : Nat) : Int))]
    exact ⟨.go p, rfl, p, rfl⟩)
  rw [hr]
  exact ⟨q, rfl⟩
theorem l1Byte_ok (b : List UInt8) (i h : Int) (hi : 0 ≤ i ∧ i ≤ b.length) (hb : b.length ≤ 1048576) : ∃ x i' h', spec_l1Byte { b := b, i := i, h := h } = some (x, { b := b, i := i', h := h' }) ∧ (0 ≤ x ∧ x ≤ 255) ∧ (0 ≤ i' ∧ i' ≤ b.length) := by
  unfold spec_l1Byte
  simp only
  by_cases c : i < ((b.length : Nat) : Int)
  · rw [decide_eq_true c]
    simp only [if_true]
    rw [idx_some' hi.1 c]
    simp only [Option.bind_some, bindC_go]
    exact ⟨_, _, _, rfl, iand255 _, by rw [wrap_ok (by omega) (by omega)]; omega⟩
  · rw [decide_eq_false c]
    simp only [Bool.false_eq_true, if_false, bindC_go]
    exact ⟨_, _, _, rfl, iand255 _, hi⟩
theorem l1Below_ok (b : List UInt8) (i h n : Int) (hi : 0 ≤ i ∧ i ≤ b.length) (hb : b.length ≤ 1048576) : ∃ x i' h', spec_l1Below { b := b, i := i, h := h } n = some (x, { b := b, i := i', h := h' }) ∧ (0 ≤ x ∧ (0 < n → x < n) ∧ (n ≤ 0 → x = 0)) ∧ (0 ≤ i' ∧ i' ≤ b.length) := by
  unfold spec_l1Below
  by_cases c : n ≤ 0
  · rw [decide_eq_true c]
    simp only [if_true]
    exact ⟨_, _, _, rfl, ⟨Int.le_refl _, fun h => by omega, fun _ => rfl⟩, hi⟩
  · rw [decide_eq_false c]
    have hnz : nz n = some () := by unfold nz; rw [if_neg (by omega)]
    have hm : ∀ x : Int, 0 ≤ x → 0 ≤ Int.tmod x n ∧ Int.tmod x n < n := fun x hx => ⟨Int.tmod_nonneg _ hx, Int.tmod_lt_of_pos _ (by omega)⟩
    obtain ⟨x1, i1, h1, e1, g1, k1⟩ := l1Byte_ok b i h hi hb
    simp only [Bool.false_eq_true, if_false, e1, Option.bind_some, hnz]
    by_cases c2 : n ≤ 256
    · rw [decide_eq_true c2]
      simp only [if_true]
      have := hm x1 g1.1
      exact ⟨_, _, _, rfl, ⟨this.1, fun _ => this.2, fun h => by omega⟩, k1⟩
    · rw [decide_eq_false c2]
      simp only [Bool.false_eq_true, if_false]
      obtain ⟨x2, i2, h2, e2, g2, k2⟩ := l1Byte_ok b i1 h1 k1 hb
      simp only [e2, Option.bind_some]
      obtain ⟨x3, i3, h3, e3, g3, k3⟩ := l1Byte_ok b i2 h2 k2 hb
      simp only [e3, Option.bind_some]
      obtain ⟨x4, i4, h4, e4, g4, k4⟩ := l1Byte_ok b i3 h3 k3 hb
      simp only [e4, Option.bind_some]
      rw [wrap_ok (n := x1 * 16777216) (by omega) (by omega), wrap_ok (n := x2 * 65536) (by omega) (by omega), wrap_ok (n := x1 * 16777216 + x2 * 65536) (by omega) (by omega), wrap_ok (n := x3 * 256) (by omega) (by omega), wrap_ok (n := x1 * 16777216 + x2 * 65536 + x3 * 256) (by omega) (by omega), wrap_ok (by omega) (by omega)]
      have := hm (x1 * 16777216 + x2 * 65536 + x3 * 256 + x4) (by omega)
      exact ⟨_, _, _, rfl, ⟨this.1, fun _ => this.2, fun h => by omega⟩, k4⟩
theorem l1Once_ok (b : List UInt8) (i h n : Int) (hi : 0 ≤ i ∧ i ≤ b.length) (hb : b.length ≤ 1048576) : ∃ x i' h', spec_l1Once { b := b, i := i, h := h } n = some (x, { b := b, i := i', h := h' }) ∧ (0 ≤ i' ∧ i' ≤ b.length) := by
  unfold spec_l1Once
  obtain ⟨x, i1, h1, e, _, k⟩ := l1Below_ok b i h n hi hb
  simp only [e, Option.bind_some]
  exact ⟨_, _, _, rfl, k⟩
theorem l1PickInt_ok (b : List UInt8) (i h : Int) (l : List Int) (hl : l ≠ []) (hi : 0 ≤ i ∧ i ≤ b.length) (hb : b.length ≤ 1048576) : ∃ x i' h', spec_l1PickInt { b := b, i := i, h := h } l = some (x, { b := b, i := i', h := h' }) ∧ x ∈ l ∧ (0 ≤ i' ∧ i' ≤ b.length) := by
  unfold spec_l1PickInt
  have hp := List.length_pos_iff.2 hl
  obtain ⟨x, i1, h1, e, g, k⟩ := l1Below_ok b i h ((l.length : Nat) : Int) hi hb
  simp only [e, Option.bind_some]
  rw [idx_some' g.1 (g.2.1 (by omega))]
  simp only [Option.bind_some]
  exact ⟨_, _, _, rfl, List.getElem_mem _, k⟩
theorem at_ok (code : List UInt8) (i : Int) (hi : 0 ≤ i ∧ i ≤ 255) (h : code.length ≤ 1048576) : ∃ x, laws_at code i = some x ∧ 0 ≤ x ∧ x ≤ 255 := by
  unfold laws_at
  by_cases c : i < ((code.length : Nat) : Int)
  · rw [decide_eq_true c]
    simp only [if_true]
    rw [idx_some' hi.1 c]
    simp only [Option.bind_some]
    have := (code[i.toNat]'(by omega)).toNat_lt
    exact ⟨_, rfl, by rw [wrap_ok (by omega) (by omega)]; omega⟩
  · rw [decide_eq_false c]
    simp only [Bool.false_eq_true, if_false]
    rw [wrap_ok (n := i * 37) (by omega) (by omega), wrap_ok (n := ((code.length : Nat) : Int) * 11) (by omega) (by omega), wrap_ok (by omega) (by omega)]
    have h1 : 0 ≤ Int.tmod (i * 37 + ((code.length : Nat) : Int) * 11) 256 := Int.tmod_nonneg _ (by omega)
    have h2 : Int.tmod (i * 37 + ((code.length : Nat) : Int) * 11) 256 < 256 := Int.tmod_lt_of_pos _ (by omega)
    exact ⟨_, rfl, h1, by omega⟩
theorem big_eq (code : List UInt8) : laws_big code = some (decide (((code.length : Nat) : Int) > 1048576)) := rfl

theorem l1Text_ok (b : List UInt8) (i h most : Int) (hm : 0 ≤ most ∧ most ≤ 1000) (hi : 0 ≤ i ∧ i ≤ b.length) (hb : b.length ≤ 1048576) : ∃ s i' h', spec_l1Text { b := b, i := i, h := h } most = some (s, { b := b, i := i', h := h' }) ∧ s.length ≤ 1000 ∧ (0 ≤ i' ∧ i' ≤ b.length) := by
  unfold spec_l1Text
  obtain ⟨x1, i1, h1, e1, _, k1⟩ := l1Below_ok b i h 4 hi hb
  simp only [e1, Option.bind_some]
  rw [wrap_ok (n := most + 1) (by omega) (by omega)]
  obtain ⟨x2, i2, h2, e2, g2, k2⟩ := l1Below_ok b i1 h1 (most + 1) k1 hb
  simp only [e2, Option.bind_some]
  have hx2 := g2.2.1 (by omega)
  obtain ⟨r, hr, p, q, s, rfl, hq⟩ := loopO_total (ρ := Ctl (Int × Int × List UInt8) (List UInt8 × L1Cur)) (s0 := (i2, h2, x2, ([] : List UInt8))) (body := fun (S8 : Int × Int × Int × List UInt8) => if (decide (S8.2.2.1 > (0 : Int))) = true then ((spec_l1Byte ({ b := b, i := S8.1, h := S8.2.1 : L1Cur })).bind fun R13 =>
  bindC (if (decide (x1 = (1 : Int))) = true then (some (.go (Int.tmod R13.1 (2 : Int))))
  else (some (.go R13.1)))
  (fun (T16 : Int) => bindC (if (decide (x1 = (2 : Int))) = true then (some (.go (IntKind.i64.wrap ((97 : Int) + (Int.tmod T16 (4 : Int))))))
  else (some (.go T16)))
  (fun (T19 : Int) => (app 1 S8.2.2.2 ([toU8 T19])).bind fun E24 =>
  some (.go (R13.2.i, R13.2.h, IntKind.i64.wrap (S8.2.2.1 - (1 : Int)), E24)))))
  else (some (.done (.go (S8.1, S8.2.1, S8.2.2.2)))))
    (fun k S => (0 ≤ S.1 ∧ S.1 ≤ b.length) ∧ S.2.2.1 = x2 - (k : Int) ∧ S.2.2.2.length = k) x2.toNat (fun r => ∃ p q s, r = .go (p, q, s) ∧ (s.length ≤ 1000 ∧ 0 ≤ p ∧ p ≤ b.length)) ⟨k2, by simp, rfl⟩ (by
      rintro k ⟨p, q, m, s⟩ hk ⟨h3, h4, h5⟩
      simp only at h3 h4 h5
      subst h4
      left
      simp only
      rw [if_pos (by simp only [decide_eq_true_eq]; omega)]
      obtain ⟨x3, i3, h3', e3, _, k3⟩ := l1Byte_ok b p q h3 hb
      rw [e3]
      simp only [Option.bind_some]
      have key : ∃ t : Int, (bindC (if (decide (x1 = (1 : Int))) = true then (some (Ctl.go (Int.tmod x3 (2 : Int)))) else (some (Ctl.go x3)))
        (fun (T16 : Int) => bindC (if (decide (x1 = (2 : Int))) = true then (some (Ctl.go (IntKind.i64.wrap ((97 : Int) + (Int.tmod T16 (4 : Int)))))) else (some (Ctl.go T16)))
        (fun (T19 : Int) => (app 1 s ([toU8 T19])).bind fun E24 => some (Ctl.go (ρ := Ctl (Int × Int × List UInt8) (List UInt8 × L1Cur)) (i3, h3', IntKind.i64.wrap (x2 - (k : Int) - (1 : Int)), E24))))) = some (.go (i3, h3', IntKind.i64.wrap (x2 - (k : Int) - (1 : Int)), s ++ [toU8 t])) := by
        cases decide (x1 = 1) <;> cases decide (x1 = 2) <;> simp only [Bool.false_eq_true, if_false, if_true, bindC_go] <;> rw [app_ok (by simp; omega) (by simp; omega)] <;> exact ⟨_, rfl⟩
      obtain ⟨t, ht⟩ := key
      rw [ht]
      exact ⟨_, rfl, k3, by simp only; rw [wrap_ok (by omega) (by omega)]; omega, by simp; omega⟩) (by
      rintro ⟨p, q, m, s⟩ ⟨h3, h4, h5⟩
      simp only at h3 h4 h5
      subst h4
      simp only
      rw [if_neg (by simp only [decide_eq_true_eq]; omega)]
      exact ⟨_, rfl, p, q, s, rfl, by omega, h3⟩)
  rw [hr]
  exact ⟨s, p, q, rfl, hq.1, hq.2⟩
theorem l1Spoil_ok (b : List UInt8) (i h : Int) (s : List UInt8) (hs : s.length ≤ 1048576) (hi : 0 ≤ i ∧ i ≤ b.length) (hb : b.length ≤ 1048576) : ∃ t i' h', spec_l1Spoil { b := b, i := i, h := h } s = some (t, { b := b, i := i', h := h' }) ∧ t.length ≤ s.length + 1000 ∧ (0 ≤ i' ∧ i' ≤ b.length) := by
  unfold spec_l1Spoil
  by_cases h0 : s.length = 0
  · obtain ⟨t, i1, h1, e1, g1, k1⟩ := l1Text_ok b i h 3 (by omega) hi hb
    rw [decide_eq_true (by omega : ((s.length : Nat) : Int) = 0)]
    simp only [if_true, e1, Option.bind_some]
    exact ⟨t, i1, h1, rfl, by omega, k1⟩
  · rw [decide_eq_false (by omega : ¬ ((s.length : Nat) : Int) = 0)]
    obtain ⟨x1, i1, h1, e1, g1, k1⟩ := l1Below_ok b i h ((s.length : Nat) : Int) hi hb
    have hx1 := g1.2.1 (by omega)
    obtain ⟨x2, i2, h2, e2, g2, k2⟩ := l1Below_ok b i1 h1 4 k1 hb
    simp only [Bool.false_eq_true, if_false, e1, e2, Option.bind_some]
    obtain ⟨n, rfl⟩ : ∃ n : Nat, x1 = (n : Int) := ⟨x1.toNat, by omega⟩
    have s1 : ssub s 0 (n : Int) = some (s.take n) := ssub_nat s 0 n (by omega) (by omega)
    have s2 : ssub s (IntKind.i64.wrap ((n : Int) + (1 : Int))) (s.length : Int) = some (s.drop (n + 1)) := by
      rw [wrap_ok (by omega) (by omega)]; exact ssub_end s (n + 1) (by omega)
    have s3 : ssub s (n : Int) (s.length : Int) = some (s.drop n) := ssub_end s n (by omega)
    simp only [s1, s2, s3, sidx_nat s n (by omega), Option.bind_some]
    by_cases c0 : x2 = 0
    · rw [decide_eq_true c0]
      simp only [if_true]
      rw [cat_ok (by simp; omega)]
      exact ⟨_, _, _, rfl, by simp; omega, k2⟩
    · rw [decide_eq_false c0]
      simp only [Bool.false_eq_true, if_false]
      by_cases c1 : x2 = 1
      · rw [decide_eq_true c1]
        obtain ⟨x3, i3, h3, e3, _, k3⟩ := l1Byte_ok b i2 h2 k2 hb
        simp only [if_true, e3, Option.bind_some]
        rw [cat_ok (by simp; omega)]
        simp only [Option.bind_some]
        rw [cat_ok (by simp; omega)]
        exact ⟨_, _, _, rfl, by simp; omega, k3⟩
      · rw [decide_eq_false c1]
        simp only [Bool.false_eq_true, if_false]
        by_cases c2 : x2 = 2
        · rw [decide_eq_true c2]
          exact ⟨_, _, _, rfl, by simp; omega, k2⟩
        · rw [decide_eq_false c2]
          obtain ⟨x3, i3, h3, e3, _, k3⟩ := l1Below_ok b i2 h2 255 k2 hb
          simp only [Bool.false_eq_true, if_false, e3, Option.bind_some]
          rw [cat_ok (by simp; omega)]
          simp only [Option.bind_some]
          rw [cat_ok (by simp; omega)]
          exact ⟨_, _, _, rfl, by simp; omega, k3⟩
theorem xor_ne (p q : UInt8) (h : q ≠ 0) : p ^^^ q ≠ p := by
  intro e
  apply h
  have := congrArg (fun z => p ^^^ z) e
  simp only [← UInt8.xor_assoc, UInt8.xor_self, UInt8.zero_xor] at this
  exact this
def okS (l : List Int) : Bool := decide (1 ≤ l.length ∧ l.length ≤ 40) && l.all fun x => decide (0 ≤ x ∧ x ≤ 99)
theorem okS_iff {l : List Int} : okS l = true ↔ (1 ≤ l.length ∧ l.length ≤ 40) ∧ ∀ x ∈ l, 0 ≤ x ∧ x ≤ 99 := by
  unfold okS
  simp only [Bool.and_eq_true, decide_eq_true_eq, List.all_eq_true]
theorem setAll_cons (who : Int) (l : List Int) (i : Nat) (g : List Nat) : setAll who l (i :: g) = setAll who (l.set i who) g := rfl
theorem setAll_set (who v : Int) (i : Nat) : ∀ (g : List Nat) (l : List Int), i ∉ g → (setAll who l g).set i v = setAll who (l.set i v) g
  | [], _, _ => rfl
  | j :: g, l, h => by
    have hij : i ≠ j := fun e => h (by rw [e]; simp)
    rw [setAll_cons, setAll_cons, setAll_set who v i g _ (fun e => h (by simp [e])), List.set_comm _ _ (Ne.symm hij)]
theorem setAll_out (who : Int) (i : Nat) : ∀ (g : List Nat) (l : List Int), i ∉ g → (setAll who l g)[i]? = l[i]?
  | [], _, _ => rfl
  | j :: g, l, h => by
    have hij : j ≠ i := fun e => h (by rw [e]; simp)
    rw [setAll_cons, setAll_out who i g _ (fun e => h (by simp [e])), List.getElem?_set_ne hij]
theorem setAll_in (who : Int) (i : Nat) : ∀ (g : List Nat) (l : List Int), i ∈ g → i < l.length → (setAll who l g)[i]? = some who
  | j :: g, l, h, hi => by
    rw [setAll_cons]
    by_cases hg : i ∈ g
    · exact setAll_in who i g _ hg (by rw [List.length_set]; exact hi)
    · have hij : i = j := by
        rcases List.mem_cons.1 h with h | h
        · exact h
        · exact absurd h hg
      subst hij
      rw [setAll_out who i g _ hg, List.getElem?_set_self hi]
theorem give_back (who : Int) (hw : 1 ≤ who) : ∀ (g : List Nat) (l : List Int), g.Nodup → (∀ i ∈ g, l[i]? = some 0) → giveV who (g.map fun (i : Nat) => (i : Int)) (setAll who l g) = some l
  | [], l, _, _ => rfl
  | i :: g, l, hn, h0 => by
    obtain ⟨hi, hg⟩ := List.nodup_cons.1 hn
    have h1 := h0 i (by simp)
    obtain ⟨hlt, hv⟩ := List.getElem?_eq_some_iff.1 h1
    rw [List.map_cons, giveV_cons, setAll_cons]
    have hat : (setAll who (l.set i who) g)[i]? = some who := by rw [setAll_out who i g _ hi, List.getElem?_set_self hlt]
    rw [Int.toNat_natCast, if_pos ⟨by omega, by rw [setAll_length, List.length_set]; omega, hat, hw⟩, setAll_set who 0 i g _ hi, List.set_set]
    have hset : l.set i 0 = l := by
      apply List.ext_getElem?
      intro j
      by_cases e : i = j
      · subst e; rw [List.getElem?_set_self hlt, h1]
      · rw [List.getElem?_set_ne e]
    rw [hset]
    exact give_back who hw g l hg fun j hj => h0 j (by simp [hj])
theorem count_set (who : Int) (hw : 1 ≤ who) (l : List Int) (i : Nat) (h : l[i]? = some 0) : (l.set i who).countP (fun x => decide (x = who)) = l.countP (fun x => decide (x = who)) + 1 := by
  induction l generalizing i with
  | nil => simp at h
  | cons x l ih =>
    cases i with
    | zero =>
      simp only [List.getElem?_cons_zero, Option.some.injEq] at h
      subst h
      rw [List.set_cons_zero, List.countP_cons, List.countP_cons]
      have : ¬ (0 : Int) = who := by omega
      simp [this]
    | succ i =>
      rw [List.set_cons_succ, List.countP_cons, List.countP_cons, ih i (by simpa using h)]
      omega
theorem count_setAll (who : Int) (hw : 1 ≤ who) : ∀ (g : List Nat) (l : List Int), g.Nodup → (∀ i ∈ g, l[i]? = some 0) → (setAll who l g).countP (fun x => decide (x = who)) = l.countP (fun x => decide (x = who)) + g.length
  | [], l, _, _ => rfl
  | i :: g, l, hn, h0 => by
    obtain ⟨hi, hg⟩ := List.nodup_cons.1 hn
    have h1 := h0 i (by simp)
    rw [setAll_cons, count_setAll who hw g _ hg, count_set who hw l i h1, List.length_cons]
    · omega
    · intro j hj
      have hij : i ≠ j := fun e => hi (by rw [e]; exact hj)
      rw [List.getElem?_set_ne hij]
      exact h0 j (by simp [hj])
theorem freeIx_zero (l : List Int) (n : Int) : ∀ k, ∀ i ∈ freeIx l n k, l[i]? = some 0
  | 0, i, h => by simp [freeIx] at h
  | k + 1, i, h => by
    unfold freeIx at h
    split at h
    · rename_i hc
      rcases List.mem_append.1 h with h | h
      · exact freeIx_zero l n k i h
      · have : i = k := by simpa using h
        rw [this]; exact hc.1
    · exact freeIx_zero l n k i h
theorem freeIx_nodup (l : List Int) (n : Int) : ∀ k, (freeIx l n k).Nodup
  | 0 => List.nodup_nil
  | k + 1 => by
    unfold freeIx
    split
    · refine List.nodup_append.2 ⟨freeIx_nodup l n k, by simp, fun x hx y hy e => ?_⟩
      have h1 := freeIx_lt l n k x hx
      have : y = k := by simpa using hy
      omega
    · exact freeIx_nodup l n k
theorem freeIx_le (l : List Int) (n : Int) (hn : 0 ≤ n) : ∀ k, ((freeIx l n k).length : Int) ≤ n
  | 0 => by simpa [freeIx] using hn
  | k + 1 => by
    have := freeIx_le l n hn k
    unfold freeIx
    split
    · rename_i hc
      rw [List.length_append, List.length_singleton]
      omega
    · exact this
theorem okS_setAll {l : List Int} {who : Int} {g : List Nat} (h : okS l = true) (hw : 1 ≤ who ∧ who ≤ 99) : okS (setAll who l g) = true := by
  obtain ⟨h1, h2⟩ := okS_iff.1 h
  rw [okS_iff, setAll_length]
  refine ⟨h1, ?_⟩
  have key : ∀ (g : List Nat) (l : List Int), (∀ x ∈ l, 0 ≤ x ∧ x ≤ 99) → ∀ x ∈ setAll who l g, 0 ≤ x ∧ x ≤ 99 := by
    intro g
    induction g with
    | nil => intro l h x hx; exact h x hx
    | cons i g ih =>
      intro l h x hx
      rw [setAll_cons] at hx
      refine ih _ (fun y hy => ?_) x hx
      rcases List.mem_or_eq_of_mem_set hy with hy | hy
      · exact h y hy
      · omega
  exact key g l h2
theorem okS_wipe {l : List Int} {who : Int} (h : okS l = true) : okS (wipeV who l) = true := by
  obtain ⟨h1, h2⟩ := okS_iff.1 h
  rw [okS_iff]
  unfold wipeV
  rw [List.length_map]
  refine ⟨h1, fun x hx => ?_⟩
  obtain ⟨y, hy, rfl⟩ := List.mem_map.1 hx
  split
  · omega
  · exact h2 y hy
/-- one file ahead of another, apart from it -/
def relF (a b : File) : Prop := aheadV a b = true ∧ overV a b = false
theorem over_false {a b : File} (h : overV a b = false) (h0 : b.Level > 0) (hl : a.Level = b.Level) : sLt a.Hi b.Lo = true := by
  unfold overV at h
  rw [decide_eq_true h0, decide_eq_true hl] at h
  simp only [Bool.true_and] at h
  have := sLt_compl a.Hi b.Lo
  rw [h] at this
  cases hx : sLt a.Hi b.Lo with
  | true => rfl
  | false => rw [hx] at this; cases this
theorem ahead_level {a b : File} (h : aheadV a b = true) : a.Level ≤ b.Level := by
  unfold aheadV at h
  by_cases c : a.Level = b.Level
  · omega
  · rw [if_neg c] at h
    have := of_decide_eq_true h
    omega
theorem ahead_trans {a b c : File} (h1 : aheadV a b = true) (h2 : aheadV b c = true) : aheadV a c = true := by
  have l1 := ahead_level h1
  have l2 := ahead_level h2
  unfold aheadV at h1 h2 ⊢
  by_cases e1 : a.Level = b.Level
  · by_cases e2 : b.Level = c.Level
    · rw [if_pos e1] at h1
      rw [if_pos e2] at h2
      rw [if_pos (e1.trans e2)]
      by_cases z : a.Level = 0
      · rw [if_pos z] at h1
        rw [if_pos (by omega)] at h2
        rw [if_pos z]
        have := of_decide_eq_true h1
        have := of_decide_eq_true h2
        exact decide_eq_true (by omega)
      · rw [if_neg z] at h1
        rw [if_neg (by omega)] at h2
        rw [if_neg z]
        exact sLt_trans h1 h2
    · rw [if_neg (by omega)]
      exact decide_eq_true (by omega)
  · rw [if_neg (by omega)]
    exact decide_eq_true (by omega)
theorem file_le {f : File} (h : fileV f = true) : sLt f.Lo f.Hi = true ∨ f.Lo = f.Hi := by
  unfold fileV at h
  simp only [Bool.and_eq_true, Bool.or_eq_true, decide_eq_true_eq] at h
  exact h.2.2.2.2
theorem relF_trans {a b c : File} (hb : fileV b = true) (h1 : relF a b) (h2 : relF b c) : relF a c := by
  refine ⟨ahead_trans h1.1 h2.1, ?_⟩
  cases ho : overV a c with
  | false => rfl
  | true =>
    unfold overV at ho
    simp only [Bool.and_eq_true, Bool.or_eq_true, decide_eq_true_eq] at ho
    obtain ⟨o1, o2, o3⟩ := ho
    have l1 := ahead_level h1.1
    have l2 := ahead_level h2.1
    have p1 := over_false h1.2 (by omega) (by omega)
    have p2 := over_false h2.2 o1 (by omega)
    have p3 : sLt a.Hi c.Lo = true := by
      rcases file_le hb with q | q
      · exact sLt_trans (sLt_trans p1 q) p2
      · rw [q] at p1; exact sLt_trans p1 p2
    rcases o3 with q | q
    · have := sLt_trans p3 q
      rw [sLt_irrefl] at this
      cases this
    · rw [q, sLt_irrefl] at p3
      cases p3
theorem filesV_iff (l : List File) : filesV l = true ↔ l.length ≤ 12 ∧ (∀ f ∈ l, fileV f = true) ∧ l.Pairwise (fun a b => relF a b ∧ a.No ≠ b.No) := by
  constructor
  · intro hv
    have hf : ∀ k (hk : k < l.length), fileV l[k] = true := fun k hk => fileV_of hv k hk
    refine ⟨files_le hv, fun f hf' => ?_, ?_⟩
    · obtain ⟨k, hk, rfl⟩ := List.getElem_of_mem hf'
      exact hf k hk
    · rw [List.pairwise_iff_getElem]
      have key : ∀ (j : Nat) (hj : j < l.length) (i : Nat) (hi : i < j), relF (l[i]'(by omega)) l[j] := by
        intro j
        induction j with
        | zero => intro _ i hi; omega
        | succ j ih =>
          intro hj i hi
          have hp : relF (l[j]'(by omega)) l[j + 1] := by
            unfold filesV at hv
            rw [Bool.and_eq_true, List.all_eq_true] at hv
            have := hv.2 (j + 1) (by simpa using hj)
            rw [passV_at l (j + 1) hj, dif_pos (by omega)] at this
            simp only [Bool.and_eq_true, Bool.not_eq_true', Nat.add_sub_cancel] at this
            exact this.2.1
          by_cases e : i = j
          · subst e; exact hp
          · exact relF_trans (hf j (by omega)) (ih (by omega) i (by omega)) hp
      intro i j hi hj hij
      exact ⟨key j hj i hij, files_distinct hv i j hi hj (by omega)⟩
  · rintro ⟨h1, h2, h3⟩
    rw [List.pairwise_iff_getElem] at h3
    unfold filesV
    rw [decide_eq_true h1, Bool.true_and, List.all_eq_true]
    intro k hk
    have hk' : k < l.length := by simpa using hk
    rw [passV_at l k hk', h2 _ (List.getElem_mem hk')]
    have hall : ((l.take k).all fun g => decide (g.No ≠ l[k].No)) = true := by
      rw [List.all_eq_true]
      intro g hg
      obtain ⟨i, hi, rfl⟩ := List.getElem_of_mem hg
      have hik : i < k := by simp at hi; omega
      rw [List.getElem_take]
      exact decide_eq_true (h3 i k (by omega) hk' hik).2
    rw [hall]
    by_cases h0 : 0 < k
    · rw [dif_pos h0]
      obtain ⟨⟨r1, r2⟩, _⟩ := h3 (k - 1) k (by omega) hk' (by omega)
      rw [r1, r2]
      rfl
    · rw [dif_neg h0]
      rfl
theorem dropF_files {l : List File} (h : filesV l = true) (no : Int) : filesV (dropF l no) = true := by
  obtain ⟨h1, h2, h3⟩ := (filesV_iff l).1 h
  rw [filesV_iff]
  unfold dropF
  exact ⟨Nat.le_trans (List.length_filter_le _ _) h1, fun f hf => h2 f (List.mem_filter.1 hf).1, h3.filter _⟩
theorem dropR_files (l : List File) (no : Int) (h : filesV l = true) : filesV (filesDropR l no).1 = true := by
  unfold filesDropR
  rw [if_pos h]
  exact dropF_files h no
theorem editR_files {l : List File} {e : Edit} (hl : filesV l = true) (h : (editR l e).2 = true) : filesV (editR l e).1 = true := by
  unfold editR at h ⊢
  rw [hl] at h ⊢
  simp only [cond_true] at h ⊢
  cases hr : runF filesDropR (l, false) e.Drop l with
  | done r => simp only; rw [runF_done _ _ _ _ _ hr]; exact hl
  | go x =>
    have hx := runF_go filesDropR (l, false) (fun x => filesV x = true) (fun x no hx _ => dropR_files x no hx) e.Drop l x hl hr
    simp only
    cases hr2 : runF addV (l, false) e.Add x with
    | done r => simp only; rw [runF_done _ _ _ _ _ hr2]; exact hl
    | go y => exact runF_go addV (l, false) (fun x => filesV x = true) (fun x f hx h2 => addV_files x f (by have := files_le hx; omega) h2) e.Add x y hx hr2
/-- the files behind the first k edits of a log -/
noncomputable def stR (log : List (List UInt8)) : Nat → List File
  | 0 => []
  | k + 1 => match log[k]? with
    | some s => (editR (stR log k) (readE s).1).1
    | none => stR log k
noncomputable def okR (log : List (List UInt8)) (k : Nat) : Bool := match log[k]? with
  | some s => (readE s).2 && (editR (stR log k) (readE s).1).2
  | none => false
theorem stR_succ (log : List (List UInt8)) (k : Nat) (h : k < log.length) : stR log (k + 1) = (editR (stR log k) (readE log[k]).1).1 := by
  show (match log[k]? with | some s => _ | none => _) = _
  rw [List.getElem?_eq_getElem h]
theorem okR_at (log : List (List UInt8)) (k : Nat) (h : k < log.length) : okR log k = ((readE log[k]).2 && (editR (stR log k) (readE log[k]).1).2) := by
  unfold okR
  rw [List.getElem?_eq_getElem h]
theorem replay_run (log : List (List UInt8)) : ∀ (d k : Nat), k + d = log.length → (∀ i, i < k → okR log i = true) → ∃ n, k ≤ n ∧ n ≤ log.length ∧ replayR k (log.drop k) (stR log k) = (stR log n, (n : Int)) ∧ (∀ i, i < n → okR log i = true) ∧ (n < log.length → okR log n = false)
  | 0, k, h, hk => by
    refine ⟨k, Nat.le_refl _, by omega, ?_, hk, fun h2 => by omega⟩
    rw [List.drop_of_length_le (by omega)]
    rfl
  | d + 1, k, h, hk => by
    have hk2 : k < log.length := by omega
    rw [List.drop_eq_getElem_cons hk2, replayR, ← okR_at log k hk2]
    cases hc : okR log k with
    | false => exact ⟨k, Nat.le_refl _, by omega, rfl, hk, fun _ => hc⟩
    | true =>
      obtain ⟨n, n1, n2, n3, n4, n5⟩ := replay_run log d (k + 1) (by omega) (fun i hi => by
        by_cases e : i = k
        · subst e; exact hc
        · exact hk i (by omega))
      rw [stR_succ log k hk2] at n3
      exact ⟨n, by omega, n2, n3, n4, n5⟩
theorem stR_take (log : List (List UInt8)) (k : Nat) : ∀ i, i ≤ k → stR (log.take k) i = stR log i
  | 0, _ => rfl
  | i + 1, h => by
    show (match (log.take k)[i]? with | some s => _ | none => _) = (match log[i]? with | some s => _ | none => _)
    rw [List.getElem?_take, if_pos (by omega), stR_take log k i (by omega)]
theorem okR_take (log : List (List UInt8)) (k i : Nat) (h : i < k) : okR (log.take k) i = okR log i := by
  unfold okR
  rw [List.getElem?_take, if_pos h, stR_take log k i (by omega)]
theorem replay_take {log : List (List UInt8)} {k : Nat} (hk : k ≤ log.length) (h : ∀ i, i < k → okR log i = true) : replayR 0 (log.take k) [] = (stR log k, (k : Int)) := by
  have hl : (log.take k).length = k := by rw [List.length_take]; omega
  obtain ⟨n, n1, n2, n3, n4, n5⟩ := replay_run (log.take k) k 0 (by omega) (fun i hi => by omega)
  have hn : n = k := by
    rcases Nat.lt_or_ge n k with h1 | h1
    · have h2 := n5 (by omega)
      rw [okR_take log k n h1, h n h1] at h2
      cases h2
    · omega
  rw [List.drop_zero] at n3
  have : stR (log.take k) 0 = [] := rfl
  rw [this, hn, stR_take log k k (Nat.le_refl _)] at n3
  exact n3
theorem stR_files (log : List (List UInt8)) : ∀ n, (∀ i, i < n → okR log i = true) → n ≤ log.length → filesV (stR log n) = true
  | 0, _, _ => by rw [filesV_iff]; exact ⟨by simp [stR], by simp [stR], List.Pairwise.nil⟩
  | n + 1, h, hn => by
    have h1 := stR_files log n (fun i hi => h i (by omega)) (by omega)
    have h2 := h n (by omega)
    rw [okR_at log n (by omega), Bool.and_eq_true] at h2
    rw [stR_succ log n (by omega)]
    exact editR_files h1 h2.2

/-! draws of files and edits -/
theorem bindC_ite {τ R : Type} (c : Prop) [Decidable c] (x y : τ) (k : τ → Option R) : bindC (if c then some (.go x) else some (.go y)) k = k (if c then x else y) := by
  split <;> rfl
theorem loopO_G {τ ρ R : Type} {body : τ → Option (Ctl τ (Ctl ρ R))} {s0 : τ} {f : ρ → Option R} (G : Option R → Prop) (I : Nat → τ → Prop) (n : Nat) (Q : Ctl ρ R → Prop) (h0 : I 0 s0)
    (h : ∀ k s, k < n → I k s → (∃ s', body s = some (.go s') ∧ I (k + 1) s') ∨ (∃ r, body s = some (.done r) ∧ Q r)) (hn : ∀ s, I n s → ∃ r, body s = some (.done r) ∧ Q r)
    (hk : ∀ r, Q r → G (bindC (some r) f)) : G (bindC (loopO body s0) f) := by
  obtain ⟨r, hr, hq⟩ := loopO_total I n Q h0 h hn
  rw [hr]
  exact hk r hq
theorem l1Pick_ok (b : List UInt8) (i h : Int) (l : List (List UInt8)) (hl : l ≠ []) (hi : 0 ≤ i ∧ i ≤ b.length) (hb : b.length ≤ 1048576) : ∃ x i' h', spec_l1Pick { b := b, i := i, h := h } l = some (x, { b := b, i := i', h := h' }) ∧ x ∈ l ∧ (0 ≤ i' ∧ i' ≤ b.length) := by
  unfold spec_l1Pick
  have hp := List.length_pos_iff.2 hl
  obtain ⟨x, i1, h1, e, g, k⟩ := l1Below_ok b i h ((l.length : Nat) : Int) hi hb
  simp only [e, Option.bind_some]
  rw [idx_some' g.1 (g.2.1 (by omega))]
  simp only [Option.bind_some]
  exact ⟨_, _, _, rfl, List.getElem_mem _, k⟩
theorem l7Key_ok (b : List UInt8) (i h : Int) (hi : 0 ≤ i ∧ i ≤ b.length) (hb : b.length ≤ 1048576) : ∃ x i' h', spec_l7Key { b := b, i := i, h := h } = some (x, { b := b, i := i', h := h' }) ∧ x.length ≤ 3 ∧ (0 ≤ i' ∧ i' ≤ b.length) := by
  unfold spec_l7Key
  obtain ⟨x, i1, h1, e, g, k⟩ := l1Pick_ok b i h [[97], [98], [97, 98], [97, 98, 99], [98, 48], [99], [0], [122, 122]] (by simp) hi hb
  simp only [e, Option.bind_some]
  have : ∀ x ∈ ([[97], [98], [97, 98], [97, 98, 99], [98, 48], [99], [0], [122, 122]] : List (List UInt8)), x.length ≤ 3 := by decide
  exact ⟨_, _, _, rfl, this x g, k⟩
theorem l16File_ok (b : List UInt8) (i h : Int) (hi : 0 ≤ i ∧ i ≤ b.length) (hb : b.length ≤ 1048576) : ∃ f i' h', spec_l16File { b := b, i := i, h := h } = some (f, { b := b, i := i', h := h' }) ∧ (0 ≤ i' ∧ i' ≤ b.length) := by
  unfold spec_l16File
  obtain ⟨x1, i1, h1, e1, g1, k1⟩ := l1Below_ok b i h 12 hi hb
  simp only [e1, Option.bind_some]
  obtain ⟨x2, i2, h2, e2, g2, k2⟩ := l1Below_ok b i1 h1 3 k1 hb
  simp only [e2, Option.bind_some]
  obtain ⟨x3, i3, h3, e3, g3, k3⟩ := l7Key_ok b i2 h2 k2 hb
  simp only [e3, Option.bind_some]
  obtain ⟨x4, i4, h4, e4, g4, k4⟩ := l1Pick_ok b i3 h3 [[], [48], [122], [109]] (by simp) k3 hb
  have l4 : x4.length ≤ 1 := (by decide : ∀ x ∈ ([[], [48], [122], [109]] : List (List UInt8)), x.length ≤ 1) x4 g4
  simp only [e4, Option.bind_some]
  rw [cat_ok (by omega)]
  simp only [Option.bind_some]
  obtain ⟨x5, i5, h5, e5, k5⟩ := l1Once_ok b i4 h4 4 k4 hb
  simp only [e5, Option.bind_some]
  rw [bindC_ite]
  generalize (if x5 = true then ([122, 122] : List UInt8) else x3 ++ x4) = T
  obtain ⟨x6, i6, h6, e6, k6⟩ := l1Once_ok b i5 h5 15 k5 hb
  simp only [e6, Option.bind_some]
  cases x6 with
  | false =>
    simp only [Bool.false_eq_true, if_false, bindC_go]
    exact ⟨_, _, _, rfl, k6⟩
  | true =>
    obtain ⟨x7, i7, h7, e7, g7, k7⟩ := l1Below_ok b i6 h6 3 k6 hb
    simp only [if_true, e7, Option.bind_some]
    by_cases c0 : x7 = 0
    · rw [decide_eq_true c0]
      obtain ⟨x8, i8, h8, e8, g8, k8⟩ := l1PickInt_ok b i7 h7 [0, 1000000, 1000001] (by simp) k7 hb
      simp only [if_true, e8, Option.bind_some, bindC_go]
      exact ⟨_, _, _, rfl, k8⟩
    · rw [decide_eq_false c0]
      simp only [Bool.false_eq_true, if_false]
      by_cases c1 : x7 = 1
      · rw [decide_eq_true c1]
        obtain ⟨x8, i8, h8, e8, g8, k8⟩ := l1PickInt_ok b i7 h7 [-1, 3] (by simp) k7 hb
        simp only [if_true, e8, Option.bind_some, bindC_go]
        exact ⟨_, _, _, rfl, k8⟩
      · rw [decide_eq_false c1]
        obtain ⟨x8, i8, h8, e8, g8, k8⟩ := l1Pick_ok b i7 h7 [[], [97, 97, 97, 97, 97, 97, 97, 97, 97, 97, 97]] (by simp) k7 hb
        simp only [Bool.false_eq_true, if_false, e8, Option.bind_some, bindC_go]
        exact ⟨_, _, _, rfl, k8⟩
theorem l17Edit_ok (b : List UInt8) (i h : Int) (l : List File) (hl : l.length ≤ 1000) (hi : 0 ≤ i ∧ i ≤ b.length) (hb : b.length ≤ 1048576) : ∃ e i' h', spec_l17Edit { b := b, i := i, h := h } l = some (e, { b := b, i := i', h := h' }) ∧ (e.Add.length ≤ 2 ∧ e.Drop.length ≤ 1001) ∧ (0 ≤ i' ∧ i' ≤ b.length) := by
  unfold spec_l17Edit
  refine loopO_G (τ := Int × Int × Int × List Int) (ρ := Int × Int × List Int) (R := Edit × L1Cur) (G := fun o => ∃ e i' h', o = some (e, { b := b, i := i', h := h' }) ∧ (e.Add.length ≤ 2 ∧ e.Drop.length ≤ 1001) ∧ (0 ≤ i' ∧ i' ≤ b.length)) (I := fun k S => (0 ≤ S.1 ∧ S.1 ≤ b.length) ∧ S.2.2.1 = (k : Int) ∧ S.2.2.2.length ≤ k) l.length (Q := fun r => ∃ p q a, r = .go (p, q, a) ∧ (0 ≤ p ∧ p ≤ b.length) ∧ a.length ≤ l.length) ⟨hi, rfl, by simp⟩ ?_ ?_ ?_
  · rintro k ⟨p, q, c, a⟩ hk ⟨a1, a2, a3⟩
    simp only at a1 a2 a3
    subst a2
    left
    obtain ⟨x1, i1, h1, e1, k1⟩ := l1Once_ok b p q 5 a1 hb
    simp only [e1, Option.bind_some, idx_nat l k hk]
    rw [if_pos (by simpa using hk), wrap_ok (n := (k : Int) + 1) (by omega) (by omega)]
    cases x1 with
    | false => exact ⟨_, rfl, k1, by simp, by simp only; omega⟩
    | true =>
      rw [app_ok (by simp; omega) (by simp; omega)]
      exact ⟨_, rfl, k1, by simp, by simp; omega⟩
  · rintro ⟨p, q, c, a⟩ ⟨a1, a2, a3⟩
    simp only at a1 a2 a3
    subst a2
    exact ⟨_, by simp only; rw [if_neg (by simp)], p, q, a, rfl, a1, a3⟩
  rintro _ ⟨p, q, a, rfl, a1, a3⟩
  obtain ⟨x2, i2, h2, e2, g2, k2⟩ := l1Below_ok b p q 3 a1 hb
  have hx2 := g2.2.1 (by omega)
  simp only [bindC_go, e2, Option.bind_some]
  refine loopO_G (τ := Int × Int × Int × List File) (ρ := Int × Int × List File) (R := Edit × L1Cur) (G := fun o => ∃ e i' h', o = some (e, { b := b, i := i', h := h' }) ∧ (e.Add.length ≤ 2 ∧ e.Drop.length ≤ 1001) ∧ (0 ≤ i' ∧ i' ≤ b.length)) (I := fun k S => (0 ≤ S.1 ∧ S.1 ≤ b.length) ∧ S.2.2.1 = x2 - (k : Int) ∧ S.2.2.2.length ≤ k) x2.toNat (Q := fun r => ∃ p q a, r = .go (p, q, a) ∧ (0 ≤ p ∧ p ≤ b.length) ∧ a.length ≤ 2) ⟨k2, by simp, by simp⟩ ?_ ?_ ?_
  · rintro k ⟨p, q, c, d⟩ hk ⟨b1, b2, b3⟩
    simp only at b1 b2 b3
    subst b2
    left
    obtain ⟨x3, i3, h3, e3, k3⟩ := l16File_ok b p q b1 hb
    simp only [e3, Option.bind_some]
    rw [if_pos (by simp only [decide_eq_true_eq]; omega), app_ok (by simp; omega) (by simp; omega), wrap_ok (n := x2 - (k : Int) - 1) (by omega) (by omega)]
    exact ⟨_, rfl, k3, by simp only; omega, by simp; omega⟩
  · rintro ⟨p, q, c, d⟩ ⟨b1, b2, b3⟩
    simp only at b1 b2 b3
    exact ⟨_, by simp only; rw [if_neg (by simp only [decide_eq_true_eq]; omega)], p, q, d, rfl, b1, by omega⟩
  rintro _ ⟨p, q, d, rfl, b1, b3⟩
  obtain ⟨x4, i4, h4, e4, k4⟩ := l1Once_ok b p q 12 b1 hb
  simp only [bindC_go, e4, Option.bind_some]
  cases x4 with
  | false =>
    simp only [Bool.false_eq_true, if_false, bindC_go]
    exact ⟨_, _, _, rfl, ⟨b3, by simp only; omega⟩, k4⟩
  | true =>
    obtain ⟨x5, i5, h5, e5, g5, k5⟩ := l1PickInt_ok b i4 h4 [-1, 0, 50, 1000001] (by simp) k4 hb
    simp only [if_true, e5, Option.bind_some]
    rw [app_ok (by simp; omega) (by simp; omega)]
    simp only [Option.bind_some, bindC_go]
    exact ⟨_, _, _, rfl, ⟨b3, by simp; omega⟩, k5⟩
theorem l16Some_ok (b : List UInt8) (i h : Int) (hi : 0 ≤ i ∧ i ≤ b.length) (hb : b.length ≤ 1048576) : ∃ l i' h', spec_l16Some { b := b, i := i, h := h } = some (l, { b := b, i := i', h := h' }) ∧ l.length ≤ 12 ∧ (0 ≤ i' ∧ i' ≤ b.length) := by
  unfold spec_l16Some
  obtain ⟨x1, i1, h1, e1, g1, k1⟩ := l1Below_ok b i h 14 hi hb
  have hx1 := g1.2.1 (by omega)
  simp only [e1, Option.bind_some]
  refine loopO_G (τ := Int × Int × Int × List File) (ρ := Int × Int × List File) (R := List File × L1Cur) (G := fun o => ∃ l i' h', o = some (l, { b := b, i := i', h := h' }) ∧ l.length ≤ 12 ∧ (0 ≤ i' ∧ i' ≤ b.length)) (I := fun k S => (0 ≤ S.1 ∧ S.1 ≤ b.length) ∧ S.2.2.1 = x1 - (k : Int) ∧ S.2.2.2.length ≤ 12) x1.toNat (Q := fun r => ∃ p q a, r = .go (p, q, a) ∧ (0 ≤ p ∧ p ≤ b.length) ∧ a.length ≤ 12) ⟨k1, by simp, by simp⟩ ?_ ?_ ?_
  · rintro k ⟨p, q, c, d⟩ hk ⟨b1, b2, b3⟩
    simp only at b1 b2 b3
    subst b2
    left
    obtain ⟨x3, i3, h3, e3, k3⟩ := l16File_ok b p q b1 hb
    obtain ⟨r, hr, _, _, hr2⟩ := FilesAdd_both d x3 (by omega)
    simp only [e3, hr, Option.bind_some]
    rw [if_pos (by simp only [decide_eq_true_eq]; omega), wrap_ok (n := x1 - (k : Int) - 1) (by omega) (by omega), bindC_ite]
    refine ⟨_, rfl, k3, by simp only; omega, ?_⟩
    simp only
    split
    · rename_i h2; exact files_le (hr2 h2)
    · exact b3
  · rintro ⟨p, q, c, d⟩ ⟨b1, b2, b3⟩
    simp only at b1 b2 b3
    exact ⟨_, by simp only; rw [if_neg (by simp only [decide_eq_true_eq]; omega)], p, q, d, rfl, b1, b3⟩
  rintro _ ⟨p, q, d, rfl, b1, b3⟩
  simp only [bindC_go]
  have key : ∀ (p q : Int) (x : Bool), (x = true → 0 < d.length) → (0 ≤ p ∧ p ≤ b.length) → ∃ l i' h', bindC (if x = true then ((spec_l1Below ({ b := b, i := p, h := q : L1Cur }) ((d.length : Nat) : Int)).bind fun R28 =>
          (spec_l16File ({ b := b, i := R28.2.i, h := R28.2.h : L1Cur })).bind fun R31 =>
          (idx d R28.1).bind fun E34 =>
          some (.go (R31.2.i, R31.2.h, (d.set R28.1.toNat R31.1))))
          else (some (.go (p, q, d))))
          (fun (T25 : Int × Int × List File) => some (T25.2.2, { b := b, i := T25.1, h := T25.2.1 : L1Cur })) = some (l, { b := b, i := i', h := h' }) ∧ l.length ≤ 12 ∧ (0 ≤ i' ∧ i' ≤ b.length) := by
    intro p q x hx hp
    cases x with
    | false => exact ⟨_, _, _, rfl, b3, hp⟩
    | true =>
      obtain ⟨x4, i4, h4, e4, g4, k4⟩ := l1Below_ok b p q ((d.length : Nat) : Int) hp hb
      obtain ⟨x5, i5, h5, e5, k5⟩ := l16File_ok b i4 h4 k4 hb
      have := hx rfl
      have hlt := g4.2.1 (by omega)
      simp only [if_true, e4, e5, Option.bind_some]
      rw [idx_some' g4.1 hlt]
      simp only [Option.bind_some, bindC_go]
      exact ⟨_, _, _, rfl, by simpa using b3, k5⟩
  by_cases c : ((d.length : Nat) : Int) > 0
  · rw [decide_eq_true c]
    obtain ⟨x4, i4, h4, e4, k4⟩ := l1Once_ok b p q 12 b1 hb
    simp only [if_true, e4, Option.bind_some]
    exact key i4 h4 x4 (fun _ => by omega) k4
  · rw [decide_eq_false c]
    simp only [Bool.false_eq_true, if_false, Option.bind_some]
    exact key p q false (fun h => by cases h) b1
theorem DrawShowEdit_ok (code : List UInt8) (hb : code.length ≤ 1048576) : ∃ e, spec_DrawShowEdit code = some e := by
  unfold spec_DrawShowEdit
  obtain ⟨q, hq⟩ := l1New_ok code hb
  obtain ⟨l, i1, h1, e1, g1, k1⟩ := l16Some_ok code 0 q (by omega) hb
  obtain ⟨e, i2, h2, e2, g2, k2⟩ := l17Edit_ok code i1 h1 l (by omega) k1 hb
  simp only [hq, Option.bind_some, e1, e2]
  exact ⟨_, rfl⟩
theorem showV_len (e : Edit) : (showV e).length ≤ 704 := by
  unfold showV
  cases hv : editV e with
  | false => simp
  | true =>
    have h1 := bodyV_len hv
    have h2 := fixed4_len (crcV (bodyV e)) (crcV_range _)
    simp only [cond_true, List.length_append]
    omega
theorem DrawReadEdit_ok (code : List UInt8) (hb : code.length ≤ 1048576) : ∃ s, spec_DrawReadEdit code = some s ∧ s.length ≤ 1048576 := by
  unfold spec_DrawReadEdit
  obtain ⟨q, hq⟩ := l1New_ok code hb
  obtain ⟨l, i1, h1, e1, g1, k1⟩ := l16Some_ok code 0 q (by omega) hb
  obtain ⟨e, i2, h2, e2, g2, k2⟩ := l17Edit_ok code i1 h1 l (by omega) k1 hb
  have hs := showV_len e
  obtain ⟨x3, i3, h3, e3, k3⟩ := l1Once_ok code i2 h2 3 k2 hb
  simp only [hq, Option.bind_some, e1, e2, spec_ShowEdit_eq, e3]
  cases x3 with
  | false => exact ⟨_, rfl, by omega⟩
  | true =>
    obtain ⟨t, i4, h4, e4, g4, k4⟩ := l1Spoil_ok code i3 h3 (showV e) (by omega) k3 hb
    simp only [if_true, e4, Option.bind_some]
    exact ⟨_, rfl, by omega⟩
theorem editR_len12 {l : List File} (e : Edit) (hl : l.length ≤ 12) : (editR l e).1.length ≤ 12 := by
  cases h : (editR l e).2 with
  | true => exact editR_ok hl h
  | false =>
    unfold editR at h ⊢
    cases hv : filesV l with
    | false => simp
    | true =>
      rw [hv] at h
      simp only [cond_true] at h ⊢
      cases hr : runF filesDropR (l, false) e.Drop l with
      | done r => simp only; rw [runF_done _ _ _ _ _ hr]; exact hl
      | go x =>
        rw [hr] at h
        simp only at h ⊢
        cases hr2 : runF addV (l, false) e.Add x with
        | done r => simp only; rw [runF_done _ _ _ _ _ hr2]; exact hl
        | go y => rw [hr2] at h; cases h
theorem DrawReplay_ok (code : List UInt8) (hb : code.length ≤ 1048576) : ∃ l, spec_DrawReplay code = some l ∧ l.length ≤ 8 ∧ ∀ s ∈ l, s.length ≤ 1048576 := by
  unfold spec_DrawReplay
  obtain ⟨q0, hq⟩ := l1New_ok code hb
  obtain ⟨x1, i1, h1, e1, g1, k1⟩ := l1Below_ok code 0 q0 8 (by omega) hb
  have hx1 := g1.2.1 (by omega)
  simp only [hq, Option.bind_some, e1]
  refine loopO_G (τ := Int × Int × Int × List (List UInt8) × List File) (ρ := Int × Int × List (List UInt8)) (R := List (List UInt8)) (G := fun o => ∃ l, o = some l ∧ l.length ≤ 8 ∧ ∀ s ∈ l, s.length ≤ 1048576) (I := fun k S => (0 ≤ S.1 ∧ S.1 ≤ code.length) ∧ S.2.2.1 = x1 - (k : Int) ∧ (S.2.2.2.1.length ≤ k ∧ ∀ s ∈ S.2.2.2.1, s.length ≤ 704) ∧ S.2.2.2.2.length ≤ 12) x1.toNat (Q := fun r => ∃ p q a, r = .go (p, q, a) ∧ (0 ≤ p ∧ p ≤ code.length) ∧ a.length ≤ 8 ∧ ∀ s ∈ a, s.length ≤ 704) ⟨k1, by simp, by simp, by simp⟩ ?_ ?_ ?_
  · rintro k ⟨p, q, c, d, l⟩ hk ⟨b1, b2, b3, b4⟩
    simp only at b1 b2 b3 b4
    subst b2
    left
    obtain ⟨e, i2, h2, e2, g2, k2⟩ := l17Edit_ok code p q l (by omega) b1 hb
    have hE := spec_EditFiles_eq l e (by omega) (by omega) (by omega)
    have hn := editR_len12 e b4
    simp only [e2, hE, Option.bind_some]
    rw [if_pos (by simp only [decide_eq_true_eq]; omega), wrap_ok (n := x1 - (k : Int) - 1) (by omega) (by omega)]
    have key : ∀ (p q : Int) (x : Bool), (0 ≤ p ∧ p ≤ code.length) → ∃ s' : Int × Int × Int × List (List UInt8) × List File, bindC (if x = true then ((spec_ShowEdit e).bind fun R30 =>
          (app 16 d ([R30])).bind fun E35 =>
          some (.go (E35, (editR l e).1)))
          else (some (.go (d, l))))
          (fun (T27 : List (List UInt8) × List File) => some (.go (p, q, x1 - (k : Int) - 1, T27.1, T27.2))) = some (Ctl.go (ρ := Ctl (Int × Int × List (List UInt8)) (List (List UInt8))) s') ∧ (0 ≤ s'.1 ∧ s'.1 ≤ code.length) ∧ s'.2.2.1 = x1 - ((k + 1 : Nat) : Int) ∧ (s'.2.2.2.1.length ≤ k + 1 ∧ ∀ s ∈ s'.2.2.2.1, s.length ≤ 704) ∧ s'.2.2.2.2.length ≤ 12 := by
      intro p q x hp
      cases x with
      | false => exact ⟨_, rfl, hp, by simp only; omega, ⟨by simp only; omega, b3.2⟩, b4⟩
      | true =>
        simp only [if_true, spec_ShowEdit_eq, Option.bind_some]
        rw [app_ok (by simp; omega) (by simp; omega)]
        refine ⟨_, rfl, hp, by simp only; omega, ⟨by simp; omega, ?_⟩, hn⟩
        intro s hs
        rcases List.mem_append.1 hs with h | h
        · exact b3.2 s h
        · rw [List.mem_singleton.1 h]; exact showV_len e
    cases hc : (editR l e).2 with
    | true => exact key i2 h2 true k2
    | false =>
      obtain ⟨x3, i3, h3, e3, k3⟩ := l1Once_ok code i2 h2 10 k2 hb
      simp only [Bool.false_eq_true, if_false, e3, Option.bind_some]
      exact key i3 h3 x3 k3
  · rintro ⟨p, q, c, d, l⟩ ⟨b1, b2, b3, b4⟩
    simp only at b1 b2 b3 b4
    exact ⟨_, by simp only; rw [if_neg (by simp only [decide_eq_true_eq]; omega)], p, q, d, rfl, b1, by omega, b3.2⟩
  rintro _ ⟨p, q, d, rfl, b1, b2, b3⟩
  simp only [bindC_go]
  have key : ∀ (p q : Int) (x : Bool), (x = true → 0 < d.length) → (0 ≤ p ∧ p ≤ code.length) → ∃ l, bindC (if x = true then ((spec_l1Below ({ b := code, i := p, h := q : L1Cur }) ((d.length : Nat) : Int)).bind fun R46 =>
          (idx d R46.1).bind fun E49 =>
          (spec_l1Spoil ({ b := code, i := R46.2.i, h := R46.2.h : L1Cur }) E49).bind fun R51 =>
          some (.go (d.set R46.1.toNat R51.1)))
          else (some (.go d)))
          (fun (T43 : List (List UInt8)) => some T43) = some l ∧ l.length ≤ 8 ∧ ∀ s ∈ l, s.length ≤ 1048576 := by
    intro p q x hx hp
    cases x with
    | false => exact ⟨_, rfl, b2, fun s hs => Nat.le_trans (b3 s hs) (by omega)⟩
    | true =>
      obtain ⟨x4, i4, h4, e4, g4, k4⟩ := l1Below_ok code p q ((d.length : Nat) : Int) hp hb
      have := hx rfl
      have hlt := g4.2.1 (by omega)
      simp only [if_true, e4, Option.bind_some]
      rw [idx_some' g4.1 hlt]
      have hm := b3 _ (List.getElem_mem (l := d) (n := x4.toNat) (by omega))
      obtain ⟨t, i5, h5, e5, g5, k5⟩ := l1Spoil_ok code i4 h4 (d[x4.toNat]'(by omega)) (by omega) k4 hb
      simp only [Option.bind_some, e5, bindC_go]
      refine ⟨_, rfl, by simpa using b2, fun s hs => ?_⟩
      rcases List.mem_or_eq_of_mem_set hs with h | h
      · exact Nat.le_trans (b3 s h) (by omega)
      · rw [h]; omega
  by_cases c : ((d.length : Nat) : Int) > 0
  · rw [decide_eq_true c]
    obtain ⟨x4, i4, h4, e4, k4⟩ := l1Once_ok code p q 5 b1 hb
    simp only [if_true, e4, Option.bind_some]
    exact key i4 h4 x4 (fun _ => by omega) k4
  · rw [decide_eq_false c]
    simp only [Bool.false_eq_true, if_false, Option.bind_some]
    exact key p q false (fun h => by cases h) b1
theorem sameFiles_eq (a b : List File) (h : a.length ≤ 1048576) : laws_sameFiles a b = some (decide (a = b)) := by
  unfold laws_sameFiles
  have := eqS_of a b (fun x y => some (decide (x.No = y.No) && (decide (x.Level = y.Level) && (decide (x.Lo = y.Lo) && (decide (x.Hi = y.Hi) && true))))) (fun x y _ _ => by
    congr 1
    obtain ⟨x1, x2, x3, x4⟩ := x
    obtain ⟨y1, y2, y3, y4⟩ := y
    simp only [File.mk.injEq, Bool.and_true, Bool.decide_and]) (by omega)
  simp only [Option.bind_some] at this
  exact this
theorem Replay_both (a : List (List UInt8)) (h1 : a.length ≤ 1048576) (hs : ∀ s ∈ a, s.length ≤ 1048576) : spec_Replay a = some (replayR 0 a []) ∧ impl_Replay a = some (replayR 0 a []) := by
  constructor
  · unfold spec_Replay
    exact replay_loop spec_ReadEdit spec_EditFiles a h1 (fun s h => ReadEdit_both s (hs s h)) (fun l e h1 h2 h3 => spec_EditFiles_eq l e (by omega) (by omega) (by omega))
  · unfold impl_Replay
    exact replay_loop impl_ReadEdit impl_EditFiles a h1 (fun s h => ⟨impl_ReadEdit_eq s (hs s h), (ReadEdit_both s (hs s h)).2⟩) (fun l e h1 h2 h3 => impl_EditFiles_eq l e (by omega) (by omega) (by omega))
/-- the files of the log, edit by edit -/
theorem manifest_loop (log : List (List UInt8)) (hlog : log.length ≤ 8) (hs : ∀ s ∈ log, s.length ≤ 1048576) (k n : Nat) (hk : k ≤ n) (hn : n ≤ log.length) (hok : ∀ i, i < n → okR log i = true) :
    loopO (ρ := Ctl (List File) Bool) (fun (S38 : Int × List File) => if (decide (S38.1 < (n : Int))) = true then ((idx log S38.1).bind fun E43 =>
      (impl_ReadEdit E43).bind fun R45 =>
      (impl_EditFiles S38.2 R45.1).bind fun R49 =>
      if (!R49.2) = true then (some (.done (.done false)))
      else (some (.go (IntKind.i64.wrap (S38.1 + (1 : Int)), R49.1))))
      else (some (.done (.go S38.2)))) ((k : Int), stR log k) = some (.go (stR log n)) := by
  refine loopO_is (I := fun j S => S = (((k + j : Nat) : Int), stR log (k + j))) (n - k) _ rfl ?_ ?_
  · rintro j _ hj rfl
    left
    have hkj : k + j < log.length := by omega
    have hm := hs _ (List.getElem_mem hkj)
    obtain ⟨_, c1, c2⟩ := ReadEdit_both _ hm
    have hf := stR_files log (k + j) (fun i hi => hok i (by omega)) (by omega)
    have hE := impl_EditFiles_eq (stR log (k + j)) (readE log[k + j]).1 (by have := files_le hf; omega) (by omega) (by omega)
    have ho := hok (k + j) (by omega)
    rw [okR_at log _ hkj, Bool.and_eq_true] at ho
    simp only [idx_nat log (k + j) hkj, impl_ReadEdit_eq _ hm, Option.bind_some, hE, ho.2, Bool.not_true, Bool.false_eq_true, if_false]
    rw [if_pos (by simp only [decide_eq_true_eq]; omega), wrap_ok (by omega) (by omega)]
    exact ⟨_, rfl, by rw [show k + (j + 1) = (k + j) + 1 from rfl, stR_succ log _ hkj]; rfl⟩
  · rintro _ rfl
    simp only
    rw [if_neg (by simp only [decide_eq_true_eq]; omega), show k + (n - k) = n by omega]
theorem FnManifest_pure (code : List UInt8) : laws_FnManifest code = some true := by
  unfold laws_FnManifest
  rw [big_eq]
  simp only [Option.bind_some]
  by_cases hc : ((code.length : Nat) : Int) > 1048576
  · rw [decide_eq_true hc]; rfl
  rw [decide_eq_false hc]
  have hb : code.length ≤ 1048576 := by omega
  obtain ⟨log, el, hl, hs⟩ := DrawReplay_ok code hb
  obtain ⟨er, ei⟩ := Replay_both log (by omega) hs
  obtain ⟨n, _, hn, e3, hok, _⟩ := replay_run log log.length 0 (by omega) (fun i hi => by omega)
  rw [List.drop_zero, show stR log 0 = [] from rfl] at e3
  have hf := stR_files log n hok hn
  have hfl := files_le hf
  simp only [Bool.false_eq_true, if_false, el, Option.bind_some, er, ei, e3, decide_true, Bool.not_true, sameFiles_eq (stR log n) (stR log n) (by omega), spec_FilesOk_eq (stR log n) (by omega), hf]
  have hk : ∃ k : Nat, k ≤ n ∧ (if decide ((n : Int) > 0) = true then ((laws_at code (0 : Int)).bind fun R28 =>
      (nz (IntKind.i64.wrap ((n : Int) + (1 : Int)))).bind fun E31 =>
      some (.go (Int.tmod R28 (IntKind.i64.wrap ((n : Int) + (1 : Int)))))) else (some (.go (0 : Int)))) = some (Ctl.go (ρ := Bool) ((k : Nat) : Int)) := by
    by_cases c : (n : Int) > 0
    · obtain ⟨x, hx, g1, g2⟩ := at_ok code 0 (by omega) hb
      have hnz : nz ((n : Int) + 1) = some () := by unfold nz; rw [if_neg (by omega)]
      rw [wrap_ok (n := (n : Int) + 1) (by omega) (by omega)]
      simp only [decide_eq_true c, if_true, hx, Option.bind_some, hnz]
      have h1 := Int.tmod_nonneg (a := x) ((n : Int) + 1) g1
      have h2 := Int.tmod_lt_of_pos x (b := (n : Int) + 1) (by omega)
      exact ⟨(Int.tmod x ((n : Int) + 1)).toNat, by omega, by rw [Int.toNat_of_nonneg h1]⟩
    · rw [decide_eq_false c]
      exact ⟨0, by omega, rfl⟩
  obtain ⟨k, hkn, hk⟩ := hk
  have hp : piece log (0 : Int) (k : Int) = some (log.take k) := by rw [piece_nat log 0 k 0 k rfl rfl (by omega) (by omega)]; rfl
  obtain ⟨_, e4⟩ := Replay_both (log.take k) (by rw [List.length_take]; omega) (fun s h => hs s (List.mem_of_mem_take h))
  have e5 := replay_take (log := log) (k := k) (by omega) (fun i hi => hok i (by omega))
  obtain ⟨e, ee⟩ := DrawShowEdit_ok code hb
  obtain ⟨t, et, ht⟩ := DrawReadEdit_ok code hb
  have hsl := showV_len e
  have hI := impl_ReadEdit_eq (showV e) (by omega)
  have hT := impl_ReadEdit_eq t ht
  have hT2 := (ReadEdit_both t ht).1
  rw [hk]
  simp only [bindC_go, hp, Option.bind_some, e4, e5]
  rw [manifest_loop log hl hs k n hkn hn hok]
  simp only [bindC_go, ee, impl_ShowEdit_eq, hI, et, hT, hT2, Option.bind_some, decide_true, if_true, sameFiles_eq (stR log n) (stR log n) (by omega)]
  have c1 : (readE (showV e)).2 = !decide (showV e = []) := by
    by_cases h : showV e = []
    · rw [h]; rfl
    · rw [readE_complete rfl h, decide_eq_false h]; rfl
  rw [← c1]
  have q1 : ∀ s, (readE s).2 = true → showV (readE s).1 = s := fun s h => (readE_sound h).1
  have q2 := q1 (showV e)
  have q3 := q1 t
  cases h1 : (readE (showV e)).2 <;> cases h2 : (readE t).2 <;> simp_all
theorem FnManifest_proved : Rows.FnManifestSaid := FnManifest_over fun code _ => FnManifest_pure code

end Go.Proofs.Ytiabgnjihoknnaa
