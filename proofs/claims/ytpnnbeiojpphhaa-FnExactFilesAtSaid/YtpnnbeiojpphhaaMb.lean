/-
  The plain laws: what the pure functions come to, and the statements. Conditions: none.
-/
import Derived.Test.YtpnnbeiojpphhaaPl
import Derived.Test.YtpnnbeiojpphhaaF4
set_option linter.unusedVariables false
set_option linter.unusedSimpArgs false
namespace Go.Proofs.Ytpnnbeiojpphhaa
open Go Sl

theorem inRange_eq (n a b : Int) : impl_inRange n a b = some (decide (a ≤ n ∧ n ≤ b)) := by
  unfold impl_inRange
  by_cases h : n ≥ a <;> simp [h]
theorem l1In_eq (n a b : Int) : spec_l1In n a b = some (decide (a ≤ n ∧ n ≤ b)) := by
  unfold spec_l1In
  by_cases h : n ≥ a <;> simp [h]
/-! ### SpaceOk -/
theorem eqIntS_eq (a b : List Int) (h : a.length ≤ 1048576) : laws_eqIntS a b = some (decide (a = b)) := by
  have := eqS_of a b (fun x y => some (decide (x = y))) (fun _ _ _ _ => rfl) (by omega)
  simp only [Option.bind_some] at this
  exact this
theorem all_range (l : List Int) (p : Int → Bool) (f : Int → Option Bool) (hf : ∀ x, f x = some (p x)) (hl : l.length ≤ 1048576) :
    loopO (ρ := Ctl Unit Bool) (fun (S6 : Int) => if (decide (S6 < ((l.length : Nat) : Int))) = true then ((idx l S6).bind fun E11 =>
  (f E11).bind fun R13 =>
  if (!R13) = true then (some (.done (.done false)))
  else (some (.go (IntKind.i64.wrap (S6 + (1 : Int))))))
  else (some (.done (.go ())))) (0 : Int) = some (if l.all p then .go () else .done false) := by
  rw [loopO_list l (fun k (_ : Unit) => (k : Int)) (fun _ x _ => if p x then some (Ctl.go ()) else some (Ctl.done (Ctl.done false))) (fun _ => some (Ctl.go ())) () ?h0 ?hs ?hf]
  case h0 => rfl
  case hs =>
    intro k hk _
    simp only [idx_nat l k hk, Option.bind_some, hf]
    rw [wrap_ok (by omega) (by omega)]
    by_cases he : p l[k] = true
    · simp [he, Ctl.mapGo, hk]
    · simp [he, Ctl.mapGo, hk]
  case hf => intro _; simp
  rw [runL_all p (Ctl.done false) _ _ (by intro k x _; rfl)]
  split <;> rfl
theorem markIntS_eq (a : List Int) (k : Int) (h : a.length ≤ 1048576) (h1 : 1 ≤ k) (h2 : k ≤ 1125899906842624) : laws_markIntS a k = some (k + a.length, a.mapIdx fun i _ => k + i) := by
  unfold laws_markIntS
  rw [mark_loop (fun q _ => q) 1 a k h1 (by omega) h ?hb ?hd]
  case hb =>
    intro q i l hi h3 h4 hl
    simp only [idx_nat l i hi, Option.bind_some]
    rw [wrap_ok (by omega) (by omega), wrap_ok (by omega) (by omega)]
    simp [hi]
  case hd => intro q l hl; simp
  simp
theorem heldIntS_eq (a : List Int) (k : Int) (h : a.length ≤ 1048576) (h1 : 1 ≤ k) (h2 : k ≤ 1125899906842624) : laws_heldIntS (a.mapIdx fun i _ => k + i) k = some (k + a.length) := by
  unfold laws_heldIntS
  rw [held_loop (fun q x => x = q) 1 (a.mapIdx fun i _ => k + i) k (.go (k + a.length)) h1 (by simp; omega) ?hok ?hb ?hd]
  case hok => intro i hi; simp
  case hb =>
    intro q i hi h3 h4 h5
    rw [List.length_mapIdx] at hi
    simp only [idx_nat (List.mapIdx (fun (i : Nat) (_ : Int) => k + (i : Int)) a) i (by rw [List.length_mapIdx]; exact hi), Option.bind_some, h5]
    rw [wrap_ok (by omega) (by omega), wrap_ok (by omega) (by omega)]
    simp [hi]
  case hd => simp
  simp
/-- giving blocks back, one by one -/
def giveV (who : Int) : List Int → List Int → Option (List Int)
  | [], s => some s
  | b :: bs, s => if 0 ≤ b ∧ b < s.length ∧ s[b.toNat]? = some who ∧ 1 ≤ who then giveV who bs (s.set b.toNat 0) else none
theorem giveV_cons (who b : Int) (bs s : List Int) : giveV who (b :: bs) s = if 0 ≤ b ∧ b < s.length ∧ s[b.toNat]? = some who ∧ 1 ≤ who then giveV who bs (s.set b.toNat 0) else none := rfl
theorem giveV_nil (who : Int) (s : List Int) : giveV who [] s = some s := rfl
theorem giveV_length (who : Int) : ∀ (bs s r : List Int), giveV who bs s = some r → r.length = s.length
  | [], s, r, h => by simp [giveV] at h; rw [h]
  | b :: bs, s, r, h => by
    unfold giveV at h
    split at h
    · rw [giveV_length who bs _ r h, List.length_set]
    · cases h
theorem idx_some' {α : Type} {l : List α} {i : Int} (h0 : 0 ≤ i) (h1 : i < l.length) : idx l i = some (l[i.toNat]'(by omega)) := by
  unfold idx; rw [if_pos h0, List.getElem?_eq_getElem]
/-- what a quota needs -/
def needV (q : Int) : Int := if 0 ≤ q ∧ q ≤ 1000 then 2 + 2 * ((q + 49) / 50) else 0
theorem needV_range (q : Int) : 0 ≤ needV q ∧ needV q ≤ 42 := by
  unfold needV; split <;> omega
theorem markText_loop (m : Nat) : ∀ s : List UInt8, s.length + m ≤ 9223372036854775806 → ∃ r : List UInt8, loopO (ρ := Ctl (List UInt8) (List UInt8)) (fun (S2 : Int × List UInt8) => if (decide (S2.1 > (0 : Int))) = true then ((cat ([toU8 (IntKind.i64.wrap ((48 : Int) + (Int.tmod S2.1 (10 : Int))))]) S2.2).bind fun E8 =>
  some (.go (IntKind.i64.wrap (Int.tdiv S2.1 (10 : Int)), E8)))
  else (some (.done (.go S2.2)))) ((m : Int), s) = some (.go r) ∧ r.length ≤ s.length + m := by
  induction m using Nat.strongRecOn with
  | _ m ih =>
    intro s hs
    rw [loopO_eq]
    by_cases h0 : m = 0
    · subst h0
      exact ⟨s, by simp, by omega⟩
    · simp only
      rw [if_pos (by simp; omega), cat_ok (by simp; omega)]
      have hd : Int.tdiv (m : Int) 10 = ((m / 10 : Nat) : Int) := rfl
      rw [hd, wrap_ok (n := ((m / 10 : Nat) : Int)) (by omega) (by omega)]
      simp only [Option.bind_some]
      obtain ⟨r, hr, hl⟩ := ih (m / 10) (by omega) ([toU8 (IntKind.i64.wrap ((48 : Int) + (Int.tmod (m : Int) (10 : Int))))] ++ s) (by simp; omega)
      exact ⟨r, hr, by simp at hl; omega⟩
theorem markText_some (k : Int) (h : k ≤ 9223372036854775800) : ∃ t, laws_markText k = some t := by
  unfold laws_markText
  by_cases h0 : k ≤ 0
  · exact ⟨_, by rw [if_pos (by simpa using h0)]⟩
  · rw [if_neg (by simpa using h0)]
    obtain ⟨r, hr, hl⟩ := markText_loop k.toNat [] (by simp; omega)
    rw [show ((k.toNat : Nat) : Int) = k by omega] at hr
    refine ⟨[109] ++ r, ?_⟩
    rw [hr]
    simp only [bindC_go]
    rw [cat_ok (by simp at hl ⊢; omega)]
    rfl
noncomputable def markT (k : Int) : List UInt8 := (laws_markText k).getD []
theorem markText_eq (k : Int) (h : k ≤ 9223372036854775800) : laws_markText k = some (markT k) := by
  obtain ⟨t, ht⟩ := markText_some k h
  unfold markT; rw [ht]; rfl
/-- a list turned up to a place -/
def preM {α : Type} (f : α → α) (l : List α) (k : Nat) : List α := (l.take k).map f ++ l.drop k
theorem preM_length {α : Type} (f : α → α) (l : List α) (k : Nat) : (preM f l k).length = l.length := by unfold preM; simp; omega
theorem preM_get {α : Type} (f : α → α) (l : List α) (k : Nat) (h : k < l.length) : idx (preM f l k) (k : Int) = some l[k] := by
  rw [idx_nat _ k (by rw [preM_length]; exact h)]
  congr 1
  have hl : ((l.take k).map f).length = k := by rw [List.length_map, List.length_take]; omega
  unfold preM
  rw [List.getElem_append_right (by omega)]
  simp only [hl, Nat.sub_self]
  simp
theorem preM_set {α : Type} (f : α → α) (l : List α) (k : Nat) (h : k < l.length) : (preM f l k).set k (f l[k]) = preM f l (k + 1) := by
  have hl : ((l.take k).map f).length = k := by rw [List.length_map, List.length_take]; omega
  have htk : l.take (k + 1) = l.take k ++ [l[k]] := by rw [List.take_add_one, List.getElem?_eq_getElem h]; rfl
  unfold preM
  rw [List.set_append_right _ _ (by omega), hl, Nat.sub_self, htk, List.drop_eq_getElem_cons h, List.set_cons_zero, List.map_append, List.append_assoc]
  rfl
theorem preM_same {α : Type} (f : α → α) (l : List α) (k : Nat) (h : k < l.length) (hf : f l[k] = l[k]) : preM f l (k + 1) = preM f l k := by
  rw [← preM_set f l k h, hf]
  apply List.ext_getElem?
  intro j
  rw [List.getElem?_set]
  split
  · rename_i he
    subst he
    have := preM_get f l k h
    unfold idx at this
    rw [if_pos (by omega), Int.toNat_natCast] at this
    rw [if_pos (by rw [preM_length]; exact h), this]
  · rfl
theorem preM_all {α : Type} (f : α → α) (l : List α) : preM f l l.length = l.map f := by unfold preM; simp
/-- a tenant's blocks, wiped -/
def wipeV (who : Int) (l : List Int) : List Int := l.map fun x => if x = who then 0 else x
/-- the first n free blocks of the first k -/
def freeIx (l : List Int) (n : Int) : Nat → List Nat
  | 0 => []
  | k + 1 => if l[k]? = some 0 ∧ ((freeIx l n k).length : Int) < n then freeIx l n k ++ [k] else freeIx l n k
theorem freeIx_lt (l : List Int) (n : Int) : ∀ k, ∀ i ∈ freeIx l n k, i < k
  | 0, i, h => by simp [freeIx] at h
  | k + 1, i, h => by
    unfold freeIx at h
    split at h
    · rcases List.mem_append.1 h with h | h
      · have := freeIx_lt l n k i h; omega
      · have : i = k := by simpa using h
        omega
    · have := freeIx_lt l n k i h; omega
theorem freeIx_length (l : List Int) (n : Int) : ∀ k, (freeIx l n k).length ≤ k
  | 0 => by simp [freeIx]
  | k + 1 => by
    have := freeIx_length l n k
    unfold freeIx
    split
    · simp; omega
    · omega
theorem freeIx_sat (l : List Int) (n : Int) (k : Nat) (h : ¬ ((freeIx l n k).length : Int) < n) : ∀ d, freeIx l n (k + d) = freeIx l n k
  | 0 => rfl
  | d + 1 => by
    have := freeIx_sat l n k h d
    have e : freeIx l n (k + (d + 1)) = if l[k + d]? = some 0 ∧ ((freeIx l n (k + d)).length : Int) < n then freeIx l n (k + d) ++ [k + d] else freeIx l n (k + d) := rfl
    rw [e, this, if_neg (fun h2 => h h2.2)]
theorem freeIx_count (l : List Int) (n : Int) (hn : 1 ≤ n) : ∀ k, k ≤ l.length → (((freeIx l n k).length : Int) < n ↔ (((l.take k).countP fun x => decide (x = 0) : Nat) : Int) < n) ∧ ((((l.take k).countP fun x => decide (x = 0) : Nat) : Int) < n → (freeIx l n k).length = ((l.take k).countP fun x => decide (x = 0))) ∧
    ((((l.take k).countP fun x => decide (x = 0) : Nat) : Int) = n → ((freeIx l n k).length : Int) = n)
  | 0, _ => by simp [freeIx]
  | k + 1, hk => by
    obtain ⟨h1, h2, h3⟩ := freeIx_count l n hn k (by omega)
    have hk' : k < l.length := by omega
    have htk : l.take (k + 1) = l.take k ++ [l[k]] := by rw [List.take_add_one, List.getElem?_eq_getElem hk']; rfl
    unfold freeIx
    rw [htk, List.countP_append, List.getElem?_eq_getElem hk']
    by_cases hx : l[k] = 0
    · simp only [hx, true_and, List.countP_cons, List.countP_nil, decide_true, if_true, Nat.zero_add]
      by_cases hc : ((freeIx l n k).length : Int) < n
      · rw [if_pos hc]
        have := h2 (h1.1 hc)
        simp only [List.length_append, List.length_cons, List.length_nil]
        omega
      · rw [if_neg hc]
        have : ¬ (((l.take k).countP fun x => decide (x = 0) : Nat) : Int) < n := fun h => hc (h1.2 h)
        omega
    · simp only [List.countP_cons, List.countP_nil, hx, decide_false, Bool.false_eq_true, if_false, Nat.add_zero]
      rw [if_neg (by simp [hx])]
      exact ⟨h1, h2, h3⟩
/-- blocks given to somebody -/
def setAll (who : Int) (l : List Int) (g : List Nat) : List Int := g.foldl (fun s i => s.set i who) l
theorem setAll_length (who : Int) (g : List Nat) : ∀ l, (setAll who l g).length = l.length := by
  induction g with
  | nil => intro l; rfl
  | cons i g ih => intro l; show (setAll who (l.set i who) g).length = _; rw [ih, List.length_set]
theorem setAll_snoc (who : Int) (l : List Int) (g : List Nat) (i : Nat) : setAll who l (g ++ [i]) = (setAll who l g).set i who := by
  unfold setAll; rw [List.foldl_append]; rfl
theorem sLt_nil (a : List UInt8) : sLt a [] = false := by cases a <;> rfl
theorem sLt_compl : ∀ a b : List UInt8, (sLt b a || decide (b = a)) = !sLt a b
  | [], [] => rfl
  | [], b :: y => by simp [sLt, Op.bytesLess]
  | a :: x, [] => by simp [sLt, Op.bytesLess]
  | a :: x, b :: y => by
    have ih := sLt_compl x y
    simp only [sLt] at ih
    simp only [sLt, Op.bytesLess]
    by_cases h1 : a < b
    · have h2 : ¬ b < a := fun h => absurd (UInt8.lt_trans h1 h) (UInt8.lt_irrefl _)
      have h3 : ¬ b = a := fun h => by subst h; exact UInt8.lt_irrefl _ h1
      simp [h1, h2, h3]
    · by_cases h2 : b < a
      · have h3 : ¬ a = b := fun h => by subst h; exact UInt8.lt_irrefl _ h2
        simp [h1, h2, h3]
      · have h3 : a = b := by
          rw [UInt8.lt_iff_toNat_lt] at h1 h2
          apply UInt8.toNat_inj.1
          omega
        subst h3
        simp only [h1, decide_false, Bool.false_or, beq_self_eq_true, Bool.true_and, List.cons.injEq, true_and]
        exact ih
theorem isKey_eq (s : List UInt8) : impl_isKey s = some (decide (1 ≤ (s.length : Int) ∧ (s.length : Int) ≤ 10)) := by
  unfold impl_isKey; rw [inRange_eq]; rfl
theorem scan_up (p : Nat → Bool) (n : Nat) : ∀ d a, a + d = n → ∃ j, a ≤ j ∧ j ≤ n ∧ (∀ i, a ≤ i → i < j → p i = false) ∧ (j < n → p j = true)
  | 0, a, h => ⟨a, Nat.le_refl _, by omega, fun i h1 h2 => by omega, fun h => by omega⟩
  | d + 1, a, h => by
    cases hp : p a with
    | true => exact ⟨a, Nat.le_refl _, by omega, fun i h1 h2 => by omega, fun _ => hp⟩
    | false =>
      obtain ⟨j, h1, h2, h3, h4⟩ := scan_up p n d (a + 1) (by omega)
      refine ⟨j, by omega, h2, fun i h5 h6 => ?_, h4⟩
      by_cases e : i = a
      · rw [e]; exact hp
      · exact h3 i (by omega) h6
theorem down_stop (p : Nat → Bool) : ∀ n : Nat, ∃ j : Nat, j ≤ n ∧ (∀ i, j ≤ i → i < n → p i = false) ∧ (0 < j → p (j - 1) = true)
  | 0 => ⟨0, Nat.le_refl _, fun i h1 h2 => by omega, fun h => by omega⟩
  | n + 1 => by
    cases hp : p n with
    | true => exact ⟨n + 1, Nat.le_refl _, fun i h1 h2 => by omega, fun _ => by simpa using hp⟩
    | false =>
      obtain ⟨j, h1, h2, h3⟩ := down_stop p n
      refine ⟨j, by omega, fun i h4 h5 => ?_, h3⟩
      by_cases e : i = n
      · rw [e]; exact hp
      · exact h2 i h4 (by omega)
theorem all_loop {body : Int → Option (Ctl Int (Ctl Unit Bool))} (pass : Nat → Bool) (n : Nat) (h : ∀ k, k < n → body (k : Int) = some (if pass k = true then .go ((k : Int) + 1) else .done (.done false))) (hn : body (n : Int) = some (.done (.go ()))) :
    loopO body 0 = some (if (List.range n).all pass = true then .go () else .done false) := by
  have key : ∀ d k, k + d = n → loopO body (k : Int) = some (if ((List.range n).drop k).all pass = true then .go () else .done false) := by
    intro d
    induction d with
    | zero =>
      intro k hk
      obtain rfl : k = n := by omega
      rw [loopO_eq, hn, List.drop_of_length_le (by simp)]
      rfl
    | succ d ih =>
      intro k hk
      have hd : (List.range n).drop k = k :: (List.range n).drop (k + 1) := by rw [List.drop_eq_getElem_cons (by simp; omega)]; simp
      rw [loopO_eq, h k (by omega), hd, List.all_cons]
      cases hp : pass k with
      | true =>
        have := ih (k + 1) (by omega)
        rw [show ((k + 1 : Nat) : Int) = (k : Int) + 1 by omega] at this
        simpa using this
      | false => simp
  have := key n 0 (by omega)
  simpa using this
/-- a file as required -/
def fileV (f : File) : Bool := decide (1 ≤ f.No ∧ f.No ≤ 1000000) && (decide (0 ≤ f.Level ∧ f.Level ≤ 2) && (decide (1 ≤ (f.Lo.length : Int) ∧ (f.Lo.length : Int) ≤ 10) && (decide (1 ≤ (f.Hi.length : Int) ∧ (f.Hi.length : Int) ≤ 10) && (sLt f.Lo f.Hi || decide (f.Lo = f.Hi)))))
/-- one file ahead of another -/
def aheadV (a b : File) : Bool := if a.Level = b.Level then (if a.Level = 0 then decide (a.No > b.No) else sLt a.Lo b.Lo) else decide (a.Level < b.Level)
/-- two neighbours in one level that overlap -/
def overV (a b : File) : Bool := decide (b.Level > 0) && (decide (a.Level = b.Level) && (sLt b.Lo a.Hi || decide (b.Lo = a.Hi)))
/-- the file at a place, against those ahead of it -/
def passV (l : List File) (k : Nat) : Bool := match l[k]? with
  | some f => fileV f && ((match k with | 0 => true | j + 1 => match l[j]? with | some e => aheadV e f && !overV e f | none => true) && (l.take k).all fun g => decide (g.No ≠ f.No))
  | none => true
theorem passV_at (l : List File) (k : Nat) (h : k < l.length) : passV l k = (fileV l[k] && ((if h0 : 0 < k then aheadV (l[k - 1]'(by omega)) l[k] && !overV (l[k - 1]'(by omega)) l[k] else true) && (l.take k).all fun g => decide (g.No ≠ l[k].No))) := by
  unfold passV
  rw [List.getElem?_eq_getElem h]
  cases k with
  | zero => rfl
  | succ j =>
    simp only [Nat.zero_lt_succ, dif_pos, Nat.add_sub_cancel]
    rw [List.getElem?_eq_getElem (by omega)]
/-- files in order -/
def filesV (l : List File) : Bool := decide (l.length ≤ 12) && (List.range l.length).all (passV l)
theorem l16Ahead_eq (a b : File) : spec_l16Ahead a b = some (aheadV a b) := by
  unfold spec_l16Ahead aheadV
  by_cases h1 : a.Level = b.Level
  · rw [if_neg (by simpa using h1), if_pos h1]
    by_cases h2 : a.Level = 0
    · rw [if_pos (by simpa using h2), if_pos h2]
    · rw [if_neg (by simpa using h2), if_neg h2]
  · simp [h1]
theorem cmpI_eq (x y : Int) : cmp_Compare_26527 x y = some (if x < y then -1 else if x > y then 1 else 0) := by
  unfold cmp_Compare_26527 cmp_isNaN_26527
  by_cases h1 : x < y <;> by_cases h2 : x > y <;> simp [h1, h2]
theorem cmpS_eq (x y : List UInt8) : cmp_Compare_83645 x y = some (if sLt x y = true then -1 else if (!(sLt x y || decide (x = y))) = true then 1 else 0) := by
  unfold cmp_Compare_83645 cmp_isNaN_83645
  simp only [decide_true, Bool.not_true, Option.bind_some, Bool.false_eq_true, if_false]
  split
  · rfl
  · split <;> rfl
theorem compareFiles_eq (a b : File) : ∃ r, impl_compareFiles a b = some r ∧ (decide (r ≥ 0) = !aheadV a b) := by
  unfold impl_compareFiles aheadV
  by_cases h1 : a.Level = b.Level
  · by_cases h2 : a.Level = 0
    · rw [if_neg (by simpa using h1), if_pos (by simpa using h2), cmpI_eq]
      refine ⟨_, rfl, ?_⟩
      rw [if_pos h1, if_pos h2]
      by_cases c : b.No < a.No
      · simp [c]
      · by_cases c2 : a.No < b.No <;> simp [c, c2]
    · rw [if_neg (by simpa using h1), if_neg (by simpa using h2), cmpS_eq]
      refine ⟨_, rfl, ?_⟩
      rw [if_pos h1, if_neg h2]
      by_cases c : sLt a.Lo b.Lo = true
      · simp [c]
      · have c' : sLt a.Lo b.Lo = false := by simpa using c
        rw [if_neg c, c']
        by_cases c2 : a.Lo = b.Lo
        · rw [decide_eq_true c2]; rfl
        · rw [decide_eq_false c2]; rfl
  · rw [if_pos (by simpa using h1), cmpI_eq]
    refine ⟨_, rfl, ?_⟩
    rw [if_neg h1]
    by_cases c : a.Level < b.Level
    · simp [c]
    · by_cases c2 : a.Level > b.Level <;> simp [c, c2]
theorem fileOk_eq (f : File) : impl_fileOk f = some (fileV f) := by
  unfold impl_fileOk fileV
  simp only [inRange_eq, isKey_eq, Option.bind_some]
  by_cases h1 : 1 ≤ f.No ∧ f.No ≤ 1000000
  · by_cases h2 : 0 ≤ f.Level ∧ f.Level ≤ 2
    · by_cases h3 : 1 ≤ (f.Lo.length : Int) ∧ (f.Lo.length : Int) ≤ 10
      · by_cases h4 : 1 ≤ (f.Hi.length : Int) ∧ (f.Hi.length : Int) ≤ 10
        · simp only [h1, h2, h3, h4, and_self, decide_true, if_true, Option.bind_some, Bool.true_and]
        · simp only [h1, h2, h3, h4, and_self, decide_true, decide_false, if_true, Option.bind_some, Bool.true_and, Bool.false_and, Bool.false_eq_true, if_false]
      · simp only [h1, h2, h3, and_self, decide_true, decide_false, if_true, Option.bind_some, Bool.true_and, Bool.false_and, Bool.false_eq_true, if_false]
    · simp only [h1, h2, and_self, decide_true, decide_false, if_true, Option.bind_some, Bool.true_and, Bool.false_and, Bool.false_eq_true, if_false]
  · simp only [h1, decide_false, Option.bind_some, Bool.false_and, Bool.false_eq_true, if_false]
theorem fileAt_eq (l : List File) (no : Int) (k : Nat) (hl : l.length ≤ 1048576) (hk : k < l.length) (hn : l[k].No = no) : ∃ r, impl_fileAt l no = some r ∧ (decide (r = (k : Int)) = (l.take k).all fun g => decide (g.No ≠ no)) := by
  unfold impl_fileAt slices_IndexFunc_68810_at_impl_fileAt_1 impl_fileAt_1
  have key : ∃ c, loopO (ρ := Ctl Unit Int) (fun (S1 : Int) => if (decide (S1 < ((l.length : Nat) : Int))) = true then ((idx l S1).bind fun E6 => (some (decide (E6.No = no))).bind fun R8 => if R8 = true then (some (.done (.done S1))) else (some (.go (IntKind.i64.wrap (S1 + (1 : Int)))))) else (some (.done (.go ())))) (0 : Int) = some c ∧
      ∃ j : Nat, c = .done (j : Int) ∧ j ≤ k ∧ (∀ i (h : i < l.length), i < j → l[i].No ≠ no) ∧ (∀ h : j < l.length, l[j].No = no) := by
    refine loopO_total (fun i s => s = (i : Int) ∧ i ≤ k ∧ ∀ q (h : q < l.length), q < i → l[q].No ≠ no) (k + 1) _ ⟨rfl, by omega, fun q h h2 => by omega⟩ ?_ ?_
    · rintro i s hi ⟨rfl, h1, h2⟩
      have hil : i < l.length := by omega
      simp only [idx_nat l i hil, Option.bind_some]
      rw [if_pos (by simpa using hil), wrap_ok (by omega) (by omega)]
      by_cases c : l[i].No = no
      · right
        exact ⟨_, by simp [c], i, rfl, h1, h2, fun _ => c⟩
      · left
        have hik : i ≠ k := fun e => by subst e; exact c hn
        refine ⟨(i : Int) + 1, by simp [c], by omega, by omega, fun q h h3 => ?_⟩
        by_cases e : q = i
        · subst e; exact c
        · exact h2 q h (by omega)
    · rintro s ⟨rfl, h1, _⟩
      omega
  obtain ⟨c, hc, j, rfl, h1, h2, h3⟩ := key
  rw [hc]
  refine ⟨(j : Int), rfl, ?_⟩
  by_cases e : j = k
  · subst e
    rw [decide_eq_true (rfl : (j : Int) = (j : Int))]
    symm
    rw [List.all_eq_true]
    intro g hg
    obtain ⟨i, hi, rfl⟩ := List.getElem_of_mem hg
    have hi' : i < j := by simp at hi; omega
    simp only [List.getElem_take, decide_eq_true_eq]
    exact h2 i (by omega) hi'
  · rw [decide_eq_false (by omega : ¬ (j : Int) = (k : Int))]
    symm
    rw [← Bool.not_eq_true, List.all_eq_true]
    intro hall
    have hj : j < (l.take k).length := by simp; omega
    have := hall ((l.take k)[j]) (List.getElem_mem hj)
    simp only [List.getElem_take, decide_eq_true_eq] at this
    exact this (h3 (by omega))
theorem impl_FilesOk_eq (l : List File) (h : l.length ≤ 1048576) : impl_FilesOk l = some (filesV l) := by
  unfold impl_FilesOk filesV
  by_cases h12 : ((l.length : Nat) : Int) > 12
  · rw [if_pos (by simpa using h12), decide_eq_false (by omega : ¬ l.length ≤ 12)]
    rfl
  · rw [if_neg (by simpa using h12), decide_eq_true (by omega : l.length ≤ 12), Bool.true_and]
    rw [all_loop (passV l) l.length ?hp ?hq]
    · cases (List.range l.length).all (passV l) <;> rfl
    case hq => simp
    case hp =>
      intro k hk
      obtain ⟨r, hr, hr2⟩ := fileAt_eq l l[k].No k h hk rfl
      simp only [idx_nat l k hk, Option.bind_some, fileOk_eq, hr]
      rw [if_pos (by simpa using hk), wrap_ok (n := (k : Int) + 1) (by omega) (by omega), passV_at l k hk, hr2]
      cases hf : fileV l[k] with
      | false => simp
      | true =>
        cases ha : (l.take k).all fun g => decide (g.No ≠ l[k].No) with
        | false => simp
        | true =>
          by_cases h0 : 0 < k
          · have hw : IntKind.i64.wrap ((k : Int) - 1) = ((k - 1 : Nat) : Int) := by rw [wrap_ok (by omega) (by omega)]; omega
            rw [dif_pos h0]
            simp only [hw, idx_nat l (k - 1) (by omega), Option.bind_some]
            obtain ⟨c, hc, hc2⟩ := compareFiles_eq (l[k - 1]'(by omega)) l[k]
            rw [if_neg (by simp), if_neg (by simp), if_pos (by simp; omega), if_pos (by simp; omega), hc]
            simp only [Option.bind_some, hc2]
            unfold overV
            cases aheadV (l[k - 1]'(by omega)) l[k] with
            | false => simp
            | true =>
              by_cases c1 : l[k].Level > 0
              · by_cases c2 : (l[k - 1]'(by omega)).Level = l[k].Level
                · cases hs : (sLt l[k].Lo (l[k - 1]'(by omega)).Hi || decide (l[k].Lo = (l[k - 1]'(by omega)).Hi)) with
                  | true => simp [c1, c2, hs]
                  | false => simp [c1, c2, hs]
                · simp [c1, c2]
              · simp [c1]
          · have hk0 : k = 0 := by omega
            subst hk0
            simp
theorem l16Text_eq (s : List UInt8) : spec_l16Text s = some (decide (1 ≤ (s.length : Int) ∧ (s.length : Int) ≤ 10)) := by
  unfold spec_l16Text; rw [l1In_eq]; rfl
theorem nodup_loop (l : List File) (k : Nat) (hk : k < l.length) (h : l.length ≤ 1048576) : loopO (ρ := Ctl Unit (Ctl Int (Ctl Unit Bool))) (fun (S41 : Int) => if (decide (S41 < (k : Int))) = true then ((idx l S41).bind fun E46 =>
  if (decide (E46.No = l[k].No)) = true then (some (.done (.done (.done (.done false)))))
  else (some (.go (IntKind.i64.wrap (S41 + (1 : Int))))))
  else (some (.done (.go ())))) (0 : Int) = some (if (l.take k).all (fun g => decide (g.No ≠ l[k].No)) = true then .go () else .done (.done (.done false))) := by
  refine loopO_is (fun i s => s = (i : Int) ∧ ((l.take k).all (fun g => decide (g.No ≠ l[k].No)) = ((l.take k).drop i).all (fun g => decide (g.No ≠ l[k].No)))) k _ ⟨rfl, by rw [List.drop_zero]⟩ ?_ ?_
  · rintro i s hi ⟨rfl, he⟩
    have hil : i < l.length := by omega
    have hd : (l.take k).drop i = l[i] :: (l.take k).drop (i + 1) := by
      rw [List.drop_eq_getElem_cons (by simp; omega)]
      simp
    rw [he, hd, List.all_cons]
    simp only [idx_nat l i hil, Option.bind_some]
    rw [if_pos (by simpa using hi), wrap_ok (by omega) (by omega)]
    by_cases c : l[i].No = l[k].No
    · right
      simp [c]
    · left
      refine ⟨(i : Int) + 1, by simp [c], by omega, ?_⟩
      simp [c]
  · rintro s ⟨rfl, he⟩
    rw [he, List.drop_of_length_le (by simp; omega)]
    simp
theorem spec_FilesOk_eq (l : List File) (h : l.length ≤ 1048576) : spec_FilesOk l = some (filesV l) := by
  unfold spec_FilesOk filesV
  by_cases h12 : ((l.length : Nat) : Int) > 12
  · rw [if_pos (by simpa using h12), decide_eq_false (by omega : ¬ l.length ≤ 12)]
    rfl
  · rw [if_neg (by simpa using h12), decide_eq_true (by omega : l.length ≤ 12), Bool.true_and]
    rw [all_loop (passV l) l.length ?hp ?hq]
    · cases (List.range l.length).all (passV l) <;> rfl
    case hq => simp
    case hp =>
      intro k hk
      simp only [idx_nat l k hk, Option.bind_some, l16Text_eq, l1In_eq, l16Ahead_eq, nodup_loop l k hk h]
      rw [if_pos (by simpa using hk), wrap_ok (n := (k : Int) + 1) (by omega) (by omega), passV_at l k hk]
      have hf : ∀ (X : Bool → Option (Ctl Int (Ctl Unit Bool))), ((if (!decide (1 ≤ l[k].No ∧ l[k].No ≤ 1000000)) = true then some true else if (!decide (0 ≤ l[k].Level ∧ l[k].Level ≤ 2)) = true then some true
          else if (!decide (1 ≤ (l[k].Lo.length : Int) ∧ (l[k].Lo.length : Int) ≤ 10)) = true then some true else if (!decide (1 ≤ (l[k].Hi.length : Int) ∧ (l[k].Hi.length : Int) ≤ 10)) = true then some true else some (!(sLt l[k].Lo l[k].Hi || decide (l[k].Lo = l[k].Hi)))) : Option Bool).bind X = X (!fileV l[k]) := by
        intro X
        unfold fileV
        by_cases h1 : 1 ≤ l[k].No ∧ l[k].No ≤ 1000000 <;> by_cases h2 : 0 ≤ l[k].Level ∧ l[k].Level ≤ 2 <;> by_cases h3 : 1 ≤ (l[k].Lo.length : Int) ∧ (l[k].Lo.length : Int) ≤ 10 <;> by_cases h4 : 1 ≤ (l[k].Hi.length : Int) ∧ (l[k].Hi.length : Int) ≤ 10 <;>
          simp only [h1, h2, h3, h4, and_self, decide_true, decide_false, Bool.not_true, Bool.not_false, Bool.false_eq_true, if_true, if_false, Option.bind_some, Bool.true_and, Bool.false_and]
      rw [hf]
      cases fileV l[k] with
      | false => simp
      | true =>
        simp only [Bool.not_true, Bool.false_eq_true, if_false, Bool.true_and]
        by_cases h0 : 0 < k
        · have hw : IntKind.i64.wrap ((k : Int) - 1) = ((k - 1 : Nat) : Int) := by rw [wrap_ok (by omega) (by omega)]; omega
          rw [dif_pos h0, if_pos (by simp; omega)]
          simp only [hw, idx_nat l (k - 1) (by omega), Option.bind_some]
          unfold overV
          cases aheadV (l[k - 1]'(by omega)) l[k] with
          | false => simp
          | true =>
            cases (l.take k).all fun g => decide (g.No ≠ l[k].No) <;>
            by_cases c1 : l[k].Level > 0 <;> by_cases c2 : (l[k - 1]'(by omega)).Level = l[k].Level <;> cases hs : (sLt l[k].Lo (l[k - 1]'(by omega)).Hi || decide (l[k].Lo = (l[k - 1]'(by omega)).Hi)) <;> simp [c1, c2, hs]
        · have hk0 : k = 0 := by omega
          subst hk0
          simp
theorem szFile_eq (x : File) (left : Int) (h1 : 0 ≤ left) (h2 : left ≤ 1048576) (h3 : x.Lo.length ≤ 9223372036854775807) (h4 : x.Hi.length ≤ 9223372036854775807) : laws_szFile x left = some (szV left (x.Lo.length + x.Hi.length)) := by
  unfold laws_szFile szV
  rw [wrap_ok (n := left - (x.Lo.length : Int)) (by omega) (by omega)]
  by_cases h : left - (x.Lo.length : Int) < 0
  · rw [if_pos (by simpa using h), if_pos (by omega)]
  · rw [if_neg (by simpa using h), wrap_ok (n := left - (x.Lo.length : Int) - (x.Hi.length : Int)) (by omega) (by omega)]
    by_cases h5 : left - (x.Lo.length : Int) - (x.Hi.length : Int) < 0
    · rw [if_pos (by simpa using h5), if_pos (by omega)]
    · rw [if_neg (by simpa using h5), if_neg (by omega)]
      congr 1
      omega
theorem szFileS_eq (a : List File) (left : Int) (h1 : 0 ≤ left) (h2 : left ≤ 1048576) (h : okl a) : laws_szFileS a left = some (szV left (a.length + (a.map fun x => x.Lo.length + x.Hi.length).sum)) := by
  unfold laws_szFileS
  exact szS_of a laws_szFile (fun x => x.Lo.length + x.Hi.length) (fun x hx left h1 h2 => szFile_eq x left h1 h2 (h.2 x hx).2.2.1 (h.2 x hx).2.2.2) h.1 left h1 h2
theorem toFileS_eq (a : List File) (h : a.length ≤ 1048576) : laws_toFileS a = some a := by
  unfold laws_toFileS
  rw [mkLen_ok (by omega) (by omega)]
  simp only [Option.bind_some]
  rw [to_loop a _ laws_toFile (fun x _ => rfl) (by omega)]
  rfl
theorem eqFile_eq (a b : File) : laws_eqFile a b = some (decide (a = b)) := by
  obtain ⟨a1, a2, a3, a4⟩ := a; obtain ⟨b1, b2, b3, b4⟩ := b
  unfold laws_eqFile
  by_cases h1 : a1 = b1 <;> by_cases h2 : a2 = b2 <;> by_cases h3 : a3 = b3 <;> by_cases h4 : a4 = b4 <;> simp [h1, h2, h3, h4]
theorem eqFileS_eq (a b : List File) (h : a.length ≤ 1048576) : laws_eqFileS a b = some (decide (a = b)) :=
  eqS_of a b laws_eqFile (fun x y _ _ => eqFile_eq x y) (by omega)
theorem sLt_compl' (a b : List UInt8) : (!sLt a b) = (sLt b a || decide (b = a)) := (sLt_compl a b).symm
/-- the files that may hold a key -/
def atV (l : List File) (key : List UInt8) : List Int := (l.filter fun f => (sLt f.Lo key || decide (f.Lo = key)) && (sLt key f.Hi || decide (key = f.Hi))).map (·.No)
theorem no_take (p : File → Bool) (l : List File) (k : Nat) (h : k < l.length) : ((l.take (k + 1)).filter p).map (·.No) = ((l.take k).filter p).map (·.No) ++ if p l[k] = true then [l[k].No] else [] := by
  rw [show l.take (k + 1) = l.take k ++ [l[k]] by rw [List.take_add_one, List.getElem?_eq_getElem h]; rfl, List.filter_append, List.map_append]
  congr 1
  by_cases c : p l[k] = true
  · rw [if_pos c, List.filter_cons_of_pos c]; rfl
  · rw [if_neg c, List.filter_cons_of_neg c]; rfl
theorem spec_FilesAt_eq (l : List File) (key : List UInt8) (h : l.length ≤ 1048576) : spec_FilesAt l key = some (if filesV l = true then atV l key else []) := by
  unfold spec_FilesAt
  simp only [spec_FilesOk_eq l h, Option.bind_some]
  cases hv : filesV l with
  | false =>
    rw [loopO_eq]
    by_cases h0 : (0 : Int) < (l.length : Int)
    · simp [h0]
    · simp only
      rw [if_neg (by simpa using h0)]
      rfl
  | true =>
    rw [loopO_count (fun k => ((k : Int), atV (l.take k) key)) l.length (r := Ctl.go (atV l key)) ?h0]
    case h0 => rfl
    · rfl
    · intro k hk
      have hw : IntKind.i64.wrap ((k : Int) + 1) = ((k + 1 : Nat) : Int) := by rw [wrap_ok (by omega) (by omega)]; omega
      have htk : l.take (k + 1) = l.take k ++ [l[k]] := by rw [List.take_add_one, List.getElem?_eq_getElem hk]; rfl
      have hlen : (atV (l.take k) key).length ≤ k := by unfold atV; rw [List.length_map]; exact Nat.le_trans (List.length_filter_le _ _) (by simp; omega)
      have hat : atV (l.take (k + 1)) key = atV (l.take k) key ++ if ((sLt l[k].Lo key || decide (l[k].Lo = key)) && (sLt key l[k].Hi || decide (key = l[k].Hi))) = true then [l[k].No] else [] := by
        exact no_take _ l k hk
      simp only [idx_nat l k hk, Option.bind_some, hw, hat]
      rw [if_pos (by simpa using hk)]
      simp only [Option.bind_some, if_true]
      cases c1 : (sLt l[k].Lo key || decide (l[k].Lo = key)) with
      | false => simp
      | true =>
        cases c2 : (sLt key l[k].Hi || decide (key = l[k].Hi)) with
        | false => simp
        | true =>
          simp only [if_true, Option.bind_some, Bool.and_self]
          rw [app_ok (by simp; omega) (by simp; omega)]
          rfl
    · simp
theorem impl_FilesAt_eq (l : List File) (key : List UInt8) (h : l.length ≤ 1048576) : impl_FilesAt l key = some (if filesV l = true then atV l key else []) := by
  unfold impl_FilesAt
  simp only [impl_FilesOk_eq l h, Option.bind_some]
  cases hv : filesV l with
  | false => rfl
  | true =>
    simp only [Bool.not_true, Bool.false_eq_true, if_false, if_true]
    rw [loopO_count (fun k => ((k : Int), atV (l.take k) key)) l.length (r := Ctl.go (atV l key)) ?h0]
    case h0 => rfl
    · rfl
    · intro k hk
      have hw : IntKind.i64.wrap ((k : Int) + 1) = ((k + 1 : Nat) : Int) := by rw [wrap_ok (by omega) (by omega)]; omega
      have htk : l.take (k + 1) = l.take k ++ [l[k]] := by rw [List.take_add_one, List.getElem?_eq_getElem hk]; rfl
      have hlen : (atV (l.take k) key).length ≤ k := by unfold atV; rw [List.length_map]; exact Nat.le_trans (List.length_filter_le _ _) (by simp; omega)
      have hat : atV (l.take (k + 1)) key = atV (l.take k) key ++ if ((sLt l[k].Lo key || decide (l[k].Lo = key)) && (sLt key l[k].Hi || decide (key = l[k].Hi))) = true then [l[k].No] else [] := by
        exact no_take _ l k hk
      simp only [idx_nat l k hk, Option.bind_some, hw, hat, sLt_compl']
      rw [if_pos (by simpa using hk)]
      cases c1 : (sLt l[k].Lo key || decide (l[k].Lo = key)) with
      | false => simp
      | true =>
        cases c2 : (sLt key l[k].Hi || decide (key = l[k].Hi)) with
        | false => simp
        | true =>
          simp only [if_true, Option.bind_some, Bool.and_self]
          rw [app_ok (by simp; omega) (by simp; omega)]
          rfl
    · simp
theorem markFileS_some (a : List File) (k : Int) (h : a.length ≤ 1048576) (h1 : 1 ≤ k) (h2 : k ≤ 1125899906842624) : laws_markFileS a k = some (k + 4 * a.length, a.mapIdx fun i _ => { No := k + 4 * i, Level := k + 4 * i + 1, Lo := markT (k + 4 * i + 1 + 1), Hi := markT (k + 4 * i + 1 + 1 + 1) : File }) := by
  unfold laws_markFileS
  rw [mark_loop (fun q (_ : File) => { No := q, Level := q + 1, Lo := markT (q + 1 + 1), Hi := markT (q + 1 + 1 + 1) : File }) 4 a k h1 (by omega) h ?hb ?hd]
  case hb =>
    intro q i l hi h3 h4 hl
    have w1 : IntKind.i64.wrap (q + 1) = q + 1 := wrap_ok (by omega) (by omega)
    have w2 : IntKind.i64.wrap (q + 1 + 1) = q + 1 + 1 := wrap_ok (by omega) (by omega)
    have w3 : IntKind.i64.wrap (q + 1 + 1 + 1) = q + 1 + 1 + 1 := wrap_ok (by omega) (by omega)
    have w4 : IntKind.i64.wrap (q + 1 + 1 + 1 + 1) = q + 1 + 1 + 1 + 1 := wrap_ok (by omega) (by omega)
    have w6 : IntKind.i64.wrap ((i : Int) + 1) = (i : Int) + 1 := wrap_ok (by omega) (by omega)
    simp only [idx_nat l i hi, Option.bind_some, w1, w2, w3, w4, w6, markText_eq (q + 1 + 1) (by omega), markText_eq (q + 1 + 1 + 1) (by omega)]
    rw [if_pos (by simpa using hi), Int.toNat_natCast]
    congr 3
    omega
  case hd => intro q l hl; simp
  rfl
theorem atV_length (l : List File) (key : List UInt8) : (atV l key).length ≤ l.length := by unfold atV; rw [List.length_map]; exact List.length_filter_le _ _
theorem FnExactFilesAt_pure (a : List File) (key : List UInt8) (h : okl a) : laws_FnExactFilesAt a key = some true := by
  unfold laws_FnExactFilesAt
  by_cases hk : ((key.length : Nat) : Int) > 1048576
  · simp [hk]
  · rw [if_neg (by simpa using hk), szFileS_eq a 1048576 (by omega) (by omega) h]
    simp only [Option.bind_some]
    by_cases hl : szV 1048576 (a.length + (a.map fun x => x.Lo.length + x.Hi.length).sum) < 0
    · rw [if_pos (by simpa using hl)]
    · have hn := szV_nonneg hl
      have hl' : a.length ≤ 1048576 := by omega
      rw [if_neg (by simpa using hl), toFileS_eq a hl']
      simp only [Option.bind_some, spec_FilesAt_eq a key hl', impl_FilesAt_eq a key hl']
      generalize hr : (if filesV a = true then atV a key else []) = r
      have hrl : r.length ≤ 1048576 := by
        subst hr
        split
        · exact Nat.le_trans (atV_length a key) hl'
        · simp
      simp only [eqIntS_eq r r hrl, eqFileS_eq a a hl', markFileS_some a 1 hl' (by omega) (by omega), markIntS_eq r 1 hrl (by omega) (by omega), heldIntS_eq r 1 hrl (by omega) (by omega), Option.bind_some]
      have n1 : ¬ (1 + 4 * (a.length : Int) < 0) := by omega
      have n2 : ¬ (1 + (r.length : Int) < 0) := by omega
      simp [n1, n2]
theorem FnExactFilesAt_proved : Rows.FnExactFilesAtSaid := FnExactFilesAt_over fun a key h _ => FnExactFilesAt_pure a key h

theorem fileV_of {l : List File} (hv : filesV l = true) (k : Nat) (hk : k < l.length) : fileV l[k] = true := by
  unfold filesV at hv
  rw [Bool.and_eq_true, List.all_eq_true] at hv
  have := hv.2 k (by simp; omega)
  rw [passV_at l k hk, Bool.and_eq_true] at this
  exact this.1
/-- the state of the first round over the files -/
def pickA (level : Int) (s : List UInt8 × List UInt8 × List Int) (f : File) : List UInt8 × List UInt8 × List Int :=
  if f.Level ≠ level ∨ (level = 1 ∧ s.2.2 ≠ []) then s
  else (if s.2.2 = [] ∨ sLt f.Lo s.1 = true then f.Lo else s.1, if sLt s.2.1 f.Hi = true then f.Hi else s.2.1, s.2.2 ++ [f.No])
/-- the state behind k files -/
def pickS (l : List File) (level : Int) (k : Nat) : List UInt8 × List UInt8 × List Int := (l.take k).foldl (pickA level) ([], [], [])
theorem pickS_succ (l : List File) (level : Int) (k : Nat) (h : k < l.length) : pickS l level (k + 1) = pickA level (pickS l level k) l[k] := by
  unfold pickS
  rw [show l.take (k + 1) = l.take k ++ [l[k]] by rw [List.take_add_one, List.getElem?_eq_getElem h]; rfl, List.foldl_append]
  rfl
/-- a file of the next level that meets the bounds -/
def pickM (lo hi : List UInt8) (level : Int) (f : File) : Bool := decide (f.Level = level + 1) && ((sLt f.Lo hi || decide (f.Lo = hi)) && !sLt f.Hi lo)
/-- the files picked -/
def pickV (l : List File) (level : Int) : List Int :=
  (pickS l level l.length).2.2 ++ if (pickS l level l.length).2.1 = [] then [] else (l.filter (pickM (pickS l level l.length).1 (pickS l level l.length).2.1 level)).map (·.No)
theorem sLt_nil_iff (b : List UInt8) : sLt [] b = !decide (b = []) := by cases b <;> rfl
theorem pickS_inv (l : List File) (level : Int) (hv : filesV l = true) : ∀ k, k ≤ l.length → ((pickS l level k).2.2 = [] ∧ (pickS l level k).1 = [] ∧ (pickS l level k).2.1 = [] ∨ (pickS l level k).2.2 ≠ [] ∧ (pickS l level k).2.1 ≠ []) ∧ (pickS l level k).2.2.length ≤ k := by
  intro k
  induction k with
  | zero => intro _; exact ⟨.inl ⟨rfl, rfl, rfl⟩, Nat.le_refl _⟩
  | succ k ih =>
    intro hk
    obtain ⟨i1, i2⟩ := ih (by omega)
    rw [pickS_succ l level k (by omega)]
    have hf := fileV_of hv k (by omega)
    generalize pickS l level k = s at i1 i2
    obtain ⟨lo, hi, out⟩ := s
    unfold pickA
    split
    · exact ⟨i1, Nat.le_succ_of_le i2⟩
    · refine ⟨.inr ⟨by simp, ?_⟩, by simpa using i2⟩
      simp only at i1 ⊢
      have hhi : l[k].Hi ≠ [] := fun e => by simp [fileV, e] at hf
      rcases i1 with ⟨_, _, e⟩ | ⟨_, e⟩
      · subst e
        rw [sLt_nil_iff, if_pos (by simpa using hhi)]
        exact hhi
      · split
        · exact hhi
        · exact e
theorem level_mono {l : List File} (hv : filesV l = true) : ∀ j (hj : j < l.length) i (hi : i ≤ j), (l[i]'(by omega)).Level ≤ l[j].Level := by
  intro j
  induction j with
  | zero => intro hj i hi; obtain rfl : i = 0 := by omega
            exact Int.le_refl _
  | succ j ih =>
    intro hj i hi
    by_cases e : i = j + 1
    · subst e; exact Int.le_refl _
    · refine Int.le_trans (ih (by omega) i (by omega)) ?_
      unfold filesV at hv
      rw [Bool.and_eq_true, List.all_eq_true] at hv
      have := hv.2 (j + 1) (by simp; omega)
      rw [passV_at l (j + 1) hj, dif_pos (by omega)] at this
      simp only [Bool.and_eq_true, Nat.add_sub_cancel] at this
      have ha := this.2.1.1
      unfold aheadV at ha
      split at ha
      · omega
      · simp at ha; omega
theorem pickS_stop {l : List File} {level : Int} (hv : filesV l = true) : ∀ d k, k + d = l.length → (∀ h : k < l.length, level < l[k].Level) → pickS l level k = pickS l level l.length := by
  intro d
  induction d with
  | zero => intro k hk _; obtain rfl : k = l.length := by omega
            rfl
  | succ d ih =>
    intro k hk h
    have h1 := h (by omega)
    rw [← ih (k + 1) (by omega) (fun h2 => Int.lt_of_lt_of_le h1 (level_mono hv (k + 1) h2 k (by omega))), pickS_succ l level k (by omega)]
    unfold pickA
    rw [if_pos (.inl (by omega))]
theorem filtered_le (p : File → Bool) (l : List File) (k : Nat) : (((l.take k).filter p).map (·.No)).length ≤ k := by
  rw [List.length_map]
  exact Nat.le_trans (List.length_filter_le _ _) (by simp; omega)
theorem pickA_skip {level : Int} {s : List UInt8 × List UInt8 × List Int} {f : File} (h : f.Level ≠ level ∨ (level = 1 ∧ s.2.2 ≠ [])) : pickA level s f = s := by
  unfold pickA; rw [if_pos h]
theorem pickA_take {level : Int} {s : List UInt8 × List UInt8 × List Int} {f : File} (h : ¬ (f.Level ≠ level ∨ (level = 1 ∧ s.2.2 ≠ []))) :
    pickA level s f = (if s.2.2 = [] ∨ sLt f.Lo s.1 = true then f.Lo else s.1, if sLt s.2.1 f.Hi = true then f.Hi else s.2.1, s.2.2 ++ [f.No]) := by
  unfold pickA; rw [if_neg h]
theorem len0 (out : List Int) : decide (((out.length : Nat) : Int) = 0) = decide (out = []) := by
  cases out with
  | nil => rfl
  | cons a l => simp; omega
theorem spec_FilesPick_eq (l : List File) (level : Int) (h : l.length ≤ 1048576) : spec_FilesPick l level = some (if filesV l = true ∧ (0 ≤ level ∧ level ≤ 1) then pickV l level else []) := by
  unfold spec_FilesPick
  by_cases hc : filesV l = true ∧ (0 ≤ level ∧ level ≤ 1)
  · obtain ⟨hv, hlev⟩ := hc
    rw [loopO_count (fun k => ((pickS l level k).1, (pickS l level k).2.1, (k : Int), (pickS l level k).2.2)) l.length (r := Ctl.go (pickS l level l.length)) ?h0]
    case h0 => rfl
    · simp only [bindC_go]
      rw [if_pos ⟨hv, hlev⟩]
      unfold pickV
      generalize hS : pickS l level l.length = s
      have hs := pickS_inv l level hv l.length (Nat.le_refl _)
      rw [hS] at hs
      obtain ⟨lo, hi, out⟩ := s
      simp only at hs ⊢
      by_cases hh : hi = []
      · subst hh
        rw [loopO_eq]
        by_cases h0 : (0 : Int) < (l.length : Int)
        · simp [h0]
        · simp [h0]
      · rw [if_neg hh, loopO_count (fun k => ((k : Int), out ++ ((l.take k).filter (pickM lo hi level)).map (·.No))) l.length (r := Ctl.go (out ++ (l.filter (pickM lo hi level)).map (·.No))) ?h0]
        case h0 => simp
        · rfl
        · intro k hk
          have hw : IntKind.i64.wrap ((k : Int) + 1) = ((k + 1 : Nat) : Int) := by rw [wrap_ok (by omega) (by omega)]; omega
          have hlw : IntKind.i64.wrap (level + 1) = level + 1 := wrap_ok (by omega) (by omega)
          have hfl := filtered_le (pickM lo hi level) l k
          simp only [idx_nat l k hk, Option.bind_some, hw, hlw, no_take _ l k hk]
          rw [show (if decide ((k : Int) < ((l.length : Nat) : Int)) = true then some (!decide (hi = [])) else some false) = some true by simp [hk, hh]]
          simp only [Option.bind_some, if_true]
          have hp : pickM lo hi level l[k] = (decide (l[k].Level = level + 1) && ((sLt l[k].Lo hi || decide (l[k].Lo = hi)) && !sLt l[k].Hi lo)) := rfl
          by_cases c1 : l[k].Level = level + 1
          · cases c2 : (sLt l[k].Lo hi || decide (l[k].Lo = hi)) with
            | false => simp [hp, c1, c2]
            | true =>
              cases c3 : sLt l[k].Hi lo with
              | true => simp [hp, c1, c2, c3]
              | false =>
                simp only [hp, c1, c2, c3, decide_true, if_true, Option.bind_some, Bool.not_false, Bool.and_self, bindC_go]
                rw [app_ok (by rw [List.length_append]; simp only [List.length_cons, List.length_nil]; omega) (by rw [List.length_append]; simp only [List.length_cons, List.length_nil]; omega)]
                simp
          · simp [hp, c1]
        · simp [hh]
    · intro k hk
      have hw : IntKind.i64.wrap ((k : Int) + 1) = ((k + 1 : Nat) : Int) := by rw [wrap_ok (by omega) (by omega)]; omega
      obtain ⟨hi1, hi2⟩ := pickS_inv l level hv k (by omega)
      simp only [spec_FilesOk_eq l h, hv, l1In_eq, hlev, and_self, decide_true, idx_nat l k hk, Option.bind_some, hw, pickS_succ l level k hk, if_true]
      rw [if_pos (by simpa using hk)]
      generalize pickS l level k = s at hi1 hi2
      obtain ⟨lo, hi, out⟩ := s
      simp only [Option.bind_some, if_true] at hi1 hi2 ⊢
      by_cases c1 : l[k].Level = level
      · rw [if_neg (by simpa using c1)]
        by_cases c2 : level = 1 ∧ out ≠ []
        · have : 0 < out.length := List.length_pos_iff.2 c2.2
          rw [if_pos (by simpa using c2.1), pickA_skip (.inr c2), decide_eq_true (by omega : ((out.length : Nat) : Int) > 0)]
          rfl
        · have hx : (if decide (level = 1) = true then some (decide (((out.length : Nat) : Int) > 0)) else some false) = some false := by
            by_cases c3 : level = 1
            · have : out = [] := by by_cases e : out = [] <;> simp_all
              simp [this]
            · simp [c3]
          rw [hx, pickA_take (show ¬ (l[k].Level ≠ level ∨ (level = 1 ∧ out ≠ [])) from fun q => q.elim (fun e => e c1) c2)]
          simp only [Option.bind_some, Bool.false_eq_true, if_false]
          have hgt : (!(sLt l[k].Hi hi || decide (l[k].Hi = hi))) = sLt hi l[k].Hi := by rw [sLt_compl, Bool.not_not]
          rw [len0, hgt]
          have happ : app 8 out [l[k].No] = some (out ++ [l[k].No]) := app_ok (by simp; omega) (by simp; omega)
          by_cases e1 : out = [] <;> cases e2 : sLt l[k].Lo lo <;> cases e3 : sLt hi l[k].Hi <;> simp [e1, e2, happ] <;> simp_all
      · rw [if_pos (by simpa using c1), pickA_skip (.inl c1)]
        rfl
    · simp
  · rw [if_neg hc, loopO_eq]
    have hx : ∀ (X : Bool → Option (Ctl (List UInt8 × List UInt8 × Int × List Int) (Ctl (List UInt8 × List UInt8 × List Int) (List Int)))), ((if (decide ((0 : Int) < ((l.length : Nat) : Int))) = true then ((spec_FilesOk l).bind fun R9 =>
        if R9 = true then ((spec_l1In level (0 : Int) (1 : Int)).bind fun R13 => some R13) else (some false)) else (some false)).bind X) = X false := by
      intro X
      by_cases h0 : (0 : Int) < (l.length : Int)
      · rw [if_pos (by simpa using h0), spec_FilesOk_eq l h]
        simp only [Option.bind_some, l1In_eq]
        by_cases hv : filesV l = true
        · rw [if_pos hv, decide_eq_false (fun q => hc ⟨hv, q⟩)]; rfl
        · rw [if_neg hv]; rfl
      · rw [if_neg (by simpa using h0)]; rfl
    simp only at hx ⊢
    rw [hx]
    simp only [Bool.false_eq_true, if_false, bindC_go]
    rw [loopO_eq]
    by_cases h0 : (0 : Int) < (l.length : Int)
    · simp [h0]
    · simp [h0]
theorem sMin_eq (a b : List UInt8) : sMin a b = if sLt b a = true then b else a := by
  unfold sMin
  rw [sLt_compl]
  cases sLt b a <;> simp
theorem sMax_eq (a b : List UInt8) : sMax a b = if sLt a b = true then b else a := by
  unfold sMax
  cases sLt a b <;> simp
theorem sLt_irr (a : List UInt8) : sLt a a = false := by
  have := sLt_compl a a
  simpa using this
theorem impl_FilesPick_eq (l : List File) (level : Int) (h : l.length ≤ 1048576) : impl_FilesPick l level = some (if filesV l = true ∧ (0 ≤ level ∧ level ≤ 1) then pickV l level else []) := by
  unfold impl_FilesPick
  simp only [inRange_eq, Option.bind_some, impl_FilesOk_eq l h]
  by_cases hlev : 0 ≤ level ∧ level ≤ 1
  · by_cases hv : filesV l = true
    · rw [show ((if filesV l = true ∧ (0 ≤ level ∧ level ≤ 1) then pickV l level else []) : List Int) = pickV l level from if_pos ⟨hv, hlev⟩]
      simp only [hlev, and_self, decide_true, hv]
      simp only [Bool.not_true, Bool.false_eq_true, if_false, Option.bind_some]
      obtain ⟨F1, F2⟩ := pickS_inv l level hv l.length (Nat.le_refl _)
      generalize hS : pickS l level l.length = fin at F1 F2
      have hMl : ∀ k, ((if fin.2.1 = [] then [] else ((l.take k).filter (pickM fin.1 fin.2.1 level)).map (·.No)) : List Int).length ≤ k := by
        intro k
        split
        · simp
        · exact filtered_le _ l k
      rw [loopO_count (fun k => ((pickS l level k).1, (pickS l level k).2.1, (k : Int), (pickS l level k).2.2 ++ if fin.2.1 = [] then [] else ((l.take k).filter (pickM fin.1 fin.2.1 level)).map (·.No))) l.length (r := Ctl.go (pickV l level)) ?h0]
      case h0 => simp [pickS]
      · rfl
      · intro k hk
        have hw : IntKind.i64.wrap ((k : Int) + 1) = ((k + 1 : Nat) : Int) := by rw [wrap_ok (by omega) (by omega)]; omega
        have hlw : IntKind.i64.wrap (level + 1) = level + 1 := wrap_ok (by omega) (by omega)
        obtain ⟨hi1, hi2⟩ := pickS_inv l level hv k (by omega)
        have hmk := hMl k
        simp only [idx_nat l k hk, Option.bind_some, hw, hlw, pickS_succ l level k hk, no_take _ l k hk]
        rw [if_pos (by simpa using hk)]
        by_cases c1 : l[k].Level = level
        · -- nothing of the next level lies ahead
          have hnone : ((l.take k).filter (pickM fin.1 fin.2.1 level)).map (·.No) = [] := by
            rw [List.map_eq_nil_iff, List.filter_eq_nil_iff]
            intro f hf
            obtain ⟨i, hi, rfl⟩ := List.getElem_of_mem hf
            have hi' : i < k := by simp at hi; omega
            have := level_mono hv k hk i (by omega)
            simp only [List.getElem_take]
            unfold pickM
            rw [decide_eq_false (by omega), Bool.false_and]
            exact Bool.false_ne_true
          have hpm : pickM fin.1 fin.2.1 level l[k] = false := by unfold pickM; rw [decide_eq_false (by omega), Bool.false_and]
          simp only [hnone, hpm, Bool.false_eq_true, if_false, List.append_nil, ite_self]
          generalize pickS l level k = s at hi1 hi2
          obtain ⟨lo, hi, out⟩ := s
          simp only at hi1 hi2 ⊢
          rw [len0, decide_eq_true c1, if_pos rfl]
          by_cases c2 : level = 1 ∧ out ≠ []
          · rw [pickA_skip (.inr c2), if_neg (by simp; omega), decide_eq_false c2.2, decide_eq_false (by omega : ¬ l[k].Level = level + 1)]
            rfl
          · have hx : (if decide (level = 0) = true then some true else some (decide (out = []))) = some true := by
              by_cases c3 : level = 0
              · simp [c3]
              · have : out = [] := by
                  have : level = 1 := by omega
                  by_cases e : out = [] <;> simp_all
                simp [this]
            rw [hx, pickA_take (show ¬ (l[k].Level ≠ level ∨ (level = 1 ∧ out ≠ [])) from fun q => q.elim (fun e => e c1) c2)]
            have happ : app 8 out [l[k].No] = some (out ++ [l[k].No]) := app_ok (by simp; omega) (by simp; omega)
            simp only [Option.bind_some, if_true, happ]
            have hne : l[k].Hi ≠ [] := fun e => by have := fileV_of hv k hk; simp [fileV, e] at this
            by_cases e1 : out = []
            · obtain ⟨_, rfl, rfl⟩ : out = [] ∧ lo = [] ∧ hi = [] := hi1.elim id fun q => absurd e1 q.1
              subst e1
              simp [sMin_eq, sMax_eq, sLt_irr, sLt_nil_iff, hne]
            · simp [sMin_eq, sMax_eq, e1]
        · rw [pickA_skip (.inl c1), decide_eq_false c1]
          simp only [Bool.false_eq_true, if_false, Option.bind_some]
          by_cases c2 : l[k].Level = level + 1
          · have hst : pickS l level k = fin := by rw [← hS]; exact pickS_stop hv (l.length - k) k (by omega) (fun _ => by omega)
            rw [hst, decide_eq_true c2]
            simp only [if_true]
            have hp : pickM fin.1 fin.2.1 level l[k] = ((sLt l[k].Lo fin.2.1 || decide (l[k].Lo = fin.2.1)) && !sLt l[k].Hi fin.1) := by unfold pickM; rw [decide_eq_true c2, Bool.true_and]
            rw [hp]
            generalize hM : ((l.take k).filter (pickM fin.1 fin.2.1 level)).map (·.No) = M at hmk
            by_cases e1 : fin.2.1 = []
            · have e2 : fin.2.2 = [] := F1.elim (fun q => q.1) fun q => absurd e1 q.2
              simp [e1, e2]
            · have e2 : 0 < fin.2.2.length := List.length_pos_iff.2 (F1.elim (fun q => absurd q.2.2 e1) fun q => q.1)
              rw [if_neg e1] at hmk
              simp only [if_neg e1]
              rw [if_pos (by rw [List.length_append]; simp; omega)]
              cases c3 : (sLt l[k].Lo fin.2.1 || decide (l[k].Lo = fin.2.1)) with
              | false => simp
              | true =>
                cases c4 : sLt l[k].Hi fin.1 with
                | true => simp
                | false =>
                  simp only [if_true, Option.bind_some, Bool.not_false, Bool.and_self]
                  rw [app_ok (by simp only [List.length_append, List.length_cons, List.length_nil]; omega) (by simp only [List.length_append, List.length_cons, List.length_nil]; omega)]
                  simp
          · have hpm : pickM fin.1 fin.2.1 level l[k] = false := by unfold pickM; rw [decide_eq_false c2, Bool.false_and]
            rw [decide_eq_false c2, hpm]
            simp
      · simp [hS, pickV]
    · rw [show ((if filesV l = true ∧ (0 ≤ level ∧ level ≤ 1) then pickV l level else []) : List Int) = [] from if_neg (fun q => hv q.1), decide_eq_true hlev]
      simp [hv]
  · rw [show ((if filesV l = true ∧ (0 ≤ level ∧ level ≤ 1) then pickV l level else []) : List Int) = [] from if_neg (fun q => hlev q.2), decide_eq_false hlev]
    rfl
theorem FnExactFilesPick_pure (a : List File) (level : Int) (h : okl a) : laws_FnExactFilesPick a level = some true := by
  unfold laws_FnExactFilesPick
  rw [szFileS_eq a 1048576 (by omega) (by omega) h]
  simp only [Option.bind_some]
  by_cases hl : szV 1048576 (a.length + (a.map fun x => x.Lo.length + x.Hi.length).sum) < 0
  · rw [if_pos (by simpa using hl)]
  · have hn := szV_nonneg hl
    have hl' : a.length ≤ 1048576 := by omega
    rw [if_neg (by simpa using hl), toFileS_eq a hl']
    simp only [Option.bind_some, spec_FilesPick_eq a level hl', impl_FilesPick_eq a level hl']
    generalize hr : (if filesV a = true ∧ (0 ≤ level ∧ level ≤ 1) then pickV a level else []) = r
    have hrl : r.length ≤ 1048576 := by
      subst hr
      split
      · rename_i hc
        have hv := hc.1
        unfold filesV at hv
        rw [Bool.and_eq_true] at hv
        have h12 : a.length ≤ 12 := of_decide_eq_true hv.1
        have h1 := (pickS_inv a level hc.1 a.length (Nat.le_refl _)).2
        have h2 : (a.filter (pickM (pickS a level a.length).1 (pickS a level a.length).2.1 level)).length ≤ a.length := List.length_filter_le _ _
        unfold pickV
        rw [List.length_append]
        split
        · simp; omega
        · rw [List.length_map]; omega
      · simp
    simp only [eqIntS_eq r r hrl, eqFileS_eq a a hl', markFileS_some a 1 hl' (by omega) (by omega), markIntS_eq r 1 hrl (by omega) (by omega), heldIntS_eq r 1 hrl (by omega) (by omega), Option.bind_some]
    have n1 : ¬ (1 + 4 * (a.length : Int) < 0) := by omega
    have n2 : ¬ (1 + (r.length : Int) < 0) := by omega
    simp [n1, n2]
theorem FnExactFilesPick_proved : Rows.FnExactFilesPickSaid := FnExactFilesPick_over fun a level h _ => FnExactFilesPick_pure a level h

end Go.Proofs.Ytpnnbeiojpphhaa
