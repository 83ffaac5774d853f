/-
  The plain laws: what the pure functions come to, and the statements. Conditions: none.
-/
import Derived.Test.YtfpbnddcbmfcaaaPm
import Derived.Test.YtfpbnddcbmfcaaaF2
set_option linter.unusedVariables false
set_option linter.unusedSimpArgs false
namespace Go.Proofs.Ytfpbnddcbmfcaaa
open Go Sl

theorem inRange_eq (n a b : Int) : impl_inRange n a b = some (decide (a ≤ n ∧ n ≤ b)) := by
  unfold impl_inRange
  by_cases h : n ≥ a <;> simp [h]
theorem l1In_eq (n a b : Int) : spec_l1In n a b = some (decide (a ≤ n ∧ n ≤ b)) := by
  unfold spec_l1In
  by_cases h : n ≥ a <;> simp [h]
/-! ### SpaceOk -/
theorem idx_some' {α : Type} {l : List α} {i : Int} (h0 : 0 ≤ i) (h1 : i < l.length) : idx l i = some (l[i.toNat]'(by omega)) := by
  unfold idx; rw [if_pos h0, List.getElem?_eq_getElem]
theorem sLt_compl : ∀ a b : List UInt8, (sLt b a || decide (b = a)) = !sLt a b
  | [], [] => rfl
  | [], b :: y => by simp [sLt, Op.bytesLess]
  | a :: x, [] => by simp [sLt, Op.bytesLess]
  | a :: x, b :: y => by
    have ih := sLt_compl x y
    simp only [sLt] at ih
    simp only [sLt, Op.bytesLess]
    by_cases h1 : a < b
    · have h2 : ¬ b < a := fun h => absurd (UInt8.lt_trans h1 h) (UInt8.lt_irrefl _)
      have h3 : ¬ b = a := fun h => by subst h; exact UInt8.lt_irrefl _ h1
      simp [h1, h2, h3]
    · by_cases h2 : b < a
      · have h3 : ¬ a = b := fun h => by subst h; exact UInt8.lt_irrefl _ h2
        simp [h1, h2, h3]
      · have h3 : a = b := by
          rw [UInt8.lt_iff_toNat_lt] at h1 h2
          apply UInt8.toNat_inj.1
          omega
        subst h3
        simp only [h1, decide_false, Bool.false_or, beq_self_eq_true, Bool.true_and, List.cons.injEq, true_and]
        exact ih
theorem isKey_eq (s : List UInt8) : impl_isKey s = some (decide (1 ≤ (s.length : Int) ∧ (s.length : Int) ≤ 10)) := by
  unfold impl_isKey; rw [inRange_eq]; rfl
theorem all_loop {body : Int → Option (Ctl Int (Ctl Unit Bool))} (pass : Nat → Bool) (n : Nat) (h : ∀ k, k < n → body (k : Int) = some (if pass k = true then .go ((k : Int) + 1) else .done (.done false))) (hn : body (n : Int) = some (.done (.go ()))) :
    loopO body 0 = some (if (List.range n).all pass = true then .go () else .done false) := by
  have key : ∀ d k, k + d = n → loopO body (k : Int) = some (if ((List.range n).drop k).all pass = true then .go () else .done false) := by
    intro d
    induction d with
    | zero =>
      intro k hk
      obtain rfl : k = n := by omega
      rw [loopO_eq, hn, List.drop_of_length_le (by simp)]
      rfl
    | succ d ih =>
      intro k hk
      have hd : (List.range n).drop k = k :: (List.range n).drop (k + 1) := by rw [List.drop_eq_getElem_cons (by simp; omega)]; simp
      rw [loopO_eq, h k (by omega), hd, List.all_cons]
      cases hp : pass k with
      | true =>
        have := ih (k + 1) (by omega)
        rw [show ((k + 1 : Nat) : Int) = (k : Int) + 1 by omega] at this
        simpa using this
      | false => simp
  have := key n 0 (by omega)
  simpa using this
/-- a file as required -/
def fileV (f : File) : Bool := decide (1 ≤ f.No ∧ f.No ≤ 1000000) && (decide (0 ≤ f.Level ∧ f.Level ≤ 2) && (decide (1 ≤ (f.Lo.length : Int) ∧ (f.Lo.length : Int) ≤ 10) && (decide (1 ≤ (f.Hi.length : Int) ∧ (f.Hi.length : Int) ≤ 10) && (sLt f.Lo f.Hi || decide (f.Lo = f.Hi)))))
/-- one file ahead of another -/
def aheadV (a b : File) : Bool := if a.Level = b.Level then (if a.Level = 0 then decide (a.No > b.No) else sLt a.Lo b.Lo) else decide (a.Level < b.Level)
/-- two neighbours in one level that overlap -/
def overV (a b : File) : Bool := decide (b.Level > 0) && (decide (a.Level = b.Level) && (sLt b.Lo a.Hi || decide (b.Lo = a.Hi)))
/-- the file at a place, against those ahead of it -/
def passV (l : List File) (k : Nat) : Bool := match l[k]? with
  | some f => fileV f && ((match k with | 0 => true | j + 1 => match l[j]? with | some e => aheadV e f && !overV e f | none => true) && (l.take k).all fun g => decide (g.No ≠ f.No))
  | none => true
theorem passV_at (l : List File) (k : Nat) (h : k < l.length) : passV l k = (fileV l[k] && ((if h0 : 0 < k then aheadV (l[k - 1]'(by omega)) l[k] && !overV (l[k - 1]'(by omega)) l[k] else true) && (l.take k).all fun g => decide (g.No ≠ l[k].No))) := by
  unfold passV
  rw [List.getElem?_eq_getElem h]
  cases k with
  | zero => rfl
  | succ j =>
    simp only [Nat.zero_lt_succ, dif_pos, Nat.add_sub_cancel]
    rw [List.getElem?_eq_getElem (by omega)]
/-- files in order -/
def filesV (l : List File) : Bool := decide (l.length ≤ 12) && (List.range l.length).all (passV l)
theorem l16Ahead_eq (a b : File) : spec_l16Ahead a b = some (aheadV a b) := by
  unfold spec_l16Ahead aheadV
  by_cases h1 : a.Level = b.Level
  · rw [if_neg (by simpa using h1), if_pos h1]
    by_cases h2 : a.Level = 0
    · rw [if_pos (by simpa using h2), if_pos h2]
    · rw [if_neg (by simpa using h2), if_neg h2]
  · simp [h1]
theorem cmpI_eq (x y : Int) : cmp_Compare_26527 x y = some (if x < y then -1 else if x > y then 1 else 0) := by
  unfold cmp_Compare_26527 cmp_isNaN_26527
  by_cases h1 : x < y <;> by_cases h2 : x > y <;> simp [h1, h2]
theorem cmpS_eq (x y : List UInt8) : cmp_Compare_83645 x y = some (if sLt x y = true then -1 else if (!(sLt x y || decide (x = y))) = true then 1 else 0) := by
  unfold cmp_Compare_83645 cmp_isNaN_83645
  simp only [decide_true, Bool.not_true, Option.bind_some, Bool.false_eq_true, if_false]
  split
  · rfl
  · split <;> rfl
theorem compareFiles_eq (a b : File) : ∃ r, impl_compareFiles a b = some r ∧ (decide (r ≥ 0) = !aheadV a b) := by
  unfold impl_compareFiles aheadV
  by_cases h1 : a.Level = b.Level
  · by_cases h2 : a.Level = 0
    · rw [if_neg (by simpa using h1), if_pos (by simpa using h2), cmpI_eq]
      refine ⟨_, rfl, ?_⟩
      rw [if_pos h1, if_pos h2]
      by_cases c : b.No < a.No
      · simp [c]
      · by_cases c2 : a.No < b.No <;> simp [c, c2]
    · rw [if_neg (by simpa using h1), if_neg (by simpa using h2), cmpS_eq]
      refine ⟨_, rfl, ?_⟩
      rw [if_pos h1, if_neg h2]
      by_cases c : sLt a.Lo b.Lo = true
      · simp [c]
      · have c' : sLt a.Lo b.Lo = false := by simpa using c
        rw [if_neg c, c']
        by_cases c2 : a.Lo = b.Lo
        · rw [decide_eq_true c2]; rfl
        · rw [decide_eq_false c2]; rfl
  · rw [if_pos (by simpa using h1), cmpI_eq]
    refine ⟨_, rfl, ?_⟩
    rw [if_neg h1]
    by_cases c : a.Level < b.Level
    · simp [c]
    · by_cases c2 : a.Level > b.Level <;> simp [c, c2]
theorem fileOk_eq (f : File) : impl_fileOk f = some (fileV f) := by
  unfold impl_fileOk fileV
  simp only [inRange_eq, isKey_eq, Option.bind_some]
  by_cases h1 : 1 ≤ f.No ∧ f.No ≤ 1000000
  · by_cases h2 : 0 ≤ f.Level ∧ f.Level ≤ 2
    · by_cases h3 : 1 ≤ (f.Lo.length : Int) ∧ (f.Lo.length : Int) ≤ 10
      · by_cases h4 : 1 ≤ (f.Hi.length : Int) ∧ (f.Hi.length : Int) ≤ 10
        · simp only [h1, h2, h3, h4, and_self, decide_true, if_true, Option.bind_some, Bool.true_and]
        · simp only [h1, h2, h3, h4, and_self, decide_true, decide_false, if_true, Option.bind_some, Bool.true_and, Bool.false_and, Bool.false_eq_true, if_false]
      · simp only [h1, h2, h3, and_self, decide_true, decide_false, if_true, Option.bind_some, Bool.true_and, Bool.false_and, Bool.false_eq_true, if_false]
    · simp only [h1, h2, and_self, decide_true, decide_false, if_true, Option.bind_some, Bool.true_and, Bool.false_and, Bool.false_eq_true, if_false]
  · simp only [h1, decide_false, Option.bind_some, Bool.false_and, Bool.false_eq_true, if_false]
theorem fileAt_eq (l : List File) (no : Int) (k : Nat) (hl : l.length ≤ 1048576) (hk : k < l.length) (hn : l[k].No = no) : ∃ r, impl_fileAt l no = some r ∧ (decide (r = (k : Int)) = (l.take k).all fun g => decide (g.No ≠ no)) := by
  unfold impl_fileAt slices_IndexFunc_68810_at_impl_fileAt_1 impl_fileAt_1
  have key : ∃ c, loopO (ρ := Ctl Unit Int) (fun (S1 : Int) => if (decide (S1 < ((l.length : Nat) : Int))) = true then ((idx l S1).bind fun E6 => (some (decide (E6.No = no))).bind fun R8 => if R8 = true then (some (.done (.done S1))) else (some (.go (IntKind.i64.wrap (S1 + (1 : Int)))))) else (some (.done (.go ())))) (0 : Int) = some c ∧
      ∃ j : Nat, c = .done (j : Int) ∧ j ≤ k ∧ (∀ i (h : i < l.length), i < j → l[i].No ≠ no) ∧ (∀ h : j < l.length, l[j].No = no) := by
    refine loopO_total (fun i s => s = (i : Int) ∧ i ≤ k ∧ ∀ q (h : q < l.length), q < i → l[q].No ≠ no) (k + 1) _ ⟨rfl, by omega, fun q h h2 => by omega⟩ ?_ ?_
    · rintro i s hi ⟨rfl, h1, h2⟩
      have hil : i < l.length := by omega
      simp only [idx_nat l i hil, Option.bind_some]
      rw [if_pos (by simpa using hil), wrap_ok (by omega) (by omega)]
      by_cases c : l[i].No = no
      · right
        exact ⟨_, by simp [c], i, rfl, h1, h2, fun _ => c⟩
      · left
        have hik : i ≠ k := fun e => by subst e; exact c hn
        refine ⟨(i : Int) + 1, by simp [c], by omega, by omega, fun q h h3 => ?_⟩
        by_cases e : q = i
        · subst e; exact c
        · exact h2 q h (by omega)
    · rintro s ⟨rfl, h1, _⟩
      omega
  obtain ⟨c, hc, j, rfl, h1, h2, h3⟩ := key
  rw [hc]
  refine ⟨(j : Int), rfl, ?_⟩
  by_cases e : j = k
  · subst e
    rw [decide_eq_true (rfl : (j : Int) = (j : Int))]
    symm
    rw [List.all_eq_true]
    intro g hg
    obtain ⟨i, hi, rfl⟩ := List.getElem_of_mem hg
    have hi' : i < j := by simp at hi; omega
    simp only [List.getElem_take, decide_eq_true_eq]
    exact h2 i (by omega) hi'
  · rw [decide_eq_false (by omega : ¬ (j : Int) = (k : Int))]
    symm
    rw [← Bool.not_eq_true, List.all_eq_true]
    intro hall
    have hj : j < (l.take k).length := by simp; omega
    have := hall ((l.take k)[j]) (List.getElem_mem hj)
    simp only [List.getElem_take, decide_eq_true_eq] at this
    exact this (h3 (by omega))
theorem impl_FilesOk_eq (l : List File) (h : l.length ≤ 1048576) : impl_FilesOk l = some (filesV l) := by
  unfold impl_FilesOk filesV
  by_cases h12 : ((l.length : Nat) : Int) > 12
  · rw [if_pos (by simpa using h12), decide_eq_false (by omega : ¬ l.length ≤ 12)]
    rfl
  · rw [if_neg (by simpa using h12), decide_eq_true (by omega : l.length ≤ 12), Bool.true_and]
    rw [all_loop (passV l) l.length ?hp ?hq]
    · cases (List.range l.length).all (passV l) <;> rfl
    case hq => simp
    case hp =>
      intro k hk
      obtain ⟨r, hr, hr2⟩ := fileAt_eq l l[k].No k h hk rfl
      simp only [idx_nat l k hk, Option.bind_some, fileOk_eq, hr]
      rw [if_pos (by simpa using hk), wrap_ok (n := (k : Int) + 1) (by omega) (by omega), passV_at l k hk, hr2]
      cases hf : fileV l[k] with
      | false => simp
      | true =>
        cases ha : (l.take k).all fun g => decide (g.No ≠ l[k].No) with
        | false => simp
        | true =>
          by_cases h0 : 0 < k
          · have hw : IntKind.i64.wrap ((k : Int) - 1) = ((k - 1 : Nat) : Int) := by rw [wrap_ok (by omega) (by omega)]; omega
            rw [dif_pos h0]
            simp only [hw, idx_nat l (k - 1) (by omega), Option.bind_some]
            obtain ⟨c, hc, hc2⟩ := compareFiles_eq (l[k - 1]'(by omega)) l[k]
            rw [if_neg (by simp), if_neg (by simp), if_pos (by simp; omega), if_pos (by simp; omega), hc]
            simp only [Option.bind_some, hc2]
            unfold overV
            cases aheadV (l[k - 1]'(by omega)) l[k] with
            | false => simp
            | true =>
              by_cases c1 : l[k].Level > 0
              · by_cases c2 : (l[k - 1]'(by omega)).Level = l[k].Level
                · cases hs : (sLt l[k].Lo (l[k - 1]'(by omega)).Hi || decide (l[k].Lo = (l[k - 1]'(by omega)).Hi)) with
                  | true => simp [c1, c2, hs]
                  | false => simp [c1, c2, hs]
                · simp [c1, c2]
              · simp [c1]
          · have hk0 : k = 0 := by omega
            subst hk0
            simp
theorem l16Text_eq (s : List UInt8) : spec_l16Text s = some (decide (1 ≤ (s.length : Int) ∧ (s.length : Int) ≤ 10)) := by
  unfold spec_l16Text; rw [l1In_eq]; rfl
theorem nodup_loop (l : List File) (k : Nat) (hk : k < l.length) (h : l.length ≤ 1048576) : loopO (ρ := Ctl Unit (Ctl Int (Ctl Unit Bool))) (fun (S41 : Int) => if (decide (S41 < (k : Int))) = true then ((idx l S41).bind fun E46 =>
  if (decide (E46.No = l[k].No)) = true then (some (.done (.done (.done (.done false)))))
  else (some (.go (IntKind.i64.wrap (S41 + (1 : Int))))))
  else (some (.done (.go ())))) (0 : Int) = some (if (l.take k).all (fun g => decide (g.No ≠ l[k].No)) = true then .go () else .done (.done (.done false))) := by
  refine loopO_is (fun i s => s = (i : Int) ∧ ((l.take k).all (fun g => decide (g.No ≠ l[k].No)) = ((l.take k).drop i).all (fun g => decide (g.No ≠ l[k].No)))) k _ ⟨rfl, by rw [List.drop_zero]⟩ ?_ ?_
  · rintro i s hi ⟨rfl, he⟩
    have hil : i < l.length := by omega
    have hd : (l.take k).drop i = l[i] :: (l.take k).drop (i + 1) := by
      rw [List.drop_eq_getElem_cons (by simp; omega)]
      simp
    rw [he, hd, List.all_cons]
    simp only [idx_nat l i hil, Option.bind_some]
    rw [if_pos (by simpa using hi), wrap_ok (by omega) (by omega)]
    by_cases c : l[i].No = l[k].No
    · right
      simp [c]
    · left
      refine ⟨(i : Int) + 1, by simp [c], by omega, ?_⟩
      simp [c]
  · rintro s ⟨rfl, he⟩
    rw [he, List.drop_of_length_le (by simp; omega)]
    simp
theorem spec_FilesOk_eq (l : List File) (h : l.length ≤ 1048576) : spec_FilesOk l = some (filesV l) := by
  unfold spec_FilesOk filesV
  by_cases h12 : ((l.length : Nat) : Int) > 12
  · rw [if_pos (by simpa using h12), decide_eq_false (by omega : ¬ l.length ≤ 12)]
    rfl
  · rw [if_neg (by simpa using h12), decide_eq_true (by omega : l.length ≤ 12), Bool.true_and]
    rw [all_loop (passV l) l.length ?hp ?hq]
    · cases (List.range l.length).all (passV l) <;> rfl
    case hq => simp
    case hp =>
      intro k hk
      simp only [idx_nat l k hk, Option.bind_some, l16Text_eq, l1In_eq, l16Ahead_eq, nodup_loop l k hk h]
      rw [if_pos (by simpa using hk), wrap_ok (n := (k : Int) + 1) (by omega) (by omega), passV_at l k hk]
      have hf : ∀ (X : Bool → Option (Ctl Int (Ctl Unit Bool))), ((if (!decide (1 ≤ l[k].No ∧ l[k].No ≤ 1000000)) = true then some true else if (!decide (0 ≤ l[k].Level ∧ l[k].Level ≤ 2)) = true then some true
          else if (!decide (1 ≤ (l[k].Lo.length : Int) ∧ (l[k].Lo.length : Int) ≤ 10)) = true then some true else if (!decide (1 ≤ (l[k].Hi.length : Int) ∧ (l[k].Hi.length : Int) ≤ 10)) = true then some true else some (!(sLt l[k].Lo l[k].Hi || decide (l[k].Lo = l[k].Hi)))) : Option Bool).bind X = X (!fileV l[k]) := by
        intro X
        unfold fileV
        by_cases h1 : 1 ≤ l[k].No ∧ l[k].No ≤ 1000000 <;> by_cases h2 : 0 ≤ l[k].Level ∧ l[k].Level ≤ 2 <;> by_cases h3 : 1 ≤ (l[k].Lo.length : Int) ∧ (l[k].Lo.length : Int) ≤ 10 <;> by_cases h4 : 1 ≤ (l[k].Hi.length : Int) ∧ (l[k].Hi.length : Int) ≤ 10 <;>
          simp only [h1, h2, h3, h4, and_self, decide_true, decide_false, Bool.not_true, Bool.not_false, Bool.false_eq_true, if_true, if_false, Option.bind_some, Bool.true_and, Bool.false_and]
      rw [hf]
      cases fileV l[k] with
      | false => simp
      | true =>
        simp only [Bool.not_true, Bool.false_eq_true, if_false, Bool.true_and]
        by_cases h0 : 0 < k
        · have hw : IntKind.i64.wrap ((k : Int) - 1) = ((k - 1 : Nat) : Int) := by rw [wrap_ok (by omega) (by omega)]; omega
          rw [dif_pos h0, if_pos (by simp; omega)]
          simp only [hw, idx_nat l (k - 1) (by omega), Option.bind_some]
          unfold overV
          cases aheadV (l[k - 1]'(by omega)) l[k] with
          | false => simp
          | true =>
            cases (l.take k).all fun g => decide (g.No ≠ l[k].No) <;>
            by_cases c1 : l[k].Level > 0 <;> by_cases c2 : (l[k - 1]'(by omega)).Level = l[k].Level <;> cases hs : (sLt l[k].Lo (l[k - 1]'(by omega)).Hi || decide (l[k].Lo = (l[k - 1]'(by omega)).Hi)) <;> simp [c1, c2, hs]
        · have hk0 : k = 0 := by omega
          subst hk0
          simp
theorem sLt_compl' (a b : List UInt8) : (!sLt a b) = (sLt b a || decide (b = a)) := (sLt_compl a b).symm
/-- the files that may hold a key -/
def atV (l : List File) (key : List UInt8) : List Int := (l.filter fun f => (sLt f.Lo key || decide (f.Lo = key)) && (sLt key f.Hi || decide (key = f.Hi))).map (·.No)
theorem no_take (p : File → Bool) (l : List File) (k : Nat) (h : k < l.length) : ((l.take (k + 1)).filter p).map (·.No) = ((l.take k).filter p).map (·.No) ++ if p l[k] = true then [l[k].No] else [] := by
  rw [show l.take (k + 1) = l.take k ++ [l[k]] by rw [List.take_add_one, List.getElem?_eq_getElem h]; rfl, List.filter_append, List.map_append]
  congr 1
  by_cases c : p l[k] = true
  · rw [if_pos c, List.filter_cons_of_pos c]; rfl
  · rw [if_neg c, List.filter_cons_of_neg c]; rfl
theorem spec_FilesAt_eq (l : List File) (key : List UInt8) (h : l.length ≤ 1048576) : spec_FilesAt l key = some (if filesV l = true then atV l key else []) := by
  unfold spec_FilesAt
  simp only [spec_FilesOk_eq l h, Option.bind_some]
  cases hv : filesV l with
  | false =>
    rw [loopO_eq]
    by_cases h0 : (0 : Int) < (l.length : Int)
    · simp [h0]
    · simp only
      rw [if_neg (by simpa using h0)]
      rfl
  | true =>
    rw [loopO_count (fun k => ((k : Int), atV (l.take k) key)) l.length (r := Ctl.go (atV l key)) ?h0]
    case h0 => rfl
    · rfl
    · intro k hk
      have hw : IntKind.i64.wrap ((k : Int) + 1) = ((k + 1 : Nat) : Int) := by rw [wrap_ok (by omega) (by omega)]; omega
      have htk : l.take (k + 1) = l.take k ++ [l[k]] := by rw [List.take_add_one, List.getElem?_eq_getElem hk]; rfl
      have hlen : (atV (l.take k) key).length ≤ k := by unfold atV; rw [List.length_map]; exact Nat.le_trans (List.length_filter_le _ _) (by simp; omega)
      have hat : atV (l.take (k + 1)) key = atV (l.take k) key ++ if ((sLt l[k].Lo key || decide (l[k].Lo = key)) && (sLt key l[k].Hi || decide (key = l[k].Hi))) = true then [l[k].No] else [] := by
        exact no_take _ l k hk
      simp only [idx_nat l k hk, Option.bind_some, hw, hat]
      rw [if_pos (by simpa using hk)]
      simp only [Option.bind_some, if_true]
      cases c1 : (sLt l[k].Lo key || decide (l[k].Lo = key)) with
      | false => simp
      | true =>
        cases c2 : (sLt key l[k].Hi || decide (key = l[k].Hi)) with
        | false => simp
        | true =>
          simp only [if_true, Option.bind_some, Bool.and_self]
          rw [app_ok (by simp; omega) (by simp; omega)]
          rfl
    · simp
theorem impl_FilesAt_eq (l : List File) (key : List UInt8) (h : l.length ≤ 1048576) : impl_FilesAt l key = some (if filesV l = true then atV l key else []) := by
  unfold impl_FilesAt
  simp only [impl_FilesOk_eq l h, Option.bind_some]
  cases hv : filesV l with
  | false => rfl
  | true =>
    simp only [Bool.not_true, Bool.false_eq_true, if_false, if_true]
    rw [loopO_count (fun k => ((k : Int), atV (l.take k) key)) l.length (r := Ctl.go (atV l key)) ?h0]
    case h0 => rfl
    · rfl
    · intro k hk
      have hw : IntKind.i64.wrap ((k : Int) + 1) = ((k + 1 : Nat) : Int) := by rw [wrap_ok (by omega) (by omega)]; omega
      have htk : l.take (k + 1) = l.take k ++ [l[k]] := by rw [List.take_add_one, List.getElem?_eq_getElem hk]; rfl
      have hlen : (atV (l.take k) key).length ≤ k := by unfold atV; rw [List.length_map]; exact Nat.le_trans (List.length_filter_le _ _) (by simp; omega)
      have hat : atV (l.take (k + 1)) key = atV (l.take k) key ++ if ((sLt l[k].Lo key || decide (l[k].Lo = key)) && (sLt key l[k].Hi || decide (key = l[k].Hi))) = true then [l[k].No] else [] := by
        exact no_take _ l k hk
      simp only [idx_nat l k hk, Option.bind_some, hw, hat, sLt_compl']
      rw [if_pos (by simpa using hk)]
      cases c1 : (sLt l[k].Lo key || decide (l[k].Lo = key)) with
      | false => simp
      | true =>
        cases c2 : (sLt key l[k].Hi || decide (key = l[k].Hi)) with
        | false => simp
        | true =>
          simp only [if_true, Option.bind_some, Bool.and_self]
          rw [app_ok (by simp; omega) (by simp; omega)]
          rfl
    · simp
theorem atV_length (l : List File) (key : List UInt8) : (atV l key).length ≤ l.length := by unfold atV; rw [List.length_map]; exact List.length_filter_le _ _
theorem fileV_of {l : List File} (hv : filesV l = true) (k : Nat) (hk : k < l.length) : fileV l[k] = true := by
  unfold filesV at hv
  rw [Bool.and_eq_true, List.all_eq_true] at hv
  have := hv.2 k (by simp; omega)
  rw [passV_at l k hk, Bool.and_eq_true] at this
  exact this.1
/-- the state of the first round over the files -/
def pickA (level : Int) (s : List UInt8 × List UInt8 × List Int) (f : File) : List UInt8 × List UInt8 × List Int :=
  if f.Level ≠ level ∨ (level = 1 ∧ s.2.2 ≠ []) then s
  else (if s.2.2 = [] ∨ sLt f.Lo s.1 = true then f.Lo else s.1, if sLt s.2.1 f.Hi = true then f.Hi else s.2.1, s.2.2 ++ [f.No])
/-- the state behind k files -/
def pickS (l : List File) (level : Int) (k : Nat) : List UInt8 × List UInt8 × List Int := (l.take k).foldl (pickA level) ([], [], [])
theorem pickS_succ (l : List File) (level : Int) (k : Nat) (h : k < l.length) : pickS l level (k + 1) = pickA level (pickS l level k) l[k] := by
  unfold pickS
  rw [show l.take (k + 1) = l.take k ++ [l[k]] by rw [List.take_add_one, List.getElem?_eq_getElem h]; rfl, List.foldl_append]
  rfl
/-- a file of the next level that meets the bounds -/
def pickM (lo hi : List UInt8) (level : Int) (f : File) : Bool := decide (f.Level = level + 1) && ((sLt f.Lo hi || decide (f.Lo = hi)) && !sLt f.Hi lo)
/-- the files picked -/
def pickV (l : List File) (level : Int) : List Int :=
  (pickS l level l.length).2.2 ++ if (pickS l level l.length).2.1 = [] then [] else (l.filter (pickM (pickS l level l.length).1 (pickS l level l.length).2.1 level)).map (·.No)
theorem sLt_nil_iff (b : List UInt8) : sLt [] b = !decide (b = []) := by cases b <;> rfl
theorem pickS_inv (l : List File) (level : Int) (hv : filesV l = true) : ∀ k, k ≤ l.length → ((pickS l level k).2.2 = [] ∧ (pickS l level k).1 = [] ∧ (pickS l level k).2.1 = [] ∨ (pickS l level k).2.2 ≠ [] ∧ (pickS l level k).2.1 ≠ []) ∧ (pickS l level k).2.2.length ≤ k := by
  intro k
  induction k with
  | zero => intro _; exact ⟨.inl ⟨rfl, rfl, rfl⟩, Nat.le_refl _⟩
  | succ k ih =>
    intro hk
    obtain ⟨i1, i2⟩ := ih (by omega)
    rw [pickS_succ l level k (by omega)]
    have hf := fileV_of hv k (by omega)
    generalize pickS l level k = s at i1 i2
    obtain ⟨lo, hi, out⟩ := s
    unfold pickA
    split
    · exact ⟨i1, Nat.le_succ_of_le i2⟩
    · refine ⟨.inr ⟨by simp, ?_⟩, by simpa using i2⟩
      simp only at i1 ⊢
      have hhi : l[k].Hi ≠ [] := fun e => by simp [fileV, e] at hf
      rcases i1 with ⟨_, _, e⟩ | ⟨_, e⟩
      · subst e
        rw [sLt_nil_iff, if_pos (by simpa using hhi)]
        exact hhi
      · split
        · exact hhi
        · exact e
theorem level_mono {l : List File} (hv : filesV l = true) : ∀ j (hj : j < l.length) i (hi : i ≤ j), (l[i]'(by omega)).Level ≤ l[j].Level := by
  intro j
  induction j with
  | zero => intro hj i hi; obtain rfl : i = 0 := by omega
            exact Int.le_refl _
  | succ j ih =>
    intro hj i hi
    by_cases e : i = j + 1
    · subst e; exact Int.le_refl _
    · refine Int.le_trans (ih (by omega) i (by omega)) ?_
      unfold filesV at hv
      rw [Bool.and_eq_true, List.all_eq_true] at hv
      have := hv.2 (j + 1) (by simp; omega)
      rw [passV_at l (j + 1) hj, dif_pos (by omega)] at this
      simp only [Bool.and_eq_true, Nat.add_sub_cancel] at this
      have ha := this.2.1.1
      unfold aheadV at ha
      split at ha
      · omega
      · simp at ha; omega
theorem pickS_stop {l : List File} {level : Int} (hv : filesV l = true) : ∀ d k, k + d = l.length → (∀ h : k < l.length, level < l[k].Level) → pickS l level k = pickS l level l.length := by
  intro d
  induction d with
  | zero => intro k hk _; obtain rfl : k = l.length := by omega
            rfl
  | succ d ih =>
    intro k hk h
    have h1 := h (by omega)
    rw [← ih (k + 1) (by omega) (fun h2 => Int.lt_of_lt_of_le h1 (level_mono hv (k + 1) h2 k (by omega))), pickS_succ l level k (by omega)]
    unfold pickA
    rw [if_pos (.inl (by omega))]
theorem filtered_le (p : File → Bool) (l : List File) (k : Nat) : (((l.take k).filter p).map (·.No)).length ≤ k := by
  rw [List.length_map]
  exact Nat.le_trans (List.length_filter_le _ _) (by simp; omega)
theorem pickA_skip {level : Int} {s : List UInt8 × List UInt8 × List Int} {f : File} (h : f.Level ≠ level ∨ (level = 1 ∧ s.2.2 ≠ [])) : pickA level s f = s := by
  unfold pickA; rw [if_pos h]
theorem pickA_take {level : Int} {s : List UInt8 × List UInt8 × List Int} {f : File} (h : ¬ (f.Level ≠ level ∨ (level = 1 ∧ s.2.2 ≠ []))) :
    pickA level s f = (if s.2.2 = [] ∨ sLt f.Lo s.1 = true then f.Lo else s.1, if sLt s.2.1 f.Hi = true then f.Hi else s.2.1, s.2.2 ++ [f.No]) := by
  unfold pickA; rw [if_neg h]
theorem len0 (out : List Int) : decide (((out.length : Nat) : Int) = 0) = decide (out = []) := by
  cases out with
  | nil => rfl
  | cons a l => simp; omega
theorem spec_FilesPick_eq (l : List File) (level : Int) (h : l.length ≤ 1048576) : spec_FilesPick l level = some (if filesV l = true ∧ (0 ≤ level ∧ level ≤ 1) then pickV l level else []) := by
  unfold spec_FilesPick
  by_cases hc : filesV l = true ∧ (0 ≤ level ∧ level ≤ 1)
  · obtain ⟨hv, hlev⟩ := hc
    rw [loopO_count (fun k => ((pickS l level k).1, (pickS l level k).2.1, (k : Int), (pickS l level k).2.2)) l.length (r := Ctl.go (pickS l level l.length)) ?h0]
    case h0 => rfl
    · simp only [bindC_go]
      rw [if_pos ⟨hv, hlev⟩]
      unfold pickV
      generalize hS : pickS l level l.length = s
      have hs := pickS_inv l level hv l.length (Nat.le_refl _)
      rw [hS] at hs
      obtain ⟨lo, hi, out⟩ := s
      simp only at hs ⊢
      by_cases hh : hi = []
      · subst hh
        rw [loopO_eq]
        by_cases h0 : (0 : Int) < (l.length : Int)
        · simp [h0]
        · simp [h0]
      · rw [if_neg hh, loopO_count (fun k => ((k : Int), out ++ ((l.take k).filter (pickM lo hi level)).map (·.No))) l.length (r := Ctl.go (out ++ (l.filter (pickM lo hi level)).map (·.No))) ?h0]
        case h0 => simp
        · rfl
        · intro k hk
          have hw : IntKind.i64.wrap ((k : Int) + 1) = ((k + 1 : Nat) : Int) := by rw [wrap_ok (by omega) (by omega)]; omega
          have hlw : IntKind.i64.wrap (level + 1) = level + 1 := wrap_ok (by omega) (by omega)
          have hfl := filtered_le (pickM lo hi level) l k
          simp only [idx_nat l k hk, Option.bind_some, hw, hlw, no_take _ l k hk]
          rw [show (if decide ((k : Int) < ((l.length : Nat) : Int)) = true then some (!decide (hi = [])) else some false) = some true by simp [hk, hh]]
          simp only [Option.bind_some, if_true]
          have hp : pickM lo hi level l[k] = (decide (l[k].Level = level + 1) && ((sLt l[k].Lo hi || decide (l[k].Lo = hi)) && !sLt l[k].Hi lo)) := rfl
          by_cases c1 : l[k].Level = level + 1
          · cases c2 : (sLt l[k].Lo hi || decide (l[k].Lo = hi)) with
            | false => simp [hp, c1, c2]
            | true =>
              cases c3 : sLt l[k].Hi lo with
              | true => simp [hp, c1, c2, c3]
              | false =>
                simp only [hp, c1, c2, c3, decide_true, if_true, Option.bind_some, Bool.not_false, Bool.and_self, bindC_go]
                rw [app_ok (by rw [List.length_append]; simp only [List.length_cons, List.length_nil]; omega) (by rw [List.length_append]; simp only [List.length_cons, List.length_nil]; omega)]
                simp
          · simp [hp, c1]
        · simp [hh]
    · intro k hk
      have hw : IntKind.i64.wrap ((k : Int) + 1) = ((k + 1 : Nat) : Int) := by rw [wrap_ok (by omega) (by omega)]; omega
      obtain ⟨hi1, hi2⟩ := pickS_inv l level hv k (by omega)
      simp only [spec_FilesOk_eq l h, hv, l1In_eq, hlev, and_self, decide_true, idx_nat l k hk, Option.bind_some, hw, pickS_succ l level k hk, if_true]
      rw [if_pos (by simpa using hk)]
      generalize pickS l level k = s at hi1 hi2
      obtain ⟨lo, hi, out⟩ := s
      simp only [Option.bind_some, if_true] at hi1 hi2 ⊢
      by_cases c1 : l[k].Level = level
      · rw [if_neg (by simpa using c1)]
        by_cases c2 : level = 1 ∧ out ≠ []
        · have : 0 < out.length := List.length_pos_iff.2 c2.2
          rw [if_pos (by simpa using c2.1), pickA_skip (.inr c2), decide_eq_true (by omega : ((out.length : Nat) : Int) > 0)]
          rfl
        · have hx : (if decide (level = 1) = true then some (decide (((out.length : Nat) : Int) > 0)) else some false) = some false := by
            by_cases c3 : level = 1
            · have : out = [] := by by_cases e : out = [] <;> simp_all
              simp [this]
            · simp [c3]
          rw [hx, pickA_take (show ¬ (l[k].Level ≠ level ∨ (level = 1 ∧ out ≠ [])) from fun q => q.elim (fun e => e c1) c2)]
          simp only [Option.bind_some, Bool.false_eq_true, if_false]
          have hgt : (!(sLt l[k].Hi hi || decide (l[k].Hi = hi))) = sLt hi l[k].Hi := by rw [sLt_compl, Bool.not_not]
          rw [len0, hgt]
          have happ : app 8 out [l[k].No] = some (out ++ [l[k].No]) := app_ok (by simp; omega) (by simp; omega)
          by_cases e1 : out = [] <;> cases e2 : sLt l[k].Lo lo <;> cases e3 : sLt hi l[k].Hi <;> simp [e1, e2, happ] <;> simp_all
      · rw [if_pos (by simpa using c1), pickA_skip (.inl c1)]
        rfl
    · simp
  · rw [if_neg hc, loopO_eq]
    have hx : ∀ (X : Bool → Option (Ctl (List UInt8 × List UInt8 × Int × List Int) (Ctl (List UInt8 × List UInt8 × List Int) (List Int)))), ((if (decide ((0 : Int) < ((l.length : Nat) : Int))) = true then ((spec_FilesOk l).bind fun R9 =>
        if R9 = true then ((spec_l1In level (0 : Int) (1 : Int)).bind fun R13 => some R13) else (some false)) else (some false)).bind X) = X false := by
      intro X
      by_cases h0 : (0 : Int) < (l.length : Int)
      · rw [if_pos (by simpa using h0), spec_FilesOk_eq l h]
        simp only [Option.bind_some, l1In_eq]
        by_cases hv : filesV l = true
        · rw [if_pos hv, decide_eq_false (fun q => hc ⟨hv, q⟩)]; rfl
        · rw [if_neg hv]; rfl
      · rw [if_neg (by simpa using h0)]; rfl
    simp only at hx ⊢
    rw [hx]
    simp only [Bool.false_eq_true, if_false, bindC_go]
    rw [loopO_eq]
    by_cases h0 : (0 : Int) < (l.length : Int)
    · simp [h0]
    · simp [h0]
theorem sMin_eq (a b : List UInt8) : sMin a b = if sLt b a = true then b else a := by
  unfold sMin
  rw [sLt_compl]
  cases sLt b a <;> simp
theorem sMax_eq (a b : List UInt8) : sMax a b = if sLt a b = true then b else a := by
  unfold sMax
  cases sLt a b <;> simp
theorem sLt_irr (a : List UInt8) : sLt a a = false := by
  have := sLt_compl a a
  simpa using this
theorem impl_FilesPick_eq (l : List File) (level : Int) (h : l.length ≤ 1048576) : impl_FilesPick l level = some (if filesV l = true ∧ (0 ≤ level ∧ level ≤ 1) then pickV l level else []) := by
  unfold impl_FilesPick
  simp only [inRange_eq, Option.bind_some, impl_FilesOk_eq l h]
  by_cases hlev : 0 ≤ level ∧ level ≤ 1
  · by_cases hv : filesV l = true
    · rw [show ((if filesV l = true ∧ (0 ≤ level ∧ level ≤ 1) then pickV l level else []) : List Int) = pickV l level from if_pos ⟨hv, hlev⟩]
      simp only [hlev, and_self, decide_true, hv]
      simp only [Bool.not_true, Bool.false_eq_true, if_false, Option.bind_some]
      obtain ⟨F1, F2⟩ := pickS_inv l level hv l.length (Nat.le_refl _)
      generalize hS : pickS l level l.length = fin at F1 F2
      have hMl : ∀ k, ((if fin.2.1 = [] then [] else ((l.take k).filter (pickM fin.1 fin.2.1 level)).map (·.No)) : List Int).length ≤ k := by
        intro k
        split
        · simp
        · exact filtered_le _ l k
      rw [loopO_count (fun k => ((pickS l level k).1, (pickS l level k).2.1, (k : Int), (pickS l level k).2.2 ++ if fin.2.1 = [] then [] else ((l.take k).filter (pickM fin.1 fin.2.1 level)).map (·.No))) l.length (r := Ctl.go (pickV l level)) ?h0]
      case h0 => simp [pickS]
      · rfl
      · intro k hk
        have hw : IntKind.i64.wrap ((k : Int) + 1) = ((k + 1 : Nat) : Int) := by rw [wrap_ok (by omega) (by omega)]; omega
        have hlw : IntKind.i64.wrap (level + 1) = level + 1 := wrap_ok (by omega) (by omega)
        obtain ⟨hi1, hi2⟩ := pickS_inv l level hv k (by omega)
        have hmk := hMl k
        simp only [idx_nat l k hk, Option.bind_some, hw, hlw, pickS_succ l level k hk, no_take _ l k hk]
        rw [if_pos (by simpa using hk)]
        by_cases c1 : l[k].Level = level
        · -- nothing of the next level lies ahead
          have hnone : ((l.take k).filter (pickM fin.1 fin.2.1 level)).map (·.No) = [] := by
            rw [List.map_eq_nil_iff, List.filter_eq_nil_iff]
            intro f hf
            obtain ⟨i, hi, rfl⟩ := List.getElem_of_mem hf
            have hi' : i < k := by simp at hi; omega
            have := level_mono hv k hk i (by omega)
            simp only [List.getElem_take]
            unfold pickM
            rw [decide_eq_false (by omega), Bool.false_and]
            exact Bool.false_ne_true
          have hpm : pickM fin.1 fin.2.1 level l[k] = false := by unfold pickM; rw [decide_eq_false (by omega), Bool.false_and]
          simp only [hnone, hpm, Bool.false_eq_true, if_false, List.append_nil, ite_self]
          generalize pickS l level k = s at hi1 hi2
          obtain ⟨lo, hi, out⟩ := s
          simp only at hi1 hi2 ⊢
          rw [len0, decide_eq_true c1, if_pos rfl]
          by_cases c2 : level = 1 ∧ out ≠ []
          · rw [pickA_skip (.inr c2), if_neg (by simp; omega), decide_eq_false c2.2, decide_eq_false (by omega : ¬ l[k].Level = level + 1)]
            rfl
          · have hx : (if decide (level = 0) = true then some true else some (decide (out = []))) = some true := by
              by_cases c3 : level = 0
              · simp [c3]
              · have : out = [] := by
                  have : level = 1 := by omega
                  by_cases e : out = [] <;> simp_all
                simp [this]
            rw [hx, pickA_take (show ¬ (l[k].Level ≠ level ∨ (level = 1 ∧ out ≠ [])) from fun q => q.elim (fun e => e c1) c2)]
            have happ : app 8 out [l[k].No] = some (out ++ [l[k].No]) := app_ok (by simp; omega) (by simp; omega)
            simp only [Option.bind_some, if_true, happ]
            have hne : l[k].Hi ≠ [] := fun e => by have := fileV_of hv k hk; simp [fileV, e] at this
            by_cases e1 : out = []
            · obtain ⟨_, rfl, rfl⟩ : out = [] ∧ lo = [] ∧ hi = [] := hi1.elim id fun q => absurd e1 q.1
              subst e1
              simp [sMin_eq, sMax_eq, sLt_irr, sLt_nil_iff, hne]
            · simp [sMin_eq, sMax_eq, e1]
        · rw [pickA_skip (.inl c1), decide_eq_false c1]
          simp only [Bool.false_eq_true, if_false, Option.bind_some]
          by_cases c2 : l[k].Level = level + 1
          · have hst : pickS l level k = fin := by rw [← hS]; exact pickS_stop hv (l.length - k) k (by omega) (fun _ => by omega)
            rw [hst, decide_eq_true c2]
            simp only [if_true]
            have hp : pickM fin.1 fin.2.1 level l[k] = ((sLt l[k].Lo fin.2.1 || decide (l[k].Lo = fin.2.1)) && !sLt l[k].Hi fin.1) := by unfold pickM; rw [decide_eq_true c2, Bool.true_and]
            rw [hp]
            generalize hM : ((l.take k).filter (pickM fin.1 fin.2.1 level)).map (·.No) = M at hmk
            by_cases e1 : fin.2.1 = []
            · have e2 : fin.2.2 = [] := F1.elim (fun q => q.1) fun q => absurd e1 q.2
              simp [e1, e2]
            · have e2 : 0 < fin.2.2.length := List.length_pos_iff.2 (F1.elim (fun q => absurd q.2.2 e1) fun q => q.1)
              rw [if_neg e1] at hmk
              simp only [if_neg e1]
              rw [if_pos (by rw [List.length_append]; simp; omega)]
              cases c3 : (sLt l[k].Lo fin.2.1 || decide (l[k].Lo = fin.2.1)) with
              | false => simp
              | true =>
                cases c4 : sLt l[k].Hi fin.1 with
                | true => simp
                | false =>
                  simp only [if_true, Option.bind_some, Bool.not_false, Bool.and_self]
                  rw [app_ok (by simp only [List.length_append, List.length_cons, List.length_nil]; omega) (by simp only [List.length_append, List.length_cons, List.length_nil]; omega)]
                  simp
          · have hpm : pickM fin.1 fin.2.1 level l[k] = false := by unfold pickM; rw [decide_eq_false c2, Bool.false_and]
            rw [decide_eq_false c2, hpm]
            simp
      · simp [hS, pickV]
    · rw [show ((if filesV l = true ∧ (0 ≤ level ∧ level ≤ 1) then pickV l level else []) : List Int) = [] from if_neg (fun q => hv q.1), decide_eq_true hlev]
      simp [hv]
  · rw [show ((if filesV l = true ∧ (0 ≤ level ∧ level ≤ 1) then pickV l level else []) : List Int) = [] from if_neg (fun q => hlev q.2), decide_eq_false hlev]
    rfl
theorem sLt_trans : ∀ {a b c : List UInt8}, sLt a b = true → sLt b c = true → sLt a c = true
  | [], [], _, h, _ => by simp [sLt, Op.bytesLess] at h
  | [], _ :: _, [], _, h => by simp [sLt, Op.bytesLess] at h
  | [], _ :: _, _ :: _, _, _ => rfl
  | _ :: _, [], _, h, _ => by simp [sLt, Op.bytesLess] at h
  | _ :: _, _ :: _, [], _, h => by simp [sLt, Op.bytesLess] at h
  | x :: a, y :: b, z :: c, h1, h2 => by
    simp only [sLt, Op.bytesLess, Bool.or_eq_true, decide_eq_true_eq, Bool.and_eq_true, beq_iff_eq] at h1 h2 ⊢
    rcases h1 with h1 | ⟨rfl, h1⟩
    · rcases h2 with h2 | ⟨rfl, _⟩
      · exact .inl (UInt8.lt_trans h1 h2)
      · exact .inl h1
    · rcases h2 with h2 | ⟨rfl, h2⟩
      · exact .inl h2
      · exact .inr ⟨rfl, sLt_trans h1 h2⟩
theorem sLt_irrefl (a : List UInt8) : sLt a a = false := by
  have := sLt_compl a a
  simpa using this
theorem piece_nat {α : Type} (l : List α) (a b : Nat) (lo hi : Int) (h1 : lo = (a : Int)) (h2 : hi = (b : Int)) (h3 : a ≤ b) (h4 : b ≤ l.length) : piece l lo hi = some ((l.drop a).take (b - a)) := by
  subst h1 h2
  unfold piece
  rw [if_pos ⟨by omega, by omega, by omega⟩, Int.toNat_natCast, Int.toNat_natCast]
theorem filter_one {α : Type} (l : List α) (p : α → Bool) (j : Nat) (hj : j < l.length) (h1 : p l[j] = false) (h2 : ∀ i (h : i < l.length), i ≠ j → p l[i] = true) : l.filter p = l.take j ++ l.drop (j + 1) := by
  have hs : l = l.take j ++ l[j] :: l.drop (j + 1) := by rw [← List.drop_eq_getElem_cons hj, List.take_append_drop]
  have ha : (l.take j).filter p = l.take j := by
    rw [List.filter_eq_self]
    intro x hx
    obtain ⟨i, hi, rfl⟩ := List.getElem_of_mem hx
    have hi' : i < j := by simp at hi; omega
    simp only [List.getElem_take]
    exact h2 i (by omega) (by omega)
  have hb : (l.drop (j + 1)).filter p = l.drop (j + 1) := by
    rw [List.filter_eq_self]
    intro x hx
    obtain ⟨i, hi, rfl⟩ := List.getElem_of_mem hx
    have hi' : j + 1 + i < l.length := by simp at hi; omega
    simp only [List.getElem_drop]
    exact h2 (j + 1 + i) hi' (by omega)
  conv => lhs; rw [hs]
  rw [List.filter_append, List.filter_cons_of_neg (by simpa using h1), ha, hb]
theorem filter_take {α : Type} (p : α → Bool) (l : List α) (k : Nat) (h : k < l.length) : (l.take (k + 1)).filter p = (l.take k).filter p ++ if p l[k] = true then [l[k]] else [] := by
  rw [show l.take (k + 1) = l.take k ++ [l[k]] by rw [List.take_add_one, List.getElem?_eq_getElem h]; rfl, List.filter_append]
  congr 1
  by_cases c : p l[k] = true
  · rw [if_pos c, List.filter_cons_of_pos c]; rfl
  · rw [if_neg c, List.filter_cons_of_neg c]; rfl
theorem filter_len {α : Type} (p : α → Bool) (l : List α) (k : Nat) : ((l.take k).filter p).length ≤ k := Nat.le_trans (List.length_filter_le _ _) (by simp; omega)
theorem delFiles_eq (l : List File) (j : Nat) (hj : j < l.length) (h : l.length ≤ 1048576) : slices_Delete_68810 l (j : Int) (IntKind.i64.wrap ((j : Int) + 1)) = some (l.take j ++ l.drop (j + 1)) := by
  unfold slices_Delete_68810
  have hw : IntKind.i64.wrap ((j : Int) + 1) = ((j + 1 : Nat) : Int) := by rw [wrap_ok (by omega) (by omega)]; omega
  rw [hw, piece_nat l j (j + 1) _ _ rfl rfl (by omega) (by omega), piece_nat l 0 j 0 (j : Int) rfl rfl (by omega) (by omega), piece_nat l (j + 1) l.length _ _ rfl rfl (by omega) (by omega)]
  simp only [Option.bind_some]
  rw [if_neg (by simp; omega)]
  simp
  exact List.take_of_length_le (by simp)
theorem cloneFiles_eq (s : List File) (h : s.length ≤ 1048576) : slices_Clone_68810 s = some s := by
  unfold slices_Clone_68810
  rw [app_ok (by simp; omega) (by simp; omega)]
  rfl
theorem fileAt_cases (l : List File) (no : Int) (hl : l.length ≤ 1048576) : (∃ j, ∃ hj : j < l.length, impl_fileAt l no = some (j : Int) ∧ l[j].No = no) ∨ (impl_fileAt l no = some (-1) ∧ ∀ f ∈ l, ¬ f.No = no) := by
  unfold impl_fileAt slices_IndexFunc_68810_at_impl_fileAt_1 impl_fileAt_1
  have key : ∃ c, loopO (ρ := Ctl Unit Int) (fun (S1 : Int) => if (decide (S1 < ((l.length : Nat) : Int))) = true then ((idx l S1).bind fun E6 => (some (decide (E6.No = no))).bind fun R8 => if R8 = true then (some (.done (.done S1))) else (some (.go (IntKind.i64.wrap (S1 + (1 : Int)))))) else (some (.done (.go ())))) (0 : Int) = some c ∧
      ((∃ j, ∃ hj : j < l.length, c = .done (j : Int) ∧ l[j].No = no) ∨ (c = .go () ∧ ∀ f ∈ l, ¬ f.No = no)) := by
    refine loopO_total (fun i s => s = (i : Int) ∧ ∀ q (h : q < l.length), q < i → ¬ l[q].No = no) l.length _ ⟨rfl, fun q h h2 => by omega⟩ ?_ ?_
    · rintro i s hi ⟨rfl, h2⟩
      simp only [idx_nat l i hi, Option.bind_some]
      rw [if_pos (by simpa using hi), wrap_ok (by omega) (by omega)]
      by_cases c : l[i].No = no
      · right
        exact ⟨.done (i : Int), by simp [c], .inl ⟨i, hi, rfl, c⟩⟩
      · left
        refine ⟨(i : Int) + 1, by simp [c], by omega, fun q h h3 => ?_⟩
        by_cases e : q = i
        · subst e; exact c
        · exact h2 q h (by omega)
    · rintro s ⟨rfl, h2⟩
      refine ⟨.go (), by simp, .inr ⟨rfl, fun f hf => ?_⟩⟩
      obtain ⟨q, hq, rfl⟩ := List.getElem_of_mem hf
      exact h2 q hq hq
  obtain ⟨c, hc, h2⟩ := key
  rw [hc]
  rcases h2 with ⟨j, hj, rfl, h3⟩ | ⟨rfl, h3⟩
  · exact .inl ⟨j, hj, rfl, h3⟩
  · exact .inr ⟨rfl, h3⟩
theorem files_distinct {l : List File} (hv : filesV l = true) (i j : Nat) (hi : i < l.length) (hj : j < l.length) (h : i ≠ j) : ¬ l[i].No = l[j].No := by
  have key : ∀ (i j : Nat) (hj : j < l.length) (hij : i < j), ¬ (l[i]'(by omega)).No = l[j].No := by
    intro i j hj hij
    have hv' := hv
    unfold filesV at hv'
    rw [Bool.and_eq_true, List.all_eq_true] at hv'
    have := hv'.2 j (by simpa using hj)
    rw [passV_at l j hj] at this
    simp only [Bool.and_eq_true, List.all_eq_true] at this
    have hm : l[i]'(by omega) ∈ l.take j := by
      have : (l.take j)[i]'(by simp; omega) = l[i]'(by omega) := by simp
      rw [← this]; exact List.getElem_mem _
    exact of_decide_eq_true (this.2.2 _ hm)
  rcases Nat.lt_or_ge i j with h1 | h1
  · exact key i j hj h1
  · exact fun e => key j i hi (by omega) e.symm
/-- the files but one -/
def dropF (l : List File) (no : Int) : List File := l.filter fun f => !decide (f.No = no)
def filesDropR (l : List File) (no : Int) : List File × Bool := if filesV l = true then (dropF l no, decide ((dropF l no).length < l.length)) else ([], false)
theorem impl_FilesDrop_eq (l : List File) (no : Int) (h : l.length ≤ 1048576) : impl_FilesDrop l no = some (filesDropR l no) := by
  unfold impl_FilesDrop filesDropR
  rw [impl_FilesOk_eq l h]
  cases hv : filesV l with
  | false => rfl
  | true =>
    simp only [Option.bind_some, Bool.not_true, Bool.false_eq_true, if_false, if_true, cloneFiles_eq l h]
    rcases fileAt_cases l no h with ⟨j, hj, h1, h2⟩ | ⟨h1, h2⟩
    · rw [h1]
      simp only [Option.bind_some]
      rw [if_neg (by simp), delFiles_eq l j hj h]
      have hd : dropF l no = l.take j ++ l.drop (j + 1) := by
        unfold dropF
        refine filter_one l _ j hj (by simp [h2]) fun i hi hij => ?_
        have := files_distinct hv i j hi hj hij
        rw [h2] at this
        simp [this]
      rw [hd]
      have : (l.take j ++ l.drop (j + 1)).length < l.length := by simp; omega
      simp [this]
      try omega
    · rw [h1]
      have hd : dropF l no = l := by
        unfold dropF
        rw [List.filter_eq_self]
        intro f hf
        simp [h2 f hf]
      rw [hd]
      simp
theorem sLt_asymm {a b : List UInt8} (h : sLt a b = true) : sLt b a = false := by
  have := sLt_compl a b
  rw [h] at this
  simp only [Bool.not_true, Bool.or_eq_false_iff] at this
  exact this.1
theorem sLt_same {a b : List UInt8} (h1 : sLt a b = false) (h2 : sLt b a = false) : a = b := by
  have := sLt_compl a b
  rw [h1, h2] at this
  have h : decide (b = a) = true := by simpa using this
  exact (of_decide_eq_true h).symm
theorem ahead_asym {a b : File} (h : aheadV a b = true) : aheadV b a = false := by
  unfold aheadV at h ⊢
  by_cases h1 : a.Level = b.Level
  · rw [if_pos h1] at h
    rw [if_pos h1.symm]
    by_cases h2 : a.Level = 0
    · rw [if_pos h2] at h
      rw [if_pos (by omega)]
      have := of_decide_eq_true h
      exact decide_eq_false (by omega)
    · rw [if_neg h2] at h
      rw [if_neg (by omega)]
      exact sLt_asymm h
  · rw [if_neg h1] at h
    rw [if_neg (by omega)]
    have := of_decide_eq_true h
    exact decide_eq_false (by omega)
theorem ahead_same {a b c : File} (h1 : aheadV a b = false) (h2 : aheadV b a = false) (h3 : aheadV a c = true) : aheadV b c = true := by
  unfold aheadV at h1 h2 h3 ⊢
  by_cases hl : a.Level = b.Level
  · rw [if_pos hl] at h1
    rw [if_pos hl.symm] at h2
    by_cases h0 : a.Level = 0
    · rw [if_pos h0] at h1
      rw [if_pos (by omega)] at h2
      have e1 := of_decide_eq_false h1
      have e2 := of_decide_eq_false h2
      have e : a.No = b.No := by omega
      by_cases h4 : a.Level = c.Level
      · rw [if_pos h4, if_pos h0, e] at h3
        rw [if_pos (by omega), if_pos (by omega)]
        exact h3
      · rw [if_neg h4] at h3
        rw [if_neg (by omega), ← hl]
        exact h3
    · rw [if_neg h0] at h1
      rw [if_neg (by omega)] at h2
      have e := sLt_same h1 h2
      by_cases h4 : a.Level = c.Level
      · rw [if_pos h4, if_neg h0] at h3
        rw [if_pos (by omega), if_neg (by omega), ← e]
        exact h3
      · rw [if_neg h4] at h3
        rw [if_neg (by omega), ← hl]
        exact h3
  · rw [if_neg hl] at h1
    rw [if_neg (by omega)] at h2
    have e1 := of_decide_eq_false h1
    have e2 := of_decide_eq_false h2
    omega
theorem files_ahead {l : List File} (hv : filesV l = true) (k : Nat) (hk : k + 1 < l.length) : aheadV (l[k]'(by omega)) l[k + 1] = true := by
  unfold filesV at hv
  rw [Bool.and_eq_true, List.all_eq_true] at hv
  have := hv.2 (k + 1) (by simpa using hk)
  rw [passV_at l (k + 1) hk, dif_pos (by omega)] at this
  simp only [Bool.and_eq_true] at this
  exact this.2.1.1
theorem files_le {l : List File} (hv : filesV l = true) : l.length ≤ 12 := by
  unfold filesV at hv
  rw [Bool.and_eq_true] at hv
  exact of_decide_eq_true hv.1
def insF (l : List File) (f : File) (j : Nat) : List File := l.take j ++ (f :: l.drop j)
def addF (l : List File) (f : File) (j k : Nat) : Bool × Int × List File := bif Nat.ble k j then (false, (k : Int), l.take k) else (true, (k : Int), l.take j ++ (f :: (l.drop j).take (k - j)))
theorem addF_le (l : List File) (f : File) (j k : Nat) (h : k ≤ j) : addF l f j k = (false, (k : Int), l.take k) := by
  unfold addF
  rw [Nat.ble_eq_true_of_le h]
  rfl
theorem addF_gt (l : List File) (f : File) (j k : Nat) (h : j < k) : addF l f j k = (true, (k : Int), l.take j ++ (f :: (l.drop j).take (k - j))) := by
  unfold addF
  have : Nat.ble k j = false := by
    cases hb : Nat.ble k j
    · rfl
    · exact absurd (Nat.le_of_ble_eq_true hb) (by omega)
  rw [this]
  rfl
def filesAddR (l : List File) (f : File) (j : Nat) : List File × Bool := bif filesV (insF l f j) then (insF l f j, true) else (l, false)
theorem spec_FilesAdd_at (l : List File) (f : File) (j : Nat) (hv : filesV l = true) (hj : j ≤ l.length) (h1 : ∀ i (hi : i < l.length), i < j → aheadV f l[i] = false) (h2 : ∀ hi : j < l.length, aheadV f l[j] = true) :
    spec_FilesAdd l f = some (filesAddR l f j) := by
  have hl := files_le hv
  unfold spec_FilesAdd filesAddR
  rw [spec_FilesOk_eq l (by omega), hv]
  simp only [Option.bind_some, Bool.not_true, Bool.false_eq_true, if_false]
  have hrl : (insF l f j).length ≤ 1048576 := by unfold insF; simp; omega
  have hfin : spec_FilesOk (insF l f j) = some (filesV (insF l f j)) := spec_FilesOk_eq _ hrl
  have hcp : app 48 ([] : List File) l = some l := by rw [app_ok (by simp; omega) (by simp; omega)]; rfl
  rw [loopO_count (addF l f j) l.length (r := Ctl.go ((addF l f j l.length).1, (addF l f j l.length).2.2)) ?h0]
  case h0 => rw [addF_le _ _ _ _ (Nat.zero_le _)]; rfl
  · by_cases hjl : j = l.length
    · subst hjl
      rw [addF_le _ _ _ _ (Nat.le_refl _)]
      simp only [bindC_go, Bool.not_false, if_true]
      rw [app_ok (by simp; omega) (by simp; omega)]
      simp only [Option.bind_some, bindC_go]
      rw [show l.take l.length ++ [f] = insF l f l.length by unfold insF; simp, hfin]
      simp only [Option.bind_some, hcp]
      cases filesV (insF l f l.length) <;> rfl
    · rw [addF_gt _ _ _ _ (by omega)]
      simp only [bindC_go, Bool.not_true, Bool.false_eq_true, if_false]
      rw [show l.take j ++ (f :: (l.drop j).take (l.length - j)) = insF l f j by unfold insF; rw [List.take_of_length_le (l := l.drop j) (by simp)], hfin]
      simp only [Option.bind_some, hcp]
      cases filesV (insF l f j) <;> rfl
  · intro k hk
    have hw := wrap_ok (n := (k : Int) + 1) (by omega) (by omega)
    rcases Nat.lt_trichotomy k j with hkj | hkj | hkj
    · have ht : l.take (k + 1) = l.take k ++ [l[k]] := by rw [List.take_add_one, List.getElem?_eq_getElem hk]; rfl
      rw [addF_le _ _ _ _ (by omega), addF_le _ _ _ _ (by omega)]
      simp only [idx_nat l k hk, Option.bind_some, Bool.not_false, if_true, hw, l16Ahead_eq, h1 k hk hkj, Bool.false_eq_true, if_false, bindC_go]
      rw [if_pos (by simpa using hk), app_ok (by simp; omega) (by simp; omega), ht]
      rfl
    · subst hkj
      rw [addF_le _ _ _ _ (Nat.le_refl _), addF_gt _ _ _ _ (by omega)]
      simp only [idx_nat l k hk, Option.bind_some, Bool.not_false, if_true, hw, l16Ahead_eq, h2 hk]
      rw [if_pos (by simpa using hk), app_ok (by simp; omega) (by simp; omega)]
      simp only [Option.bind_some, bindC_go]
      rw [app_ok (by simp; omega) (by simp; omega)]
      have : (l.drop k).take (k + 1 - k) = [l[k]] := by
        rw [List.drop_eq_getElem_cons hk, show k + 1 - k = 1 by omega]; rfl
      rw [this]
      simp
    · rw [addF_gt _ _ _ _ (by omega), addF_gt _ _ _ _ (by omega)]
      simp only [idx_nat l k hk, Option.bind_some, Bool.not_true, Bool.false_eq_true, if_false, hw, bindC_go]
      rw [if_pos (by simpa using hk), app_ok (by simp; omega) (by simp; omega)]
      have hkd : k - j < (l.drop j).length := by simp; omega
      have ht : (l.drop j).take (k + 1 - j) = (l.drop j).take (k - j) ++ [l[k]] := by
        rw [show k + 1 - j = (k - j) + 1 by omega, List.take_add_one, List.getElem?_eq_getElem hkd, List.getElem_drop]
        congr 2
        simp only [Option.toList_some]
        congr 2
        omega
      rw [ht]
      simp
  · have hi : (addF l f j l.length).2.1 = (l.length : Int) := by unfold addF; cases Nat.ble l.length j <;> rfl
    rw [hi, if_neg (by simp)]
theorem insFiles_eq (l : List File) (x : File) (j : Nat) (hj : j ≤ l.length) (h : l.length ≤ 1048576) : slices_Insert_68810 l (j : Int) [x] = some (insF l x j) := by
  unfold slices_Insert_68810 ins insF
  rw [if_pos ⟨by omega, by omega, by simp; omega, by simp; omega⟩, Int.toNat_natCast]
  rfl
theorem impl_FilesAdd_at (l : List File) (f : File) (hv : filesV l = true) : ∃ j, j ≤ l.length ∧ impl_FilesAdd l f = some (filesAddR l f j) ∧ (∀ i (hi : i < l.length), i < j → aheadV l[i] f = true) ∧ (∀ hi : j < l.length, aheadV l[j] f = false) := by
  have hl := files_le hv
  have key : ∃ c, loopO (fun (S7 : Int) => (if (decide (S7 < ((l.length : Nat) : Int))) = true then ((idx l S7).bind fun E14 => (impl_compareFiles E14 f).bind fun R16 => some (decide (R16 < (0 : Int)))) else (some false)).bind (fun (T11 : Bool) => if T11 = true then (some (.go (IntKind.i64.wrap (S7 + (1 : Int))))) else (some (.done (.go S7))))) (0 : Int) = some c ∧
      (∃ j : Nat, c = Ctl.go (ρ := List File × Bool) (j : Int) ∧ j ≤ l.length ∧ (∀ i (hi : i < l.length), i < j → aheadV l[i] f = true) ∧ (∀ hi : j < l.length, aheadV l[j] f = false)) := by
    refine loopO_total (fun i s => s = (i : Int) ∧ ∀ q (h : q < l.length), q < i → aheadV l[q] f = true) l.length _ ⟨rfl, fun q h h2 => by omega⟩ ?_ ?_
    · rintro i s hi ⟨rfl, h2⟩
      obtain ⟨r, hr, hr2⟩ := compareFiles_eq l[i] f
      have hd : decide (r < 0) = aheadV l[i] f := by
        by_cases c : r < 0
        · rw [decide_eq_true c]
          rw [decide_eq_false (by omega)] at hr2
          cases ha : aheadV l[i] f
          · rw [ha] at hr2; cases hr2
          · rfl
        · rw [decide_eq_false c]
          rw [decide_eq_true (by omega)] at hr2
          cases ha : aheadV l[i] f
          · rfl
          · rw [ha] at hr2; cases hr2
      simp only [idx_nat l i hi, Option.bind_some, hr, hd]
      rw [if_pos (by simpa using hi), wrap_ok (by omega) (by omega)]
      cases c : aheadV l[i] f
      · right
        exact ⟨.go (i : Int), rfl, i, rfl, by omega, fun q h h3 => h2 q h h3, fun _ => c⟩
      · left
        refine ⟨(i : Int) + 1, rfl, by omega, fun q h h3 => ?_⟩
        by_cases e : q = i
        · subst e; exact c
        · exact h2 q h (by omega)
    · rintro s ⟨rfl, h2⟩
      refine ⟨.go ((l.length : Nat) : Int), by simp, l.length, rfl, Nat.le_refl _, fun q h h3 => h2 q h h3, fun h => absurd h (by omega)⟩
  obtain ⟨c, hc, j, rfl, hj, h1, h2⟩ := key
  refine ⟨j, hj, ?_, h1, h2⟩
  have hrl : (insF l f j).length ≤ 1048576 := by unfold insF; simp; omega
  unfold impl_FilesAdd filesAddR
  rw [impl_FilesOk_eq l (by omega), hv]
  simp only [Option.bind_some, Bool.not_true, Bool.false_eq_true, if_false]
  rw [hc]
  simp only [bindC_go, cloneFiles_eq l (by omega), Option.bind_some, insFiles_eq l f j hj (by omega), impl_FilesOk_eq _ hrl]
  cases filesV (insF l f j) <;> rfl
theorem insF_at (l : List File) (f : File) (j : Nat) (hj : j ≤ l.length) : ∃ h : j < (insF l f j).length, (insF l f j)[j] = f := by
  refine ⟨by unfold insF; simp; omega, ?_⟩
  simp only [insF]
  rw [List.getElem_append_right (by simp; omega)]
  simp [Nat.min_eq_left hj]
theorem insF_after (l : List File) (f : File) (j : Nat) (hj : j < l.length) : ∃ h : j + 1 < (insF l f j).length, (insF l f j)[j + 1] = l[j] := by
  refine ⟨by unfold insF; simp; omega, ?_⟩
  simp only [insF]
  rw [List.getElem_append_right (by simp; omega)]
  simp [Nat.min_eq_left (Nat.le_of_lt hj)]
theorem insF_ahead (l : List File) (f : File) (j : Nat) (hj : j < l.length) : ∃ h : j < (insF l f (j + 1)).length, (insF l f (j + 1))[j] = l[j] := by
  refine ⟨by unfold insF; simp; omega, ?_⟩
  simp only [insF]
  rw [List.getElem_append_left (by simp; omega)]
  simp
theorem FilesAdd_both (l : List File) (f : File) (h : l.length ≤ 1048576) : ∃ r, spec_FilesAdd l f = some r ∧ impl_FilesAdd l f = some r ∧ r.1.length ≤ 1048577 ∧ (r.2 = true → filesV r.1 = true) := by
  cases hv : filesV l with
  | false =>
    refine ⟨([], false), ?_, ?_, by simp, by simp⟩
    · unfold spec_FilesAdd
      rw [spec_FilesOk_eq l h, hv]
      rfl
    · unfold impl_FilesAdd
      rw [impl_FilesOk_eq l h, hv]
      rfl
  | true =>
    have hl := files_le hv
    have hlen : ∀ j, j ≤ l.length → (filesAddR l f j).1.length ≤ 1048577 ∧ ((filesAddR l f j).2 = true → filesV (filesAddR l f j).1 = true) := by
      intro j hj
      unfold filesAddR
      cases hc : filesV (insF l f j)
      · refine ⟨by simp; omega, by simp⟩
      · refine ⟨?_, fun _ => hc⟩
        simp only [cond_true, insF]; simp; omega
    obtain ⟨j, hj, e, h1, h2⟩ := impl_FilesAdd_at l f hv
    have hlow : ∀ i (hi : i < l.length), i < j → aheadV f l[i] = false := fun i hi hij => ahead_asym (h1 i hi hij)
    by_cases hjl : j = l.length
    · refine ⟨_, spec_FilesAdd_at l f j hv hj hlow (fun hi => by omega), e, hlen j hj⟩
    · have hj' : j < l.length := by omega
      cases ha : aheadV f l[j] with
      | true => exact ⟨_, spec_FilesAdd_at l f j hv hj hlow (fun _ => ha), e, hlen j hj⟩
      | false =>
        have hs := spec_FilesAdd_at l f (j + 1) hv hj' (fun i hi hij => by
          by_cases e : i = j
          · subst e; exact ha
          · exact hlow i hi (by omega)) (fun hi => ahead_same (h2 hj') ha (files_ahead hv j hi))
        have f1 : filesV (insF l f j) = false := by
          cases hc : filesV (insF l f j) with
          | false => rfl
          | true =>
            obtain ⟨p1, q1⟩ := insF_at l f j hj
            obtain ⟨p2, q2⟩ := insF_after l f j hj'
            have := files_ahead hc j p2
            rw [q1, q2, ha] at this
            exact this.symm
        have f2 : filesV (insF l f (j + 1)) = false := by
          cases hc : filesV (insF l f (j + 1)) with
          | false => rfl
          | true =>
            obtain ⟨p1, q1⟩ := insF_at l f (j + 1) hj'
            obtain ⟨p2, q2⟩ := insF_ahead l f j hj'
            have := files_ahead hc j p1
            rw [q1, q2, h2 hj'] at this
            exact this.symm
        refine ⟨(l, false), ?_, ?_, by simp; omega, by simp⟩
        · rw [hs]; unfold filesAddR; rw [f2]; rfl
        · rw [e]; unfold filesAddR; rw [f1]; rfl
/-! words of bits -/
/-! draws -/
theorem iand255 (p : Int) : 0 ≤ iand .i64 p (255 : Int) ∧ iand .i64 p (255 : Int) ≤ 255 := by
  unfold iand
  have e : (BitVec.ofInt IntKind.i64.bits p &&& BitVec.ofInt IntKind.i64.bits (255 : Int)).toNat ≤ 255 := by
    show (BitVec.ofInt 64 p &&& BitVec.ofInt 64 ((255 : Nat) : Int)).toNat ≤ 255
    rw [BitVec.ofInt_natCast, BitVec.toNat_and, BitVec.toNat_ofNat]
    exact Nat.and_le_right
  generalize (BitVec.ofInt IntKind.i64.bits p &&& BitVec.ofInt IntKind.i64.bits (255 : Int)).toNat = z at e
  rw [wrap_ok (by omega) (by omega)]
  omega
theorem l1New_ok (code : List UInt8) (h : code.length ≤ 1048576) : ∃ q, spec_l1New code = some { b := code, i := 0, h := q } := by
  unfold spec_l1New
  obtain ⟨r, hr, q, rfl⟩ := loopO_total (ρ := Ctl Int L1Cur) (s0 := (IntKind.i64.wrap ((10101 : Int) + ((code.length : Nat) : Int)), (0 : Int))) (body := fun (S1 : Int × Int) => (if (decide (S1.2 < ((code.length : Nat) : Int))) = true then (some (decide (S1.2 < (4000 : Int))))
  else (some false)).bind (fun (T5 : Bool) =>
  if T5 = true then ((idx code S1.2).bind fun E9 =>
  some (.go (iand .i64 (IntKind.i64.wrap (IntKind.i64.wrap (IntKind.i64.wrap (S1.1 * (131 : Int)) + (IntKind.i64.wrap ((E9.toNat : Nat) : Int))) + (7 : Int))) (1073741823 : Int), IntKind.i64.wrap (S1.2 + (1 : Int)))))
  else (some (.done (.go S1.1))))) (fun k S => S.2 = (k : Int)) code.length (fun r => ∃ q, r = .go q) rfl (by
    rintro k ⟨p, i⟩ hk rfl
    simp only
    rw [decide_eq_true (by omega : (k : Int) < ((code.length : Nat) : Int))]
    by_cases c : (k : Int) < 4000
    · left
      rw [decide_eq_true c]
      simp only [if_true, Option.bind_some, idx_nat code k hk]
      exact ⟨_, rfl, by simp only; rw [wrap_ok (by omega) (by omega)]; omega⟩
    · right
      rw [decide_eq_false c]
      exact ⟨.go p, rfl, p, rfl⟩) (by
    rintro ⟨p, i⟩ rfl
    simp only
    rw [decide_eq_false (by omega : ¬ ((code.length : Nat) : Int) < ((code.length : Nat) : Int))]
    exact ⟨.go p, rfl, p, rfl⟩)
  rw [hr]
  exact ⟨q, rfl⟩
theorem l1Byte_ok (b : List UInt8) (i h : Int) (hi : 0 ≤ i ∧ i ≤ b.length) (hb : b.length ≤ 1048576) : ∃ x i' h', spec_l1Byte { b := b, i := i, h := h } = some (x, { b := b, i := i', h := h' }) ∧ (0 ≤ x ∧ x ≤ 255) ∧ (0 ≤ i' ∧ i' ≤ b.length) := by
  unfold spec_l1Byte
  simp only
  by_cases c : i < ((b.length : Nat) : Int)
  · rw [decide_eq_true c]
    simp only [if_true]
    rw [idx_some' hi.1 c]
    simp only [Option.bind_some, bindC_go]
    exact ⟨_, _, _, rfl, iand255 _, by rw [wrap_ok (by omega) (by omega)]; omega⟩
  · rw [decide_eq_false c]
    simp only [Bool.false_eq_true, if_false, bindC_go]
    exact ⟨_, _, _, rfl, iand255 _, hi⟩
theorem l1Below_ok (b : List UInt8) (i h n : Int) (hi : 0 ≤ i ∧ i ≤ b.length) (hb : b.length ≤ 1048576) : ∃ x i' h', spec_l1Below { b := b, i := i, h := h } n = some (x, { b := b, i := i', h := h' }) ∧ (0 ≤ x ∧ (0 < n → x < n) ∧ (n ≤ 0 → x = 0)) ∧ (0 ≤ i' ∧ i' ≤ b.length) := by
  unfold spec_l1Below
  by_cases c : n ≤ 0
  · rw [decide_eq_true c]
    simp only [if_true]
    exact ⟨_, _, _, rfl, ⟨Int.le_refl _, fun h => by omega, fun _ => rfl⟩, hi⟩
  · rw [decide_eq_false c]
    have hnz : nz n = some () := by unfold nz; rw [if_neg (by omega)]
    have hm : ∀ x : Int, 0 ≤ x → 0 ≤ Int.tmod x n ∧ Int.tmod x n < n := fun x hx => ⟨Int.tmod_nonneg _ hx, Int.tmod_lt_of_pos _ (by omega)⟩
    obtain ⟨x1, i1, h1, e1, g1, k1⟩ := l1Byte_ok b i h hi hb
    simp only [Bool.false_eq_true, if_false, e1, Option.bind_some, hnz]
    by_cases c2 : n ≤ 256
    · rw [decide_eq_true c2]
      simp only [if_true]
      have := hm x1 g1.1
      exact ⟨_, _, _, rfl, ⟨this.1, fun _ => this.2, fun h => by omega⟩, k1⟩
    · rw [decide_eq_false c2]
      simp only [Bool.false_eq_true, if_false]
      obtain ⟨x2, i2, h2, e2, g2, k2⟩ := l1Byte_ok b i1 h1 k1 hb
      simp only [e2, Option.bind_some]
      obtain ⟨x3, i3, h3, e3, g3, k3⟩ := l1Byte_ok b i2 h2 k2 hb
      simp only [e3, Option.bind_some]
      obtain ⟨x4, i4, h4, e4, g4, k4⟩ := l1Byte_ok b i3 h3 k3 hb
      simp only [e4, Option.bind_some]
      rw [wrap_ok (n := x1 * 16777216) (by omega) (by omega), wrap_ok (n := x2 * 65536) (by omega) (by omega), wrap_ok (n := x1 * 16777216 + x2 * 65536) (by omega) (by omega), wrap_ok (n := x3 * 256) (by omega) (by omega), wrap_ok (n := x1 * 16777216 + x2 * 65536 + x3 * 256) (by omega) (by omega), wrap_ok (by omega) (by omega)]
      have := hm (x1 * 16777216 + x2 * 65536 + x3 * 256 + x4) (by omega)
      exact ⟨_, _, _, rfl, ⟨this.1, fun _ => this.2, fun h => by omega⟩, k4⟩
theorem l1Once_ok (b : List UInt8) (i h n : Int) (hi : 0 ≤ i ∧ i ≤ b.length) (hb : b.length ≤ 1048576) : ∃ x i' h', spec_l1Once { b := b, i := i, h := h } n = some (x, { b := b, i := i', h := h' }) ∧ (0 ≤ i' ∧ i' ≤ b.length) := by
  unfold spec_l1Once
  obtain ⟨x, i1, h1, e, _, k⟩ := l1Below_ok b i h n hi hb
  simp only [e, Option.bind_some]
  exact ⟨_, _, _, rfl, k⟩
theorem l1PickInt_ok (b : List UInt8) (i h : Int) (l : List Int) (hl : l ≠ []) (hi : 0 ≤ i ∧ i ≤ b.length) (hb : b.length ≤ 1048576) : ∃ x i' h', spec_l1PickInt { b := b, i := i, h := h } l = some (x, { b := b, i := i', h := h' }) ∧ x ∈ l ∧ (0 ≤ i' ∧ i' ≤ b.length) := by
  unfold spec_l1PickInt
  have hp := List.length_pos_iff.2 hl
  obtain ⟨x, i1, h1, e, g, k⟩ := l1Below_ok b i h ((l.length : Nat) : Int) hi hb
  simp only [e, Option.bind_some]
  rw [idx_some' g.1 (g.2.1 (by omega))]
  simp only [Option.bind_some]
  exact ⟨_, _, _, rfl, List.getElem_mem _, k⟩
theorem big_eq (code : List UInt8) : laws_big code = some (decide (((code.length : Nat) : Int) > 1048576)) := rfl

theorem sameInts_eq (a b : List Int) (h : a.length ≤ 1048576) : laws_sameInts a b = some (decide (a = b)) := by
  unfold laws_sameInts
  have := eqS_of a b (fun x y => some (decide (x = y))) (fun _ _ _ _ => rfl) (by omega)
  simp only [Option.bind_some] at this
  exact this
/-- one file ahead of another, apart from it -/
def relF (a b : File) : Prop := aheadV a b = true ∧ overV a b = false
theorem over_false {a b : File} (h : overV a b = false) (h0 : b.Level > 0) (hl : a.Level = b.Level) : sLt a.Hi b.Lo = true := by
  unfold overV at h
  rw [decide_eq_true h0, decide_eq_true hl] at h
  simp only [Bool.true_and] at h
  have := sLt_compl a.Hi b.Lo
  rw [h] at this
  cases hx : sLt a.Hi b.Lo with
  | true => rfl
  | false => rw [hx] at this; cases this
theorem ahead_level {a b : File} (h : aheadV a b = true) : a.Level ≤ b.Level := by
  unfold aheadV at h
  by_cases c : a.Level = b.Level
  · omega
  · rw [if_neg c] at h
    have := of_decide_eq_true h
    omega
theorem ahead_trans {a b c : File} (h1 : aheadV a b = true) (h2 : aheadV b c = true) : aheadV a c = true := by
  have l1 := ahead_level h1
  have l2 := ahead_level h2
  unfold aheadV at h1 h2 ⊢
  by_cases e1 : a.Level = b.Level
  · by_cases e2 : b.Level = c.Level
    · rw [if_pos e1] at h1
      rw [if_pos e2] at h2
      rw [if_pos (e1.trans e2)]
      by_cases z : a.Level = 0
      · rw [if_pos z] at h1
        rw [if_pos (by omega)] at h2
        rw [if_pos z]
        have := of_decide_eq_true h1
        have := of_decide_eq_true h2
        exact decide_eq_true (by omega)
      · rw [if_neg z] at h1
        rw [if_neg (by omega)] at h2
        rw [if_neg z]
        exact sLt_trans h1 h2
    · rw [if_neg (by omega)]
      exact decide_eq_true (by omega)
  · rw [if_neg (by omega)]
    exact decide_eq_true (by omega)
theorem file_le {f : File} (h : fileV f = true) : sLt f.Lo f.Hi = true ∨ f.Lo = f.Hi := by
  unfold fileV at h
  simp only [Bool.and_eq_true, Bool.or_eq_true, decide_eq_true_eq] at h
  exact h.2.2.2.2
theorem relF_trans {a b c : File} (hb : fileV b = true) (h1 : relF a b) (h2 : relF b c) : relF a c := by
  refine ⟨ahead_trans h1.1 h2.1, ?_⟩
  cases ho : overV a c with
  | false => rfl
  | true =>
    unfold overV at ho
    simp only [Bool.and_eq_true, Bool.or_eq_true, decide_eq_true_eq] at ho
    obtain ⟨o1, o2, o3⟩ := ho
    have l1 := ahead_level h1.1
    have l2 := ahead_level h2.1
    have p1 := over_false h1.2 (by omega) (by omega)
    have p2 := over_false h2.2 o1 (by omega)
    have p3 : sLt a.Hi c.Lo = true := by
      rcases file_le hb with q | q
      · exact sLt_trans (sLt_trans p1 q) p2
      · rw [q] at p1; exact sLt_trans p1 p2
    rcases o3 with q | q
    · have := sLt_trans p3 q
      rw [sLt_irrefl] at this
      cases this
    · rw [q, sLt_irrefl] at p3
      cases p3
theorem filesV_iff (l : List File) : filesV l = true ↔ l.length ≤ 12 ∧ (∀ f ∈ l, fileV f = true) ∧ l.Pairwise (fun a b => relF a b ∧ a.No ≠ b.No) := by
  constructor
  · intro hv
    have hf : ∀ k (hk : k < l.length), fileV l[k] = true := fun k hk => fileV_of hv k hk
    refine ⟨files_le hv, fun f hf' => ?_, ?_⟩
    · obtain ⟨k, hk, rfl⟩ := List.getElem_of_mem hf'
      exact hf k hk
    · rw [List.pairwise_iff_getElem]
      have key : ∀ (j : Nat) (hj : j < l.length) (i : Nat) (hi : i < j), relF (l[i]'(by omega)) l[j] := by
        intro j
        induction j with
        | zero => intro _ i hi; omega
        | succ j ih =>
          intro hj i hi
          have hp : relF (l[j]'(by omega)) l[j + 1] := by
            unfold filesV at hv
            rw [Bool.and_eq_true, List.all_eq_true] at hv
            have := hv.2 (j + 1) (by simpa using hj)
            rw [passV_at l (j + 1) hj, dif_pos (by omega)] at this
            simp only [Bool.and_eq_true, Bool.not_eq_true', Nat.add_sub_cancel] at this
            exact this.2.1
          by_cases e : i = j
          · subst e; exact hp
          · exact relF_trans (hf j (by omega)) (ih (by omega) i (by omega)) hp
      intro i j hi hj hij
      exact ⟨key j hj i hij, files_distinct hv i j hi hj (by omega)⟩
  · rintro ⟨h1, h2, h3⟩
    rw [List.pairwise_iff_getElem] at h3
    unfold filesV
    rw [decide_eq_true h1, Bool.true_and, List.all_eq_true]
    intro k hk
    have hk' : k < l.length := by simpa using hk
    rw [passV_at l k hk', h2 _ (List.getElem_mem hk')]
    have hall : ((l.take k).all fun g => decide (g.No ≠ l[k].No)) = true := by
      rw [List.all_eq_true]
      intro g hg
      obtain ⟨i, hi, rfl⟩ := List.getElem_of_mem hg
      have hik : i < k := by simp at hi; omega
      rw [List.getElem_take]
      exact decide_eq_true (h3 i k (by omega) hk' hik).2
    rw [hall]
    by_cases h0 : 0 < k
    · rw [dif_pos h0]
      obtain ⟨⟨r1, r2⟩, _⟩ := h3 (k - 1) k (by omega) hk' (by omega)
      rw [r1, r2]
      rfl
    · rw [dif_neg h0]
      rfl
/-! draws of files and edits -/
theorem bindC_ite {τ R : Type} (c : Prop) [Decidable c] (x y : τ) (k : τ → Option R) : bindC (if c then some (.go x) else some (.go y)) k = k (if c then x else y) := by
  split <;> rfl
theorem loopO_G {τ ρ R : Type} {body : τ → Option (Ctl τ (Ctl ρ R))} {s0 : τ} {f : ρ → Option R} (G : Option R → Prop) (I : Nat → τ → Prop) (n : Nat) (Q : Ctl ρ R → Prop) (h0 : I 0 s0)
    (h : ∀ k s, k < n → I k s → (∃ s', body s = some (.go s') ∧ I (k + 1) s') ∨ (∃ r, body s = some (.done r) ∧ Q r)) (hn : ∀ s, I n s → ∃ r, body s = some (.done r) ∧ Q r)
    (hk : ∀ r, Q r → G (bindC (some r) f)) : G (bindC (loopO body s0) f) := by
  obtain ⟨r, hr, hq⟩ := loopO_total I n Q h0 h hn
  rw [hr]
  exact hk r hq
theorem l1Pick_ok (b : List UInt8) (i h : Int) (l : List (List UInt8)) (hl : l ≠ []) (hi : 0 ≤ i ∧ i ≤ b.length) (hb : b.length ≤ 1048576) : ∃ x i' h', spec_l1Pick { b := b, i := i, h := h } l = some (x, { b := b, i := i', h := h' }) ∧ x ∈ l ∧ (0 ≤ i' ∧ i' ≤ b.length) := by
  unfold spec_l1Pick
  have hp := List.length_pos_iff.2 hl
  obtain ⟨x, i1, h1, e, g, k⟩ := l1Below_ok b i h ((l.length : Nat) : Int) hi hb
  simp only [e, Option.bind_some]
  rw [idx_some' g.1 (g.2.1 (by omega))]
  simp only [Option.bind_some]
  exact ⟨_, _, _, rfl, List.getElem_mem _, k⟩
theorem l7Key_ok (b : List UInt8) (i h : Int) (hi : 0 ≤ i ∧ i ≤ b.length) (hb : b.length ≤ 1048576) : ∃ x i' h', spec_l7Key { b := b, i := i, h := h } = some (x, { b := b, i := i', h := h' }) ∧ x.length ≤ 3 ∧ (0 ≤ i' ∧ i' ≤ b.length) := by
  unfold spec_l7Key
  obtain ⟨x, i1, h1, e, g, k⟩ := l1Pick_ok b i h [[97], [98], [97, 98], [97, 98, 99], [98, 48], [99], [0], [122, 122]] (by simp) hi hb
  simp only [e, Option.bind_some]
  have : ∀ x ∈ ([[97], [98], [97, 98], [97, 98, 99], [98, 48], [99], [0], [122, 122]] : List (List UInt8)), x.length ≤ 3 := by decide
  exact ⟨_, _, _, rfl, this x g, k⟩
theorem l16File_ok (b : List UInt8) (i h : Int) (hi : 0 ≤ i ∧ i ≤ b.length) (hb : b.length ≤ 1048576) : ∃ f i' h', spec_l16File { b := b, i := i, h := h } = some (f, { b := b, i := i', h := h' }) ∧ (0 ≤ i' ∧ i' ≤ b.length) := by
  unfold spec_l16File
  obtain ⟨x1, i1, h1, e1, g1, k1⟩ := l1Below_ok b i h 12 hi hb
  simp only [e1, Option.bind_some]
  obtain ⟨x2, i2, h2, e2, g2, k2⟩ := l1Below_ok b i1 h1 3 k1 hb
  simp only [e2, Option.bind_some]
  obtain ⟨x3, i3, h3, e3, g3, k3⟩ := l7Key_ok b i2 h2 k2 hb
  simp only [e3, Option.bind_some]
  obtain ⟨x4, i4, h4, e4, g4, k4⟩ := l1Pick_ok b i3 h3 [[], [48], [122], [109]] (by simp) k3 hb
  have l4 : x4.length ≤ 1 := (by decide : ∀ x ∈ ([[], [48], [122], [109]] : List (List UInt8)), x.length ≤ 1) x4 g4
  simp only [e4, Option.bind_some]
  rw [cat_ok (by omega)]
  simp only [Option.bind_some]
  obtain ⟨x5, i5, h5, e5, k5⟩ := l1Once_ok b i4 h4 4 k4 hb
  simp only [e5, Option.bind_some]
  rw [bindC_ite]
  generalize (if x5 = true then ([122, 122] : List UInt8) else x3 ++ x4) = T
  obtain ⟨x6, i6, h6, e6, k6⟩ := l1Once_ok b i5 h5 15 k5 hb
  simp only [e6, Option.bind_some]
  cases x6 with
  | false =>
    simp only [Bool.false_eq_true, if_false, bindC_go]
    exact ⟨_, _, _, rfl, k6⟩
  | true =>
    obtain ⟨x7, i7, h7, e7, g7, k7⟩ := l1Below_ok b i6 h6 3 k6 hb
    simp only [if_true, e7, Option.bind_some]
    by_cases c0 : x7 = 0
    · rw [decide_eq_true c0]
      obtain ⟨x8, i8, h8, e8, g8, k8⟩ := l1PickInt_ok b i7 h7 [0, 1000000, 1000001] (by simp) k7 hb
      simp only [if_true, e8, Option.bind_some, bindC_go]
      exact ⟨_, _, _, rfl, k8⟩
    · rw [decide_eq_false c0]
      simp only [Bool.false_eq_true, if_false]
      by_cases c1 : x7 = 1
      · rw [decide_eq_true c1]
        obtain ⟨x8, i8, h8, e8, g8, k8⟩ := l1PickInt_ok b i7 h7 [-1, 3] (by simp) k7 hb
        simp only [if_true, e8, Option.bind_some, bindC_go]
        exact ⟨_, _, _, rfl, k8⟩
      · rw [decide_eq_false c1]
        obtain ⟨x8, i8, h8, e8, g8, k8⟩ := l1Pick_ok b i7 h7 [[], [97, 97, 97, 97, 97, 97, 97, 97, 97, 97, 97]] (by simp) k7 hb
        simp only [Bool.false_eq_true, if_false, e8, Option.bind_some, bindC_go]
        exact ⟨_, _, _, rfl, k8⟩
theorem l16Some_ok (b : List UInt8) (i h : Int) (hi : 0 ≤ i ∧ i ≤ b.length) (hb : b.length ≤ 1048576) : ∃ l i' h', spec_l16Some { b := b, i := i, h := h } = some (l, { b := b, i := i', h := h' }) ∧ l.length ≤ 12 ∧ (0 ≤ i' ∧ i' ≤ b.length) := by
  unfold spec_l16Some
  obtain ⟨x1, i1, h1, e1, g1, k1⟩ := l1Below_ok b i h 14 hi hb
  have hx1 := g1.2.1 (by omega)
  simp only [e1, Option.bind_some]
  refine loopO_G (τ := Int × Int × Int × List File) (ρ := Int × Int × List File) (R := List File × L1Cur) (G := fun o => ∃ l i' h', o = some (l, { b := b, i := i', h := h' }) ∧ l.length ≤ 12 ∧ (0 ≤ i' ∧ i' ≤ b.length)) (I := fun k S => (0 ≤ S.1 ∧ S.1 ≤ b.length) ∧ S.2.2.1 = x1 - (k : Int) ∧ S.2.2.2.length ≤ 12) x1.toNat (Q := fun r => ∃ p q a, r = .go (p, q, a) ∧ (0 ≤ p ∧ p ≤ b.length) ∧ a.length ≤ 12) ⟨k1, by simp, by simp⟩ ?_ ?_ ?_
  · rintro k ⟨p, q, c, d⟩ hk ⟨b1, b2, b3⟩
    simp only at b1 b2 b3
    subst b2
    left
    obtain ⟨x3, i3, h3, e3, k3⟩ := l16File_ok b p q b1 hb
    obtain ⟨r, hr, _, _, hr2⟩ := FilesAdd_both d x3 (by omega)
    simp only [e3, hr, Option.bind_some]
    rw [if_pos (by simp only [decide_eq_true_eq]; omega), wrap_ok (n := x1 - (k : Int) - 1) (by omega) (by omega), bindC_ite]
    refine ⟨_, rfl, k3, by simp only; omega, ?_⟩
    simp only
    split
    · rename_i h2; exact files_le (hr2 h2)
    · exact b3
  · rintro ⟨p, q, c, d⟩ ⟨b1, b2, b3⟩
    simp only at b1 b2 b3
    exact ⟨_, by simp only; rw [if_neg (by simp only [decide_eq_true_eq]; omega)], p, q, d, rfl, b1, b3⟩
  rintro _ ⟨p, q, d, rfl, b1, b3⟩
  simp only [bindC_go]
  have key : ∀ (p q : Int) (x : Bool), (x = true → 0 < d.length) → (0 ≤ p ∧ p ≤ b.length) → ∃ l i' h', bindC (if x = true then ((spec_l1Below ({ b := b, i := p, h := q : L1Cur }) ((d.length : Nat) : Int)).bind fun R28 =>
          (spec_l16File ({ b := b, i := R28.2.i, h := R28.2.h : L1Cur })).bind fun R31 =>
          (idx d R28.1).bind fun E34 =>
          some (.go (R31.2.i, R31.2.h, (d.set R28.1.toNat R31.1))))
          else (some (.go (p, q, d))))
          (fun (T25 : Int × Int × List File) => some (T25.2.2, { b := b, i := T25.1, h := T25.2.1 : L1Cur })) = some (l, { b := b, i := i', h := h' }) ∧ l.length ≤ 12 ∧ (0 ≤ i' ∧ i' ≤ b.length) := by
    intro p q x hx hp
    cases x with
    | false => exact ⟨_, _, _, rfl, b3, hp⟩
    | true =>
      obtain ⟨x4, i4, h4, e4, g4, k4⟩ := l1Below_ok b p q ((d.length : Nat) : Int) hp hb
      obtain ⟨x5, i5, h5, e5, k5⟩ := l16File_ok b i4 h4 k4 hb
      have := hx rfl
      have hlt := g4.2.1 (by omega)
      simp only [if_true, e4, e5, Option.bind_some]
      rw [idx_some' g4.1 hlt]
      simp only [Option.bind_some, bindC_go]
      exact ⟨_, _, _, rfl, by simpa using b3, k5⟩
  by_cases c : ((d.length : Nat) : Int) > 0
  · rw [decide_eq_true c]
    obtain ⟨x4, i4, h4, e4, k4⟩ := l1Once_ok b p q 12 b1 hb
    simp only [if_true, e4, Option.bind_some]
    exact key i4 h4 x4 (fun _ => by omega) k4
  · rw [decide_eq_false c]
    simp only [Bool.false_eq_true, if_false, Option.bind_some]
    exact key p q false (fun h => by cases h) b1
theorem sameFiles_eq (a b : List File) (h : a.length ≤ 1048576) : laws_sameFiles a b = some (decide (a = b)) := by
  unfold laws_sameFiles
  have := eqS_of a b (fun x y => some (decide (x.No = y.No) && (decide (x.Level = y.Level) && (decide (x.Lo = y.Lo) && (decide (x.Hi = y.Hi) && true))))) (fun x y _ _ => by
    congr 1
    obtain ⟨x1, x2, x3, x4⟩ := x
    obtain ⟨y1, y2, y3, y4⟩ := y
    simp only [File.mk.injEq, Bool.and_true, Bool.decide_and]) (by omega)
  simp only [Option.bind_some] at this
  exact this
/-! reservations: what fits -/
/-! rows of a log -/
/-! streams -/
/-! files sealed -/
/-! a known block -/
/-! all that an iterator meets -/
/-! compaction keeps what is seen -/
/-! draws of entries -/
/-! stable order: lists in order, class by class -/
/-! two elements change places -/
/-! the merge of two parts beside each other -/
/-! the first of each class, in order -/
/-! an engine's tables merged into one -/
/-! the merge and the flush that follow a put -/
/-! all entries of an engine -/
/-! the map of an engine -/
theorem DrawFilesAdd_ok (code : List UInt8) (hb : code.length ≤ 1048576) : ∃ l f, spec_DrawFilesAdd code = some (l, f) ∧ l.length ≤ 12 := by
  unfold spec_DrawFilesAdd
  obtain ⟨q, hq⟩ := l1New_ok code hb
  obtain ⟨l, i1, h1, e1, g1, k1⟩ := l16Some_ok code 0 q (by omega) hb
  obtain ⟨f, i2, h2, e2, k2⟩ := l16File_ok code i1 h1 k1 hb
  simp only [hq, Option.bind_some, e1, e2]
  exact ⟨_, _, rfl, g1⟩
theorem DrawFilesAt_ok (code : List UInt8) (hb : code.length ≤ 1048576) : ∃ l k, spec_DrawFilesAt code = some (l, k) ∧ l.length ≤ 12 := by
  unfold spec_DrawFilesAt
  obtain ⟨q, hq⟩ := l1New_ok code hb
  obtain ⟨l, i1, h1, e1, g1, k1⟩ := l16Some_ok code 0 q (by omega) hb
  obtain ⟨f, i2, h2, e2, k2⟩ := l7Key_ok code i1 h1 k1 hb
  simp only [hq, Option.bind_some, e1, e2]
  exact ⟨_, _, rfl, g1⟩
theorem DrawFilesPick_ok (code : List UInt8) (hb : code.length ≤ 1048576) : ∃ l k, spec_DrawFilesPick code = some (l, k) ∧ l.length ≤ 12 := by
  unfold spec_DrawFilesPick
  obtain ⟨q, hq⟩ := l1New_ok code hb
  obtain ⟨l, i1, h1, e1, g1, k1⟩ := l16Some_ok code 0 q (by omega) hb
  obtain ⟨x, i2, h2, e2, k2⟩ := l1Below_ok code i1 h1 4 k1 hb
  simp only [hq, Option.bind_some, e1, e2]
  exact ⟨_, _, rfl, g1⟩
theorem FilesAdd_refused (l : List File) (f : File) (h : l.length ≤ 1048576) (hv : filesV l = true) (r : List File × Bool) (hr : impl_FilesAdd l f = some r) (h2 : r.2 = false) : r.1 = l := by
  obtain ⟨j, _, e, _⟩ := impl_FilesAdd_at l f hv
  rw [hr] at e
  cases e
  unfold filesAddR at h2 ⊢
  cases c : filesV (insF l f j) with
  | true => rw [c] at h2; cases h2
  | false => rfl
/-- is the number among those picked? -/
theorem picked_loop {ρ : Type} (q : List Int) (p left : List File) (i : Nat) (hi : i < p.length) (hq : q.length ≤ 1048576) :
    loopO (ρ := Ctl (Bool × List File) ρ) (fun (S80 : Bool × Int × List File) => if (decide (S80.2.1 < ((q.length : Nat) : Int))) = true then ((if S80.1 = true then (some (true, S80.2.2))
      else ((idx q S80.2.1).bind fun E88 =>
      (idx p (i : Int)).bind fun E90 =>
      some (decide (E88 = E90.No), S80.2.2))).bind (fun (T85 : Bool × List File) =>
      some (.go (T85.1, IntKind.i64.wrap (S80.2.1 + (1 : Int)), T85.2))))
      else (some (.done (.go (S80.1, S80.2.2)))))
      (false, (0 : Int), left) = some (.go (decide (p[i].No ∈ q), left)) := by
  refine loopO_is (I := fun k S => S = (decide (p[i].No ∈ q.take k), (k : Int), left)) q.length _ (by simp) ?_ ?_
  · rintro k _ hk rfl
    left
    have e : decide (p[i].No ∈ q.take (k + 1)) = (decide (p[i].No ∈ q.take k) || decide (q[k] = p[i].No)) := by
      rw [List.take_add_one, List.getElem?_eq_getElem hk, Bool.eq_iff_iff]
      simp only [Option.toList_some, List.mem_append, List.mem_singleton, Bool.or_eq_true, decide_eq_true_eq, eq_comm (a := q[k])]
    simp only [idx_nat q k hk, idx_nat p i hi, Option.bind_some, wrap_ok (n := (k : Int) + 1) (by omega) (by omega)]
    rw [if_pos (by simp only [decide_eq_true_eq]; omega)]
    show ∃ S', _ ∧ S' = (decide (p[i].No ∈ q.take (k + 1)), ((k + 1 : Nat) : Int), left)
    rw [e]
    generalize decide (p[i].No ∈ q.take k) = b
    cases b with
    | true => exact ⟨_, rfl, by simp⟩
    | false => exact ⟨_, rfl, by simp⟩
  · rintro _ rfl
    simp
/-- the files that are left behind i of them -/
def leftF (p : List File) (q : List Int) (i : Nat) : List File := (p.take i).filter (fun f => !decide (f.No ∈ q)) ++ p.drop i
theorem leftF_files {p : List File} (hv : filesV p = true) (q : List Int) (i : Nat) : filesV (leftF p q i) = true := by
  obtain ⟨h1, h2, h3⟩ := (filesV_iff p).1 hv
  have hs : (leftF p q i).Sublist p := by
    conv => rhs; rw [← List.take_append_drop i p]
    exact List.Sublist.append List.filter_sublist (List.Sublist.refl _)
  exact (filesV_iff _).2 ⟨Nat.le_trans hs.length_le h1, fun f hf => h2 f (hs.subset hf), h3.sublist hs⟩
theorem leftF_stay {p : List File} (q : List Int) (i : Nat) (hi : i < p.length) (h : p[i].No ∉ q) : leftF p q (i + 1) = leftF p q i := by
  unfold leftF
  rw [filter_take _ p i hi, List.drop_eq_getElem_cons hi]
  simp [h]
theorem leftF_drop {p : List File} (hv : filesV p = true) (q : List Int) (i : Nat) (hi : i < p.length) (h : p[i].No ∈ q) : filesDropR (leftF p q i) p[i].No = (leftF p q (i + 1), true) := by
  have hd := files_distinct hv
  have e : dropF (leftF p q i) p[i].No = leftF p q (i + 1) := by
    unfold dropF leftF
    rw [filter_take _ p i hi, List.drop_eq_getElem_cons hi, List.filter_append, List.filter_cons]
    simp only [h, decide_true, Bool.not_true, Bool.false_eq_true, if_false, List.append_nil]
    congr 1
    · refine List.filter_eq_self.2 fun f hf => ?_
      obtain ⟨hf1, -⟩ := List.mem_filter.1 hf
      obtain ⟨j, hj, rfl⟩ := List.mem_take_iff_getElem.1 hf1
      have := hd j i (by omega) hi (by omega)
      simpa using this
    · refine List.filter_eq_self.2 fun f hf => ?_
      obtain ⟨j, hj, rfl⟩ := List.mem_drop_iff_getElem.1 hf
      have := hd (i + 1 + j) i (by omega) hi (by omega)
      simpa using this
  unfold filesDropR
  rw [leftF_files hv, if_pos rfl, e]
  have hlen : (leftF p q (i + 1)).length < (leftF p q i).length := by
    unfold leftF
    rw [filter_take _ p i hi, List.drop_eq_getElem_cons hi]
    simp [h]
    omega
  rw [decide_eq_true hlen]
theorem levelZero_eq (l : List File) (h : l.length ≤ 1048576) : laws_levelZero l = some (((l.filter fun f => decide (f.Level = 0)).length : Nat) : Int) := by
  unfold laws_levelZero
  rw [loopO_is (I := fun k S => S = (((((l.take k).filter fun f => decide (f.Level = 0)).length : Nat) : Int), (k : Int))) l.length (.go (((l.filter fun f => decide (f.Level = 0)).length : Nat) : Int)) (by simp) ?_ ?_]
  · rfl
  · rintro k _ hk rfl
    left
    have hle := filter_len (fun f : File => decide (f.Level = 0)) l k
    simp only [idx_nat l k hk, Option.bind_some]
    rw [if_pos (by simp only [decide_eq_true_eq]; omega), filter_take _ l k hk]
    by_cases c : l[k].Level = 0
    · simp only [c, decide_true, if_true, bindC]
      refine ⟨_, rfl, ?_⟩
      rw [wrap_ok (by omega) (by omega), wrap_ok (by omega) (by omega)]
      simp
    · simp only [c, decide_false, Bool.false_eq_true, if_false, bindC]
      refine ⟨_, rfl, ?_⟩
      rw [wrap_ok (by omega) (by omega)]
      simp
  · rintro _ rfl
    simp only [List.take_length]
    rw [if_neg (by simp)]
theorem sLe_trans {a b c : List UInt8} (h1 : sLt a b = true ∨ a = b) (h2 : sLt b c = true ∨ b = c) : sLt a c = true ∨ a = c := by
  rcases h1 with h1 | rfl
  · rcases h2 with h2 | rfl
    · exact .inl (sLt_trans h1 h2)
    · exact .inl h1
  · exact h2
/-- bounds of the files picked so far -/
def bndF (lo hi : List UInt8) : Prop := (lo = [] ∧ hi = []) ∨ (lo ≠ [] ∧ (sLt lo hi = true ∨ lo = hi))
theorem bndF_step {lo hi : List UInt8} {f : File} (h : bndF lo hi) (hf : fileV f = true) :
    bndF (if (decide (lo = []) || sLt f.Lo lo) = true then f.Lo else lo) (if (!(sLt f.Hi hi || decide (f.Hi = hi))) = true then f.Hi else hi) := by
  have h1 : f.Lo ≠ [] := fun e => by simp [fileV, e] at hf
  have h2 := file_le hf
  have hh : sLt f.Hi (if (!(sLt f.Hi hi || decide (f.Hi = hi))) = true then f.Hi else hi) = true ∨ f.Hi = (if (!(sLt f.Hi hi || decide (f.Hi = hi))) = true then f.Hi else hi) := by
    split
    · exact .inr rfl
    · rename_i c
      cases h : sLt f.Hi hi with
      | true => exact .inl rfl
      | false => rw [h] at c; simp at c; exact .inr c
  have hm : sLt hi (if (!(sLt f.Hi hi || decide (f.Hi = hi))) = true then f.Hi else hi) = true ∨ hi = (if (!(sLt f.Hi hi || decide (f.Hi = hi))) = true then f.Hi else hi) := by
    split
    · rename_i c
      rw [sLt_compl, Bool.not_not] at c
      exact .inl c
    · exact .inr rfl
  right
  split
  · exact ⟨h1, sLe_trans h2 hh⟩
  · rename_i c
    rcases h with ⟨rfl, _⟩ | ⟨h3, h4⟩
    · simp at c
    · exact ⟨h3, sLe_trans h4 hm⟩
theorem pickV_zero {p : List File} (f : File) (hf : f ∈ p) (h0 : f.Level = 0) : f.No ∈ pickV p 0 := by
  obtain ⟨k, hk, rfl⟩ := List.mem_iff_getElem.1 hf
  unfold pickV
  refine List.mem_append.2 (.inl ?_)
  have mono : ∀ d j, j + d ≤ p.length → ∀ x, x ∈ (pickS p 0 j).2.2 → x ∈ (pickS p 0 (j + d)).2.2 := by
    intro d
    induction d with
    | zero => intro j _ x hx; exact hx
    | succ d ih =>
      intro j hj x hx
      rw [← Nat.add_assoc, pickS_succ p 0 (j + d) (by omega)]
      have := ih j (by omega) x hx
      unfold pickA
      split
      · exact this
      · exact List.mem_append.2 (.inl this)
  have h1 : (p[k]).No ∈ (pickS p 0 (k + 1)).2.2 := by
    rw [pickS_succ p 0 k hk]
    unfold pickA
    rw [if_neg (by simp [h0])]
    simp
  have := mono (p.length - (k + 1)) (k + 1) (by omega) _ h1
  rwa [show k + 1 + (p.length - (k + 1)) = p.length by omega] at this
theorem FnFiles_pure (code : List UInt8) : laws_FnFiles code = some true := by
  unfold laws_FnFiles
  rw [big_eq]
  simp only [Option.bind_some]
  by_cases hc : ((code.length : Nat) : Int) > 1048576
  · rw [decide_eq_true hc]; rfl
  rw [decide_eq_false hc]
  have hb : code.length ≤ 1048576 := by omega
  obtain ⟨l, f, e1, l1⟩ := DrawFilesAdd_ok code hb
  obtain ⟨m, key, e2, l2⟩ := DrawFilesAt_ok code hb
  obtain ⟨p, level, e3, l3⟩ := DrawFilesPick_ok code hb
  obtain ⟨x, hx1, hx2, hx3, hx4⟩ := FilesAdd_both l f (by omega)
  simp only [Bool.false_eq_true, if_false, e1, e2, e3, Option.bind_some, hx1, hx2, decide_true, Bool.not_true, spec_FilesOk_eq l (by omega)]
  have g1 : (if filesV l = true then (if (!x.2) = true then ((laws_sameFiles x.1 l).bind fun R23 =>
      if (!R23) = true then (some true)
      else (if x.2 = true then ((spec_FilesOk x.1).bind fun R28 => some (!R28)) else (some false)))
      else (if x.2 = true then ((spec_FilesOk x.1).bind fun R32 => some (!R32)) else (some false)))
      else (if x.2 = true then ((spec_FilesOk x.1).bind fun R36 => some (!R36)) else (some false))) = some false := by
    cases h2 : x.2 with
    | true =>
      simp only [Bool.not_true, Bool.false_eq_true, if_false, if_true, spec_FilesOk_eq x.1 (by have := files_le (hx4 h2); omega), Option.bind_some, hx4 h2, ite_self]
    | false =>
      simp only [Bool.not_false, Bool.false_eq_true, if_false, if_true]
      by_cases hv : filesV l = true
      · have := FilesAdd_refused l f (by omega) hv x hx2 h2
        rw [if_pos hv, this, sameFiles_eq l l (by omega)]
        simp
      · rw [if_neg hv]
  rw [g1]
  simp only [Option.bind_some, Bool.false_eq_true, if_false, impl_FilesAt_eq m key (by omega), spec_FilesAt_eq m key (by omega), impl_FilesPick_eq p level (by omega), spec_FilesPick_eq p level (by omega)]
  have hat : (if filesV m = true then atV m key else []).length ≤ 1048576 := by
    split
    · exact Nat.le_trans (atV_length m key) (by omega)
    · simp
  rw [sameInts_eq _ _ hat]
  simp only [decide_true, Option.bind_some, Bool.not_true, Bool.false_eq_true, if_false]
  generalize hq : (if filesV p = true ∧ (0 ≤ level ∧ level ≤ 1) then pickV p level else []) = q
  have hql : q.length ≤ 1048576 := by
    subst hq
    split
    · rename_i hv
      have h1 := (pickS_inv p level hv.1 p.length (Nat.le_refl _)).2
      unfold pickV
      rw [List.length_append]
      have h2 : (if (pickS p level p.length).2.1 = [] then [] else (p.filter (pickM (pickS p level p.length).1 (pickS p level p.length).2.1 level)).map (·.No)).length ≤ p.length := by
        split
        · simp
        · rw [List.length_map]; exact List.length_filter_le _ _
      omega
    · simp
  rw [sameInts_eq q q hql]
  simp only [decide_true, Option.bind_some, Bool.not_true, Bool.false_eq_true, if_false]
  by_cases h0 : q = []
  · subst h0; simp
  have hn : decide (((q.length : Nat) : Int) = 0) = false := decide_eq_false (by have := List.length_pos_iff.2 h0; omega)
  have hv : filesV p = true ∧ (0 ≤ level ∧ level ≤ 1) := by
    by_cases c : filesV p = true ∧ (0 ≤ level ∧ level ≤ 1)
    · exact c
    · rw [if_neg c] at hq; exact absurd hq.symm h0
  rw [if_pos hv] at hq
  simp only [hn, Bool.false_eq_true, if_false, spec_FilesOk_eq p (by omega), Option.bind_some, hv.1, Bool.not_true]
  refine loopO_G (G := fun x => x = some true) (I := fun i S => ∃ lo hi, S = (lo, hi, (i : Int), leftF p q i) ∧ bndF lo hi) (n := p.length) (Q := fun r => ∃ lo hi, r = .go (lo, hi, leftF p q p.length) ∧ bndF lo hi) ⟨[], [], by simp [leftF], .inl ⟨rfl, rfl⟩⟩ ?_ ?_ ?_
  · rintro i _ hi ⟨lo, hi', rfl, hbn⟩
    left
    rw [if_pos (by simp only [decide_eq_true_eq]; omega)]
    simp only
    rw [picked_loop q p (leftF p q i) i hi hql]
    have hf := fileV_of hv.1 i hi
    by_cases c : p[i].No ∈ q
    · have hd := impl_FilesDrop_eq (leftF p q i) p[i].No (by have := files_le (leftF_files hv.1 q i); omega)
      rw [leftF_drop hv.1 q i hi c] at hd
      refine ⟨_, ?_, ⟨_, _, rfl, bndF_step hbn hf⟩⟩
      simp only [c, decide_true, bindC, Bool.not_true, Bool.false_eq_true, if_false, idx_nat p i hi, Option.bind_some, hd]
      by_cases c1 : lo = []
      · subst c1
        cases c2 : (sLt p[i].Hi hi' || decide (p[i].Hi = hi')) <;> simp [bindC, hd, wrap_ok (n := (i : Int) + 1) (by omega) (by omega)]
      · cases c3 : sLt p[i].Lo lo <;> cases c2 : (sLt p[i].Hi hi' || decide (p[i].Hi = hi')) <;> simp [bindC, hd, c1, c3, c2, wrap_ok (n := (i : Int) + 1) (by omega) (by omega)]
    · refine ⟨_, ?_, ⟨lo, hi', rfl, hbn⟩⟩
      rw [leftF_stay q i hi c]
      simp [c, bindC, wrap_ok (n := (i : Int) + 1) (by omega) (by omega)]
  · rintro _ ⟨lo, hi', rfl, hbn⟩
    rw [if_neg (by simp)]
    exact ⟨_, rfl, lo, hi', rfl, hbn⟩
  · rintro _ ⟨lo, hi', rfl, hbn⟩
    simp only [bindC]
    by_cases c : level = 0
    · subst c
      have hz : (leftF p q p.length).filter (fun f => decide (f.Level = 0)) = [] := by
        refine List.filter_eq_nil_iff.2 fun f hf hl => ?_
        unfold leftF at hf
        simp only [List.take_length, List.drop_length, List.append_nil] at hf
        obtain ⟨h1, h2⟩ := List.mem_filter.1 hf
        have := pickV_zero f h1 (by simpa using hl)
        rw [hq] at this
        simp [this] at h2
      have hlz := levelZero_eq (leftF p q p.length) (by have := files_le (leftF_files hv.1 q p.length); omega)
      rw [hz] at hlz
      rcases hbn with ⟨rfl, rfl⟩ | ⟨_, h | rfl⟩
      · simp [hlz]
      · simp [hlz, h]
      · simp [hlz]
    · simp [c]
theorem FnFiles_proved : Rows.FnFilesSaid := FnFiles_over fun code _ => FnFiles_pure code

end Go.Proofs.Ytfpbnddcbmfcaaa
