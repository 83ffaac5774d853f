/-
  The plain laws: what the pure functions come to, and the statements. Conditions: none.
-/
import Derived.Test.YtfpbnddcbmfcaaaPm
import Derived.Test.YtfpbnddcbmfcaaaW2
set_option linter.unusedVariables false
set_option linter.unusedSimpArgs false
namespace Go.Proofs.Ytfpbnddcbmfcaaa
open Go Sl

/-! ### SpaceOk -/
theorem szLogRow_eq (x : LogRow) (left : Int) (h1 : 0 ≤ left) (h2 : left ≤ 1048576) (h3 : x.Text.length ≤ 9223372036854775807) : laws_szLogRow x left = some (szV left x.Text.length) := by
  unfold laws_szLogRow szV
  rw [wrap_ok (by omega) (by omega)]
  by_cases h : left - (x.Text.length : Int) < 0
  · simp [h, show left < (x.Text.length : Int) by omega]
  · simp [h, show ¬ left < (x.Text.length : Int) by omega]
theorem szLogRowS_eq (a : List LogRow) (left : Int) (h1 : 0 ≤ left) (h2 : left ≤ 1048576) (h : okl a) : laws_szLogRowS a left = some (szV left (a.length + (a.map fun x => x.Text.length).sum)) := by
  unfold laws_szLogRowS
  exact szS_of a laws_szLogRow (fun x => x.Text.length) (fun x hx left h1 h2 => szLogRow_eq x left h1 h2 (h.2 x hx).2.2.2.1) h.1 left h1 h2
theorem toLogRowS_eq (a : List LogRow) (h : a.length ≤ 1048576) : laws_toLogRowS a = some a := by
  unfold laws_toLogRowS
  rw [mkLen_ok (by omega) (by omega)]
  simp only [Option.bind_some]
  rw [to_loop a _ laws_toLogRow (fun x _ => rfl) (by omega)]
  rfl
theorem eqLogRow_eq (a b : LogRow) : laws_eqLogRow a b = some (decide (a = b)) := by
  obtain ⟨a1, a2, a3, a4, a5⟩ := a; obtain ⟨b1, b2, b3, b4, b5⟩ := b
  unfold laws_eqLogRow
  by_cases h1 : a1 = b1 <;> by_cases h2 : a2 = b2 <;> by_cases h3 : a3 = b3 <;> by_cases h4 : a4 = b4 <;> by_cases h5 : a5 = b5 <;> simp [h1, h2, h3, h4, h5]
theorem eqLogRowS_eq (a b : List LogRow) (h : a.length ≤ 1048576) : laws_eqLogRowS a b = some (decide (a = b)) :=
  eqS_of a b laws_eqLogRow (fun x y _ _ => eqLogRow_eq x y) (by omega)
/-! words of bits -/
/-! draws -/
/-! draws of files and edits -/
/-! reservations: what fits -/
/-! rows of a log -/
/-! streams -/
/-! files sealed -/
/-! a known block -/
/-! all that an iterator meets -/
/-! compaction keeps what is seen -/
/-! draws of entries -/
/-! stable order: lists in order, class by class -/
/-! two elements change places -/
theorem loopO_bind {τ ρ R : Type} {body : τ → Option (Ctl τ (Ctl ρ R))} {s0 : τ} {k : ρ → Option R} {res : R} (I : Nat → τ → Prop) (n : Nat) (Q : Ctl ρ R → Prop) (h0 : I 0 s0)
    (h : ∀ k s, k < n → I k s → (∃ s', body s = some (.go s') ∧ I (k + 1) s') ∨ (∃ r, body s = some (.done r) ∧ Q r)) (hn : ∀ s, I n s → ∃ r, body s = some (.done r) ∧ Q r)
    (hk : ∀ r, Q r → bindC (some r) k = some res) : bindC (loopO body s0) k = some res := by
  obtain ⟨r, hr, hq⟩ := loopO_total I n Q h0 h hn
  rw [hr]
  exact hk r hq
/-! the merge of two parts beside each other -/
/-! the first of each class, in order -/
/-! an engine's tables merged into one -/
/-! the merge and the flush that follow a put -/
/-! all entries of an engine -/
/-! the map of an engine -/
/-! batches as text -/
/-! batches read -/
/-! ## two rows of one place -/
def keyLR (x : LogRow) : Place := { tenant := x.Tenant, boot := x.Boot, seq := x.Seq : Place }
def badLR (l : List LogRow) (i j : Nat) : Prop := ∃ x y, l[i]? = some x ∧ l[j]? = some y ∧ keyLR x = keyLR y ∧ x.Text ≠ y.Text
def twV (l : List LogRow) : Prop := ∃ i j, j < i ∧ badLR l i j
noncomputable instance {l : List LogRow} {i j : Nat} : Decidable (badLR l i j) := Classical.propDecidable _
noncomputable instance {l : List LogRow} : Decidable (twV l) := Classical.propDecidable _
noncomputable instance {l : List LogRow} {k : Nat} : Decidable (∃ j, j < k ∧ badLR l k j) := Classical.propDecidable _
theorem badLR_symm {l : List LogRow} {i j : Nat} (h : badLR l i j) : badLR l j i := by
  obtain ⟨x, y, h1, h2, h3, h4⟩ := h
  exact ⟨y, x, h2, h1, h3.symm, fun h => h4 h.symm⟩
theorem twV_of {l : List LogRow} {i j : Nat} (h : badLR l i j) : twV l := by
  have hb := badLR_symm h
  obtain ⟨x, y, h1, h2, h3, h4⟩ := h
  rcases Nat.lt_trichotomy i j with h | h | h
  · exact ⟨_, _, h, hb⟩
  · subst h; rw [h1] at h2; cases h2; exact absurd rfl h4
  · exact ⟨_, _, h, ⟨x, y, h1, h2, h3, h4⟩⟩
theorem badLR_lt {l : List LogRow} {i j : Nat} (h : badLR l i j) : i < l.length := by
  obtain ⟨x, y, h1, _⟩ := h
  exact (List.getElem?_eq_some_iff.1 h1).1
theorem badLR_iff {l : List LogRow} {i j : Nat} (hi : i < l.length) (hj : j < l.length) : badLR l i j ↔ (l[i].Tenant = l[j].Tenant ∧ l[i].Boot = l[j].Boot ∧ l[i].Seq = l[j].Seq ∧ l[i].Text ≠ l[j].Text) := by
  unfold badLR
  simp only [List.getElem?_eq_getElem hi, List.getElem?_eq_getElem hj, Option.some.injEq]
  constructor
  · rintro ⟨x, y, rfl, rfl, h3, h4⟩
    simp only [keyLR, Place.mk.injEq] at h3
    exact ⟨h3.1, h3.2.1, h3.2.2, h4⟩
  · rintro ⟨h1, h2, h3, h4⟩
    exact ⟨_, _, rfl, rfl, by simp [keyLR, h1, h2, h3], h4⟩
theorem bad_test {l : List LogRow} {i j : Nat} (hi : i < l.length) (hj : j < l.length) :
    (if (decide (l[i].Tenant = l[j].Tenant)) = true then (if (decide (l[i].Boot = l[j].Boot)) = true then (if (decide (l[i].Seq = l[j].Seq)) = true then (some (!(decide (l[i].Text = l[j].Text)))) else (some false)) else (some false)) else (some false)) = some (decide (badLR l i j)) := by
  have := badLR_iff hi hj
  by_cases h : badLR l i j
  · obtain ⟨h1, h2, h3, h4⟩ := this.1 h
    simp [h, h1, h2, h3, h4]
  · have h' : ¬ (l[i].Tenant = l[j].Tenant ∧ l[i].Boot = l[j].Boot ∧ l[i].Seq = l[j].Seq ∧ l[i].Text ≠ l[j].Text) := fun c => h (this.2 c)
    by_cases h1 : l[i].Tenant = l[j].Tenant <;> by_cases h2 : l[i].Boot = l[j].Boot <;> by_cases h3 : l[i].Seq = l[j].Seq <;> simp_all
theorem spec_Twice_eq (l : List LogRow) (h : l.length ≤ 1048576) : spec_Twice l = some (decide (twV l)) := by
  unfold spec_Twice
  refine loopO_bind (fun k s => s = (k : Int) ∧ ∀ i, i < k → ∀ j, j < i → ¬ badLR l i j) l.length (fun r => r = (if twV l then .done true else .go ())) ⟨rfl, fun i hi => absurd hi (by omega)⟩ ?_ ?_ ?_
  · rintro k _ hk ⟨rfl, hno⟩
    have hin : bindC (some (if ∃ j, j < k ∧ badLR l k j then (.done (.done (.done true)) : Ctl Unit (Ctl Int (Ctl Unit Bool))) else .go ())) (fun (T8 : Unit) => some (.go (IntKind.i64.wrap ((k : Int) + (1 : Int))))) = some (if ∃ j, j < k ∧ badLR l k j then (.done (.done true) : Ctl Int (Ctl Unit Bool)) else .go ((k + 1 : Nat) : Int)) := by
      split
      · rfl
      · simp [bindC, wrap_ok (n := (k : Int) + 1) (by omega) (by omega)]
    have hb : (if (decide ((k : Int) < ((l.length : Nat) : Int))) = true then (bindC (loopO (fun (S6 : Int) => if (decide (S6 < (k : Int))) = true then (((idx l (k : Int)).bind fun E13 =>
  (idx l S6).bind fun E15 =>
  if (decide (E13.Tenant = E15.Tenant)) = true then (if (decide (E13.Boot = E15.Boot)) = true then (if (decide (E13.Seq = E15.Seq)) = true then (some (!(decide (E13.Text = E15.Text))))
  else (some false))
  else (some false))
  else (some false)).bind (fun (T11 : Bool) =>
  if T11 = true then (some (.done (.done (.done (.done true)))))
  else (some (.go (IntKind.i64.wrap (S6 + (1 : Int)))))))
  else (some (.done (.go ()))))
  (0 : Int))
  (fun (T8 : Unit) => some (.go (IntKind.i64.wrap ((k : Int) + (1 : Int))))))
  else (some (.done (.go ())))) = some (if ∃ j, j < k ∧ badLR l k j then (.done (.done true) : Ctl Int (Ctl Unit Bool)) else .go ((k + 1 : Nat) : Int)) := by
      rw [if_pos (by simpa using hk)]
      refine loopO_bind (fun m s => s = (m : Int) ∧ ∀ j, j < m → ¬ badLR l k j) k (fun r => r = (if ∃ j, j < k ∧ badLR l k j then .done (.done (.done true)) else .go ())) ⟨rfl, fun i hi => absurd hi (by omega)⟩ ?_ ?_ (fun r hr => by rw [hr]; exact hin)
      · rintro m _ hm ⟨rfl, hn⟩
        simp only [idx_nat l k hk, idx_nat l m (by omega : m < l.length), Option.bind_some]
        rw [if_pos (by simpa using hm), bad_test hk (by omega)]
        by_cases c : badLR l k m
        · exact .inr ⟨.done (.done (.done true)), by simp [c], (if_pos ⟨m, hm, c⟩).symm⟩
        · refine .inl ⟨((m + 1 : Nat) : Int), by simp [c, wrap_ok (n := (m : Int) + 1) (by omega) (by omega)], rfl, fun j hj => ?_⟩
          rcases Nat.lt_succ_iff_lt_or_eq.1 hj with h | rfl
          · exact hn j h
          · exact c
      · rintro _ ⟨rfl, hn⟩
        refine ⟨.go (), by simp, (if_neg ?_).symm⟩
        rintro ⟨j, hj, hb⟩
        exact hn j hj hb
    by_cases hex : ∃ j, j < k ∧ badLR l k j
    · refine .inr ⟨_, by rw [hb, if_pos hex], ?_⟩
      obtain ⟨j, hj, hbd⟩ := hex
      rw [if_pos (twV_of hbd)]
    · refine .inl ⟨_, by rw [hb, if_neg hex], rfl, fun i hi j hj hbd => ?_⟩
      rcases Nat.lt_succ_iff_lt_or_eq.1 hi with h | rfl
      · exact hno i h j hj hbd
      · exact hex ⟨j, hj, hbd⟩
  · rintro _ ⟨rfl, hno⟩
    refine ⟨.go (), by simp, (if_neg ?_).symm⟩
    rintro ⟨i, j, hj, hb⟩
    exact hno i (badLR_lt hb) j hj hb
  · rintro r rfl
    by_cases c : twV l <;> simp [c, bindC]
theorem mLook_snoc (m : List (Place × Int)) (x y : Place) (v : Int) : mLook (m ++ [(x, v)]) y = (mLook m y).or (if x = y then some v else none) := by
  unfold mLook
  rw [List.find?_append]
  cases h : m.find? fun q => decide (q.1 = y) with
  | some q => simp
  | none => by_cases c : x = y <;> simp [c]
theorem keyO_LR {x : LogRow} (h : okI x.Tenant ∧ okI x.Boot ∧ okI x.Seq) : keyO_Place (keyLR x) = some () := by
  unfold keyO_Place keyLR
  rw [if_pos]
  obtain ⟨h1, h2, h3⟩ := h
  unfold okI at h1 h2 h3
  refine ⟨⟨?_, ?_⟩, ⟨?_, ?_⟩, ⟨?_, ?_⟩⟩ <;> simp only <;> omega
theorem impl_Twice_eq (l : List LogRow) (h : l.length ≤ 1048576) (hl : okl l) : impl_Twice l = some (decide (twV l)) := by
  unfold impl_Twice
  refine loopO_bind (fun k s => s.1 = (k : Int) ∧ (∀ i, i < k → ∀ j, j < k → ¬ badLR l i j) ∧ (∀ i, i < k → ∀ x, l[i]? = some x → (mLook s.2 (keyLR x)).isSome = true) ∧ ∀ x v, mLook s.2 x = some v → ∃ j : Nat, j < k ∧ v = (j : Int) ∧ ∃ y, l[j]? = some y ∧ keyLR y = x) l.length (fun r => r = (if twV l then .done true else .go ())) ⟨rfl, fun i hi => absurd hi (by omega), fun i hi => absurd hi (by omega), fun x v hv => by simp [mLook] at hv⟩ ?_ ?_ ?_
  · rintro k ⟨_, m⟩ hk ⟨rfl, hno, hall, hsrc⟩
    have hkey := keyO_LR (x := l[k]) ⟨(hl.2 _ (List.getElem_mem hk)).1, (hl.2 _ (List.getElem_mem hk)).2.1, (hl.2 _ (List.getElem_mem hk)).2.2.1⟩
    have hkk : ({ tenant := l[k].Tenant, boot := l[k].Boot, seq := l[k].Seq : Place }) = keyLR l[k] := rfl
    have hxk : l[k]? = some l[k] := List.getElem?_eq_getElem hk
    have hw : IntKind.i64.wrap ((k : Int) + 1) = ((k + 1 : Nat) : Int) := by rw [wrap_ok (by omega) (by omega)]; omega
    simp only [idx_nat l k hk, Option.bind_some, hkk, hkey]
    rw [if_pos (by simpa using hk)]
    cases hm : mLook m (keyLR l[k]) with
    | none =>
      have hfresh : ∀ j, j < k → ¬ badLR l k j := by
        rintro j hj ⟨x, y, h1, h2, h3, h4⟩
        rw [hxk] at h1; cases h1
        have := hall j hj y h2
        rw [← h3, hm] at this
        cases this
      refine .inl ⟨(((k + 1 : Nat) : Int), m ++ [(keyLR l[k], (k : Int))]), by simp [mNew, hm, bindC, hw], rfl, ?_, ?_, ?_⟩
      · intro i hi j hj hb
        rcases Nat.lt_succ_iff_lt_or_eq.1 hi with h1 | rfl
        · rcases Nat.lt_succ_iff_lt_or_eq.1 hj with h2 | rfl
          · exact hno i h1 j h2 hb
          · exact hfresh i h1 (badLR_symm hb)
        · rcases Nat.lt_succ_iff_lt_or_eq.1 hj with h2 | rfl
          · exact hfresh j h2 hb
          · obtain ⟨x, y, h1, h2, h3, h4⟩ := hb
            rw [h1] at h2; cases h2; exact h4 rfl
      · intro i hi x hx
        simp only [mLook_snoc]
        rcases Nat.lt_succ_iff_lt_or_eq.1 hi with h1 | rfl
        · have := hall i h1 x hx
          simp only at this
          cases hq : mLook m (keyLR x) with
          | none => rw [hq] at this; cases this
          | some v => rfl
        · rw [hxk] at hx; cases hx
          rw [hm]; simp
      · intro x v hv
        simp only [mLook_snoc] at hv
        cases hq : mLook m x with
        | some v' =>
          rw [hq] at hv
          simp at hv
          subst hv
          obtain ⟨j, hj, e, y, h1, h2⟩ := hsrc x v' hq
          exact ⟨j, by omega, e, y, h1, h2⟩
        | none =>
          rw [hq] at hv
          by_cases c : keyLR l[k] = x
          · simp [c] at hv
            exact ⟨k, by omega, hv.symm, _, hxk, c⟩
          · simp [c] at hv
    | some v =>
      obtain ⟨j, hj, rfl, y, h1, h2⟩ := hsrc _ _ hm
      have hjl : j < l.length := by omega
      have hy : y = l[j] := by rw [List.getElem?_eq_getElem hjl] at h1; exact (Option.some.inj h1).symm
      subst hy
      simp only [Option.isSome_some, Bool.not_true, Bool.false_eq_true, if_false, Option.getD_some, idx_nat l j hjl, Option.bind_some]
      by_cases c : l[j].Text = l[k].Text
      · refine .inl ⟨(((k + 1 : Nat) : Int), m), by simp [c, bindC, hw], rfl, ?_, ?_, fun x v hv => ?_⟩
        · have hfresh : ∀ i, i < k → ¬ badLR l k i := by
            rintro i hi ⟨x, y, g1, g2, g3, g4⟩
            rw [hxk] at g1; cases g1
            exact hno j hj i hi ⟨_, y, h1, g2, h2.trans g3, fun e => g4 (c.symm.trans e)⟩
          intro i hi j hj hb
          rcases Nat.lt_succ_iff_lt_or_eq.1 hi with h1 | rfl
          · rcases Nat.lt_succ_iff_lt_or_eq.1 hj with h2 | rfl
            · exact hno i h1 j h2 hb
            · exact hfresh i h1 (badLR_symm hb)
          · rcases Nat.lt_succ_iff_lt_or_eq.1 hj with h2 | rfl
            · exact hfresh j h2 hb
            · obtain ⟨x, y, h1, h2, h3, h4⟩ := hb
              rw [h1] at h2; cases h2; exact h4 rfl
        · intro i hi x hx
          rcases Nat.lt_succ_iff_lt_or_eq.1 hi with h1 | rfl
          · exact hall i h1 x hx
          · rw [hxk] at hx; cases hx
            simp only [hm]; rfl
        · obtain ⟨j, hj, e⟩ := hsrc x v hv
          exact ⟨j, by omega, e⟩
      · refine .inr ⟨.done true, by simp [c, bindC], ?_⟩
        rw [if_pos (twV_of (i := k) (j := j) ⟨_, _, hxk, h1, h2.symm, fun e => c e.symm⟩)]
  · rintro ⟨_, m⟩ ⟨rfl, hno, _⟩
    refine ⟨.go (), by simp, (if_neg ?_).symm⟩
    rintro ⟨i, j, hj, hb⟩
    exact hno i (badLR_lt hb) j (badLR_lt (badLR_symm hb)) hb
  · rintro r rfl
    by_cases c : twV l <;> simp [c, bindC]
theorem FnExactTwice_pure (a : List LogRow) (ha : okl a) : laws_FnExactTwice a = some true := by
  unfold laws_FnExactTwice
  rw [szLogRowS_eq a 1048576 (by omega) (by omega) ha]
  simp only [Option.bind_some]
  by_cases hs : 1048576 < a.length + (a.map fun x => x.Text.length).sum
  · rw [if_pos (by rw [szV]; simp; omega)]
  · have hl : a.length ≤ 1048576 := by omega
    rw [if_neg (by simp [szV]; omega), toLogRowS_eq a hl]
    simp only [Option.bind_some, spec_Twice_eq a hl, impl_Twice_eq a hl ha, eqLogRowS_eq a a hl]
    simp
theorem FnExactTwice_proved : Rows.FnExactTwiceSaid := FnExactTwice_over fun a ha => FnExactTwice_pure a ha

end Go.Proofs.Ytfpbnddcbmfcaaa
