/-
  The plain laws: what the pure functions come to, and the statements. Conditions: none.
-/
import Derived.Test.YtammomfkamhhdaaPm
import Derived.Test.YtammomfkamhhdaaS3
set_option linter.unusedVariables false
set_option linter.unusedSimpArgs false
namespace Go.Proofs.Ytammomfkamhhdaa
open Go Sl

theorem inRange_eq (n a b : Int) : impl_inRange n a b = some (decide (a ≤ n ∧ n ≤ b)) := by
  unfold impl_inRange
  by_cases h : n ≥ a <;> simp [h]
theorem l1In_eq (n a b : Int) : spec_l1In n a b = some (decide (a ≤ n ∧ n ≤ b)) := by
  unfold spec_l1In
  by_cases h : n ≥ a <;> simp [h]
/-! ### SpaceOk -/
theorem all_range (l : List Int) (p : Int → Bool) (f : Int → Option Bool) (hf : ∀ x, f x = some (p x)) (hl : l.length ≤ 1048576) :
    loopO (ρ := Ctl Unit Bool) (fun (S6 : Int) => if (decide (S6 < ((l.length : Nat) : Int))) = true then ((idx l S6).bind fun E11 =>
  (f E11).bind fun R13 =>
  if (!R13) = true then (some (.done (.done false)))
  else (some (.go (IntKind.i64.wrap (S6 + (1 : Int))))))
  else (some (.done (.go ())))) (0 : Int) = some (if l.all p then .go () else .done false) := by
  rw [loopO_list l (fun k (_ : Unit) => (k : Int)) (fun _ x _ => if p x then some (Ctl.go ()) else some (Ctl.done (Ctl.done false))) (fun _ => some (Ctl.go ())) () ?h0 ?hs ?hf]
  case h0 => rfl
  case hs =>
    intro k hk _
    simp only [idx_nat l k hk, Option.bind_some, hf]
    rw [wrap_ok (by omega) (by omega)]
    by_cases he : p l[k] = true
    · simp [he, Ctl.mapGo, hk]
    · simp [he, Ctl.mapGo, hk]
  case hf => intro _; simp
  rw [runL_all p (Ctl.done false) _ _ (by intro k x _; rfl)]
  split <;> rfl
theorem spec_SpaceOk_eq (s : Space) (h : s.Owner.length ≤ 1048576) : spec_SpaceOk s = some (decide (1 ≤ s.Owner.length ∧ s.Owner.length ≤ 40) && s.Owner.all fun x => decide (0 ≤ x ∧ x ≤ 99)) := by
  unfold spec_SpaceOk
  rw [l1In_eq, all_range s.Owner (fun x => decide (0 ≤ x ∧ x ≤ 99)) _ (fun x => l1In_eq x 0 99) h]
  simp only [Option.bind_some]
  have e : decide ((1 : Int) ≤ (s.Owner.length : Int) ∧ (s.Owner.length : Int) ≤ 40) = decide (1 ≤ s.Owner.length ∧ s.Owner.length ≤ 40) := by
    apply decide_eq_decide.2; omega
  rw [e]
  cases decide (1 ≤ s.Owner.length ∧ s.Owner.length ≤ 40) <;> cases (s.Owner.all fun x => decide (0 ≤ x ∧ x ≤ 99)) <;> rfl
theorem impl_SpaceOk_eq (s : Space) (h : s.Owner.length ≤ 1048576) : impl_SpaceOk s = some (decide (1 ≤ s.Owner.length ∧ s.Owner.length ≤ 40) && s.Owner.all fun x => decide (0 ≤ x ∧ x ≤ 99)) := by
  unfold impl_SpaceOk
  rw [inRange_eq, all_range s.Owner (fun x => decide (0 ≤ x ∧ x ≤ 99)) _ (fun x => inRange_eq x 0 99) h]
  simp only [Option.bind_some]
  have e : decide ((1 : Int) ≤ (s.Owner.length : Int) ∧ (s.Owner.length : Int) ≤ 40) = decide (1 ≤ s.Owner.length ∧ s.Owner.length ≤ 40) := by
    apply decide_eq_decide.2; omega
  rw [e]
  cases decide (1 ≤ s.Owner.length ∧ s.Owner.length ≤ 40) <;> cases (s.Owner.all fun x => decide (0 ≤ x ∧ x ≤ 99)) <;> rfl
/-- giving blocks back, one by one -/
def giveV (who : Int) : List Int → List Int → Option (List Int)
  | [], s => some s
  | b :: bs, s => if 0 ≤ b ∧ b < s.length ∧ s[b.toNat]? = some who ∧ 1 ≤ who then giveV who bs (s.set b.toNat 0) else none
theorem giveV_cons (who b : Int) (bs s : List Int) : giveV who (b :: bs) s = if 0 ≤ b ∧ b < s.length ∧ s[b.toNat]? = some who ∧ 1 ≤ who then giveV who bs (s.set b.toNat 0) else none := rfl
theorem giveV_nil (who : Int) (s : List Int) : giveV who [] s = some s := rfl
theorem giveV_length (who : Int) : ∀ (bs s r : List Int), giveV who bs s = some r → r.length = s.length
  | [], s, r, h => by simp [giveV] at h; rw [h]
  | b :: bs, s, r, h => by
    unfold giveV at h
    split at h
    · rw [giveV_length who bs _ r h, List.length_set]
    · cases h
theorem idx_some' {α : Type} {l : List α} {i : Int} (h0 : 0 ≤ i) (h1 : i < l.length) : idx l i = some (l[i.toNat]'(by omega)) := by
  unfold idx; rw [if_pos h0, List.getElem?_eq_getElem]
theorem spec_SpaceGive_eq (s : Space) (who : Int) (bs : List Int) (h : s.Owner.length ≤ 1048576) (hb : bs.length ≤ 1048576) :
    spec_SpaceGive s who bs = some (if (decide (1 ≤ s.Owner.length ∧ s.Owner.length ≤ 40) && s.Owner.all fun x => decide (0 ≤ x ∧ x ≤ 99)) = true then (match giveV who bs s.Owner with | some r => ({ Owner := r }, true) | none => (s, false)) else ({ Owner := [] }, false)) := by
  unfold spec_SpaceGive
  rw [spec_SpaceOk_eq s h]
  simp only [Option.bind_some]
  by_cases hok : (decide (1 ≤ s.Owner.length ∧ s.Owner.length ≤ 40) && s.Owner.all fun x => decide (0 ≤ x ∧ x ≤ 99)) = true
  · rw [if_neg (by rw [hok]; simp), if_pos hok]
    unfold spec_l18Copy
    rw [app_ok (by simp; omega) (by simp; omega)]
    simp only [Option.bind_some, List.nil_append]
    rw [loopO_is (fun k st => st.1 = (k : Int) ∧ st.2.length = s.Owner.length ∧ giveV who (bs.drop k) st.2 = giveV who bs s.Owner) bs.length (match giveV who bs s.Owner with | some r => Ctl.go r | none => Ctl.done (s, false)) ⟨rfl, rfl, rfl⟩ ?h1 ?h2]
    · cases giveV who bs s.Owner <;> rfl
    case h1 =>
      rintro k ⟨i, st⟩ hk ⟨rfl, hl, hg⟩
      rw [List.drop_eq_getElem_cons hk] at hg
      rw [giveV_cons] at hg
      simp only [idx_nat bs k hk, Option.bind_some]
      simp only at hl hg
      by_cases c1 : 0 ≤ bs[k] ∧ bs[k] < st.length
      · have hx := idx_some' c1.1 c1.2
        simp only [hx, Option.bind_some]
        rw [List.getElem?_eq_getElem (by omega)] at hg
        by_cases c2 : st[bs[k].toNat]'(by omega) = who ∧ 1 ≤ who
        · left
          rw [if_pos ⟨c1.1, c1.2, by rw [c2.1], c2.2⟩] at hg
          refine ⟨(((k + 1 : Nat) : Int), st.set bs[k].toNat 0), ?_, rfl, by simp [hl], hg⟩
          rw [wrap_ok (by omega) (by omega)]
          simp [hk, c1.1, c1.2, c2.1, c2.2, show ¬ bs[k] < 0 by omega, show ¬ bs[k] ≥ (st.length : Int) by omega, show ¬ who < 1 by omega]
        · right
          rw [if_neg (by rintro ⟨_, _, e, h⟩; exact c2 ⟨by simpa using e, h⟩)] at hg
          rw [← hg]
          by_cases c3 : st[bs[k].toNat]'(by omega) = who
          · simp [hk, c3, show ¬ bs[k] < 0 by omega, show ¬ bs[k] ≥ (st.length : Int) by omega, show who < 1 by omega]
          · simp [hk, c3, show ¬ bs[k] < 0 by omega, show ¬ bs[k] ≥ (st.length : Int) by omega]
      · right
        rw [if_neg (fun h => c1 ⟨h.1, h.2.1⟩)] at hg
        rw [← hg]
        by_cases c3 : bs[k] < 0
        · simp [hk, c3]
        · simp [hk, c3, show bs[k] ≥ (st.length : Int) by omega]
    case h2 =>
      rintro ⟨i, st⟩ ⟨rfl, hl, hg⟩
      rw [List.drop_length, giveV_nil] at hg
      rw [← hg]
      simp
  · have hok' : (decide (1 ≤ s.Owner.length ∧ s.Owner.length ≤ 40) && s.Owner.all fun x => decide (0 ≤ x ∧ x ≤ 99)) = false := by simpa using hok
    rw [hok']
    rfl
theorem impl_SpaceGive_eq (s : Space) (who : Int) (bs : List Int) (h : s.Owner.length ≤ 1048576) (hb : bs.length ≤ 1048576) :
    impl_SpaceGive s who bs = some (if (decide (1 ≤ s.Owner.length ∧ s.Owner.length ≤ 40) && s.Owner.all fun x => decide (0 ≤ x ∧ x ≤ 99)) = true then (match giveV who bs s.Owner with | some r => ({ Owner := r }, true) | none => (s, false)) else ({ Owner := [] }, false)) := by
  unfold impl_SpaceGive
  rw [impl_SpaceOk_eq s h]
  simp only [Option.bind_some]
  by_cases hok : (decide (1 ≤ s.Owner.length ∧ s.Owner.length ≤ 40) && s.Owner.all fun x => decide (0 ≤ x ∧ x ≤ 99)) = true
  · rw [if_neg (by rw [hok]; simp), if_pos hok]
    unfold impl_copySpace slices_Clone_88240
    rw [app_ok (by simp; omega) (by simp; omega)]
    simp only [Option.bind_some, List.nil_append]
    rw [loopO_is (fun k st => st.1 = (k : Int) ∧ st.2.length = s.Owner.length ∧ giveV who (bs.drop k) st.2 = giveV who bs s.Owner) bs.length (match giveV who bs s.Owner with | some r => Ctl.go r | none => Ctl.done (s, false)) ⟨rfl, rfl, rfl⟩ ?h1 ?h2]
    · cases giveV who bs s.Owner <;> rfl
    case h1 =>
      rintro k ⟨i, st⟩ hk ⟨rfl, hl, hg⟩
      rw [List.drop_eq_getElem_cons hk] at hg
      rw [giveV_cons] at hg
      simp only at hl hg
      have hw : IntKind.i64.wrap ((st.length : Int) - 1) = (st.length : Int) - 1 := wrap_ok (by omega) (by omega)
      simp only [idx_nat bs k hk, Option.bind_some, inRange_eq, hw]
      by_cases c0 : who < 1
      · right
        rw [if_neg (by rintro ⟨_, _, _, h⟩; omega)] at hg
        rw [← hg]
        simp [hk, c0]
      · by_cases c1 : 0 ≤ bs[k] ∧ bs[k] < st.length
        · have hx := idx_some' c1.1 c1.2
          simp only [hx, Option.bind_some]
          rw [List.getElem?_eq_getElem (by omega)] at hg
          by_cases c2 : st[bs[k].toNat]'(by omega) = who
          · left
            rw [if_pos ⟨c1.1, c1.2, by rw [c2], by omega⟩] at hg
            refine ⟨(((k + 1 : Nat) : Int), st.set bs[k].toNat 0), ?_, rfl, by simp [hl], hg⟩
            rw [wrap_ok (by omega) (by omega)]
            simp [hk, c0, c1.1, c2, show bs[k] ≤ (st.length : Int) - 1 by omega]
          · right
            rw [if_neg (by rintro ⟨_, _, e, h⟩; exact c2 (by simpa using e))] at hg
            rw [← hg]
            simp [hk, c0, c1.1, c2, show bs[k] ≤ (st.length : Int) - 1 by omega]
        · right
          rw [if_neg (fun h => c1 ⟨h.1, h.2.1⟩)] at hg
          rw [← hg]
          have : ¬ (0 ≤ bs[k] ∧ bs[k] ≤ (st.length : Int) - 1) := fun h => c1 ⟨h.1, by omega⟩
          simp [hk, c0, this]
    case h2 =>
      rintro ⟨i, st⟩ ⟨rfl, hl, hg⟩
      rw [List.drop_length, giveV_nil] at hg
      rw [← hg]
      simp
  · have hok' : (decide (1 ≤ s.Owner.length ∧ s.Owner.length ≤ 40) && s.Owner.all fun x => decide (0 ≤ x ∧ x ≤ 99)) = false := by simpa using hok
    rw [hok']
    rfl
/-- what a quota needs -/
def needV (q : Int) : Int := if 0 ≤ q ∧ q ≤ 1000 then 2 + 2 * ((q + 49) / 50) else 0
theorem needV_range (q : Int) : 0 ≤ needV q ∧ needV q ≤ 42 := by
  unfold needV; split <;> omega
theorem isTenant_eq (n : Int) : impl_isTenant n = some (decide (1 ≤ n ∧ n ≤ 99)) := by
  unfold impl_isTenant; rw [inRange_eq]; rfl
theorem markText_loop (m : Nat) : ∀ s : List UInt8, s.length + m ≤ 9223372036854775806 → ∃ r : List UInt8, loopO (ρ := Ctl (List UInt8) (List UInt8)) (fun (S2 : Int × List UInt8) => if (decide (S2.1 > (0 : Int))) = true then ((cat ([toU8 (IntKind.i64.wrap ((48 : Int) + (Int.tmod S2.1 (10 : Int))))]) S2.2).bind fun E8 =>
  some (.go (IntKind.i64.wrap (Int.tdiv S2.1 (10 : Int)), E8)))
  else (some (.done (.go S2.2)))) ((m : Int), s) = some (.go r) ∧ r.length ≤ s.length + m := by
  induction m using Nat.strongRecOn with
  | _ m ih =>
    intro s hs
    rw [loopO_eq]
    by_cases h0 : m = 0
    · subst h0
      exact ⟨s, by simp, by omega⟩
    · simp only
      rw [if_pos (by simp; omega), cat_ok (by simp; omega)]
      have hd : Int.tdiv (m : Int) 10 = ((m / 10 : Nat) : Int) := rfl
      rw [hd, wrap_ok (n := ((m / 10 : Nat) : Int)) (by omega) (by omega)]
      simp only [Option.bind_some]
      obtain ⟨r, hr, hl⟩ := ih (m / 10) (by omega) ([toU8 (IntKind.i64.wrap ((48 : Int) + (Int.tmod (m : Int) (10 : Int))))] ++ s) (by simp; omega)
      exact ⟨r, hr, by simp at hl; omega⟩
def wgt_L1Cur (x : L1Cur) : Nat := x.b.length + 0
def wgt_Space (x : Space) : Nat := x.Owner.length + 0
def bnd_Space (x : Space) : Prop := x.Owner.length ≤ 4611686018427387904
theorem bnd_of_Space (x : Space) (h : wgt_Space x ≤ 1048576) : bnd_Space x := by
  have h0 : x.Owner.length + 0 ≤ 1048576 := h
  exact (show x.Owner.length ≤ 4611686018427387904 by omega)

/-- a list turned up to a place -/
def preM {α : Type} (f : α → α) (l : List α) (k : Nat) : List α := (l.take k).map f ++ l.drop k
theorem preM_length {α : Type} (f : α → α) (l : List α) (k : Nat) : (preM f l k).length = l.length := by unfold preM; simp; omega
theorem preM_get {α : Type} (f : α → α) (l : List α) (k : Nat) (h : k < l.length) : idx (preM f l k) (k : Int) = some l[k] := by
  rw [idx_nat _ k (by rw [preM_length]; exact h)]
  congr 1
  have hl : ((l.take k).map f).length = k := by rw [List.length_map, List.length_take]; omega
  unfold preM
  rw [List.getElem_append_right (by omega)]
  simp only [hl, Nat.sub_self]
  simp
theorem preM_set {α : Type} (f : α → α) (l : List α) (k : Nat) (h : k < l.length) : (preM f l k).set k (f l[k]) = preM f l (k + 1) := by
  have hl : ((l.take k).map f).length = k := by rw [List.length_map, List.length_take]; omega
  have htk : l.take (k + 1) = l.take k ++ [l[k]] := by rw [List.take_add_one, List.getElem?_eq_getElem h]; rfl
  unfold preM
  rw [List.set_append_right _ _ (by omega), hl, Nat.sub_self, htk, List.drop_eq_getElem_cons h, List.set_cons_zero, List.map_append, List.append_assoc]
  rfl
theorem preM_same {α : Type} (f : α → α) (l : List α) (k : Nat) (h : k < l.length) (hf : f l[k] = l[k]) : preM f l (k + 1) = preM f l k := by
  rw [← preM_set f l k h, hf]
  apply List.ext_getElem?
  intro j
  rw [List.getElem?_set]
  split
  · rename_i he
    subst he
    have := preM_get f l k h
    unfold idx at this
    rw [if_pos (by omega), Int.toNat_natCast] at this
    rw [if_pos (by rw [preM_length]; exact h), this]
  · rfl
theorem preM_all {α : Type} (f : α → α) (l : List α) : preM f l l.length = l.map f := by unfold preM; simp
/-- a tenant's blocks, wiped -/
def wipeV (who : Int) (l : List Int) : List Int := l.map fun x => if x = who then 0 else x
theorem spec_SpaceWipe_eq (s : Space) (who : Int) (h : s.Owner.length ≤ 1048576) :
    spec_SpaceWipe s who = some (if (decide (1 ≤ s.Owner.length ∧ s.Owner.length ≤ 40) && s.Owner.all fun x => decide (0 ≤ x ∧ x ≤ 99)) = true then (if 1 ≤ who ∧ who ≤ 99 then ({ Owner := wipeV who s.Owner }, ((s.Owner.countP fun x => decide (x = who) : Nat) : Int)) else (s, 0)) else ({ Owner := [] }, 0)) := by
  unfold spec_SpaceWipe
  rw [spec_SpaceOk_eq s h]
  simp only [Option.bind_some]
  by_cases hok : (decide (1 ≤ s.Owner.length ∧ s.Owner.length ≤ 40) && s.Owner.all fun x => decide (0 ≤ x ∧ x ≤ 99)) = true
  · rw [if_neg (by rw [hok]; simp), if_pos hok]
    unfold spec_l18Copy
    rw [app_ok (by simp; omega) (by simp; omega)]
    simp only [Option.bind_some, List.nil_append, l1In_eq]
    by_cases hw : 1 ≤ who ∧ who ≤ 99
    · rw [if_pos hw]
      rw [loopO_count (fun k => ((((s.Owner.take k).countP fun x => decide (x = who) : Nat) : Int), (k : Int), preM (fun x => if x = who then 0 else x) s.Owner k)) s.Owner.length (r := Ctl.go (((s.Owner.countP fun x => decide (x = who) : Nat) : Int), wipeV who s.Owner)) ?h0]
      case h0 => simp [preM]
      · rfl
      · intro k hk
        have hcnt : ((s.Owner.take k).countP fun x => decide (x = who)) ≤ k := Nat.le_trans List.countP_le_length (by simp; omega)
        have htk : s.Owner.take (k + 1) = s.Owner.take k ++ [s.Owner[k]] := by rw [List.take_add_one, List.getElem?_eq_getElem hk]; rfl
        simp only [preM_length, preM_get _ s.Owner k hk, Option.bind_some, hw]
        rw [if_pos (by simpa using hk), htk, List.countP_append]
        by_cases hx : s.Owner[k] = who
        · have := preM_set (fun x => if x = who then 0 else x) s.Owner k hk
          simp only [if_pos hx] at this
          simp only [Option.bind_some, hx, this, Int.toNat_natCast]
          rw [wrap_ok (by omega) (by omega), wrap_ok (by omega) (by omega)]
          simp
        · have := preM_same (fun x => if x = who then 0 else x) s.Owner k hk (by simp [hx])
          have hw6 : IntKind.i64.wrap ((k : Int) + 1) = (k : Int) + 1 := wrap_ok (by omega) (by omega)
          simp only [Option.bind_some, hx, this, hw6]
          simp [hx]
      · simp [preM_length, preM_all, wipeV]
    · rw [if_neg hw, loopO_eq]
      have hw' : ¬ (1 ≤ who ∧ who ≤ 99) := hw
      by_cases h0 : (0 : Int) < (s.Owner.length : Int)
      · simp [h0, hw']
      · exfalso
        simp only [Bool.and_eq_true, decide_eq_true_eq] at hok
        omega
  · have hok' : (decide (1 ≤ s.Owner.length ∧ s.Owner.length ≤ 40) && s.Owner.all fun x => decide (0 ≤ x ∧ x ≤ 99)) = false := by simpa using hok
    rw [hok']
    rfl
theorem copySpace_eq (s : Space) (h : s.Owner.length ≤ 1048576) : impl_copySpace s = some s := by
  unfold impl_copySpace slices_Clone_88240
  rw [app_ok (by simp; omega) (by simp; omega)]
  rfl
theorem impl_SpaceWipe_eq (s : Space) (who : Int) (h : s.Owner.length ≤ 1048576) :
    impl_SpaceWipe s who = some (if (decide (1 ≤ s.Owner.length ∧ s.Owner.length ≤ 40) && s.Owner.all fun x => decide (0 ≤ x ∧ x ≤ 99)) = true then (if 1 ≤ who ∧ who ≤ 99 then ({ Owner := wipeV who s.Owner }, ((s.Owner.countP fun x => decide (x = who) : Nat) : Int)) else (s, 0)) else ({ Owner := [] }, 0)) := by
  unfold impl_SpaceWipe
  rw [impl_SpaceOk_eq s h]
  simp only [Option.bind_some]
  by_cases hok : (decide (1 ≤ s.Owner.length ∧ s.Owner.length ≤ 40) && s.Owner.all fun x => decide (0 ≤ x ∧ x ≤ 99)) = true
  · rw [if_neg (by rw [hok]; simp), if_pos hok, copySpace_eq s h, isTenant_eq]
    simp only [Option.bind_some]
    by_cases hw : 1 ≤ who ∧ who ≤ 99
    · rw [if_pos hw, if_neg (by simp [hw])]
      rw [loopO_count (fun k => ((((s.Owner.take k).countP fun x => decide (x = who) : Nat) : Int), (k : Int), preM (fun x => if x = who then 0 else x) s.Owner k)) s.Owner.length (r := Ctl.go (((s.Owner.countP fun x => decide (x = who) : Nat) : Int), wipeV who s.Owner)) ?h0]
      case h0 => simp [preM]
      · rfl
      · intro k hk
        have hcnt : ((s.Owner.take k).countP fun x => decide (x = who)) ≤ k := Nat.le_trans List.countP_le_length (by simp; omega)
        have htk : s.Owner.take (k + 1) = s.Owner.take k ++ [s.Owner[k]] := by rw [List.take_add_one, List.getElem?_eq_getElem hk]; rfl
        simp only [idx_nat s.Owner k hk, preM_get _ s.Owner k hk, Option.bind_some]
        rw [if_pos (by simpa using hk), htk, List.countP_append]
        by_cases hx : s.Owner[k] = who
        · have := preM_set (fun x => if x = who then 0 else x) s.Owner k hk
          simp only [if_pos hx] at this
          simp only [hx, this, Int.toNat_natCast]
          rw [wrap_ok (by omega) (by omega), wrap_ok (by omega) (by omega)]
          simp
        · have := preM_same (fun x => if x = who then 0 else x) s.Owner k hk (by simp [hx])
          have hw6 : IntKind.i64.wrap ((k : Int) + 1) = (k : Int) + 1 := wrap_ok (by omega) (by omega)
          simp only [hx, this, hw6]
          simp [hx]
      · simp [preM_all, wipeV]
    · rw [if_neg hw, if_pos (by simp; omega)]
  · have hok' : (decide (1 ≤ s.Owner.length ∧ s.Owner.length ≤ 40) && s.Owner.all fun x => decide (0 ≤ x ∧ x ≤ 99)) = false := by simpa using hok
    rw [hok']
    rfl
/-- the first n free blocks of the first k -/
def freeIx (l : List Int) (n : Int) : Nat → List Nat
  | 0 => []
  | k + 1 => if l[k]? = some 0 ∧ ((freeIx l n k).length : Int) < n then freeIx l n k ++ [k] else freeIx l n k
theorem freeIx_lt (l : List Int) (n : Int) : ∀ k, ∀ i ∈ freeIx l n k, i < k
  | 0, i, h => by simp [freeIx] at h
  | k + 1, i, h => by
    unfold freeIx at h
    split at h
    · rcases List.mem_append.1 h with h | h
      · have := freeIx_lt l n k i h; omega
      · have : i = k := by simpa using h
        omega
    · have := freeIx_lt l n k i h; omega
theorem freeIx_length (l : List Int) (n : Int) : ∀ k, (freeIx l n k).length ≤ k
  | 0 => by simp [freeIx]
  | k + 1 => by
    have := freeIx_length l n k
    unfold freeIx
    split
    · simp; omega
    · omega
theorem freeIx_sat (l : List Int) (n : Int) (k : Nat) (h : ¬ ((freeIx l n k).length : Int) < n) : ∀ d, freeIx l n (k + d) = freeIx l n k
  | 0 => rfl
  | d + 1 => by
    have := freeIx_sat l n k h d
    have e : freeIx l n (k + (d + 1)) = if l[k + d]? = some 0 ∧ ((freeIx l n (k + d)).length : Int) < n then freeIx l n (k + d) ++ [k + d] else freeIx l n (k + d) := rfl
    rw [e, this, if_neg (fun h2 => h h2.2)]
theorem freeIx_count (l : List Int) (n : Int) (hn : 1 ≤ n) : ∀ k, k ≤ l.length → (((freeIx l n k).length : Int) < n ↔ (((l.take k).countP fun x => decide (x = 0) : Nat) : Int) < n) ∧ ((((l.take k).countP fun x => decide (x = 0) : Nat) : Int) < n → (freeIx l n k).length = ((l.take k).countP fun x => decide (x = 0))) ∧
    ((((l.take k).countP fun x => decide (x = 0) : Nat) : Int) = n → ((freeIx l n k).length : Int) = n)
  | 0, _ => by simp [freeIx]
  | k + 1, hk => by
    obtain ⟨h1, h2, h3⟩ := freeIx_count l n hn k (by omega)
    have hk' : k < l.length := by omega
    have htk : l.take (k + 1) = l.take k ++ [l[k]] := by rw [List.take_add_one, List.getElem?_eq_getElem hk']; rfl
    unfold freeIx
    rw [htk, List.countP_append, List.getElem?_eq_getElem hk']
    by_cases hx : l[k] = 0
    · simp only [hx, true_and, List.countP_cons, List.countP_nil, decide_true, if_true, Nat.zero_add]
      by_cases hc : ((freeIx l n k).length : Int) < n
      · rw [if_pos hc]
        have := h2 (h1.1 hc)
        simp only [List.length_append, List.length_cons, List.length_nil]
        omega
      · rw [if_neg hc]
        have : ¬ (((l.take k).countP fun x => decide (x = 0) : Nat) : Int) < n := fun h => hc (h1.2 h)
        omega
    · simp only [List.countP_cons, List.countP_nil, hx, decide_false, Bool.false_eq_true, if_false, Nat.add_zero]
      rw [if_neg (by simp [hx])]
      exact ⟨h1, h2, h3⟩
/-- blocks given to somebody -/
def setAll (who : Int) (l : List Int) (g : List Nat) : List Int := g.foldl (fun s i => s.set i who) l
theorem setAll_length (who : Int) (g : List Nat) : ∀ l, (setAll who l g).length = l.length := by
  induction g with
  | nil => intro l; rfl
  | cons i g ih => intro l; show (setAll who (l.set i who) g).length = _; rw [ih, List.length_set]
theorem setAll_snoc (who : Int) (l : List Int) (g : List Nat) (i : Nat) : setAll who l (g ++ [i]) = (setAll who l g).set i who := by
  unfold setAll; rw [List.foldl_append]; rfl
/-- what taking blocks comes to -/
def takeV (l : List Int) (who n : Int) : Space × List Int × Bool :=
  if (1 ≤ who ∧ who ≤ 99) ∧ 1 ≤ n ∧ n ≤ ((freeIx l n l.length).length : Int) then ({ Owner := setAll who l (freeIx l n l.length) }, (freeIx l n l.length).map fun (i : Nat) => (i : Int), true) else ({ Owner := l }, [], false)
theorem spec_SpaceTake_eq (s : Space) (who n : Int) (h : s.Owner.length ≤ 1048576) :
    spec_SpaceTake s who n = some (if (decide (1 ≤ s.Owner.length ∧ s.Owner.length ≤ 40) && s.Owner.all fun x => decide (0 ≤ x ∧ x ≤ 99)) = true then takeV s.Owner who n else ({ Owner := [] }, [], false)) := by
  unfold spec_SpaceTake
  rw [spec_SpaceOk_eq s h]
  simp only [Option.bind_some]
  by_cases hok : (decide (1 ≤ s.Owner.length ∧ s.Owner.length ≤ 40) && s.Owner.all fun x => decide (0 ≤ x ∧ x ≤ 99)) = true
  · rw [if_neg (by rw [hok]; simp), if_pos hok]
    unfold spec_l18Copy
    rw [app_ok (by simp; omega) (by simp; omega)]
    simp only [Option.bind_some, List.nil_append, l1In_eq]
    rw [loopO_is (fun k st => st = ((k : Int), (freeIx s.Owner n k).map fun (i : Nat) => (i : Int))) s.Owner.length (Ctl.go ((freeIx s.Owner n s.Owner.length).map fun (i : Nat) => (i : Int))) ?h0 ?h1 ?h2]
    case h0 => rfl
    case h1 =>
      rintro k st hk rfl
      have hw6 : IntKind.i64.wrap ((k : Int) + 1) = ((k + 1 : Nat) : Int) := by rw [wrap_ok (by omega) (by omega)]; omega
      have hlen := freeIx_length s.Owner n k
      simp only [idx_nat s.Owner k hk, Option.bind_some, List.length_map, hw6]
      rw [if_pos (by simpa using hk)]
      by_cases hn : ((freeIx s.Owner n k).length : Int) < n
      · left
        simp only [hn, decide_true, Option.bind_some, if_true]
        refine ⟨_, ?_, rfl⟩
        have hu : freeIx s.Owner n (k + 1) = if s.Owner[k]? = some 0 ∧ ((freeIx s.Owner n k).length : Int) < n then freeIx s.Owner n k ++ [k] else freeIx s.Owner n k := rfl
        rw [hu, List.getElem?_eq_getElem hk]
        by_cases hx : s.Owner[k] = 0
        · rw [if_pos (by simpa using hx), app_ok (by simp; omega) (by simp; omega)]
          simp [hx, hn]
        · rw [if_neg (by simpa using hx)]
          simp [hx]
      · right
        have := freeIx_sat s.Owner n k hn (s.Owner.length - k)
        rw [show k + (s.Owner.length - k) = s.Owner.length by omega] at this
        rw [this]
        simp [hn]
    case h2 => rintro st rfl; simp
    simp only [bindC_go, List.length_map]
    unfold takeV
    by_cases hw : 1 ≤ who ∧ who ≤ 99
    · by_cases hn : n < 1
      · rw [if_neg (by omega : ¬ ((1 ≤ who ∧ who ≤ 99) ∧ 1 ≤ n ∧ n ≤ ((freeIx s.Owner n s.Owner.length).length : Int)))]
        simp [hw, hn]
      · by_cases hc : ((freeIx s.Owner n s.Owner.length).length : Int) < n
        · rw [if_neg (by omega : ¬ ((1 ≤ who ∧ who ≤ 99) ∧ 1 ≤ n ∧ n ≤ ((freeIx s.Owner n s.Owner.length).length : Int)))]
          simp [hw, hn, hc]
        · rw [if_pos (⟨hw, by omega, by omega⟩ : (1 ≤ who ∧ who ≤ 99) ∧ 1 ≤ n ∧ n ≤ ((freeIx s.Owner n s.Owner.length).length : Int))]
          have hZ := freeIx_length s.Owner n s.Owner.length
          have hlt := freeIx_lt s.Owner n s.Owner.length
          generalize freeIx s.Owner n s.Owner.length = Z at hc hZ hlt ⊢
          simp only [hw, hn, hc, and_self, decide_true, decide_false, Bool.not_true, Bool.false_eq_true, if_false, Option.bind_some]
          rw [loopO_count (fun k => ((k : Int), setAll who s.Owner (Z.take k))) Z.length (r := Ctl.go (setAll who s.Owner Z)) ?h0]
          case h0 => rfl
          · rfl
          · intro k hk
            have hw6 : IntKind.i64.wrap ((k : Int) + 1) = ((k + 1 : Nat) : Int) := by rw [wrap_ok (by omega) (by omega)]; omega
            have htk : Z.take (k + 1) = Z.take k ++ [Z[k]] := by rw [List.take_add_one, List.getElem?_eq_getElem hk]; rfl
            have hz := hlt Z[k] (List.getElem_mem _)
            have e1 : idx (Z.map fun (i : Nat) => (i : Int)) (k : Int) = some ((Z[k] : Nat) : Int) := by rw [idx_nat _ k (by simpa using hk)]; simp
            simp only [e1, Option.bind_some, idx_nat (setAll who s.Owner (Z.take k)) Z[k] (by rw [setAll_length]; exact hz), hw6, Int.toNat_natCast, htk, setAll_snoc]
            rw [if_pos (by simpa using hk)]
          · simp
    · rw [if_neg (fun h : (1 ≤ who ∧ who ≤ 99) ∧ 1 ≤ n ∧ n ≤ ((freeIx s.Owner n s.Owner.length).length : Int) => hw h.1)]
      simp only [hw, decide_false, Bool.not_false, if_true, Option.bind_some]
  · have hok' : (decide (1 ≤ s.Owner.length ∧ s.Owner.length ≤ 40) && s.Owner.all fun x => decide (0 ≤ x ∧ x ≤ 99)) = false := by simpa using hok
    rw [hok']
    rfl
theorem impl_SpaceOf_eq (s : Space) (who : Int) (h : s.Owner.length ≤ 1048576) : impl_SpaceOf s who = some (if (decide (1 ≤ s.Owner.length ∧ s.Owner.length ≤ 40) && s.Owner.all fun x => decide (0 ≤ x ∧ x ≤ 99)) = true then ((s.Owner.countP fun x => decide (x = who) : Nat) : Int) else 0) := by
  unfold impl_SpaceOf
  rw [impl_SpaceOk_eq s h]
  simp only [Option.bind_some]
  by_cases hok : (decide (1 ≤ s.Owner.length ∧ s.Owner.length ≤ 40) && s.Owner.all fun x => decide (0 ≤ x ∧ x ≤ 99)) = true
  · rw [if_neg (by rw [hok]; simp), if_pos hok]
    rw [loopO_count (fun k => ((((s.Owner.take k).countP fun x => decide (x = who) : Nat) : Int), (k : Int))) s.Owner.length (r := Ctl.go (((s.Owner.countP fun x => decide (x = who) : Nat) : Int))) ?h0]
    case h0 => rfl
    · rfl
    · intro k hk
      have hcnt : ((s.Owner.take k).countP fun x => decide (x = who)) ≤ k := Nat.le_trans List.countP_le_length (by simp; omega)
      have htk : s.Owner.take (k + 1) = s.Owner.take k ++ [s.Owner[k]] := by rw [List.take_add_one, List.getElem?_eq_getElem hk]; rfl
      have hw6 : IntKind.i64.wrap ((k : Int) + 1) = ((k + 1 : Nat) : Int) := by rw [wrap_ok (by omega) (by omega)]; omega
      simp only [idx_nat s.Owner k hk, Option.bind_some, hw6]
      rw [if_pos (by simpa using hk), htk, List.countP_append]
      by_cases hx : s.Owner[k] = who
      · simp only [hx]
        rw [wrap_ok (by omega) (by omega)]
        simp
      · simp [hx]
    · simp
  · have hok' : (decide (1 ≤ s.Owner.length ∧ s.Owner.length ≤ 40) && s.Owner.all fun x => decide (0 ≤ x ∧ x ≤ 99)) = false := by simpa using hok
    rw [hok']
    rfl
theorem impl_SpaceTake_eq (s : Space) (who n : Int) (h : s.Owner.length ≤ 1048576) :
    impl_SpaceTake s who n = some (if (decide (1 ≤ s.Owner.length ∧ s.Owner.length ≤ 40) && s.Owner.all fun x => decide (0 ≤ x ∧ x ≤ 99)) = true then takeV s.Owner who n else ({ Owner := [] }, [], false)) := by
  unfold impl_SpaceTake
  rw [impl_SpaceOk_eq s h]
  simp only [Option.bind_some]
  by_cases hok : (decide (1 ≤ s.Owner.length ∧ s.Owner.length ≤ 40) && s.Owner.all fun x => decide (0 ≤ x ∧ x ≤ 99)) = true
  · rw [if_neg (by rw [hok]; simp), if_pos hok, copySpace_eq s h, isTenant_eq, impl_SpaceOf_eq s 0 h, if_pos hok]
    simp only [Option.bind_some]
    unfold takeV
    by_cases hw : 1 ≤ who ∧ who ≤ 99
    · by_cases hn : n < 1
      · rw [if_neg (by omega : ¬ ((1 ≤ who ∧ who ≤ 99) ∧ 1 ≤ n ∧ n ≤ ((freeIx s.Owner n s.Owner.length).length : Int)))]
        simp [hw, hn]
      · obtain ⟨hc1, _, _⟩ := freeIx_count s.Owner n (by omega) s.Owner.length (Nat.le_refl _)
        rw [List.take_length] at hc1
        by_cases hc : ((freeIx s.Owner n s.Owner.length).length : Int) < n
        · rw [if_neg (by omega : ¬ ((1 ≤ who ∧ who ≤ 99) ∧ 1 ≤ n ∧ n ≤ ((freeIx s.Owner n s.Owner.length).length : Int)))]
          have := hc1.1 hc
          simp only [hw, hn, this, and_self, decide_true, decide_false, Bool.not_true, Bool.false_eq_true, if_false, Option.bind_some, if_true]
        · rw [if_pos (⟨hw, by omega, by omega⟩ : (1 ≤ who ∧ who ≤ 99) ∧ 1 ≤ n ∧ n ≤ ((freeIx s.Owner n s.Owner.length).length : Int))]
          have hc' : ¬ ((s.Owner.countP fun x => decide (x = 0) : Nat) : Int) < n := fun h => hc (hc1.2 h)
          simp only [hw, hn, hc', and_self, decide_true, decide_false, Bool.not_true, Bool.false_eq_true, if_false, Option.bind_some]
          rw [loopO_count (fun k => ((k : Int), setAll who s.Owner (freeIx s.Owner n k), (freeIx s.Owner n k).map fun (i : Nat) => (i : Int))) s.Owner.length (r := Ctl.go (setAll who s.Owner (freeIx s.Owner n s.Owner.length), (freeIx s.Owner n s.Owner.length).map fun (i : Nat) => (i : Int))) ?h0]
          case h0 => rfl
          · rfl
          · intro k hk
            have hw6 : IntKind.i64.wrap ((k : Int) + 1) = ((k + 1 : Nat) : Int) := by rw [wrap_ok (by omega) (by omega)]; omega
            have hlen := freeIx_length s.Owner n k
            simp only [idx_nat s.Owner k hk, idx_nat (setAll who s.Owner (freeIx s.Owner n k)) k (by rw [setAll_length]; exact hk), Option.bind_some, hw6, List.length_map, Int.toNat_natCast]
            rw [if_pos (by simpa using hk)]
            have hu : freeIx s.Owner n (k + 1) = if s.Owner[k]? = some 0 ∧ ((freeIx s.Owner n k).length : Int) < n then freeIx s.Owner n k ++ [k] else freeIx s.Owner n k := rfl
            rw [hu, List.getElem?_eq_getElem hk]
            by_cases hx : s.Owner[k] = 0
            · by_cases hn2 : ((freeIx s.Owner n k).length : Int) < n
              · rw [app_ok (by simp; omega) (by simp; omega)]
                simp [hx, hn2, setAll_snoc]
              · simp [hx, hn2]
            · simp [hx]
          · simp
    · rw [if_neg (fun h : (1 ≤ who ∧ who ≤ 99) ∧ 1 ≤ n ∧ n ≤ ((freeIx s.Owner n s.Owner.length).length : Int) => hw h.1)]
      simp only [hw, decide_false, Bool.not_false, if_true, Option.bind_some]
  · have hok' : (decide (1 ≤ s.Owner.length ∧ s.Owner.length ≤ 40) && s.Owner.all fun x => decide (0 ≤ x ∧ x ≤ 99)) = false := by simpa using hok
    rw [hok']
    rfl
theorem sLt_nil (a : List UInt8) : sLt a [] = false := by cases a <;> rfl
theorem sLt_compl : ∀ a b : List UInt8, (sLt b a || decide (b = a)) = !sLt a b
  | [], [] => rfl
  | [], b :: y => by simp [sLt, Op.bytesLess]
  | a :: x, [] => by simp [sLt, Op.bytesLess]
  | a :: x, b :: y => by
    have ih := sLt_compl x y
    simp only [sLt] at ih
    simp only [sLt, Op.bytesLess]
    by_cases h1 : a < b
    · have h2 : ¬ b < a := fun h => absurd (UInt8.lt_trans h1 h) (UInt8.lt_irrefl _)
      have h3 : ¬ b = a := fun h => by subst h; exact UInt8.lt_irrefl _ h1
      simp [h1, h2, h3]
    · by_cases h2 : b < a
      · have h3 : ¬ a = b := fun h => by subst h; exact UInt8.lt_irrefl _ h2
        simp [h1, h2, h3]
      · have h3 : a = b := by
          rw [UInt8.lt_iff_toNat_lt] at h1 h2
          apply UInt8.toNat_inj.1
          omega
        subst h3
        simp only [h1, decide_false, Bool.false_or, beq_self_eq_true, Bool.true_and, List.cons.injEq, true_and]
        exact ih
theorem scan_up (p : Nat → Bool) (n : Nat) : ∀ d a, a + d = n → ∃ j, a ≤ j ∧ j ≤ n ∧ (∀ i, a ≤ i → i < j → p i = false) ∧ (j < n → p j = true)
  | 0, a, h => ⟨a, Nat.le_refl _, by omega, fun i h1 h2 => by omega, fun h => by omega⟩
  | d + 1, a, h => by
    cases hp : p a with
    | true => exact ⟨a, Nat.le_refl _, by omega, fun i h1 h2 => by omega, fun _ => hp⟩
    | false =>
      obtain ⟨j, h1, h2, h3, h4⟩ := scan_up p n d (a + 1) (by omega)
      refine ⟨j, by omega, h2, fun i h5 h6 => ?_, h4⟩
      by_cases e : i = a
      · rw [e]; exact hp
      · exact h3 i (by omega) h6
theorem down_stop (p : Nat → Bool) : ∀ n : Nat, ∃ j : Nat, j ≤ n ∧ (∀ i, j ≤ i → i < n → p i = false) ∧ (0 < j → p (j - 1) = true)
  | 0 => ⟨0, Nat.le_refl _, fun i h1 h2 => by omega, fun h => by omega⟩
  | n + 1 => by
    cases hp : p n with
    | true => exact ⟨n + 1, Nat.le_refl _, fun i h1 h2 => by omega, fun _ => by simpa using hp⟩
    | false =>
      obtain ⟨j, h1, h2, h3⟩ := down_stop p n
      refine ⟨j, by omega, fun i h4 h5 => ?_, h3⟩
      by_cases e : i = n
      · rw [e]; exact hp
      · exact h2 i h4 (by omega)
theorem all_loop {body : Int → Option (Ctl Int (Ctl Unit Bool))} (pass : Nat → Bool) (n : Nat) (h : ∀ k, k < n → body (k : Int) = some (if pass k = true then .go ((k : Int) + 1) else .done (.done false))) (hn : body (n : Int) = some (.done (.go ()))) :
    loopO body 0 = some (if (List.range n).all pass = true then .go () else .done false) := by
  have key : ∀ d k, k + d = n → loopO body (k : Int) = some (if ((List.range n).drop k).all pass = true then .go () else .done false) := by
    intro d
    induction d with
    | zero =>
      intro k hk
      obtain rfl : k = n := by omega
      rw [loopO_eq, hn, List.drop_of_length_le (by simp)]
      rfl
    | succ d ih =>
      intro k hk
      have hd : (List.range n).drop k = k :: (List.range n).drop (k + 1) := by rw [List.drop_eq_getElem_cons (by simp; omega)]; simp
      rw [loopO_eq, h k (by omega), hd, List.all_cons]
      cases hp : pass k with
      | true =>
        have := ih (k + 1) (by omega)
        rw [show ((k + 1 : Nat) : Int) = (k : Int) + 1 by omega] at this
        simpa using this
      | false => simp
  have := key n 0 (by omega)
  simpa using this
theorem sLt_compl' (a b : List UInt8) : (!sLt a b) = (sLt b a || decide (b = a)) := (sLt_compl a b).symm
theorem sLt_nil_iff (b : List UInt8) : sLt [] b = !decide (b = []) := by cases b <;> rfl
theorem len0 (out : List Int) : decide (((out.length : Nat) : Int) = 0) = decide (out = []) := by
  cases out with
  | nil => rfl
  | cons a l => simp; omega
theorem sMin_eq (a b : List UInt8) : sMin a b = if sLt b a = true then b else a := by
  unfold sMin
  rw [sLt_compl]
  cases sLt b a <;> simp
theorem sMax_eq (a b : List UInt8) : sMax a b = if sLt a b = true then b else a := by
  unfold sMax
  cases sLt a b <;> simp
theorem sLt_irr (a : List UInt8) : sLt a a = false := by
  have := sLt_compl a a
  simpa using this
theorem sLt_trans : ∀ {a b c : List UInt8}, sLt a b = true → sLt b c = true → sLt a c = true
  | [], [], _, h, _ => by simp [sLt, Op.bytesLess] at h
  | [], _ :: _, [], _, h => by simp [sLt, Op.bytesLess] at h
  | [], _ :: _, _ :: _, _, _ => rfl
  | _ :: _, [], _, h, _ => by simp [sLt, Op.bytesLess] at h
  | _ :: _, _ :: _, [], _, h => by simp [sLt, Op.bytesLess] at h
  | x :: a, y :: b, z :: c, h1, h2 => by
    simp only [sLt, Op.bytesLess, Bool.or_eq_true, decide_eq_true_eq, Bool.and_eq_true, beq_iff_eq] at h1 h2 ⊢
    rcases h1 with h1 | ⟨rfl, h1⟩
    · rcases h2 with h2 | ⟨rfl, _⟩
      · exact .inl (UInt8.lt_trans h1 h2)
      · exact .inl h1
    · rcases h2 with h2 | ⟨rfl, h2⟩
      · exact .inl h2
      · exact .inr ⟨rfl, sLt_trans h1 h2⟩
theorem sLt_irrefl (a : List UInt8) : sLt a a = false := by
  have := sLt_compl a a
  simpa using this
theorem all_loop' {body : Int → Option (Ctl Int (Ctl Unit Bool))} (pass : Nat → Bool) (n : Nat) (h : ∀ k, k < n → body (k : Int) = some (if pass k = true then .go ((k : Int) + 1) else .done (.done false))) (hn : body (n : Int) = some (.done (.go ()))) :
    bindC (loopO body 0) (fun (_ : Unit) => some true) = some ((List.range n).all pass) := by
  rw [all_loop pass n h hn]
  cases (List.range n).all pass <;> rfl
/-- snapshots in order -/
def snapP (seq : Int) (l : List Int) (k : Nat) : Bool := match l[k]? with
  | some s => decide (0 ≤ s ∧ s ≤ seq) && (match k with | 0 => true | j + 1 => match l[j]? with | some d => decide (d < s) | none => true)
  | none => true
theorem snapP_at (seq : Int) (l : List Int) (k : Nat) (h : k < l.length) : snapP seq l k = (decide (0 ≤ l[k] ∧ l[k] ≤ seq) && (if h0 : 0 < k then decide (l[k - 1]'(by omega) < l[k]) else true)) := by
  unfold snapP
  rw [List.getElem?_eq_getElem h]
  cases k with
  | zero => rfl
  | succ j =>
    simp only [Nat.zero_lt_succ, dif_pos, Nat.add_sub_cancel]
    rw [List.getElem?_eq_getElem (by omega)]
def snapsV (seq : Int) (l : List Int) : Bool := (List.range l.length).all (snapP seq l)
theorem cloneInts_eq (s : List Int) (h : s.length ≤ 1048576) : slices_Clone_88240 s = some s := by
  unfold slices_Clone_88240
  rw [app_ok (by simp; omega) (by simp; omega)]
  rfl
theorem snaps_at {seq : Int} {l : List Int} (hv : snapsV seq l = true) (k : Nat) (hk : k < l.length) : (0 ≤ l[k] ∧ l[k] ≤ seq) ∧ (0 < k → l[k - 1]'(by omega) < l[k]) := by
  unfold snapsV at hv
  rw [List.all_eq_true] at hv
  have := hv k (by simpa using hk)
  rw [snapP_at seq l k hk, Bool.and_eq_true] at this
  refine ⟨of_decide_eq_true this.1, fun h0 => ?_⟩
  have h2 := this.2
  rw [dif_pos h0] at h2
  exact of_decide_eq_true h2
theorem snaps_last {seq : Int} {l : List Int} (hv : snapsV seq l = true) (h0 : 0 < l.length) : (seq ∈ l) ↔ l[l.length - 1]'(by omega) = seq := by
  constructor
  · intro hm
    obtain ⟨i, hi, he⟩ := List.getElem_of_mem hm
    by_cases e : i = l.length - 1
    · subst e; exact he
    · have h1 := (snaps_at hv (i + 1) (by omega)).2 (by omega)
      have h2 := (snaps_at hv (i + 1) (by omega)).1
      simp only [Nat.add_sub_cancel] at h1
      omega
  · intro h
    rw [← h]
    exact List.getElem_mem _
theorem piece_nat {α : Type} (l : List α) (a b : Nat) (lo hi : Int) (h1 : lo = (a : Int)) (h2 : hi = (b : Int)) (h3 : a ≤ b) (h4 : b ≤ l.length) : piece l lo hi = some ((l.drop a).take (b - a)) := by
  subst h1 h2
  unfold piece
  rw [if_pos ⟨by omega, by omega, by omega⟩, Int.toNat_natCast, Int.toNat_natCast]
theorem filter_one {α : Type} (l : List α) (p : α → Bool) (j : Nat) (hj : j < l.length) (h1 : p l[j] = false) (h2 : ∀ i (h : i < l.length), i ≠ j → p l[i] = true) : l.filter p = l.take j ++ l.drop (j + 1) := by
  have hs : l = l.take j ++ l[j] :: l.drop (j + 1) := by rw [← List.drop_eq_getElem_cons hj, List.take_append_drop]
  have ha : (l.take j).filter p = l.take j := by
    rw [List.filter_eq_self]
    intro x hx
    obtain ⟨i, hi, rfl⟩ := List.getElem_of_mem hx
    have hi' : i < j := by simp at hi; omega
    simp only [List.getElem_take]
    exact h2 i (by omega) (by omega)
  have hb : (l.drop (j + 1)).filter p = l.drop (j + 1) := by
    rw [List.filter_eq_self]
    intro x hx
    obtain ⟨i, hi, rfl⟩ := List.getElem_of_mem hx
    have hi' : j + 1 + i < l.length := by simp at hi; omega
    simp only [List.getElem_drop]
    exact h2 (j + 1 + i) hi' (by omega)
  conv => lhs; rw [hs]
  rw [List.filter_append, List.filter_cons_of_neg (by simpa using h1), ha, hb]
theorem filter_take {α : Type} (p : α → Bool) (l : List α) (k : Nat) (h : k < l.length) : (l.take (k + 1)).filter p = (l.take k).filter p ++ if p l[k] = true then [l[k]] else [] := by
  rw [show l.take (k + 1) = l.take k ++ [l[k]] by rw [List.take_add_one, List.getElem?_eq_getElem h]; rfl, List.filter_append]
  congr 1
  by_cases c : p l[k] = true
  · rw [if_pos c, List.filter_cons_of_pos c]; rfl
  · rw [if_neg c, List.filter_cons_of_neg c]; rfl
theorem filter_len {α : Type} (p : α → Bool) (l : List α) (k : Nat) : ((l.take k).filter p).length ≤ k := Nat.le_trans (List.length_filter_le _ _) (by simp; omega)
theorem snaps_lt {seq : Int} {l : List Int} (hv : snapsV seq l = true) : ∀ (j : Nat) (hj : j < l.length) (i : Nat) (hi : i < j), l[i]'(by omega) < l[j] := by
  intro j
  induction j with
  | zero => intro _ i hi; omega
  | succ j ih =>
    intro hj i hi
    have h1 := (snaps_at hv (j + 1) hj).2 (by omega)
    simp only [Nat.add_sub_cancel] at h1
    by_cases e : i = j
    · subst e; exact h1
    · have := ih (by omega) i (by omega); omega
def dropS (l : List Int) (x : Int) : List Int := l.filter fun s => !decide (s = x)
theorem dropS_at {seq : Int} {l : List Int} (hv : snapsV seq l = true) (j : Nat) (hj : j < l.length) : dropS l l[j] = l.take j ++ l.drop (j + 1) := by
  unfold dropS
  refine filter_one l _ j hj (by simp) fun i hi hij => ?_
  have : ¬ l[i] = l[j] := by
    rcases Nat.lt_or_ge i j with h | h
    · have := snaps_lt hv j hj i h; omega
    · have := snaps_lt hv i hi j (by omega); omega
  simp [this]
theorem sLt_asymm {a b : List UInt8} (h : sLt a b = true) : sLt b a = false := by
  have := sLt_compl a b
  rw [h] at this
  simp only [Bool.not_true, Bool.or_eq_false_iff] at this
  exact this.1
theorem sLt_same {a b : List UInt8} (h1 : sLt a b = false) (h2 : sLt b a = false) : a = b := by
  have := sLt_compl a b
  rw [h1, h2] at this
  have h : decide (b = a) = true := by simpa using this
  exact (of_decide_eq_true h).symm
theorem any_loop {α : Type} {body : Int → Option (Ctl Int (Ctl Unit Bool))} (l : List α) (p : α → Bool) (h : ∀ k (hk : k < l.length), body (k : Int) = some (if p l[k] = true then .done (.done true) else .go ((k : Int) + 1))) (hn : body (l.length : Int) = some (.done (.go ()))) :
    bindC (loopO body 0) (fun (_ : Unit) => some false) = some (l.any p) := by
  rw [loopO_is (fun k s => s = (k : Int) ∧ l.any p = (l.drop k).any p) l.length (if l.any p = true then Ctl.done true else Ctl.go ()) ?h0 ?h1 ?h2]
  · cases l.any p <;> rfl
  case h0 => exact ⟨rfl, rfl⟩
  · rintro k s hk ⟨rfl, he⟩
    rw [h k hk, he, List.drop_eq_getElem_cons hk, List.any_cons]
    cases hp : p l[k] with
    | true => right; rfl
    | false =>
      left
      refine ⟨(k : Int) + 1, rfl, by omega, ?_⟩
      rw [Bool.false_or]
  · rintro s ⟨rfl, he⟩
    rw [he, List.drop_length, hn]
    rfl
theorem half_eq {a : Int} (h0 : 0 ≤ a) (h1 : a ≤ 4611686018427387904) : IntKind.i64.wrap (ishr .u64 (IntKind.u64.wrap (IntKind.i64.wrap a)) (1 : Int)) = a / 2 := by
  have hu : IntKind.u64.wrap a = a := by simp [IntKind.wrap, IntKind.bits, IntKind.signed]; omega
  have hs : ishr .u64 a (1 : Int) = a / 2 := by
    unfold ishr
    show a.fdiv (2 ^ 1) = a / 2
    rw [Int.fdiv_eq_ediv_of_nonneg a (by decide)]
    rfl
  rw [wrap_ok (n := a) (by omega) (by omega), hu, hs, wrap_ok (by omega) (by omega)]
/-- a search by halves: the place where it ends -/
theorem bisect {α ρ : Type} (x : List α) (cf : α → Option Int) (c : α → Int) (hcf : ∀ e ∈ x, cf e = some (c e)) (hx : x.length ≤ 1048576) :
    ∃ j, j ≤ x.length ∧ loopO (ρ := Ctl Int ρ) (fun (S2 : Int × Int) => if (decide (S2.1 < S2.2)) = true then ((idx x (IntKind.i64.wrap (ishr .u64 (IntKind.u64.wrap (IntKind.i64.wrap (S2.1 + S2.2))) (1 : Int)))).bind fun E7 =>
  (cf E7).bind fun R9 =>
  bindC (if (decide (R9 < (0 : Int))) = true then (some (.go (IntKind.i64.wrap (IntKind.i64.wrap (ishr .u64 (IntKind.u64.wrap (IntKind.i64.wrap (S2.1 + S2.2))) (1 : Int)) + (1 : Int)), S2.2)))
  else (some (.go (S2.1, IntKind.i64.wrap (ishr .u64 (IntKind.u64.wrap (IntKind.i64.wrap (S2.1 + S2.2))) (1 : Int))))))
  (fun (T12 : Int × Int) => some (.go (T12.1, T12.2))))
  else (some (.done (.go S2.1)))) ((0 : Int), ((x.length : Nat) : Int)) = some (.go (j : Int)) ∧ (∀ i (hi : i < x.length), i + 1 = j → c x[i] < 0) ∧ (∀ hj : j < x.length, 0 ≤ c x[j]) := by
  obtain ⟨r, hr, j, rfl, h1, h2, h3⟩ := loopO_total (ρ := Ctl Int ρ) (s0 := ((0 : Int), ((x.length : Nat) : Int))) (body := fun (S2 : Int × Int) => if (decide (S2.1 < S2.2)) = true then ((idx x (IntKind.i64.wrap (ishr .u64 (IntKind.u64.wrap (IntKind.i64.wrap (S2.1 + S2.2))) (1 : Int)))).bind fun E7 =>
  (cf E7).bind fun R9 =>
  bindC (if (decide (R9 < (0 : Int))) = true then (some (.go (IntKind.i64.wrap (IntKind.i64.wrap (ishr .u64 (IntKind.u64.wrap (IntKind.i64.wrap (S2.1 + S2.2))) (1 : Int)) + (1 : Int)), S2.2)))
  else (some (.go (S2.1, IntKind.i64.wrap (ishr .u64 (IntKind.u64.wrap (IntKind.i64.wrap (S2.1 + S2.2))) (1 : Int))))))
  (fun (T12 : Int × Int) => some (.go (T12.1, T12.2))))
  else (some (.done (.go S2.1))))
    (fun k s => ∃ a b : Nat, s = ((a : Int), (b : Int)) ∧ a ≤ b ∧ b ≤ x.length ∧ b - a + k ≤ x.length ∧ (∀ i (hi : i < x.length), i + 1 = a → c x[i] < 0) ∧ (∀ hj : b < x.length, 0 ≤ c x[b])) x.length
    (fun r => ∃ j : Nat, r = .go (j : Int) ∧ j ≤ x.length ∧ (∀ i (hi : i < x.length), i + 1 = j → c x[i] < 0) ∧ (∀ hj : j < x.length, 0 ≤ c x[j]))
    ⟨0, x.length, rfl, Nat.zero_le _, Nat.le_refl _, by omega, fun i hi h => by omega, fun h => by omega⟩ (by
      rintro k s hk ⟨a, b, rfl, hab, hb, hd, h1, h2⟩
      by_cases hlt : a < b
      · left
        have hm : ((a : Int) + (b : Int)) / 2 = (((a + b) / 2 : Nat) : Int) := by omega
        have hmx : (a + b) / 2 < x.length := by omega
        simp only [half_eq (a := (a : Int) + (b : Int)) (by omega) (by omega), hm, idx_nat x _ hmx, Option.bind_some, hcf _ (List.getElem_mem hmx)]
        rw [if_pos (by simpa using hlt)]
        by_cases hc : c x[(a + b) / 2] < 0
        · rw [if_pos (by simpa using hc), wrap_ok (by omega) (by omega)]
          refine ⟨_, rfl, (a + b) / 2 + 1, b, rfl, by omega, hb, by omega, fun i hi h => ?_, h2⟩
          obtain rfl : i = (a + b) / 2 := by omega
          exact hc
        · rw [if_neg (by simpa using hc)]
          exact ⟨_, rfl, a, (a + b) / 2, rfl, by omega, by omega, by omega, h1, fun _ => by omega⟩
      · right
        obtain rfl : a = b := by omega
        exact ⟨.go (a : Int), by simp, a, rfl, hb, h1, h2⟩) (by
      rintro s ⟨a, b, rfl, hab, hb, hd, h1, h2⟩
      obtain rfl : a = b := by omega
      exact ⟨.go (a : Int), by simp, a, rfl, hb, h1, h2⟩)
  exact ⟨j, h1, hr, h2, h3⟩
theorem snapsV_up {seq seq' : Int} {l : List Int} (h2 : seq ≤ seq') (h : snapsV seq l = true) : snapsV seq' l = true := by
  unfold snapsV
  rw [List.all_eq_true]
  intro k hk
  have hk' : k < l.length := by simpa using hk
  obtain ⟨a, b⟩ := snaps_at h k hk'
  rw [snapP_at seq' l k hk', Bool.and_eq_true]
  refine ⟨decide_eq_true ⟨a.1, by omega⟩, ?_⟩
  by_cases h0 : 0 < k
  · rw [dif_pos h0]; exact decide_eq_true (b h0)
  · rw [dif_neg h0]
/-! words of bits -/
theorem iand64 {a b : Nat} (ha : a < 2 ^ 63) (hb : b < 2 ^ 63) : iand .i64 (a : Int) (b : Int) = ((a &&& b : Nat) : Int) := by
  unfold iand
  have h1 : a &&& b ≤ a := Nat.and_le_left
  have e : (BitVec.ofInt IntKind.i64.bits (a : Int) &&& BitVec.ofInt IntKind.i64.bits (b : Int)).toNat = a &&& b := by
    show (BitVec.ofInt 64 (a : Int) &&& BitVec.ofInt 64 (b : Int)).toNat = a &&& b
    rw [BitVec.ofInt_natCast, BitVec.ofInt_natCast, BitVec.toNat_and, BitVec.toNat_ofNat, BitVec.toNat_ofNat, Nat.mod_eq_of_lt (by omega), Nat.mod_eq_of_lt (by omega)]
  rw [e]
  exact wrap_ok (by omega) (by omega)
theorem ior64 {a b : Nat} (ha : a < 2 ^ 63) (hb : b < 2 ^ 63) : ior .i64 (a : Int) (b : Int) = ((a ||| b : Nat) : Int) := by
  unfold ior
  have h1 : a ||| b < 2 ^ 63 := Nat.or_lt_two_pow ha hb
  have e : (BitVec.ofInt IntKind.i64.bits (a : Int) ||| BitVec.ofInt IntKind.i64.bits (b : Int)).toNat = a ||| b := by
    show (BitVec.ofInt 64 (a : Int) ||| BitVec.ofInt 64 (b : Int)).toNat = a ||| b
    rw [BitVec.ofInt_natCast, BitVec.ofInt_natCast, BitVec.toNat_or, BitVec.toNat_ofNat, BitVec.toNat_ofNat, Nat.mod_eq_of_lt (by omega), Nat.mod_eq_of_lt (by omega)]
  rw [e]
  exact wrap_ok (by omega) (by omega)
theorem ixor64 {a b : Nat} (ha : a < 2 ^ 63) (hb : b < 2 ^ 63) : ixor .i64 (a : Int) (b : Int) = ((a ^^^ b : Nat) : Int) := by
  unfold ixor
  have h1 : a ^^^ b < 2 ^ 63 := Nat.xor_lt_two_pow ha hb
  have e : (BitVec.ofInt IntKind.i64.bits (a : Int) ^^^ BitVec.ofInt IntKind.i64.bits (b : Int)).toNat = a ^^^ b := by
    show (BitVec.ofInt 64 (a : Int) ^^^ BitVec.ofInt 64 (b : Int)).toNat = a ^^^ b
    rw [BitVec.ofInt_natCast, BitVec.ofInt_natCast, BitVec.toNat_xor, BitVec.toNat_ofNat, BitVec.toNat_ofNat, Nat.mod_eq_of_lt (by omega), Nat.mod_eq_of_lt (by omega)]
  rw [e]
  exact wrap_ok (by omega) (by omega)
theorem wrap32 (n : Int) : IntKind.u32.wrap n = n % 4294967296 := by simp [IntKind.wrap, IntKind.bits, IntKind.signed]
theorem wrap64u (n : Int) : IntKind.u64.wrap n = n % 18446744073709551616 := by simp [IntKind.wrap, IntKind.bits, IntKind.signed]
theorem ior32 {a b : Nat} (ha : a < 2 ^ 32) (hb : b < 2 ^ 32) : ior .u32 (a : Int) (b : Int) = ((a ||| b : Nat) : Int) := by
  unfold ior
  have h1 : a ||| b < 2 ^ 32 := Nat.or_lt_two_pow ha hb
  have e : (BitVec.ofInt IntKind.u32.bits (a : Int) ||| BitVec.ofInt IntKind.u32.bits (b : Int)).toNat = a ||| b := by
    show (BitVec.ofInt 32 (a : Int) ||| BitVec.ofInt 32 (b : Int)).toNat = a ||| b
    rw [BitVec.ofInt_natCast, BitVec.ofInt_natCast, BitVec.toNat_or, BitVec.toNat_ofNat, BitVec.toNat_ofNat, Nat.mod_eq_of_lt (by omega), Nat.mod_eq_of_lt (by omega)]
  rw [e, wrap32]
  omega
theorem ixor32 {a b : Nat} (ha : a < 2 ^ 32) (hb : b < 2 ^ 32) : ixor .u32 (a : Int) (b : Int) = ((a ^^^ b : Nat) : Int) := by
  unfold ixor
  have h1 : a ^^^ b < 2 ^ 32 := Nat.xor_lt_two_pow ha hb
  have e : (BitVec.ofInt IntKind.u32.bits (a : Int) ^^^ BitVec.ofInt IntKind.u32.bits (b : Int)).toNat = a ^^^ b := by
    show (BitVec.ofInt 32 (a : Int) ^^^ BitVec.ofInt 32 (b : Int)).toNat = a ^^^ b
    rw [BitVec.ofInt_natCast, BitVec.ofInt_natCast, BitVec.toNat_xor, BitVec.toNat_ofNat, BitVec.toNat_ofNat, Nat.mod_eq_of_lt (by omega), Nat.mod_eq_of_lt (by omega)]
  rw [e, wrap32]
  omega
theorem iand8 {a b : Nat} (ha : a < 2 ^ 8) (hb : b < 2 ^ 8) : iand .u8 (a : Int) (b : Int) = ((a &&& b : Nat) : Int) := by
  unfold iand
  have h1 : a &&& b ≤ a := Nat.and_le_left
  have e : (BitVec.ofInt IntKind.u8.bits (a : Int) &&& BitVec.ofInt IntKind.u8.bits (b : Int)).toNat = a &&& b := by
    show (BitVec.ofInt 8 (a : Int) &&& BitVec.ofInt 8 (b : Int)).toNat = a &&& b
    rw [BitVec.ofInt_natCast, BitVec.ofInt_natCast, BitVec.toNat_and, BitVec.toNat_ofNat, BitVec.toNat_ofNat, Nat.mod_eq_of_lt (by omega), Nat.mod_eq_of_lt (by omega)]
  rw [e]
  simp [IntKind.wrap, IntKind.bits, IntKind.signed]
  omega
theorem ishr_nat {k : IntKind} {a n : Nat} (hn : n ≤ k.bits) : ishr k (a : Int) (n : Int) = ((a / 2 ^ n : Nat) : Int) := by
  unfold ishr
  rw [Int.toNat_natCast, Nat.min_eq_left hn, Int.fdiv_eq_ediv_of_nonneg _ (by exact_mod_cast Nat.zero_le _)]
  norm_cast
theorem ishl64 {a n : Nat} (hn : n ≤ 64) (h : a * 2 ^ n < 2 ^ 63) : ishl .i64 (a : Int) (n : Int) = ((a * 2 ^ n : Nat) : Int) := by
  unfold ishl
  have hb : IntKind.i64.bits = 64 := rfl
  rw [Int.toNat_natCast, hb, Nat.min_eq_left hn]
  have e : (a : Int) * 2 ^ n = ((a * 2 ^ n : Nat) : Int) := by norm_cast
  rw [e]
  exact wrap_ok (by omega) (by omega)
theorem ishl32 {a n : Nat} (hn : n ≤ 32) : ishl .u32 (a : Int) (n : Int) = ((a * 2 ^ n % 4294967296 : Nat) : Int) := by
  unfold ishl
  have hb : IntKind.u32.bits = 32 := rfl
  have e : (a : Int) * 2 ^ n = ((a * 2 ^ n : Nat) : Int) := by norm_cast
  rw [Int.toNat_natCast, hb, Nat.min_eq_left hn, wrap32, e]
  generalize a * 2 ^ n = z
  omega
/-- the bits of a word turned to the left -/
def rotN (x n : Nat) : Nat := x * 2 ^ n % 4294967296 ||| x / 2 ^ (32 - n)
theorem rotN_lt {x n : Nat} (h : x < 4294967296) : rotN x n < 4294967296 := by
  unfold rotN
  refine Nat.or_lt_two_pow (n := 32) (Nat.mod_lt _ (by decide)) ?_
  exact Nat.lt_of_le_of_lt (Nat.div_le_self _ _) h
theorem ior_same {p q : Int} (hp : 0 ≤ p ∧ p < 4294967296) (hq : 0 ≤ q ∧ q < 4294967296) : ior .u32 p q = ior .i64 p q ∧ 0 ≤ ior .i64 p q ∧ ior .i64 p q < 4294967296 := by
  have e1 : p = (p.toNat : Int) := by omega
  have e2 : q = (q.toNat : Int) := by omega
  have h1 : p.toNat < 2 ^ 32 := by omega
  have h2 : q.toNat < 2 ^ 32 := by omega
  have h3 := Nat.or_lt_two_pow h1 h2
  rw [e1, e2, ior32 h1 h2, ior64 (by omega) (by omega)]
  generalize p.toNat ||| q.toNat = z at h3
  exact ⟨rfl, by omega, by omega⟩
theorem ishl_same (x : UInt8) (n : Nat) (hn : n ≤ 24) : ishl .u32 (IntKind.u32.wrap ((x.toNat : Nat) : Int)) (n : Int) = ishl .i64 (IntKind.i64.wrap ((x.toNat : Nat) : Int)) (n : Int) ∧ 0 ≤ ishl .i64 (IntKind.i64.wrap ((x.toNat : Nat) : Int)) (n : Int) ∧ ishl .i64 (IntKind.i64.wrap ((x.toNat : Nat) : Int)) (n : Int) < 4294967296 := by
  have hx := x.toNat_lt
  have w1 : IntKind.u32.wrap ((x.toNat : Nat) : Int) = ((x.toNat : Nat) : Int) := by rw [wrap32]; omega
  have w2 : IntKind.i64.wrap ((x.toNat : Nat) : Int) = ((x.toNat : Nat) : Int) := wrap_ok (by omega) (by omega)
  have hp : 2 ^ n ≤ 2 ^ 24 := Nat.pow_le_pow_right (by decide) hn
  have hm : x.toNat * 2 ^ n ≤ x.toNat * 2 ^ 24 := Nat.mul_le_mul_left _ hp
  rw [w1, w2, ishl32 (by omega), ishl64 (by omega) (by omega)]
  generalize x.toNat * 2 ^ n = z at hm
  have hz : z < 4294967296 := by omega
  rw [Nat.mod_eq_of_lt hz]
  exact ⟨rfl, by omega, by omega⟩
theorem ishl_samei (x : UInt8) (n : Int) (hn : 0 ≤ n ∧ n ≤ 24) : ishl .u32 (IntKind.u32.wrap ((x.toNat : Nat) : Int)) n = ishl .i64 (IntKind.i64.wrap ((x.toNat : Nat) : Int)) n ∧ 0 ≤ ishl .i64 (IntKind.i64.wrap ((x.toNat : Nat) : Int)) n ∧ ishl .i64 (IntKind.i64.wrap ((x.toNat : Nat) : Int)) n < 4294967296 := by
  have e : n = (n.toNat : Int) := by omega
  rw [e]
  exact ishl_same x n.toNat (by omega)
theorem bind_same {α β : Type} {x : Option α} {f g : α → Option β} (h : ∀ a, f a = g a) : x.bind f = x.bind g := by
  cases x with
  | none => rfl
  | some a => exact h a
theorem little_val (a b c d : UInt8) : ior .u32 (ior .u32 (ior .u32 (IntKind.u32.wrap ((a.toNat : Nat) : Int)) (ishl .u32 (IntKind.u32.wrap ((b.toNat : Nat) : Int)) (8 : Int))) (ishl .u32 (IntKind.u32.wrap ((c.toNat : Nat) : Int)) (16 : Int))) (ishl .u32 (IntKind.u32.wrap ((d.toNat : Nat) : Int)) (24 : Int)) =
      ior .i64 (ior .i64 (ior .i64 (IntKind.i64.wrap ((a.toNat : Nat) : Int)) (ishl .i64 (IntKind.i64.wrap ((b.toNat : Nat) : Int)) (8 : Int))) (ishl .i64 (IntKind.i64.wrap ((c.toNat : Nat) : Int)) (16 : Int))) (ishl .i64 (IntKind.i64.wrap ((d.toNat : Nat) : Int)) (24 : Int)) ∧
      0 ≤ ior .i64 (ior .i64 (ior .i64 (IntKind.i64.wrap ((a.toNat : Nat) : Int)) (ishl .i64 (IntKind.i64.wrap ((b.toNat : Nat) : Int)) (8 : Int))) (ishl .i64 (IntKind.i64.wrap ((c.toNat : Nat) : Int)) (16 : Int))) (ishl .i64 (IntKind.i64.wrap ((d.toNat : Nat) : Int)) (24 : Int)) ∧
      ior .i64 (ior .i64 (ior .i64 (IntKind.i64.wrap ((a.toNat : Nat) : Int)) (ishl .i64 (IntKind.i64.wrap ((b.toNat : Nat) : Int)) (8 : Int))) (ishl .i64 (IntKind.i64.wrap ((c.toNat : Nat) : Int)) (16 : Int))) (ishl .i64 (IntKind.i64.wrap ((d.toNat : Nat) : Int)) (24 : Int)) < 4294967296 := by
  have ha := a.toNat_lt
  have a1 : IntKind.u32.wrap ((a.toNat : Nat) : Int) = IntKind.i64.wrap ((a.toNat : Nat) : Int) := by rw [wrap32, wrap_ok (by omega) (by omega)]; omega
  have a2 : 0 ≤ IntKind.i64.wrap ((a.toNat : Nat) : Int) ∧ IntKind.i64.wrap ((a.toNat : Nat) : Int) < 4294967296 := by rw [wrap_ok (by omega) (by omega)]; omega
  obtain ⟨b1, b2⟩ := ishl_samei b 8 (by omega)
  obtain ⟨c1, c2⟩ := ishl_samei c 16 (by omega)
  obtain ⟨d1, d2⟩ := ishl_samei d 24 (by omega)
  obtain ⟨o1, o2⟩ := ior_same a2 b2
  obtain ⟨p1, p2⟩ := ior_same o2 c2
  obtain ⟨q1, q2⟩ := ior_same p2 d2
  refine ⟨?_, q2⟩
  rw [a1, b1, c1, d1, o1, p1, q1]
theorem sidx_nat (s : List UInt8) (i : Nat) (h : i < s.length) : sidx s (i : Int) = some s[i] := by
  unfold sidx
  rw [if_pos (by omega), Int.toNat_natCast, List.getElem?_eq_getElem h]
/-- words of 32 bits -/
def okW (l : List Wrd) : Prop := ∀ x ∈ l, 0 ≤ x.v ∧ x.v < 4294967296
theorem okW_set {l : List Wrd} {i : Nat} {x : Wrd} (h : okW l) (hx : 0 ≤ x.v ∧ x.v < 4294967296) : okW (l.set i x) := by
  intro y hy
  rcases List.mem_or_eq_of_mem_set hy with h1 | h1
  · exact h y h1
  · rw [h1]; exact hx
theorem okW_nat {l : List Wrd} (h : okW l) (k : Nat) (hk : k < l.length) : ∃ n : Nat, l[k].v = (n : Int) ∧ n < 4294967296 := by
  obtain ⟨h1, h2⟩ := h _ (List.getElem_mem hk)
  exact ⟨l[k].v.toNat, by omega, by omega⟩
/-- sixteen words -/
def goodW (l : List Wrd) : Prop := l.length = 16 ∧ okW l
noncomputable def selW (k : Nat) (i : Nat) (n : Nat) : Wrd := bif Nat.blt i k then Wrd.mk (n : Int) else Wrd.mk 0
def bytes4 (n : Nat) : List UInt8 := [toU8 (n : Int), toU8 ((n / 256 : Nat) : Int), toU8 ((n / 65536 : Nat) : Int), toU8 ((n / 16777216 : Nat) : Int)]
/-- the bytes of the first k words -/
noncomputable def outW (w s : List Wrd) : Nat → List UInt8
  | 0 => []
  | k + 1 => outW w s k ++ (match w[k]?, s[k]? with | some x, some y => bytes4 ((x.v + y.v).toNat % 4294967296) | _, _ => [])
theorem outW_succ (w s : List Wrd) (k : Nat) (hw : k < w.length) (hs : k < s.length) : outW w s (k + 1) = outW w s k ++ bytes4 ((w[k].v + s[k].v).toNat % 4294967296) := by
  show outW w s k ++ (match w[k]?, s[k]? with | some x, some y => _ | _, _ => _) = _
  rw [List.getElem?_eq_getElem hw, List.getElem?_eq_getElem hs]
theorem outW_len (w s : List Wrd) (hw : w.length = 16) (hs : s.length = 16) : ∀ k, k ≤ 16 → (outW w s k).length = 4 * k
  | 0, _ => rfl
  | k + 1, hk => by
    rw [outW_succ w s k (by omega) (by omega), List.length_append, outW_len w s hw hs k (by omega)]
    show 4 * k + 4 = _
    omega
theorem toU8_mod (n : Nat) : toU8 ((n % 256 : Nat) : Int) = toU8 (n : Int) := by
  unfold toU8
  congr 1
  omega
def chaOk (key : List UInt8) (counter : Int) (nonce : List UInt8) : Bool := decide (key.length = 32) && (decide (nonce.length = 12) && decide (0 ≤ counter ∧ counter ≤ 4294967295))
theorem chaOk_iff {key : List UInt8} {counter : Int} {nonce : List UInt8} (h : chaOk key counter nonce = true) : key.length = 32 ∧ nonce.length = 12 ∧ 0 ≤ counter ∧ counter ≤ 4294967295 := by
  unfold chaOk at h
  simp only [Bool.and_eq_true, decide_eq_true_eq] at h
  exact h
theorem bind_of {α β : Type} {x : Option α} {a : α} {f : α → Option β} {r : Option β} (h : x = some a) (h2 : f a = r) : x.bind f = r := by rw [h]; exact h2
/-- bytes of a number, the highest first -/
def fixV (n : Nat) : Nat → List UInt8
  | 0 => []
  | j + 1 => toU8 ((n / 256 ^ j : Nat) : Int) :: fixV n j
theorem fixV_len (n : Nat) : ∀ j, (fixV n j).length = j
  | 0 => rfl
  | j + 1 => by rw [fixV, List.length_cons, fixV_len n j]
theorem div_pow_succ (n b j : Nat) : n / b ^ j / b = n / b ^ (j + 1) := by rw [Nat.div_div_eq_div_mul, Nat.pow_succ]
def fixedV (n w : Int) : List UInt8 := bif decide (1 ≤ w ∧ w ≤ 7) && (decide (0 ≤ n) && decide (n.toNat / 256 ^ w.toNat = 0)) then fixV n.toNat w.toNat else []
/-- a number in bytes of seven bits, the lowest first -/
def varN : Nat → Nat → List UInt8
  | 0, n => [toU8 (n : Int)]
  | f + 1, n => bif decide (n < 128) then [toU8 (n : Int)] else toU8 ((128 + n % 128 : Nat) : Int) :: varN f (n / 128)
theorem varN_lt {f n : Nat} (h : n < 128) : varN f n = [toU8 (n : Int)] := by
  cases f with
  | zero => rfl
  | succ f => rw [varN, decide_eq_true h]; rfl
theorem varN_ge {f n : Nat} (h : 128 ≤ n) : varN (f + 1) n = toU8 ((128 + n % 128 : Nat) : Int) :: varN f (n / 128) := by
  rw [varN, decide_eq_false (by omega)]; rfl
/-- a loop that takes seven bits at a time -/
theorem var_loop {body : Int × List UInt8 → Option (Ctl (Int × List UInt8) (Ctl (Int × List UInt8) (List UInt8)))}
    (h1 : ∀ (n : Nat) (out : List UInt8), 128 ≤ n → n < 562949953421312 → out.length ≤ 100 → body ((n : Int), out) = some (.go (((n / 128 : Nat) : Int), out ++ [toU8 ((128 + n % 128 : Nat) : Int)])))
    (h2 : ∀ (n : Nat) (out : List UInt8), n < 128 → body ((n : Int), out) = some (.done (.go ((n : Int), out)))) :
    ∀ (f n : Nat) (out : List UInt8), n < 128 ^ (f + 1) → n < 562949953421312 → out.length + f ≤ 100 → ∃ (m : Nat) (out' : List UInt8), loopO body ((n : Int), out) = some (.go ((m : Int), out')) ∧ out' ++ [toU8 (m : Int)] = out ++ varN f n ∧ out'.length ≤ 100 := by
  intro f
  induction f with
  | zero =>
    intro n out hn _ ho
    have hn' : n < 128 := by simpa using hn
    exact ⟨n, out, by rw [loopO_eq, h2 n out hn'], by rw [varN_lt hn'], by omega⟩
  | succ f ih =>
    intro n out hn hb ho
    by_cases h : n < 128
    · exact ⟨n, out, by rw [loopO_eq, h2 n out h], by rw [varN_lt h], by omega⟩
    · have hn2 : n / 128 < 128 ^ (f + 1) := by
        rw [Nat.div_lt_iff_lt_mul (by decide)]
        rw [Nat.pow_succ] at hn
        exact hn
      obtain ⟨m, out', e1, e2, e3⟩ := ih (n / 128) (out ++ [toU8 ((128 + n % 128 : Nat) : Int)]) hn2 (by omega) (by simp; omega)
      refine ⟨m, out', ?_, ?_, e3⟩
      · rw [loopO_eq, h1 n out (by omega) hb (by omega)]
        exact e1
      · rw [e2, varN_ge (by omega), List.append_assoc]; rfl
def varV (n : Int) : List UInt8 := bif decide (0 ≤ n ∧ n ≤ 562949953421311) then varN 6 n.toNat else []
theorem or128 (m : Nat) (h : m < 128) : 128 ||| m = 128 + m := by
  have := Nat.two_pow_add_eq_or_of_lt (i := 7) (b := m) h 1
  rw [show 2 ^ 7 * 1 = 128 from rfl] at this
  exact this.symm
/-- the number that bytes of seven bits come to -/
def numV : List UInt8 → Nat
  | [] => 0
  | x :: l => x.toNat % 128 + 128 * numV l
theorem numV_lt : ∀ (l : List UInt8), numV l < 128 ^ l.length
  | [] => by decide
  | x :: l => by
    have := numV_lt l
    have hx : x.toNat % 128 < 128 := Nat.mod_lt _ (by decide)
    rw [numV, List.length_cons, Nat.pow_succ]
    omega
theorem numV_snoc : ∀ (l : List UInt8) (x : UInt8), numV (l ++ [x]) = numV l + 128 ^ l.length * (x.toNat % 128)
  | [], x => by simp [numV]
  | y :: l, x => by
    rw [List.cons_append, numV, numV, numV_snoc l x, List.length_cons, Nat.pow_succ, Nat.mul_add, Nat.mul_comm (128 ^ l.length) 128, Nat.mul_assoc]
    omega
/-- reading: the number and how many bytes -/
def readN : Nat → List UInt8 → Option (Nat × Nat)
  | 0, _ => none
  | _ + 1, [] => none
  | f + 1, x :: l => bif decide (x.toNat < 128) then some (x.toNat, 1) else match readN f l with
    | some (m, k) => bif decide (m = 0) then none else some (x.toNat % 128 + 128 * m, k + 1)
    | none => none
theorem toU8_toNat (n : Nat) : (toU8 (n : Int)).toNat = n % 256 := by
  unfold toU8
  rw [UInt8.toNat_ofNat']
  omega
theorem toU8_of (x : UInt8) : toU8 ((x.toNat : Nat) : Int) = x := by
  have := x.toNat_lt
  apply UInt8.toNat_inj.1
  rw [toU8_toNat]
  omega
/-- a beginning that is the form of its number -/
def goodV (l : List UInt8) : Prop := ∃ f, l.length ≤ f + 1 ∧ varN f (numV l) = l
theorem varN_more : ∀ (f g n : Nat), n < 128 ^ (f + 1) → n < 128 ^ (g + 1) → varN f n = varN g n
  | f, g, n, h1, h2 => by
    by_cases h : n < 128
    · rw [varN_lt h, varN_lt h]
    · cases f with
      | zero => simp at h1; omega
      | succ f =>
        cases g with
        | zero => simp at h2; omega
        | succ g =>
          rw [varN_ge (by omega), varN_ge (by omega), varN_more f g (n / 128) ?_ ?_]
          · rw [Nat.div_lt_iff_lt_mul (by decide)]; rw [Nat.pow_succ] at h1; exact h1
          · rw [Nat.div_lt_iff_lt_mul (by decide)]; rw [Nat.pow_succ] at h2; exact h2
theorem take_ne {α : Type} {l : List α} {j : Nat} (h1 : 1 ≤ j) (h2 : j ≤ l.length) : l.take j ≠ [] := by
  intro e
  have := congrArg List.length e
  rw [List.length_take, List.length_nil] at this
  omega
theorem good_one (f : Nat) (x : UInt8) : varN f (numV [x]) = [x] ↔ x.toNat < 128 := by
  have hx : x.toNat % 128 < 128 := Nat.mod_lt _ (by decide)
  rw [show numV [x] = x.toNat % 128 by simp [numV], varN_lt hx]
  constructor
  · intro h
    have h2 : toU8 ((x.toNat % 128 : Nat) : Int) = x := by simpa using h
    have h3 := congrArg UInt8.toNat h2
    rw [toU8_toNat] at h3
    omega
  · intro h
    rw [Nat.mod_eq_of_lt h, toU8_of]
theorem good_more (f : Nat) (x : UInt8) (l : List UInt8) (hl : l ≠ []) : varN (f + 1) (numV (x :: l)) = x :: l ↔ 128 ≤ x.toNat ∧ numV l ≠ 0 ∧ varN f (numV l) = l := by
  have hx : x.toNat % 128 < 128 := Nat.mod_lt _ (by decide)
  have hx2 := x.toNat_lt
  have hm : (x.toNat % 128 + 128 * numV l) % 128 = x.toNat % 128 := by omega
  have hd : (x.toNat % 128 + 128 * numV l) / 128 = numV l := by omega
  by_cases h0 : numV l = 0
  · rw [numV, h0, varN_lt (by omega)]
    constructor
    · intro h
      have : [] = l := by simpa using (List.cons.inj h).2
      exact absurd this.symm hl
    · rintro ⟨_, h, _⟩
      exact absurd rfl h
  · rw [numV, varN_ge (by omega), hm, hd]
    constructor
    · intro h
      obtain ⟨h1, h2⟩ := List.cons.inj h
      have h3 := congrArg UInt8.toNat h1
      rw [toU8_toNat] at h3
      exact ⟨by omega, h0, h2⟩
    · rintro ⟨h1, _, h2⟩
      rw [h2, show 128 + x.toNat % 128 = x.toNat by omega, toU8_of]
theorem readN_some : ∀ (f : Nat) (s : List UInt8) (n k : Nat), readN f s = some (n, k) → 1 ≤ k ∧ k ≤ f ∧ k ≤ s.length ∧ n = numV (s.take k) ∧ varN (f - 1) n = s.take k ∧ ∀ g j, 1 ≤ j → j ≤ g + 1 → j ≤ s.length → varN g (numV (s.take j)) = s.take j → j = k
  | 0, s, n, k, h => by cases h
  | f + 1, [], n, k, h => by cases h
  | f + 1, x :: l, n, k, h => by
    rw [readN] at h
    by_cases hx : x.toNat < 128
    · rw [decide_eq_true hx] at h
      simp only [cond_true, Option.some.injEq, Prod.mk.injEq] at h
      obtain ⟨rfl, rfl⟩ := h
      have hm : x.toNat % 128 = x.toNat := Nat.mod_eq_of_lt hx
      refine ⟨Nat.le_refl _, by omega, by simp, by simp [numV, hm], ?_, fun g j hj1 hjg hjl he => ?_⟩
      · have := (good_one (f + 1 - 1) x).2 hx
        rw [show numV [x] = x.toNat by simp [numV, hm]] at this
        exact this
      · cases j with
        | zero => omega
        | succ j =>
          cases j with
          | zero => rfl
          | succ j =>
            cases g with
            | zero => omega
            | succ g =>
              rw [List.take_succ_cons] at he
              have := (good_more g x (l.take (j + 1)) (take_ne (by omega) (by rw [List.length_cons] at hjl; omega))).1 he
              omega
    · rw [decide_eq_false hx] at h
      simp only [cond_false] at h
      cases hr : readN f l with
      | none => rw [hr] at h; cases h
      | some p =>
        obtain ⟨m, k'⟩ := p
        rw [hr] at h
        simp only at h
        by_cases hm : m = 0
        · rw [decide_eq_true hm] at h; cases h
        · rw [decide_eq_false hm] at h
          simp only [cond_false, Option.some.injEq, Prod.mk.injEq] at h
          obtain ⟨rfl, rfl⟩ := h
          obtain ⟨h1, h2, h3, h4, h5, h6⟩ := readN_some f l m k' hr
          have hne : l.take k' ≠ [] := take_ne h1 h3
          refine ⟨by omega, by omega, by simp; omega, by rw [List.take_succ_cons, numV, ← h4], ?_, fun g j hj1 hjg hjl he => ?_⟩
          · rw [List.take_succ_cons, Nat.add_sub_cancel]
            obtain ⟨f', rfl⟩ : ∃ f', f = f' + 1 := ⟨f - 1, by omega⟩
            rw [Nat.add_sub_cancel] at h5
            have := (good_more f' x (l.take k') hne).2 ⟨by omega, by rw [← h4]; exact hm, by rw [← h4]; exact h5⟩
            rw [numV, ← h4] at this
            exact this
          · cases j with
            | zero => omega
            | succ j =>
              cases j with
              | zero =>
                rw [List.take_succ_cons, List.take_zero] at he
                exact absurd ((good_one g x).1 he) hx
              | succ j =>
                cases g with
                | zero => omega
                | succ g =>
                  rw [List.take_succ_cons] at he
                  have hjl' : j + 1 ≤ l.length := by simp at hjl; omega
                  have := (good_more g x (l.take (j + 1)) (take_ne (by omega) hjl')).1 he
                  have := h6 g (j + 1) (by omega) (by omega) hjl' this.2.2
                  omega
theorem readN_none : ∀ (f : Nat) (s : List UInt8), readN f s = none → ∀ g j, 1 ≤ j → j ≤ f → j ≤ g + 1 → j ≤ s.length → varN g (numV (s.take j)) ≠ s.take j
  | 0, s, h => fun g j h1 h2 => by omega
  | f + 1, [], h => fun g j h1 h2 h3 h4 => by simp at h4; omega
  | f + 1, x :: l, h => by
    intro g j hj1 hjf hjg hjl he
    rw [readN] at h
    by_cases hx : x.toNat < 128
    · rw [decide_eq_true hx] at h; cases h
    · rw [decide_eq_false hx] at h
      simp only [cond_false] at h
      cases j with
      | zero => omega
      | succ j =>
        cases j with
        | zero =>
          rw [List.take_succ_cons, List.take_zero] at he
          exact hx ((good_one g x).1 he)
        | succ j =>
          cases g with
          | zero => omega
          | succ g =>
            rw [List.take_succ_cons] at he
            have hjl' : j + 1 ≤ l.length := by simp at hjl; omega
            obtain ⟨q1, q2, q3⟩ := (good_more g x (l.take (j + 1)) (take_ne (by omega) hjl')).1 he
            cases hr : readN f l with
            | none => exact readN_none f l hr g (j + 1) (by omega) (by omega) (by omega) hjl' q3
            | some p =>
              obtain ⟨m, k'⟩ := p
              rw [hr] at h
              simp only at h
              by_cases hm : m = 0
              · obtain ⟨h1, h2, h3, h4, h5, h6⟩ := readN_some f l m k' hr
                have := h6 g (j + 1) (by omega) (by omega) hjl' q3
                rw [← this] at h4
                exact q2 (by rw [← h4]; exact hm)
              · rw [decide_eq_false hm] at h; cases h
def readR : Option (Nat × Nat) → Int × Int
  | some (n, k) => ((n : Int), (k : Int))
  | none => (0, 0)
/-- reading of what comes behind i bytes -/
def readI (n i : Nat) : Option (Nat × Nat) → Int × Int
  | some (m, k) => bif decide (m = 0 ∧ 0 < i) then (0, 0) else (((n + 128 ^ i * m : Nat) : Int), ((i + k : Nat) : Int))
  | none => (0, 0)
theorem readI_zero (p : Option (Nat × Nat)) : readI 0 0 p = readR p := by
  cases p with
  | none => rfl
  | some p => simp [readI, readR]
theorem readI_step (n i f : Nat) (x : UInt8) (l : List UInt8) (hx : ¬ x.toNat < 128) : readI n i (readN (f + 1) (x :: l)) = readI (n + 128 ^ i * (x.toNat % 128)) (i + 1) (readN f l) := by
  rw [readN, decide_eq_false hx]
  simp only [cond_false]
  cases readN f l with
  | none => rfl
  | some p =>
    obtain ⟨m, k⟩ := p
    simp only
    by_cases hm : m = 0
    · simp [hm, readI]
    · rw [decide_eq_false hm]
      simp only [cond_false, readI]
      rw [decide_eq_false (by omega), decide_eq_false (by omega)]
      simp only [cond_false]
      have e : n + 128 ^ i * (x.toNat % 128 + 128 * m) = n + 128 ^ i * (x.toNat % 128) + 128 ^ i * 128 * m := by rw [Nat.mul_add, Nat.mul_assoc, Nat.add_assoc]
      rw [Nat.pow_succ, e, show i + (k + 1) = i + 1 + k by omega]
theorem or_add (n d i : Nat) (h : n < 2 ^ (7 * i)) : n ||| d * 2 ^ (7 * i) = n + 2 ^ (7 * i) * d := by
  rw [Nat.or_comm, Nat.mul_comm, ← Nat.two_pow_add_eq_or_of_lt h]
  omega
theorem pow128 (i : Nat) : 128 ^ i = 2 ^ (7 * i) := by rw [Nat.pow_mul]
theorem ssub_nat (s : List UInt8) (a b : Nat) (h1 : a ≤ b) (h2 : b ≤ s.length) : ssub s (a : Int) (b : Int) = some ((s.drop a).take (b - a)) := by
  unfold ssub
  rw [if_pos ⟨by omega, by omega, by omega⟩, Int.toNat_natCast, Int.toNat_natCast]
theorem ssub_end (s : List UInt8) (a : Nat) (h : a ≤ s.length) : ssub s (a : Int) (s.length : Int) = some (s.drop a) := by
  rw [ssub_nat s a s.length h (Nat.le_refl _), List.take_of_length_le (by simp)]
theorem num_loop {ρ : Type} (s : List UInt8) (k : Nat) (h1 : 1 ≤ k) (h7 : k ≤ 7) (hk : k ≤ s.length) :
    loopO (ρ := Ctl Int ρ) (fun (S9 : Int × Int) => if (decide (S9.2 ≥ (0 : Int))) = true then ((sidx s S9.2).bind fun E14 =>
  some (.go (IntKind.i64.wrap (IntKind.i64.wrap (S9.1 * (128 : Int)) + (Int.tmod (IntKind.i64.wrap ((E14.toNat : Nat) : Int)) (128 : Int))), IntKind.i64.wrap (S9.2 - (1 : Int)))))
  else (some (.done (.go S9.1))))
  ((0 : Int), (k : Int) - 1) = some (.go (numV (s.take k) : Int)) := by
  have hlen : (s.take k).length = k := by rw [List.length_take]; omega
  rw [loopO_count (fun t => ((numV ((s.take k).drop (k - t)) : Int), (k : Int) - 1 - (t : Int))) k (r := Ctl.go (numV (s.take k) : Int)) ?h0]
  case h0 => rw [show k - 0 = k by omega, List.drop_of_length_le (by omega)]; simp [numV]
  · intro t ht
    have hi : (k : Int) - 1 - (t : Int) = ((k - 1 - t : Nat) : Int) := by omega
    have hd : (s.take k).drop (k - (t + 1)) = s[k - 1 - t] :: (s.take k).drop (k - t) := by
      rw [show k - (t + 1) = k - 1 - t by omega, List.drop_eq_getElem_cons (by omega), List.getElem_take]
      rw [show k - 1 - t + 1 = k - t by omega]
    have hx := (s[k - 1 - t]).toNat_lt
    have hn := numV_lt ((s.take k).drop (k - t))
    have hl : ((s.take k).drop (k - t)).length = t := by rw [List.length_drop, hlen]; omega
    rw [hl] at hn
    have hp : 128 ^ t ≤ 128 ^ 6 := Nat.pow_le_pow_right (by decide) (by omega)
    have hm : Int.tmod (((s[k - 1 - t]).toNat : Nat) : Int) (128 : Int) = (((s[k - 1 - t]).toNat % 128 : Nat) : Int) := by rw [show (128 : Int) = ((128 : Nat) : Int) from rfl, ← Int.ofNat_tmod]
    simp only [hi, sidx_nat s (k - 1 - t) (by omega), Option.bind_some]
    rw [if_pos (by simp only [decide_eq_true_eq]; omega), wrap_ok (n := (((s[k - 1 - t]).toNat : Nat) : Int)) (by omega) (by omega), hm, hd, numV]
    generalize numV ((s.take k).drop (k - t)) = z at hn
    rw [wrap_ok (n := (z : Int) * 128) (by omega) (by omega), wrap_ok (by omega) (by omega), wrap_ok (by omega) (by omega)]
    congr 3
    · omega
    · omega
  · rw [if_neg (by simp only [decide_eq_true_eq]; omega)]
    simp
/-- so many numbers read from a place on -/
def l6V (s : List UInt8) : Nat → Nat → List Int × Int
  | 0, a => ([], (a : Int))
  | n + 1, a => bif decide (s.length < a) then ([], -1) else match readN 7 (s.drop a) with
    | some (x, k) => ((x : Int) :: (l6V s n (a + k)).1, (l6V s n (a + k)).2)
    | none => ([], -1)
def nonceV (kind n : Int) : List UInt8 := bif decide (0 ≤ kind ∧ kind ≤ 255) && decide (0 ≤ n ∧ n ≤ 562949953421311) then [toU8 kind, 0, 0, 0, 0] ++ fixedV n 7 else []
theorem fixedV_len (n : Int) (w : Nat) : (fixedV n w).length ≤ w := by
  unfold fixedV
  cases decide (1 ≤ (w : Int) ∧ (w : Int) ≤ 7) && (decide (0 ≤ n) && decide (n.toNat / 256 ^ (w : Int).toNat = 0))
  · simp
  · rw [cond_true, fixV_len]; simp
theorem fixedV_len7 (n : Int) (h : 0 ≤ n ∧ n ≤ 562949953421311) : (fixedV n 7).length = 7 := by
  unfold fixedV
  have h1 : n.toNat / 256 ^ (7 : Int).toNat = 0 := Nat.div_eq_of_lt (by show n.toNat < 256 ^ 7; omega)
  rw [decide_eq_true h.1, decide_eq_true h1]
  show (fixV n.toNat 7).length = 7
  exact fixV_len _ 7
theorem varN_len : ∀ (f n : Nat), (varN f n).length ≤ f + 1
  | 0, n => Nat.le_refl _
  | f + 1, n => by
    by_cases h : n < 128
    · rw [varN_lt h]; simp
    · rw [varN_ge (by omega), List.length_cons]
      have := varN_len f (n / 128)
      omega
theorem varV_len (n : Int) : (varV n).length ≤ 7 := by
  unfold varV
  cases decide (0 ≤ n ∧ n ≤ 562949953421311)
  · simp
  · exact varN_len 6 _
def mintOk (secret : List UInt8) (t e : Int) : Bool := decide (secret.length = 32) && (decide (1 ≤ t ∧ t ≤ 99) && decide (0 ≤ e ∧ e ≤ 1000000))
theorem mintOk_iff {secret : List UInt8} {t e : Int} (h : mintOk secret t e = true) : secret.length = 32 ∧ (1 ≤ t ∧ t ≤ 99) ∧ 0 ≤ e ∧ e ≤ 1000000 := by
  unfold mintOk at h
  simp only [Bool.and_eq_true, decide_eq_true_eq] at h
  exact h
theorem readN_var {s : List UInt8} {n k : Nat} (h : readN 7 s = some (n, k)) : varV (n : Int) = s.take k ∧ k ≤ s.length ∧ 1 ≤ k ∧ k ≤ 7 := by
  obtain ⟨h1, h2, h3, h4, h5, _⟩ := readN_some 7 s n k h
  have hn := numV_lt (s.take k)
  rw [List.length_take, Nat.min_eq_left h3, ← h4] at hn
  have hp : 128 ^ k ≤ 128 ^ 7 := Nat.pow_le_pow_right (by decide) h2
  refine ⟨?_, h3, h1, h2⟩
  unfold varV
  rw [decide_eq_true (by omega), cond_true, Int.toNat_natCast]
  exact h5
theorem skip_eq (w tenant k t : Int) : (if (!(decide (w = (0 : Int)))) = true then (if (!(decide (w = tenant))) = true then (some true)
  else (if (decide (k = (13 : Int))) = true then (some (!(decide (t = tenant))))
  else (some false)))
  else (if (decide (k = (13 : Int))) = true then (some (!(decide (t = tenant))))
  else (some false))) = some ((!decide (w = 0) && !decide (w = tenant)) || (decide (k = 13) && !decide (t = tenant))) := by
  cases decide (w = 0) <;> cases decide (w = tenant) <;> cases decide (k = 13) <;> cases decide (t = tenant) <;> rfl
theorem iand32 {a b : Nat} (ha : a < 2 ^ 32) (hb : b < 2 ^ 32) : iand .u32 (a : Int) (b : Int) = ((a &&& b : Nat) : Int) := by
  unfold iand
  have h1 : a &&& b ≤ a := Nat.and_le_left
  have e : (BitVec.ofInt IntKind.u32.bits (a : Int) &&& BitVec.ofInt IntKind.u32.bits (b : Int)).toNat = a &&& b := by
    show (BitVec.ofInt 32 (a : Int) &&& BitVec.ofInt 32 (b : Int)).toNat = a &&& b
    rw [BitVec.ofInt_natCast, BitVec.ofInt_natCast, BitVec.toNat_and, BitVec.toNat_ofNat, BitVec.toNat_ofNat, Nat.mod_eq_of_lt (by omega), Nat.mod_eq_of_lt (by omega)]
  rw [e, wrap32]
  omega
/-- a step of the checksum -/
def crcS (c : Nat) : Nat := bif decide (c % 2 = 1) then (c / 2) ^^^ 2197175160 else c / 2
theorem crcS_lt {c : Nat} (h : c < 2 ^ 32) : crcS c < 2 ^ 32 := by
  unfold crcS
  have h2 : c / 2 < 2 ^ 32 := by omega
  cases decide (c % 2 = 1)
  · exact h2
  · exact Nat.xor_lt_two_pow h2 (by decide)
def crcR : Nat → Nat → Nat
  | 0, c => c
  | k + 1, c => crcS (crcR k c)
theorem crcR_lt {c : Nat} (h : c < 2 ^ 32) : ∀ k, crcR k c < 2 ^ 32
  | 0 => h
  | k + 1 => crcS_lt (crcR_lt h k)
def crcN (s : List UInt8) : Nat → Nat
  | 0 => 4294967295
  | k + 1 => match s[k]? with
    | some x => crcR 8 (crcN s k ^^^ x.toNat)
    | none => crcN s k
theorem crcN_succ (s : List UInt8) (k : Nat) (h : k < s.length) : crcN s (k + 1) = crcR 8 (crcN s k ^^^ s[k].toNat) := by
  show (match s[k]? with | some x => _ | none => _) = _
  rw [List.getElem?_eq_getElem h]
theorem byte_lt (x : UInt8) : x.toNat < 2 ^ 32 := by have := x.toNat_lt; omega
theorem crcN_lt (s : List UInt8) : ∀ k, k ≤ s.length → crcN s k < 2 ^ 32
  | 0, _ => by show 4294967295 < 2 ^ 32; decide
  | k + 1, h => by rw [crcN_succ s k (by omega)]; exact crcR_lt (Nat.xor_lt_two_pow (crcN_lt s k (by omega)) (byte_lt _)) 8
def crcV (s : List UInt8) : Int := 4294967295 - (crcN s s.length : Int)
theorem crcV_range (s : List UInt8) : 0 ≤ crcV s ∧ crcV s ≤ 4294967295 := by
  have := crcN_lt s s.length (Nat.le_refl _)
  unfold crcV
  omega
/-- an edit as required -/
def numV1 (n : Int) : Bool := decide (0 ≤ n ∧ n ≤ 1000000)
theorem passes {ρ α : Type} (l : List α) (p : α → Bool) (body : Int → Option (Ctl Int (Ctl Unit Bool))) (h : ∀ k (hk : k < l.length), body (k : Int) = some (if p l[k] = true then .go ((k : Int) + 1) else .done (.done false))) (hn : body (l.length : Int) = some (.done (.go ()))) :
    loopO body 0 = some (if l.all p = true then .go () else .done false) := by
  rw [loopO_is (fun k s => s = (k : Int) ∧ l.all p = (l.drop k).all p) l.length (if l.all p = true then Ctl.go () else Ctl.done false) ?h0 ?h1 ?h2]
  case h0 => exact ⟨rfl, rfl⟩
  · rintro k s hk ⟨rfl, he⟩
    rw [h k hk, he, List.drop_eq_getElem_cons hk, List.all_cons]
    cases p l[k] with
    | false => right; rfl
    | true => left; exact ⟨(k : Int) + 1, rfl, by omega, by simp⟩
  · rintro s ⟨rfl, he⟩
    rw [he, List.drop_length, hn]
    rfl
theorem lens_eq (a b : Nat) : (if (decide ((a : Int) > (12 : Int))) = true then (some true) else (some (decide ((b : Int) > (12 : Int))))) = some (!(decide (a ≤ 12) && decide (b ≤ 12))) := by
  by_cases h : a ≤ 12
  · rw [decide_eq_true h, decide_eq_false (by omega : ¬ (a : Int) > 12)]
    by_cases h2 : b ≤ 12
    · rw [decide_eq_true h2, decide_eq_false (by omega : ¬ (b : Int) > 12)]; rfl
    · rw [decide_eq_false h2, decide_eq_true (by omega : (b : Int) > 12)]; rfl
  · rw [decide_eq_false h, decide_eq_true (by omega : (a : Int) > 12)]; rfl
/-- a string behind its length -/
def pieceV (s : List UInt8) : List UInt8 := varV (s.length : Int) ++ s
theorem pieceV_len (s : List UInt8) : (pieceV s).length ≤ 7 + s.length := by
  have := varV_len (s.length : Int)
  unfold pieceV
  rw [List.length_append]; omega
theorem flat_len {α : Type} (g : α → List UInt8) (m : Nat) : ∀ (l : List α), (∀ x ∈ l, (g x).length ≤ m) → (l.flatMap g).length ≤ m * l.length
  | [], _ => by simp
  | x :: l, h => by
    have h1 := h x (by simp)
    have h2 := flat_len g m l fun y hy => h y (by simp [hy])
    rw [List.flatMap_cons, List.length_append, List.length_cons, Nat.mul_succ]
    omega
theorem flat_take {α : Type} (g : α → List UInt8) (l : List α) (k : Nat) (h : k < l.length) : (l.take (k + 1)).flatMap g = (l.take k).flatMap g ++ g l[k] := by
  rw [List.take_add_one, List.getElem?_eq_getElem h, List.flatMap_append]
  simp
theorem flat_take_len {α : Type} (g : α → List UInt8) (m : Nat) (l : List α) (k : Nat) (h : ∀ x ∈ l, (g x).length ≤ m) : ((l.take k).flatMap g).length ≤ m * l.length := by
  have h1 := flat_len g m (l.take k) fun x hx => h x (List.mem_of_mem_take hx)
  have h2 : m * (l.take k).length ≤ m * l.length := Nat.mul_le_mul_left _ (by simp; omega)
  omega
theorem varN_ne (f n : Nat) : varN f n ≠ [] := by
  by_cases h : n < 128
  · rw [varN_lt h]; simp
  · cases f with
    | zero => simp [varN]
    | succ f => rw [varN_ge (by omega)]; simp
theorem varV_ne {n : Int} (h : 0 ≤ n ∧ n ≤ 562949953421311) : varV n ≠ [] := by
  unfold varV
  rw [decide_eq_true h]
  exact varN_ne 6 _
theorem readN_enc : ∀ (f n : Nat) (rest : List UInt8), n < 128 ^ (f + 1) → readN (f + 1) (varN f n ++ rest) = some (n, (varN f n).length)
  | 0, n, rest, h => by
    have hn : n < 128 := by simpa using h
    rw [varN_lt hn]
    show readN 1 (toU8 (n : Int) :: rest) = _
    rw [readN, toU8_toNat, Nat.mod_eq_of_lt (by omega), decide_eq_true hn]
    rfl
  | f + 1, n, rest, h => by
    by_cases hn : n < 128
    · rw [varN_lt hn]
      show readN (f + 2) (toU8 (n : Int) :: rest) = _
      rw [readN, toU8_toNat, Nat.mod_eq_of_lt (by omega), decide_eq_true hn]
      rfl
    · have h2 : n / 128 < 128 ^ (f + 1) := by
        rw [Nat.div_lt_iff_lt_mul (by decide)]; rw [Nat.pow_succ] at h; exact h
      rw [varN_ge (by omega), List.cons_append, readN, toU8_toNat, Nat.mod_eq_of_lt (by omega), decide_eq_false (by omega), readN_enc f (n / 128) rest h2]
      simp only [cond_false]
      rw [decide_eq_false (by omega)]
      simp only [cond_false, List.length_cons]
      congr 2
      omega
theorem readV_enc (n : Int) (h : 0 ≤ n ∧ n ≤ 562949953421311) (rest : List UInt8) : readN 7 (varV n ++ rest) = some (n.toNat, (varV n).length) := by
  unfold varV
  rw [decide_eq_true h]
  exact readN_enc 6 n.toNat rest (by show n.toNat < 562949953421312; omega)
theorem readN_range {s : List UInt8} {n k : Nat} (h : readN 7 s = some (n, k)) : n < 562949953421312 ∧ 1 ≤ k ∧ k ≤ s.length := by
  obtain ⟨h1, h2, h3, h4, _, _⟩ := readN_some 7 s n k h
  have hn := numV_lt (s.take k)
  rw [List.length_take, Nat.min_eq_left h3, ← h4] at hn
  have hp : 128 ^ k ≤ 128 ^ 7 := Nat.pow_le_pow_right (by decide) h2
  exact ⟨Nat.lt_of_lt_of_le hn hp, h1, h3⟩
/-- a number read on -/
def rdN (t : List UInt8) (a : Nat) (bad : Bool) : Int × Nat × Bool := bif bad then (0, a, true) else match readN 7 (t.drop a) with
  | none => (0, a, true)
  | some (x, k) => ((x : Int), a + k, false)
theorem rdN_range (t : List UInt8) (a : Nat) (bad : Bool) (h : a ≤ t.length) : (0 ≤ (rdN t a bad).1 ∧ (rdN t a bad).1 ≤ 562949953421311) ∧ (rdN t a bad).2.1 ≤ t.length ∧ ((rdN t a bad).2.2 = false → bad = false ∧ a < (rdN t a bad).2.1) := by
  unfold rdN
  cases bad with
  | true => exact ⟨⟨by simp, by simp⟩, h, fun e => by cases e⟩
  | false =>
    simp only [cond_false]
    cases hr : readN 7 (t.drop a) with
    | none => exact ⟨⟨by simp, by simp⟩, h, fun e => by cases e⟩
    | some p =>
      obtain ⟨x, k⟩ := p
      obtain ⟨h1, h2, h3⟩ := readN_range hr
      rw [List.length_drop] at h3
      refine ⟨⟨by simp, by simp only; omega⟩, by simp only; omega, fun _ => ?_⟩
      exact ⟨trivial, show a < a + k by omega⟩
/-- bytes read on -/
def rdB (t : List UInt8) (a : Nat) (bad : Bool) (n : Int) : List UInt8 × Nat × Bool := bif bad || decide (t.length < a + n.toNat) then ([], a, true) else ((t.drop a).take n.toNat, a + n.toNat, false)
theorem rdB_range (t : List UInt8) (a : Nat) (bad : Bool) (n : Int) (h : a ≤ t.length) : (rdB t a bad n).2.1 ≤ t.length ∧ a ≤ (rdB t a bad n).2.1 ∧ ((rdB t a bad n).2.2 = false → bad = false) := by
  unfold rdB
  cases bad with
  | true => exact ⟨h, Nat.le_refl _, fun e => by cases e⟩
  | false =>
    by_cases c : t.length < a + n.toNat
    · rw [decide_eq_true c]; exact ⟨h, Nat.le_refl _, fun e => by cases e⟩
    · rw [decide_eq_false c]; exact ⟨by simp only [Bool.or_self, cond_false]; omega, by simp, fun _ => rfl⟩
def rdS (t : List UInt8) (a : Nat) (bad : Bool) : List UInt8 × Nat × Bool := rdB t (rdN t a bad).2.1 (rdN t a bad).2.2 (rdN t a bad).1
theorem rdS_range (t : List UInt8) (a : Nat) (bad : Bool) (h : a ≤ t.length) : (rdS t a bad).2.1 ≤ t.length ∧ ((rdS t a bad).2.2 = false → bad = false ∧ a < (rdS t a bad).2.1) := by
  obtain ⟨h1, h2, h3⟩ := rdN_range t a bad h
  obtain ⟨h4, h5, h6⟩ := rdB_range t (rdN t a bad).2.1 (rdN t a bad).2.2 (rdN t a bad).1 h2
  unfold rdS
  refine ⟨h4, fun e => ?_⟩
  obtain ⟨h7, h8⟩ := h3 (h6 e)
  exact ⟨h7, by omega⟩
/-- items read on, as many as are said, up to one that is bad -/
def itemsI {α : Type} (g : Nat → α × Nat × Bool) : Nat → Nat → Bool → Int → List α → Nat × Bool × List α
  | 0, a, bad, _, out => (a, bad, out)
  | f + 1, a, bad, n, out => bif decide (n > 0) && !bad then itemsI g f (g a).2.1 (g a).2.2 (n - 1) (out ++ [(g a).1]) else (a, bad, out)
theorem items_loop {α ρ : Type} (t : List UInt8) (g : Nat → α × Nat × Bool) (body : List UInt8 × Int × Bool × Int × List α → Option (Ctl (List UInt8 × Int × Bool × Int × List α) (Ctl (List UInt8 × Int × Bool × List α) ρ)))
    (hg : ∀ a, a ≤ t.length → (g a).2.1 ≤ t.length ∧ ((g a).2.2 = false → a < (g a).2.1))
    (h1 : ∀ (a : Nat) (n : Int) (out : List α), a ≤ t.length → 0 < n → n ≤ 562949953421311 → out.length ≤ 4194304 → body (t, (a : Int), false, n, out) = some (.go (t, ((g a).2.1 : Int), (g a).2.2, n - 1, out ++ [(g a).1])))
    (h2 : ∀ (a : Nat) (bad : Bool) (n : Int) (out : List α), n ≤ 0 ∨ bad = true → body (t, (a : Int), bad, n, out) = some (.done (.go (t, (a : Int), bad, out)))) :
    ∀ (f a : Nat) (bad : Bool) (n : Int) (out : List α), a ≤ t.length → n ≤ 562949953421311 → (bad = true ∨ t.length - a + 1 ≤ f) → out.length + f ≤ 4194304 →
      loopO body (t, (a : Int), bad, n, out) = some (.go (t, ((itemsI g (f + 1) a bad n out).1 : Int), (itemsI g (f + 1) a bad n out).2.1, (itemsI g (f + 1) a bad n out).2.2)) := by
  intro f
  induction f with
  | zero =>
    intro a bad n out ha hn hf ho
    obtain rfl : bad = true := by rcases hf with h | h; exact h; omega
    rw [loopO_eq, h2 a true n out (.inr rfl)]
    simp [itemsI]
  | succ f ih =>
    intro a bad n out ha hn hf ho
    rw [loopO_eq]
    by_cases c : 0 < n ∧ bad = false
    · obtain ⟨c1, rfl⟩ := c
      obtain ⟨g1, g2⟩ := hg a ha
      rw [h1 a n out ha c1 hn (by omega)]
      simp only
      rw [itemsI, decide_eq_true (by omega : n > 0)]
      simp only [Bool.not_false, Bool.and_self, cond_true]
      refine ih _ _ _ _ g1 (by omega) ?_ (by simp; omega)
      cases hb : (g a).2.2 with
      | true => exact .inl rfl
      | false =>
        have := g2 hb
        rcases hf with h | h
        · cases h
        · right; omega
    · have c2 : n ≤ 0 ∨ bad = true := by
        cases bad with
        | true => exact .inr rfl
        | false => left; have : ¬ 0 < n := fun h => c ⟨h, rfl⟩; omega
      rw [h2 a bad n out c2, itemsI]
      have : (decide (n > 0) && !bad) = false := by
        rcases c2 with h | h
        · rw [decide_eq_false (by omega)]; rfl
        · rw [h]; simp
      rw [this]
      rfl
theorem itemsI_out {α : Type} (g : Nat → α × Nat × Bool) (t : List UInt8) (hg : ∀ a, a ≤ t.length → (g a).2.1 ≤ t.length ∧ ((g a).2.2 = false → a < (g a).2.1)) : ∀ (f a : Nat) (bad : Bool) (n : Int) (out : List α), a ≤ t.length → (itemsI g f a bad n out).1 ≤ t.length
  | 0, a, bad, n, out, h => h
  | f + 1, a, bad, n, out, h => by
    rw [itemsI]
    cases decide (n > 0) && !bad
    · exact h
    · exact itemsI_out g t hg f _ _ _ _ (hg a h).1
theorem drop_enc {t x rest : List UInt8} {a : Nat} (h : t.drop a = x ++ rest) : t.drop (a + x.length) = rest := by
  rw [← List.drop_drop, h, List.drop_left]
/-- .. of what was written so -/
theorem items_enc {α : Type} (g : Nat → α × Nat × Bool) (enc : α → List UInt8) (t : List UInt8) : ∀ (l : List α) (f a : Nat) (out : List α) (rest : List UInt8), (∀ x ∈ l, ∀ a rest, t.drop a = enc x ++ rest → g a = (x, a + (enc x).length, false)) →
    t.drop a = l.flatMap enc ++ rest → l.length ≤ f → itemsI g f a false (l.length : Int) out = (a + (l.flatMap enc).length, false, out ++ l)
  | [], f, a, out, rest, _, _, _ => by
    cases f with
    | zero => simp [itemsI]
    | succ f => simp [itemsI]
  | x :: l, f, a, out, rest, hg, hd, hf => by
    cases f with
    | zero => simp at hf
    | succ f =>
      have h1 : t.drop a = enc x ++ (l.flatMap enc ++ rest) := by rw [hd, List.flatMap_cons, List.append_assoc]
      rw [itemsI, hg x (by simp) a _ h1, decide_eq_true (by simp only [List.length_cons]; omega : ((x :: l).length : Int) > 0)]
      simp only [Bool.not_false, Bool.and_self, cond_true]
      rw [show (((x :: l).length : Nat) : Int) - 1 = ((l.length : Nat) : Int) by simp only [List.length_cons]; omega, items_enc g enc t l f (a + (enc x).length) (out ++ [x]) rest (fun y hy => hg y (by simp [hy])) (drop_enc h1) (by simpa using hf)]
      simp only [List.flatMap_cons, List.length_append, List.append_assoc, List.cons_append, List.nil_append, Nat.add_assoc]
theorem rdN_enc {t rest : List UInt8} {a : Nat} {n : Int} (h : t.drop a = varV n ++ rest) (hn : 0 ≤ n ∧ n ≤ 562949953421311) : rdN t a false = (n, a + (varV n).length, false) := by
  unfold rdN
  rw [h, readV_enc n hn rest]
  simp only [cond_false]
  rw [show ((n.toNat : Nat) : Int) = n by omega]
theorem rdS_enc {t rest x : List UInt8} {a : Nat} (h : t.drop a = pieceV x ++ rest) (hx : x.length ≤ 1048576) (ha : a ≤ t.length) : rdS t a false = (x, a + (pieceV x).length, false) := by
  have h1 : t.drop a = varV (x.length : Int) ++ (x ++ rest) := by rw [h]; unfold pieceV; rw [List.append_assoc]
  have h2 := drop_enc h1
  have hl := congrArg List.length h2
  rw [List.length_drop, List.length_append] at hl
  unfold rdS
  rw [rdN_enc h1 (by omega)]
  unfold rdB
  simp only [Bool.false_or, Int.toNat_natCast]
  by_cases hx0 : x.length = 0
  · have h0 : x = [] := List.eq_nil_of_length_eq_zero hx0
    have hl2 := congrArg List.length h1
    rw [List.length_drop, List.length_append] at hl2
    rw [decide_eq_false (by omega)]
    simp only [cond_false]
    subst h0
    simp [pieceV]
  · rw [decide_eq_false (by omega)]
    simp only [cond_false]
    rw [h2, List.take_left]
    simp only [pieceV, List.length_append, Nat.add_assoc]
theorem fixed4_len (n : Int) (h : 0 ≤ n ∧ n ≤ 4294967295) : (fixedV n 4).length = 4 := by
  unfold fixedV
  have h1 : n.toNat / 256 ^ (4 : Int).toNat = 0 := Nat.div_eq_of_lt (by show n.toNat < 256 ^ 4; omega)
  rw [decide_eq_true h.1, decide_eq_true h1]
  show (fixV n.toNat 4).length = 4
  exact fixV_len _ 4
/-- what the program reads -/
noncomputable def readD (t : List UInt8) : Nat × Bool × List Int := itemsI (fun a => rdN t a false) (t.length + 2) (rdN t 0 false).2.1 (rdN t 0 false).2.2 (rdN t 0 false).1 []
theorem l6V_range (s : List UInt8) : ∀ (n a : Nat), a ≤ s.length → ((l6V s n a).2 = -1 ∨ ∃ b : Nat, (l6V s n a).2 = (b : Int) ∧ b ≤ s.length ∧ (l6V s n a).1.length = n) ∧ ∀ x ∈ (l6V s n a).1, 0 ≤ x ∧ x ≤ 562949953421311
  | 0, a, h => ⟨.inr ⟨a, rfl, h, rfl⟩, fun x hx => by cases hx⟩
  | n + 1, a, h => by
    rw [l6V, decide_eq_false (by omega), cond_false]
    cases hr : readN 7 (s.drop a) with
    | none => exact ⟨.inl rfl, fun x hx => by cases hx⟩
    | some p =>
      obtain ⟨x, k⟩ := p
      obtain ⟨h1, h2, h3⟩ := readN_range hr
      rw [List.length_drop] at h3
      obtain ⟨q1, q2⟩ := l6V_range s n (a + k) (by omega)
      simp only
      refine ⟨?_, fun y hy => ?_⟩
      · rcases q1 with q | ⟨b, q3, q4, q5⟩
        · exact .inl q
        · exact .inr ⟨b, q3, q4, by rw [List.length_cons, q5]⟩
      · rcases List.mem_cons.1 hy with rfl | hy
        · omega
        · exact q2 y hy
theorem l6V_enc (s : List UInt8) : ∀ (l : List Int) (a : Nat) (rest : List UInt8), (∀ x ∈ l, 0 ≤ x ∧ x ≤ 1000000) → a ≤ s.length → s.drop a = l.flatMap varV ++ rest → l6V s l.length a = (l, ((a + (l.flatMap varV).length : Nat) : Int))
  | [], a, rest, _, _, _ => by simp [l6V]
  | x :: l, a, rest, hx, ha, h => by
    have h1 : s.drop a = varV x ++ (l.flatMap varV ++ rest) := by rw [h, List.flatMap_cons, List.append_assoc]
    have h2 := drop_enc h1
    have hx0 := hx x (by simp)
    have hl := congrArg List.length h1
    rw [List.length_drop, List.length_append] at hl
    have hb : a + (varV x).length ≤ s.length := by
      have := List.length_pos_iff.2 (varV_ne (n := x) (by omega))
      omega
    rw [List.length_cons, l6V, decide_eq_false (by omega), cond_false, h1, readV_enc x (by omega)]
    simp only
    rw [l6V_enc s l (a + (varV x).length) rest (fun y hy => hx y (by simp [hy])) hb h2]
    simp only [List.flatMap_cons, List.length_append, Nat.add_assoc]
    rw [show ((x.toNat : Nat) : Int) = x by omega]
/-- bytes behind their number -/
def takeB (s : List UInt8) (a : Nat) : List UInt8 × Int := match readN 7 (s.drop a) with
  | none => ([], -1)
  | some (x, k) => bif decide (x ≤ s.length - (a + k)) then ((s.drop (a + k)).take x, ((a + k + x : Nat) : Int)) else ([], -1)
theorem takeB_range (s : List UInt8) (a : Nat) (h : a ≤ s.length) : (takeB s a).2 = -1 ∨ ∃ b : Nat, (takeB s a).2 = (b : Int) ∧ b ≤ s.length := by
  unfold takeB
  cases hr : readN 7 (s.drop a) with
  | none => exact .inl rfl
  | some p =>
    obtain ⟨x, k⟩ := p
    obtain ⟨h1, h2, h3⟩ := readN_range hr
    rw [List.length_drop] at h3
    simp only
    by_cases c : x ≤ s.length - (a + k)
    · rw [decide_eq_true c]; exact .inr ⟨a + k + x, rfl, by omega⟩
    · rw [decide_eq_false c]; exact .inl rfl
theorem takeB_enc {s x rest : List UInt8} {a : Nat} (h : s.drop a = pieceV x ++ rest) (hx : x.length ≤ 1048576) (ha : a + (pieceV x).length ≤ s.length) : takeB s a = (x, ((a + (pieceV x).length : Nat) : Int)) := by
  have h1 : s.drop a = varV (x.length : Int) ++ (x ++ rest) := by rw [h]; unfold pieceV; rw [List.append_assoc]
  have h2 := drop_enc h1
  have hp : (pieceV x).length = (varV (x.length : Int)).length + x.length := by unfold pieceV; rw [List.length_append]
  unfold takeB
  rw [h1, readV_enc (x.length : Int) (by omega)]
  simp only [Int.toNat_natCast]
  rw [decide_eq_true (by omega)]
  simp only [cond_true]
  rw [h2, List.take_left, hp, Nat.add_assoc]
/-! draws -/
theorem iand255 (p : Int) : 0 ≤ iand .i64 p (255 : Int) ∧ iand .i64 p (255 : Int) ≤ 255 := by
  unfold iand
  have e : (BitVec.ofInt IntKind.i64.bits p &&& BitVec.ofInt IntKind.i64.bits (255 : Int)).toNat ≤ 255 := by
    show (BitVec.ofInt 64 p &&& BitVec.ofInt 64 ((255 : Nat) : Int)).toNat ≤ 255
    rw [BitVec.ofInt_natCast, BitVec.toNat_and, BitVec.toNat_ofNat]
    exact Nat.and_le_right
  generalize (BitVec.ofInt IntKind.i64.bits p &&& BitVec.ofInt IntKind.i64.bits (255 : Int)).toNat = z at e
  rw [wrap_ok (by omega) (by omega)]
  omega
theorem l1New_ok (code : List UInt8) (h : code.length ≤ 1048576) : ∃ q, spec_l1New code = some { b := code, i := 0, h := q } := by
  unfold spec_l1New
  obtain ⟨r, hr, q, rfl⟩ := loopO_total (ρ := Ctl Int L1Cur) (s0 := (IntKind.i64.wrap ((10101 : Int) + ((code.length : Nat) : Int)), (0 : Int))) (body := fun (S1 : Int × Int) => (if (decide (S1.2 < ((code.length : Nat) : Int))) = true then (some (decide (S1.2 < (4000 : Int))))
  else (some false)).bind (fun (T5 : Bool) =>
  if T5 = true then ((idx code S1.2).bind fun E9 =>
  some (.go (iand .i64 (IntKind.i64.wrap (IntKind.i64.wrap (IntKind.i64.wrap (S1.1 * (131 : Int)) + (IntKind.i64.wrap ((E9.toNat : Nat) : Int))) + (7 : Int))) (1073741823 : Int), IntKind.i64.wrap (S1.2 + (1 : Int)))))
  else (some (.done (.go S1.1))))) (fun k S => S.2 = (k : Int)) code.length (fun r => ∃ q, r = .go q) rfl (by
    rintro k ⟨p, i⟩ hk rfl
    simp only
    rw [decide_eq_true (by omega : (k : Int) < ((code.length : Nat) : Int))]
    by_cases c : (k : Int) < 4000
    · left
      rw [decide_eq_true c]
      simp only [if_true, Option.bind_some, idx_nat code k hk]
      exact ⟨_, rfl, by simp only; rw [wrap_ok (by omega) (by omega)]; omega⟩
    · right
      rw [decide_eq_false c]
      exact ⟨.go p, rfl, p, rfl⟩) (by
    rintro ⟨p, i⟩ rfl
    simp only
    rw [decide_eq_false (by omega : ¬ ((code.length : Nat) : Int) < ((code.length : Nat) : Int))]
    exact ⟨.go p, rfl, p, rfl⟩)
  rw [hr]
  exact ⟨q, rfl⟩
theorem l1Byte_ok (b : List UInt8) (i h : Int) (hi : 0 ≤ i ∧ i ≤ b.length) (hb : b.length ≤ 1048576) : ∃ x i' h', spec_l1Byte { b := b, i := i, h := h } = some (x, { b := b, i := i', h := h' }) ∧ (0 ≤ x ∧ x ≤ 255) ∧ (0 ≤ i' ∧ i' ≤ b.length) := by
  unfold spec_l1Byte
  simp only
  by_cases c : i < ((b.length : Nat) : Int)
  · rw [decide_eq_true c]
    simp only [if_true]
    rw [idx_some' hi.1 c]
    simp only [Option.bind_some, bindC_go]
    exact ⟨_, _, _, rfl, iand255 _, by rw [wrap_ok (by omega) (by omega)]; omega⟩
  · rw [decide_eq_false c]
    simp only [Bool.false_eq_true, if_false, bindC_go]
    exact ⟨_, _, _, rfl, iand255 _, hi⟩
theorem l1Below_ok (b : List UInt8) (i h n : Int) (hi : 0 ≤ i ∧ i ≤ b.length) (hb : b.length ≤ 1048576) : ∃ x i' h', spec_l1Below { b := b, i := i, h := h } n = some (x, { b := b, i := i', h := h' }) ∧ (0 ≤ x ∧ (0 < n → x < n) ∧ (n ≤ 0 → x = 0)) ∧ (0 ≤ i' ∧ i' ≤ b.length) := by
  unfold spec_l1Below
  by_cases c : n ≤ 0
  · rw [decide_eq_true c]
    simp only [if_true]
    exact ⟨_, _, _, rfl, ⟨Int.le_refl _, fun h => by omega, fun _ => rfl⟩, hi⟩
  · rw [decide_eq_false c]
    have hnz : nz n = some () := by unfold nz; rw [if_neg (by omega)]
    have hm : ∀ x : Int, 0 ≤ x → 0 ≤ Int.tmod x n ∧ Int.tmod x n < n := fun x hx => ⟨Int.tmod_nonneg _ hx, Int.tmod_lt_of_pos _ (by omega)⟩
    obtain ⟨x1, i1, h1, e1, g1, k1⟩ := l1Byte_ok b i h hi hb
    simp only [Bool.false_eq_true, if_false, e1, Option.bind_some, hnz]
    by_cases c2 : n ≤ 256
    · rw [decide_eq_true c2]
      simp only [if_true]
      have := hm x1 g1.1
      exact ⟨_, _, _, rfl, ⟨this.1, fun _ => this.2, fun h => by omega⟩, k1⟩
    · rw [decide_eq_false c2]
      simp only [Bool.false_eq_true, if_false]
      obtain ⟨x2, i2, h2, e2, g2, k2⟩ := l1Byte_ok b i1 h1 k1 hb
      simp only [e2, Option.bind_some]
      obtain ⟨x3, i3, h3, e3, g3, k3⟩ := l1Byte_ok b i2 h2 k2 hb
      simp only [e3, Option.bind_some]
      obtain ⟨x4, i4, h4, e4, g4, k4⟩ := l1Byte_ok b i3 h3 k3 hb
      simp only [e4, Option.bind_some]
      rw [wrap_ok (n := x1 * 16777216) (by omega) (by omega), wrap_ok (n := x2 * 65536) (by omega) (by omega), wrap_ok (n := x1 * 16777216 + x2 * 65536) (by omega) (by omega), wrap_ok (n := x3 * 256) (by omega) (by omega), wrap_ok (n := x1 * 16777216 + x2 * 65536 + x3 * 256) (by omega) (by omega), wrap_ok (by omega) (by omega)]
      have := hm (x1 * 16777216 + x2 * 65536 + x3 * 256 + x4) (by omega)
      exact ⟨_, _, _, rfl, ⟨this.1, fun _ => this.2, fun h => by omega⟩, k4⟩
theorem l1Once_ok (b : List UInt8) (i h n : Int) (hi : 0 ≤ i ∧ i ≤ b.length) (hb : b.length ≤ 1048576) : ∃ x i' h', spec_l1Once { b := b, i := i, h := h } n = some (x, { b := b, i := i', h := h' }) ∧ (0 ≤ i' ∧ i' ≤ b.length) := by
  unfold spec_l1Once
  obtain ⟨x, i1, h1, e, _, k⟩ := l1Below_ok b i h n hi hb
  simp only [e, Option.bind_some]
  exact ⟨_, _, _, rfl, k⟩
theorem l1PickInt_ok (b : List UInt8) (i h : Int) (l : List Int) (hl : l ≠ []) (hi : 0 ≤ i ∧ i ≤ b.length) (hb : b.length ≤ 1048576) : ∃ x i' h', spec_l1PickInt { b := b, i := i, h := h } l = some (x, { b := b, i := i', h := h' }) ∧ x ∈ l ∧ (0 ≤ i' ∧ i' ≤ b.length) := by
  unfold spec_l1PickInt
  have hp := List.length_pos_iff.2 hl
  obtain ⟨x, i1, h1, e, g, k⟩ := l1Below_ok b i h ((l.length : Nat) : Int) hi hb
  simp only [e, Option.bind_some]
  rw [idx_some' g.1 (g.2.1 (by omega))]
  simp only [Option.bind_some]
  exact ⟨_, _, _, rfl, List.getElem_mem _, k⟩
theorem big_eq (code : List UInt8) : laws_big code = some (decide (((code.length : Nat) : Int) > 1048576)) := rfl

theorem xor_ne (p q : UInt8) (h : q ≠ 0) : p ^^^ q ≠ p := by
  intro e
  apply h
  have := congrArg (fun z => p ^^^ z) e
  simp only [← UInt8.xor_assoc, UInt8.xor_self, UInt8.zero_xor] at this
  exact this
theorem sameInts_eq (a b : List Int) (h : a.length ≤ 1048576) : laws_sameInts a b = some (decide (a = b)) := by
  unfold laws_sameInts
  have := eqS_of a b (fun x y => some (decide (x = y))) (fun _ _ _ _ => rfl) (by omega)
  simp only [Option.bind_some] at this
  exact this
def okS (l : List Int) : Bool := decide (1 ≤ l.length ∧ l.length ≤ 40) && l.all fun x => decide (0 ≤ x ∧ x ≤ 99)
theorem okS_iff {l : List Int} : okS l = true ↔ (1 ≤ l.length ∧ l.length ≤ 40) ∧ ∀ x ∈ l, 0 ≤ x ∧ x ≤ 99 := by
  unfold okS
  simp only [Bool.and_eq_true, decide_eq_true_eq, List.all_eq_true]
theorem spec_SpaceOf_eq (s : Space) (who : Int) (h : s.Owner.length ≤ 1048576) : spec_SpaceOf s who = some (if okS s.Owner = true then ((s.Owner.countP fun x => decide (x = who) : Nat) : Int) else 0) := by
  have hS : spec_SpaceOk s = some (okS s.Owner) := spec_SpaceOk_eq s h
  unfold spec_SpaceOf
  simp only [hS, Option.bind_some]
  cases hok : okS s.Owner with
  | false =>
    rw [loopO_eq]
    cases hl : decide ((0 : Int) < ((s.Owner.length : Nat) : Int)) <;> simp [hl]
  | true =>
    rw [loopO_count (fun k => ((((s.Owner.take k).countP fun x => decide (x = who) : Nat) : Int), (k : Int))) s.Owner.length (r := Ctl.go ((s.Owner.countP fun x => decide (x = who) : Nat) : Int)) ?h0]
    case h0 => rfl
    · simp
    · intro k hk
      have ht : s.Owner.take (k + 1) = s.Owner.take k ++ [s.Owner[k]] := by rw [List.take_add_one, List.getElem?_eq_getElem hk]; rfl
      have hle : (s.Owner.take k).countP (fun x => decide (x = who)) ≤ k := Nat.le_trans List.countP_le_length (by simp; omega)
      simp only [idx_nat s.Owner k hk, Option.bind_some, ht, List.countP_append]
      rw [decide_eq_true (by omega : (k : Int) < ((s.Owner.length : Nat) : Int)), wrap_ok (n := (k : Int) + 1) (by omega) (by omega)]
      by_cases c : s.Owner[k] = who
      · rw [decide_eq_true c]
        simp only [if_true, Option.bind_some, bindC_go, List.countP_cons, List.countP_nil, c, decide_true]
        rw [wrap_ok (by omega) (by omega)]
        simp
      · rw [decide_eq_false c]
        simp only [if_true, Option.bind_some, Bool.false_eq_true, if_false, bindC_go, List.countP_cons, List.countP_nil, c, decide_false]
        simp
    · simp
theorem setAll_cons (who : Int) (l : List Int) (i : Nat) (g : List Nat) : setAll who l (i :: g) = setAll who (l.set i who) g := rfl
theorem setAll_set (who v : Int) (i : Nat) : ∀ (g : List Nat) (l : List Int), i ∉ g → (setAll who l g).set i v = setAll who (l.set i v) g
  | [], _, _ => rfl
  | j :: g, l, h => by
    have hij : i ≠ j := fun e => h (by rw [e]; simp)
    rw [setAll_cons, setAll_cons, setAll_set who v i g _ (fun e => h (by simp [e])), List.set_comm _ _ (Ne.symm hij)]
theorem setAll_out (who : Int) (i : Nat) : ∀ (g : List Nat) (l : List Int), i ∉ g → (setAll who l g)[i]? = l[i]?
  | [], _, _ => rfl
  | j :: g, l, h => by
    have hij : j ≠ i := fun e => h (by rw [e]; simp)
    rw [setAll_cons, setAll_out who i g _ (fun e => h (by simp [e])), List.getElem?_set_ne hij]
theorem setAll_in (who : Int) (i : Nat) : ∀ (g : List Nat) (l : List Int), i ∈ g → i < l.length → (setAll who l g)[i]? = some who
  | j :: g, l, h, hi => by
    rw [setAll_cons]
    by_cases hg : i ∈ g
    · exact setAll_in who i g _ hg (by rw [List.length_set]; exact hi)
    · have hij : i = j := by
        rcases List.mem_cons.1 h with h | h
        · exact h
        · exact absurd h hg
      subst hij
      rw [setAll_out who i g _ hg, List.getElem?_set_self hi]
theorem give_back (who : Int) (hw : 1 ≤ who) : ∀ (g : List Nat) (l : List Int), g.Nodup → (∀ i ∈ g, l[i]? = some 0) → giveV who (g.map fun (i : Nat) => (i : Int)) (setAll who l g) = some l
  | [], l, _, _ => rfl
  | i :: g, l, hn, h0 => by
    obtain ⟨hi, hg⟩ := List.nodup_cons.1 hn
    have h1 := h0 i (by simp)
    obtain ⟨hlt, hv⟩ := List.getElem?_eq_some_iff.1 h1
    rw [List.map_cons, giveV_cons, setAll_cons]
    have hat : (setAll who (l.set i who) g)[i]? = some who := by rw [setAll_out who i g _ hi, List.getElem?_set_self hlt]
    rw [Int.toNat_natCast, if_pos ⟨by omega, by rw [setAll_length, List.length_set]; omega, hat, hw⟩, setAll_set who 0 i g _ hi, List.set_set]
    have hset : l.set i 0 = l := by
      apply List.ext_getElem?
      intro j
      by_cases e : i = j
      · subst e; rw [List.getElem?_set_self hlt, h1]
      · rw [List.getElem?_set_ne e]
    rw [hset]
    exact give_back who hw g l hg fun j hj => h0 j (by simp [hj])
theorem count_set (who : Int) (hw : 1 ≤ who) (l : List Int) (i : Nat) (h : l[i]? = some 0) : (l.set i who).countP (fun x => decide (x = who)) = l.countP (fun x => decide (x = who)) + 1 := by
  induction l generalizing i with
  | nil => simp at h
  | cons x l ih =>
    cases i with
    | zero =>
      simp only [List.getElem?_cons_zero, Option.some.injEq] at h
      subst h
      rw [List.set_cons_zero, List.countP_cons, List.countP_cons]
      have : ¬ (0 : Int) = who := by omega
      simp [this]
    | succ i =>
      rw [List.set_cons_succ, List.countP_cons, List.countP_cons, ih i (by simpa using h)]
      omega
theorem count_setAll (who : Int) (hw : 1 ≤ who) : ∀ (g : List Nat) (l : List Int), g.Nodup → (∀ i ∈ g, l[i]? = some 0) → (setAll who l g).countP (fun x => decide (x = who)) = l.countP (fun x => decide (x = who)) + g.length
  | [], l, _, _ => rfl
  | i :: g, l, hn, h0 => by
    obtain ⟨hi, hg⟩ := List.nodup_cons.1 hn
    have h1 := h0 i (by simp)
    rw [setAll_cons, count_setAll who hw g _ hg, count_set who hw l i h1, List.length_cons]
    · omega
    · intro j hj
      have hij : i ≠ j := fun e => hi (by rw [e]; exact hj)
      rw [List.getElem?_set_ne hij]
      exact h0 j (by simp [hj])
theorem freeIx_zero (l : List Int) (n : Int) : ∀ k, ∀ i ∈ freeIx l n k, l[i]? = some 0
  | 0, i, h => by simp [freeIx] at h
  | k + 1, i, h => by
    unfold freeIx at h
    split at h
    · rename_i hc
      rcases List.mem_append.1 h with h | h
      · exact freeIx_zero l n k i h
      · have : i = k := by simpa using h
        rw [this]; exact hc.1
    · exact freeIx_zero l n k i h
theorem freeIx_nodup (l : List Int) (n : Int) : ∀ k, (freeIx l n k).Nodup
  | 0 => List.nodup_nil
  | k + 1 => by
    unfold freeIx
    split
    · refine List.nodup_append.2 ⟨freeIx_nodup l n k, by simp, fun x hx y hy e => ?_⟩
      have h1 := freeIx_lt l n k x hx
      have : y = k := by simpa using hy
      omega
    · exact freeIx_nodup l n k
theorem freeIx_le (l : List Int) (n : Int) (hn : 0 ≤ n) : ∀ k, ((freeIx l n k).length : Int) ≤ n
  | 0 => by simpa [freeIx] using hn
  | k + 1 => by
    have := freeIx_le l n hn k
    unfold freeIx
    split
    · rename_i hc
      rw [List.length_append, List.length_singleton]
      omega
    · exact this
theorem takeV_true {l : List Int} {who n : Int} (h : (takeV l who n).2.2 = true) : (1 ≤ who ∧ who ≤ 99) ∧ ∃ g : List Nat, takeV l who n = ({ Owner := setAll who l g }, g.map fun (i : Nat) => (i : Int), true) ∧ g.Nodup ∧ (∀ i ∈ g, l[i]? = some 0) ∧ ((g.length : Nat) : Int) = n := by
  unfold takeV at h ⊢
  by_cases c : (1 ≤ who ∧ who ≤ 99) ∧ 1 ≤ n ∧ n ≤ ((freeIx l n l.length).length : Int)
  · rw [if_pos c]
    have := freeIx_le l n (by omega) l.length
    exact ⟨c.1, _, rfl, freeIx_nodup _ _ _, freeIx_zero _ _ _, by omega⟩
  · rw [if_neg c] at h
    cases h
theorem takeV_false {l : List Int} {who n : Int} (h : (takeV l who n).2.2 = false) : takeV l who n = ({ Owner := l }, [], false) := by
  unfold takeV at h ⊢
  by_cases c : (1 ≤ who ∧ who ≤ 99) ∧ 1 ≤ n ∧ n ≤ ((freeIx l n l.length).length : Int)
  · rw [if_pos c] at h
    cases h
  · rw [if_neg c]
theorem okS_setAll {l : List Int} {who : Int} {g : List Nat} (h : okS l = true) (hw : 1 ≤ who ∧ who ≤ 99) : okS (setAll who l g) = true := by
  obtain ⟨h1, h2⟩ := okS_iff.1 h
  rw [okS_iff, setAll_length]
  refine ⟨h1, ?_⟩
  have key : ∀ (g : List Nat) (l : List Int), (∀ x ∈ l, 0 ≤ x ∧ x ≤ 99) → ∀ x ∈ setAll who l g, 0 ≤ x ∧ x ≤ 99 := by
    intro g
    induction g with
    | nil => intro l h x hx; exact h x hx
    | cons i g ih =>
      intro l h x hx
      rw [setAll_cons] at hx
      refine ih _ (fun y hy => ?_) x hx
      rcases List.mem_or_eq_of_mem_set hy with hy | hy
      · exact h y hy
      · omega
  exact key g l h2
theorem okS_wipe {l : List Int} {who : Int} (h : okS l = true) : okS (wipeV who l) = true := by
  obtain ⟨h1, h2⟩ := okS_iff.1 h
  rw [okS_iff]
  unfold wipeV
  rw [List.length_map]
  refine ⟨h1, fun x hx => ?_⟩
  obtain ⟨y, hy, rfl⟩ := List.mem_map.1 hx
  split
  · omega
  · exact h2 y hy
theorem l18Some_ok (b : List UInt8) (i h : Int) (hi : 0 ≤ i ∧ i ≤ b.length) (hb : b.length ≤ 1048576) : ∃ s i' h', spec_l18Some { b := b, i := i, h := h } = some (s, { b := b, i := i', h := h' }) ∧ s.Owner.length ≤ 41 ∧ (0 ≤ i' ∧ i' ≤ b.length) := by
  unfold spec_l18Some
  obtain ⟨x1, i1, h1, e1, g1, k1⟩ := l1Below_ok b i h 12 hi hb
  have hx1 := g1.2.1 (by omega)
  simp only [e1, Option.bind_some]
  obtain ⟨m, hm⟩ : ∃ m : Nat, IntKind.i64.wrap (1 + x1) = (m : Int) := ⟨(1 + x1).toNat, by rw [wrap_ok (by omega) (by omega)]; omega⟩
  have hm2 : 1 ≤ m ∧ m ≤ 12 := by rw [wrap_ok (by omega) (by omega)] at hm; omega
  rw [hm, mkLen_ok (by omega) (by omega)]
  simp only [Option.bind_some]
  obtain ⟨x2, i2, h2, e2, g2, k2⟩ := l1Below_ok b i1 h1 5 k1 hb
  have hx2 := g2.2.1 (by omega)
  simp only [e2, Option.bind_some]
  have hok0 : okS (List.replicate m (0 : Int)) = true := by
    rw [okS_iff]
    refine ⟨by simp; omega, fun x hx => ?_⟩
    have := List.eq_of_mem_replicate hx
    omega
  obtain ⟨r, hr, p, q, s, rfl, hq⟩ := loopO_total (ρ := Ctl (Int × Int × List Int) (Space × L1Cur)) (s0 := (i2, h2, x2, List.replicate m (0 : Int))) (body := fun (S12 : Int × Int × Int × List Int) => if (decide (S12.2.2.1 > (0 : Int))) = true then ((spec_l1Below ({ b := b, i := S12.1, h := S12.2.1 : L1Cur }) (3 : Int)).bind fun R17 =>
  (spec_l1Below ({ b := b, i := R17.2.i, h := R17.2.h : L1Cur }) (4 : Int)).bind fun R21 =>
  (spec_SpaceTake ({ Owner := S12.2.2.2 : Space }) (IntKind.i64.wrap ((1 : Int) + R17.1)) (IntKind.i64.wrap ((1 : Int) + R21.1))).bind fun R25 =>
  bindC (if R25.2.2 = true then (some (.go R25.1.Owner))
  else (some (.go S12.2.2.2)))
  (fun (T34 : List Int) => some (.go (R21.2.i, R21.2.h, IntKind.i64.wrap (S12.2.2.1 - (1 : Int)), T34))))
  else (some (.done (.go (S12.1, S12.2.1, S12.2.2.2)))))
    (fun k S => (0 ≤ S.1 ∧ S.1 ≤ b.length) ∧ S.2.2.1 = x2 - (k : Int) ∧ okS S.2.2.2 = true) x2.toNat (fun r => ∃ p q s, r = .go (p, q, s) ∧ (okS s = true ∧ 0 ≤ p ∧ p ≤ b.length)) ⟨k2, by simp, hok0⟩ (by
      rintro k ⟨p, q, c, s⟩ hk ⟨a1, a2, a3⟩
      simp only at a1 a2 a3
      subst a2
      left
      simp only
      rw [if_pos (by simp only [decide_eq_true_eq]; omega)]
      obtain ⟨x3, i3, h3, e3, g3, k3⟩ := l1Below_ok b p q 3 a1 hb
      simp only [e3, Option.bind_some]
      obtain ⟨x4, i4, h4, e4, g4, k4⟩ := l1Below_ok b i3 h3 4 k3 hb
      have ha := (okS_iff.1 a3).1
      have hx3 := g3.2.1 (by omega)
      have hT : spec_SpaceTake { Owner := s } (IntKind.i64.wrap (1 + x3)) (IntKind.i64.wrap (1 + x4)) = some (takeV s (IntKind.i64.wrap (1 + x3)) (IntKind.i64.wrap (1 + x4))) := by
        have := spec_SpaceTake_eq { Owner := s } (IntKind.i64.wrap (1 + x3)) (IntKind.i64.wrap (1 + x4)) (by show s.length ≤ _; omega)
        rw [this]
        have h6 : (decide (1 ≤ s.length ∧ s.length ≤ 40) && s.all fun x => decide (0 ≤ x ∧ x ≤ 99)) = true := a3
        rw [if_pos h6]
      simp only [e4, Option.bind_some, hT]
      rw [wrap_ok (n := x2 - (k : Int) - 1) (by omega) (by omega)]
      cases ht : (takeV s (IntKind.i64.wrap (1 + x3)) (IntKind.i64.wrap (1 + x4))).2.2 with
      | false => exact ⟨_, rfl, k4, by simp only; omega, a3⟩
      | true =>
        obtain ⟨w1, g, w2, _⟩ := takeV_true ht
        refine ⟨_, rfl, k4, by simp only; omega, ?_⟩
        rw [w2]
        exact okS_setAll a3 w1) (by
      rintro ⟨p, q, c, s⟩ ⟨a1, a2, a3⟩
      simp only at a1 a2 a3
      subst a2
      simp only
      rw [if_neg (by simp only [decide_eq_true_eq]; omega)]
      exact ⟨_, rfl, p, q, s, rfl, a3, a1⟩)
  rw [hr]
  simp only [bindC_go]
  have hs := (okS_iff.1 hq.1).1
  obtain ⟨x5, i5, h5, e5, k5⟩ := l1Once_ok b p q 3 hq.2 hb
  simp only [e5, Option.bind_some]
  have step2 : ∃ i6 h6 s6, (if x5 = true then ((spec_l1Below ({ b := b, i := i5, h := h5 : L1Cur }) (3 : Int)).bind fun R43 =>
      (spec_SpaceWipe ({ Owner := s : Space }) (IntKind.i64.wrap ((1 : Int) + R43.1))).bind fun R47 =>
      some (Ctl.go (ρ := Space × L1Cur) (R43.2.i, R43.2.h, R47.1.Owner))) else (some (.go (i5, h5, s)))) = some (.go (i6, h6, s6)) ∧ (0 ≤ i6 ∧ i6 ≤ b.length) ∧ 1 ≤ s6.length ∧ s6.length ≤ 40 := by
    cases x5 with
    | false => exact ⟨i5, h5, s, rfl, k5, by omega, by omega⟩
    | true =>
      obtain ⟨x6, i6, h6, e6, g6, k6⟩ := l1Below_ok b i5 h5 3 k5 hb
      have hx6 := g6.2.1 (by omega)
      have h7 : (decide (1 ≤ s.length ∧ s.length ≤ 40) && s.all fun x => decide (0 ≤ x ∧ x ≤ 99)) = true := hq.1
      have hW := spec_SpaceWipe_eq { Owner := s } (IntKind.i64.wrap (1 + x6)) (by show s.length ≤ _; omega)
      rw [if_pos h7, wrap_ok (n := 1 + x6) (by omega) (by omega), if_pos (by omega)] at hW
      simp only [if_true, e6, Option.bind_some]
      rw [wrap_ok (n := 1 + x6) (by omega) (by omega), hW]
      refine ⟨i6, h6, wipeV (1 + x6) s, rfl, k6, ?_⟩
      unfold wipeV
      rw [List.length_map]
      omega
  obtain ⟨i6, h6, s6, e6, k6, l6⟩ := step2
  rw [e6]
  simp only [bindC_go]
  obtain ⟨x7, i7, h7, e7, k7⟩ := l1Once_ok b i6 h6 12 k6 hb
  simp only [e7, Option.bind_some]
  have step3 : ∃ i8 h8 s8, (if x7 = true then ((spec_l1PickInt ({ b := b, i := i7, h := h7 : L1Cur }) ([(-1 : Int), (99 : Int), (100 : Int)])).bind fun R63 =>
      (idx s6 (0 : Int)).bind fun E66 =>
      some (Ctl.go (ρ := Space × L1Cur) (R63.2.i, R63.2.h, (s6.set ((0 : Int).toNat) R63.1)))) else (some (.go (i7, h7, s6)))) = some (.go (i8, h8, s8)) ∧ (0 ≤ i8 ∧ i8 ≤ b.length) ∧ s8.length ≤ 40 := by
    cases x7 with
    | false => exact ⟨i7, h7, s6, rfl, k7, by omega⟩
    | true =>
      obtain ⟨x8, i8, h8, e8, _, k8⟩ := l1PickInt_ok b i7 h7 [-1, 99, 100] (by simp) k7 hb
      have i0 : idx s6 (0 : Int) = some (s6[0]'(by omega)) := idx_nat s6 0 (by omega)
      simp only [if_true, e8, Option.bind_some, i0]
      exact ⟨i8, h8, _, rfl, k8, by rw [List.length_set]; omega⟩
  obtain ⟨i8, h8, s8, e8, k8, l8⟩ := step3
  rw [e8]
  simp only [bindC_go]
  obtain ⟨x9, i9, h9, e9, k9⟩ := l1Once_ok b i8 h8 30 k8 hb
  simp only [e9, Option.bind_some]
  cases x9 with
  | false => exact ⟨{ Owner := s8 }, i9, h9, rfl, by show s8.length ≤ 41; omega, k9⟩
  | true =>
    obtain ⟨x10, i10, h10, e10, g10, k10⟩ := l1Below_ok b i9 h9 2 k9 hb
    have hx10 := g10.2.1 (by omega)
    simp only [if_true, e10, Option.bind_some]
    obtain ⟨m2, hm2⟩ : ∃ m : Nat, IntKind.i64.wrap (40 + x10) = (m : Int) := ⟨(40 + x10).toNat, by rw [wrap_ok (by omega) (by omega)]; omega⟩
    have hm3 : m2 ≤ 41 := by rw [wrap_ok (by omega) (by omega)] at hm2; omega
    rw [hm2, mkLen_ok (by omega) (by omega)]
    exact ⟨{ Owner := List.replicate m2 0 }, i10, h10, rfl, by show (List.replicate m2 (0 : Int)).length ≤ 41; simp; omega, k10⟩
theorem DrawSpaceTake_ok (code : List UInt8) (hb : code.length ≤ 1048576) : ∃ s w n, spec_DrawSpaceTake code = some (s, w, n) ∧ s.Owner.length ≤ 41 := by
  unfold spec_DrawSpaceTake
  obtain ⟨q, e0⟩ := l1New_ok code hb
  simp only [e0, Option.bind_some]
  obtain ⟨s, i1, h1, e1, g1, k1⟩ := l18Some_ok code 0 q (by omega) hb
  simp only [e1, Option.bind_some]
  obtain ⟨x2, i2, h2, e2, _, k2⟩ := l1PickInt_ok code i1 h1 [1, 2, 99, 0, 100] (by simp) k1 hb
  simp only [e2, Option.bind_some]
  obtain ⟨x3, i3, h3, e3, _, k3⟩ := l1PickInt_ok code i2 h2 [1, 2, 3, 9, 0, -1, 9223372036854775807] (by simp) k2 hb
  simp only [e3, Option.bind_some]
  exact ⟨_, _, _, rfl, g1⟩
theorem DrawSpaceGive_ok (code : List UInt8) (hb : code.length ≤ 1048576) : ∃ s w bs, spec_DrawSpaceGive code = some (s, w, bs) ∧ s.Owner.length ≤ 41 ∧ bs.length ≤ 100 := by
  unfold spec_DrawSpaceGive
  obtain ⟨q, e0⟩ := l1New_ok code hb
  simp only [e0, Option.bind_some]
  obtain ⟨s, i1, h1, e1, g1, k1⟩ := l18Some_ok code 0 q (by omega) hb
  simp only [e1, Option.bind_some]
  obtain ⟨x2, i2, h2, e2, _, k2⟩ := l1Below_ok code i1 h1 3 k1 hb
  simp only [e2, Option.bind_some]
  generalize IntKind.i64.wrap (1 + x2) = w
  obtain ⟨r, hr, p, qq, bs, rfl, hq⟩ := loopO_total (ρ := Ctl (Int × Int × List Int) (Space × Int × List Int)) (s0 := (i2, h2, (0 : Int), ([] : List Int))) (body := fun (S13 : Int × Int × Int × List Int) => if (decide (S13.2.2.1 < ((s.Owner.length : Nat) : Int))) = true then (((idx s.Owner S13.2.2.1).bind fun E20 =>
  if (decide (E20 = w)) = true then ((spec_l1Once ({ b := code, i := S13.1, h := S13.2.1 : L1Cur }) (2 : Int)).bind fun R23 =>
  some (R23.2.i, R23.2.h, R23.1))
  else (some (S13.1, S13.2.1, false))).bind (fun (T18 : Int × Int × Bool) =>
  bindC (if T18.2.2 = true then ((app 8 S13.2.2.2 ([S13.2.2.1])).bind fun E31 =>
  some (.go E31))
  else (some (.go S13.2.2.2)))
  (fun (T26 : List Int) => some (.go (T18.1, T18.2.1, IntKind.i64.wrap (S13.2.2.1 + (1 : Int)), T26)))))
  else (some (.done (.go (S13.1, S13.2.1, S13.2.2.2)))))
    (fun k S => (0 ≤ S.1 ∧ S.1 ≤ code.length) ∧ S.2.2.1 = (k : Int) ∧ S.2.2.2.length ≤ k) s.Owner.length (fun r => ∃ p q bs, r = .go (p, q, bs) ∧ (bs.length ≤ 41 ∧ 0 ≤ p ∧ p ≤ code.length)) ⟨k2, rfl, Nat.le_refl _⟩ (by
      rintro k ⟨p, q, c, bs⟩ hk ⟨a1, a2, a3⟩
      simp only at a1 a2 a3
      subst a2
      left
      simp only [idx_nat s.Owner k hk, Option.bind_some]
      rw [if_pos (by simp only [decide_eq_true_eq]; omega), wrap_ok (n := (k : Int) + 1) (by omega) (by omega)]
      have key : ∃ p' q' t, (if (decide (s.Owner[k] = w)) = true then ((spec_l1Once ({ b := code, i := p, h := q : L1Cur }) (2 : Int)).bind fun R23 => some (R23.2.i, R23.2.h, R23.1)) else (some (p, q, false))) = some (p', q', t) ∧ (0 ≤ p' ∧ p' ≤ code.length) := by
        cases decide (s.Owner[k] = w) with
        | false => exact ⟨p, q, false, rfl, a1⟩
        | true =>
          obtain ⟨x3, i3, h3, e3, k3⟩ := l1Once_ok code p q 2 a1 hb
          simp only [if_true, e3, Option.bind_some]
          exact ⟨_, _, _, rfl, k3⟩
      obtain ⟨p', q', t, ht, hp'⟩ := key
      rw [ht]
      simp only [Option.bind_some]
      cases t with
      | false => exact ⟨_, rfl, hp', by simp only; omega, by simp only; omega⟩
      | true =>
        simp only [if_true]
        rw [app_ok (by simp; omega) (by simp; omega)]
        exact ⟨_, rfl, hp', by simp only; omega, by simp; omega⟩) (by
      rintro ⟨p, q, c, bs⟩ ⟨a1, a2, a3⟩
      simp only at a1 a2 a3
      subst a2
      simp only
      rw [if_neg (by simp)]
      exact ⟨_, rfl, p, q, bs, rfl, by omega, a1⟩)
  rw [hr]
  simp only [bindC_go]
  obtain ⟨x4, i4, h4, e4, k4⟩ := l1Once_ok code p qq 5 hq.2 hb
  simp only [e4, Option.bind_some]
  cases x4 with
  | false => exact ⟨_, _, _, rfl, g1, by omega⟩
  | true =>
    obtain ⟨x5, i5, h5, e5, _, k5⟩ := l1Below_ok code i4 h4 14 k4 hb
    simp only [if_true, e5, Option.bind_some]
    rw [app_ok (by simp; omega) (by simp; omega)]
    exact ⟨_, _, _, rfl, g1, by simp; omega⟩
theorem FnSpace_pure (code : List UInt8) : laws_FnSpace code = some true := by
  unfold laws_FnSpace
  rw [big_eq]
  simp only [Option.bind_some]
  by_cases hb : ((code.length : Nat) : Int) > 1048576
  · rw [decide_eq_true hb]; rfl
  · rw [decide_eq_false hb]
    have hc : code.length ≤ 1048576 := by omega
    obtain ⟨s, who, n, e1, hs⟩ := DrawSpaceTake_ok code hc
    obtain ⟨g, h2, bs, e2, hg, hbs⟩ := DrawSpaceGive_ok code hc
    have hT1 : impl_SpaceTake s who n = some (if okS s.Owner = true then takeV s.Owner who n else ({ Owner := [] }, [], false)) := impl_SpaceTake_eq s who n (by omega)
    have hT2 : spec_SpaceTake s who n = some (if okS s.Owner = true then takeV s.Owner who n else ({ Owner := [] }, [], false)) := spec_SpaceTake_eq s who n (by omega)
    have hOk : spec_SpaceOk s = some (okS s.Owner) := spec_SpaceOk_eq s (by omega)
    have hG : ∃ r, impl_SpaceGive g h2 bs = some r ∧ spec_SpaceGive g h2 bs = some r := ⟨_, impl_SpaceGive_eq g h2 bs (by omega) (by omega), spec_SpaceGive_eq g h2 bs (by omega) (by omega)⟩
    obtain ⟨rg, hg1, hg2⟩ := hG
    simp only [Bool.false_eq_true, if_false, e1, e2, Option.bind_some, hT1, hT2, hOk, hg1, hg2]
    cases hok : okS s.Owner with
    | false => simp [sameInts_eq ([] : List Int) [] (by simp)]
    | true =>
      have hlen := (okS_iff.1 hok).1
      have tailOk : ∀ x : Space, okS x.Owner = true → ((impl_SpaceWipe x (1 : Int)).bind fun R68 =>
          ((spec_SpaceOf x (1 : Int)).bind fun R86 =>
          if (decide (R68.2 = R86)) = true then ((impl_SpaceOf R68.1 (1 : Int)).bind fun R90 =>
          if (decide (R90 = (0 : Int))) = true then (some (decide (rg.2 = rg.2)))
          else (some false))
          else (some false)).bind (fun (T84 : Bool) => some T84)) = some true := by
        intro x hx
        have hxl := (okS_iff.1 hx).1
        have h1 : impl_SpaceWipe x 1 = _ := impl_SpaceWipe_eq x 1 (by omega)
        have h6 : (decide (1 ≤ x.Owner.length ∧ x.Owner.length ≤ 40) && x.Owner.all fun x => decide (0 ≤ x ∧ x ≤ 99)) = true := hx
        rw [if_pos h6, if_pos (by omega)] at h1
        have h3 := spec_SpaceOf_eq x 1 (by omega)
        rw [if_pos hx] at h3
        rw [h1]
        simp only [Option.bind_some, h3]
        have hw : okS (wipeV 1 x.Owner) = true := okS_wipe hx
        have h4 : impl_SpaceOf { Owner := wipeV 1 x.Owner } 1 = _ := impl_SpaceOf_eq { Owner := wipeV 1 x.Owner } 1 (by have := (okS_iff.1 hw).1; show (wipeV 1 x.Owner).length ≤ _; omega)
        have h5 : (wipeV 1 x.Owner).countP (fun x => decide (x = 1)) = 0 := by
          rw [List.countP_eq_zero]
          intro y hy
          unfold wipeV at hy
          obtain ⟨z, _, rfl⟩ := List.mem_map.1 hy
          by_cases c : z = 1 <;> simp [c]
        have h7 : (decide (1 ≤ (wipeV 1 x.Owner).length ∧ (wipeV 1 x.Owner).length ≤ 40) && (wipeV 1 x.Owner).all fun x => decide (0 ≤ x ∧ x ≤ 99)) = true := hw
        rw [if_pos h7, h5] at h4
        simp only [decide_true, if_true, h4, Option.bind_some]
        simp
      simp only [if_true]
      cases ht : (takeV s.Owner who n).2.2 with
      | false =>
        rw [takeV_false ht]
        simp only [sameInts_eq ([] : List Int) [] (by simp), sameInts_eq s.Owner s.Owner (by omega), Option.bind_some]
        simp only [decide_true, Bool.not_true, Bool.false_eq_true, if_false, Option.bind_some, bindC_go]
        have := tailOk s hok
        simp only [decide_true] at this
        exact this
      | true =>
        obtain ⟨hw, fr, hfr, hnd, hz, hn⟩ := takeV_true ht
        have hfl : fr.length ≤ 40 := by
          have : fr.length ≤ s.Owner.length := by
            have := count_setAll who hw.1 fr s.Owner hnd hz
            have h8 : (setAll who s.Owner fr).countP (fun x => decide (x = who)) ≤ (setAll who s.Owner fr).length := List.countP_le_length
            rw [setAll_length] at h8
            omega
          omega
        have hxok := okS_setAll (g := fr) hok hw
        have hx6 : (decide (1 ≤ (setAll who s.Owner fr).length ∧ (setAll who s.Owner fr).length ≤ 40) && (setAll who s.Owner fr).all fun x => decide (0 ≤ x ∧ x ≤ 99)) = true := hxok
        have hs6 : (decide (1 ≤ s.Owner.length ∧ s.Owner.length ≤ 40) && s.Owner.all fun x => decide (0 ≤ x ∧ x ≤ 99)) = true := hok
        have hxl : (setAll who s.Owner fr).length = s.Owner.length := setAll_length who fr s.Owner
        have hgive : impl_SpaceGive { Owner := setAll who s.Owner fr } who (fr.map fun (i : Nat) => (i : Int)) = some ({ Owner := s.Owner }, true) := by
          rw [impl_SpaceGive_eq { Owner := setAll who s.Owner fr } who _ (by show (setAll who s.Owner fr).length ≤ _; omega) (by simp; omega), if_pos hx6]
          simp only
          rw [give_back who hw.1 fr s.Owner hnd hz]
        have hof1 : impl_SpaceOf { Owner := setAll who s.Owner fr } who = some (((setAll who s.Owner fr).countP (fun x => decide (x = who)) : Nat) : Int) := by
          rw [impl_SpaceOf_eq { Owner := setAll who s.Owner fr } who (by show (setAll who s.Owner fr).length ≤ _; omega), if_pos hx6]
        have hof2 : spec_SpaceOf s who = some ((s.Owner.countP (fun x => decide (x = who)) : Nat) : Int) := by
          rw [spec_SpaceOf_eq s who (by omega), if_pos hok]
        have hcnt := count_setAll who hw.1 fr s.Owner hnd hz
        have hcl : s.Owner.countP (fun x => decide (x = who)) ≤ 40 := Nat.le_trans List.countP_le_length (by omega)
        rw [hfr]
        simp only [sameInts_eq (fr.map fun (i : Nat) => (i : Int)) (fr.map fun (i : Nat) => (i : Int)) (by simp; omega), Option.bind_some]
        simp only [decide_true, Bool.not_true, Bool.false_eq_true, if_false, if_true, Option.bind_some]
        rw [loopO_count (fun k => (k : Int)) fr.length (r := Ctl.go ()) ?h0]
        case h0 => rfl
        · simp only [bindC_go, hgive, Option.bind_some, Bool.not_true, Bool.false_eq_true, if_false, sameInts_eq s.Owner s.Owner (by omega), decide_true, hof1, hof2, hcnt]
          rw [wrap_ok (by omega) (by omega), decide_eq_true (by omega)]
          simp only [Bool.not_true, Bool.false_eq_true, if_false, bindC_go]
          have := tailOk { Owner := setAll who s.Owner fr } hxok
          simp only [decide_true] at this
          exact this
        · intro k hk
          have hik := hz fr[k] (List.getElem_mem hk)
          obtain ⟨hlt, hv⟩ := List.getElem?_eq_some_iff.1 hik
          have hin := setAll_in who fr[k] fr s.Owner (List.getElem_mem hk) hlt
          obtain ⟨hlt2, hv2⟩ := List.getElem?_eq_some_iff.1 hin
          have i1 : idx (fr.map fun (i : Nat) => (i : Int)) (k : Int) = some (fr[k] : Int) := by rw [idx_nat _ k (by simpa using hk)]; simp
          simp only [i1, Option.bind_some, idx_nat s.Owner fr[k] hlt, idx_nat (setAll who s.Owner fr) fr[k] hlt2, hv, hv2]
          rw [if_pos (by simp only [decide_eq_true_eq, List.length_map]; omega), wrap_ok (by omega) (by omega)]
          simp
        · simp
theorem FnSpace_proved : Rows.FnSpaceSaid := FnSpace_over fun code _ => FnSpace_pure code

end Go.Proofs.Ytammomfkamhhdaa
