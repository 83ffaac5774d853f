/-
  The plain laws: what the pure functions come to, and the statements. Conditions: none.
-/
import Derived.Test.YtmigafjpdoeicaaGreatQza
set_option linter.unusedVariables false
set_option linter.unusedSimpArgs false
namespace Go.Proofs.YtmigafjpdoeicaaGreat
open Go Sl
theorem impl_lookUp_eq (m : List KV) (key : List UInt8) (hm : srtK m) (h : m.length ≤ 1048576) : impl_lookUp m key = some (findR m key) := by
  obtain ⟨j, hj, h1, h2, hf⟩ := findKey_eq m key hm h
  unfold impl_lookUp findR
  rw [hf, Option.bind_some]
  by_cases hjl : j < m.length
  · rw [dif_pos hjl]
    by_cases hk : m[j].Key = key
    · have : m.find? (fun x => decide (x.Key = key)) = some m[j] := by
        rw [List.find?_eq_some_iff_getElem]
        refine ⟨by simpa using hk, j, hjl, rfl, fun i hi => ?_⟩
        have h3 := h1 i (by omega) hi
        have : ¬ (m[i]'(by omega)).Key = key := fun e => by rw [e, sLt_irrefl] at h3; cases h3
        simp [this]
      rw [this, decide_eq_true hk]
      simp only [Bool.not_true, Bool.false_eq_true, if_false, idx_nat m j hjl, Option.bind_some]
    · have : m.find? (fun x => decide (x.Key = key)) = none := by
        rw [List.find?_eq_none]
        intro x hx
        obtain ⟨i, hi, rfl⟩ := List.getElem_of_mem hx
        by_cases hij : i < j
        · have h3 := h1 i hi hij
          have : ¬ m[i].Key = key := fun e => by rw [e, sLt_irrefl] at h3; cases h3
          simp [this]
        · simpa using key_after hm j h2 (fun _ => hk) i hi (by omega)
      rw [this, decide_eq_false hk]
      rfl
  · have : m.find? (fun x => decide (x.Key = key)) = none := by
      rw [List.find?_eq_none]
      intro x hx
      obtain ⟨i, hi, rfl⟩ := List.getElem_of_mem hx
      have h3 := h1 i hi (by omega)
      have : ¬ m[i].Key = key := fun e => by rw [e, sLt_irrefl] at h3; cases h3
      simp [this]
    rw [this, dif_neg hjl]
    rfl
theorem within_R (key lo hi : List UInt8) : impl_within key lo hi = some (withinV key lo hi) := by
  unfold impl_within withinV
  cases sLt key lo <;> by_cases h : hi = [] <;> simp [h]
theorem l9Within_R (key lo hi : List UInt8) : spec_l9Within key lo hi = some (withinV key lo hi) := by
  unfold spec_l9Within withinV
  cases sLt key lo <;> by_cases h : hi = [] <;> simp [h]
theorem sift_loop {R : Type} (p : KV → Bool) (l : List KV) (hl : l.length ≤ 1048576) {body : Int × List KV → Option (Ctl (Int × List KV) (Ctl (List KV) R))} {f : List KV → Option R} {z : R} {g : KV → Option Bool} (hg : ∀ x, g x = some (p x))
    (hb : body = fun (S1 : Int × List KV) => if (decide (S1.1 < ((l.length : Nat) : Int))) = true then ((idx l S1.1).bind fun E6 =>
  (g E6).bind fun R9 =>
  bindC (if R9 = true then ((app 32 S1.2 ([E6])).bind fun E17 =>
  some (.go E17))
  else (some (.go S1.2)))
  (fun (T12 : List KV) => some (.go (IntKind.i64.wrap (S1.1 + (1 : Int)), T12))))
  else (some (.done (.go S1.2)))) (hf : f (l.filter p) = some z) : bindC (loopO body ((0 : Int), ([] : List KV))) f = some z := by
  refine loopO_bind (fun k (S : Int × List KV) => S = ((k : Int), (l.take k).filter p)) l.length (fun r => r = .go (l.filter p)) rfl ?_ ?_ (fun r hr => by rw [hr]; exact hf)
  · rintro k _ hk rfl
    left
    have hlen : ((l.take k).filter p).length ≤ k := Nat.le_trans (List.length_filter_le _ _) (by simp; omega)
    refine ⟨_, ?_, rfl⟩
    rw [hb]
    simp only [idx_nat l k hk, Option.bind_some, hg]
    rw [if_pos (by simpa using hk), wrap_ok (n := (k : Int) + 1) (by omega) (by omega), filt_take p l k hk]
    cases hp : p l[k] with
    | true =>
      simp only [if_true]
      rw [app_ok (by simp only [List.length_singleton]; omega) (by simp only [List.length_singleton]; omega)]
      rfl
    | false => simp
  · rintro _ rfl
    exact ⟨.go (l.filter p), by rw [hb]; simp [List.take_length], rfl⟩
theorem impl_between_eq (m : List KV) (lo hi : List UInt8) (h : m.length ≤ 1048576) : impl_between m lo hi = some (scanV m lo hi) := by
  unfold impl_between
  exact sift_loop (fun x => withinV x.Key lo hi) m h (g := fun x => impl_within x.Key lo hi) (fun x => within_R _ _ _) rfl rfl
theorem spec_l21Scan_eq (m : List KV) (lo hi : List UInt8) (h : m.length ≤ 1048576) : spec_l21Scan m lo hi = some (scanV m lo hi) := by
  unfold spec_l21Scan
  exact sift_loop (fun x => withinV x.Key lo hi) m h (g := fun x => spec_l9Within x.Key lo hi) (fun x => l9Within_R _ _ _) rfl rfl
theorem copy_loop0 {α β R : Type} (l : List α) (hl : l.length ≤ 1048576) (by_ : Nat) (hby : by_ ≤ 100) (h : α → β) {body : Int × List β → Option (Ctl (Int × List β) (Ctl (List β) R))}
    (hb : ∀ k (hk : k < l.length) out, body ((k : Int), out) = (app by_ out [h l[k]]).bind fun E => some (.go (IntKind.i64.wrap ((k : Int) + (1 : Int)), E))) (hn : ∀ out, body ((l.length : Int), out) = some (.done (.go out))) :
    loopO body ((0 : Int), ([] : List β)) = some (.go (l.map h)) := by
  obtain ⟨r, hr, rfl⟩ := loopO_total (body := body) (s0 := ((0 : Int), ([] : List β))) (fun k (S : Int × List β) => S = ((k : Int), (l.take k).map h)) l.length (fun r => r = .go (l.map h)) rfl (by
    rintro k _ hk rfl
    left
    refine ⟨_, ?_, rfl⟩
    have hlen : ((l.take k).map h).length ≤ 1048576 := by simp; omega
    rw [hb k hk, app_ok (by simp only [List.length_singleton]; have : (((l.take k).map h).length + 1) * by_ ≤ 1048577 * 100 := Nat.mul_le_mul (by omega) hby; omega) (by simp only [List.length_singleton]; omega), wrap_ok (n := (k : Int) + 1) (by omega) (by omega), take_snoc l k hk, List.map_append]
    rfl) (by
    rintro _ rfl
    exact ⟨_, hn _, by rw [List.take_length]⟩)
  exact hr
theorem copy_loop {α β R : Type} (l : List α) (hl : l.length ≤ 1048576) (by_ : Nat) (hby : by_ ≤ 100) (h : α → β) {body : Int × List β → Option (Ctl (Int × List β) (Ctl (List β) R))} {f : List β → Option R} {z : R}
    (hb : ∀ k (hk : k < l.length) out, body ((k : Int), out) = (app by_ out [h l[k]]).bind fun E => some (.go (IntKind.i64.wrap ((k : Int) + (1 : Int)), E))) (hn : ∀ out, body ((l.length : Int), out) = some (.done (.go out))) (hf : f (l.map h) = some z) :
    bindC (loopO body ((0 : Int), ([] : List β))) f = some z := by
  rw [copy_loop0 l hl by_ hby h hb hn]
  exact hf
theorem l21CopyMap_R (m : List KV) (h : m.length ≤ 1048576) : spec_l21CopyMap m = some m := by
  unfold spec_l21CopyMap
  rw [app_ok (by simp only [List.length_nil]; omega) (by simp only [List.length_nil]; omega)]
  rfl
theorem cloneKV_R (m : List KV) (h : m.length ≤ 1048576) : slices_Clone_74624 m = some m := by
  unfold slices_Clone_74624
  rw [app_ok (by simp only [List.length_nil]; omega) (by simp only [List.length_nil]; omega)]
  rfl
theorem cloneOp_R (m : List Op) (h : m.length ≤ 1048576) : slices_Clone_6733 m = some m := by
  unfold slices_Clone_6733
  rw [app_ok (by simp only [List.length_nil]; omega) (by simp only [List.length_nil]; omega)]
  rfl
def smT (t : MTen) : Prop := t.Map.length ≤ 1048576 ∧ t.Snaps.length ≤ 1048576 ∧ ∀ s ∈ t.Snaps, s.Map.length ≤ 1048576
theorem okT.sm {n : Nat} {t : MTen} (h : okT n t) (hn : n ≤ 1000) : smT t := ⟨by have := h.len; omega, by have := h.sn; omega, fun s hs => by have := (h.each s hs).2.1; omega⟩
theorem impl_copyTen_eq (t : MTen) (h : smT t) : impl_copyTen t = some t := by
  obtain ⟨h1, h2, h3⟩ := h
  unfold impl_copyTen
  rw [cloneKV_R _ h1, Option.bind_some]
  refine copy_loop t.Snaps h2 32 (by decide) id (fun k hk out => ?_) (fun out => by simp) (by rw [List.map_id])
  simp only [idx_nat t.Snaps k hk, Option.bind_some, cloneKV_R _ (h3 _ (List.getElem_mem hk))]
  rw [if_pos (by simpa using hk)]
  rfl
theorem impl_copyTens_eq (l : List MTen) (hl : l.length ≤ 1048576) (h : ∀ t ∈ l, smT t) : impl_copyTens l = some l := by
  unfold impl_copyTens
  refine copy_loop l hl 72 (by decide) id (fun k hk out => ?_) (fun out => by simp) (by rw [List.map_id])
  simp only [idx_nat l k hk, Option.bind_some, impl_copyTen_eq _ (h _ (List.getElem_mem hk))]
  rw [if_pos (by simpa using hk)]
  rfl
theorem spec_l21CopyTens_eq (l : List MTen) (hl : l.length ≤ 1048576) (h : ∀ t ∈ l, smT t) : spec_l21CopyTens l = some l := by
  unfold spec_l21CopyTens
  refine copy_loop l hl 72 (by decide) id (fun k hk out => ?_) (fun out => by simp) (by rw [List.map_id])
  obtain ⟨h1, h2, h3⟩ := h _ (List.getElem_mem hk)
  simp only [idx_nat l k hk, Option.bind_some, l21CopyMap_R _ h1]
  rw [if_pos (by simpa using hk)]
  refine (congrArg (fun o => bindC o _) (copy_loop0 l[k].Snaps h2 32 (by decide) id (fun k' hk' out => ?_) (fun out => by simp))).trans ?_
  · simp only [idx_nat l[k].Snaps k' hk', Option.bind_some, l21CopyMap_R _ (h3 _ (List.getElem_mem hk'))]
    rw [if_pos (by simpa using hk')]
    rfl
  · rw [List.map_id]; rfl
/-! ## the model's step: flush and crash, both sides -/
theorem atT_cases (l : List MTen) (id : Int) : (∃ j, ∃ hj : j < l.length, atT l id = (j : Int) ∧ l[j].Id = id ∧ ∀ i (hi : i < j), ¬ (l[i]'(by omega)).Id = id) ∨ (atT l id = -1 ∧ ∀ x ∈ l, ¬ x.Id = id) := by
  rcases fstV_eq (fun t : MTen => decide (t.Id = id)) l with ⟨j, hj, e, h1, h2⟩ | ⟨e, h1⟩
  · exact .inl ⟨j, hj, e, of_decide_eq_true h1, fun i hi => of_decide_eq_false (h2 i hi)⟩
  · exact .inr ⟨e, fun x hx => of_decide_eq_false (h1 x hx)⟩
theorem getT_nat (l : List MTen) (j : Nat) (hj : j < l.length) : getT l (j : Int) = l[j] := by
  unfold getT
  rw [Int.toNat_natCast, List.getD_eq_getElem?_getD, List.getElem?_eq_getElem hj]
  rfl
theorem l21At_R (l : List MTen) (id : Int) (h : l.length ≤ 1048576) : spec_l21At l id = some (atT l id) := spec_l21At_eq l id h
theorem tenAt_R (l : List MTen) (id : Int) (h : l.length ≤ 1048576) : impl_tenAt l id = some (atT l id) := impl_tenAt_eq l id h
structure smM (m : Model) : Prop where
  tens : m.Tens.length ≤ 1000
  base : m.Base.length ≤ 1000
  rows : m.Rows.length ≤ 1000
  each : ∀ t ∈ m.Tens, smT t
theorem impl_Model_flush_eq (m : Model) (id : Int) (h : smM m) (j : Nat) (hj : j < m.Tens.length) (ha : atT m.Tens id = (j : Int)) (hid : m.Tens[j].Id = id) : impl_Model_flush m id = some (codeR 0, flushM m (j : Int)) := by
  have ht := h.tens
  have hb := h.base
  have hr := h.rows
  unfold impl_Model_flush impl_Model_dropRows flushM
  rw [dropRows_eq m.Rows id (by omega), getT_nat _ j hj]
  simp only [Option.bind_some, tenAt_R _ _ (show m.Tens.length ≤ 1048576 by omega), tenAt_R _ _ (show m.Base.length ≤ 1048576 by omega), ha, idx_nat m.Tens j hj, impl_copyTen_eq _ (h.each _ (List.getElem_mem hj)), hid]
  rcases atT_cases m.Base id with ⟨k, hk, e, _, _⟩ | ⟨e, _⟩
  · rw [e, decide_eq_true (by omega : (k : Int) ≥ 0)]
    simp only [if_true, idx_nat m.Base k hk, Option.bind_some, bindC_go, cond_true]
    rfl
  · rw [e]
    rfl
theorem spec_l21Flush_eq (m : Model) (h : smM m) (j : Nat) (hj : j < m.Tens.length) : spec_l21Flush m (j : Int) = some (flushM m (j : Int)) := by
  have ht := h.tens
  have hb := h.base
  have hr := h.rows
  unfold spec_l21Flush flushM
  rw [getT_nat _ j hj]
  simp only [Option.bind_some, l21At_R _ _ (show m.Base.length ≤ 1048576 by omega), idx_nat m.Tens j hj, l21CopyMap_R _ (h.each _ (List.getElem_mem hj)).1, spec_l21Rows_eq _ _ (show m.Rows.length ≤ 1048576 by omega)]
  rcases atT_cases m.Base m.Tens[j].Id with ⟨k, hk, e, _, _⟩ | ⟨e, _⟩
  · rw [e, decide_eq_true (by omega : (k : Int) ≥ 0)]
    simp only [if_true, idx_nat m.Base k hk, Option.bind_some, bindC_go, cond_true]
  · rw [e]
    rfl
def keepI : Int → List MRow → List MRow
  | _, [] => []
  | n, r :: l => bif r.Synced then { Tenant := r.Tenant, Ops := r.Ops, Synced := true } :: keepI n l else bif decide (n - 1 ≥ 0) then { Tenant := r.Tenant, Ops := r.Ops, Synced := true } :: keepI (n - 1) l else keepI (n - 1) l
theorem keepI_eq : ∀ (l : List MRow) (n k : Int), (k = n ∧ 0 ≤ n) ∨ (n < 1 ∧ k < 1) → keepI k l = keepR n l
  | [], _, _, _ => rfl
  | r :: l, n, k, h => by
    unfold keepI keepR
    cases r.Synced with
    | true =>
      simp only [cond_true]
      rw [keepI_eq l n k h]
    | false =>
      simp only [cond_false]
      by_cases h1 : n < 1
      · have hk : k < 1 := by omega
        rw [decide_eq_true h1, decide_eq_false (by omega : ¬ k - 1 ≥ 0)]
        simp only [cond_true, cond_false]
        exact keepI_eq l n (k - 1) (.inr ⟨h1, by omega⟩)
      · have hk : k = n := by omega
        subst hk
        rw [decide_eq_false h1, decide_eq_true (by omega : k - 1 ≥ 0)]
        simp only [cond_true, cond_false]
        rw [keepI_eq l (k - 1) (k - 1) (.inl ⟨rfl, by omega⟩)]
theorem keepR_len : ∀ (l : List MRow) (n : Int), (keepR n l).length ≤ l.length
  | [], _ => Nat.le_refl _
  | r :: l, n => by
    unfold keepR
    cases r.Synced with
    | true => simp only [cond_true, List.length_cons]; have := keepR_len l n; omega
    | false =>
      cases decide (n < 1) with
      | true => simp only [cond_true, cond_false, List.length_cons]; have := keepR_len l n; omega
      | false => simp only [cond_false, List.length_cons]; have := keepR_len l (n - 1); omega
theorem keepR_of : ∀ (l : List MRow) (n : Int) (r : MRow), r ∈ keepR n l → ∃ s ∈ l, r = { Tenant := s.Tenant, Ops := s.Ops, Synced := true }
  | [], _, r, h => by cases h
  | s :: l, n, r, h => by
    unfold keepR at h
    have back : ∀ k, r ∈ keepR k l → ∃ s' ∈ s :: l, r = { Tenant := s'.Tenant, Ops := s'.Ops, Synced := true } := fun k h => by
      obtain ⟨s', h1, h2⟩ := keepR_of l k r h
      exact ⟨s', List.mem_cons_of_mem _ h1, h2⟩
    cases hs : s.Synced with
    | true =>
      rw [hs] at h
      rcases List.mem_cons.1 h with rfl | h
      · exact ⟨s, by simp, rfl⟩
      · exact back _ h
    | false =>
      rw [hs] at h
      cases hn : decide (n < 1) with
      | true => rw [hn] at h; exact back _ h
      | false =>
        rw [hn] at h
        rcases List.mem_cons.1 h with rfl | h
        · exact ⟨s, by simp, rfl⟩
        · exact back _ h
theorem goMax_eq (n : Int) : goMax n 0 = max n 0 := by unfold goMax; split <;> omega
theorem impl_keep {R : Type} (l : List MRow) (n : Int) (hl : l.length ≤ 1000) (hn : -9223372036854775808 ≤ n ∧ n ≤ 9223372036854775807) {body : Int × Int × List (Option MRow) × List MRow → Option (Ctl (Int × Int × List (Option MRow) × List MRow) (Ctl (List (Option MRow) × List MRow) R))} {f : List (Option MRow) × List MRow → Option R} {z : R}
    (hb : body = fun (S2 : Int × Int × List (Option MRow) × List MRow) => if (decide (S2.2.1 < ((l.length : Nat) : Int))) = true then ((idx S2.2.2.1 S2.2.1).bind fun E7 =>
  (E7).bind fun E10 =>
  bindC (if (!E10.Synced) = true then (some (.go (IntKind.i64.wrap (S2.1 - (1 : Int)))))
  else (some (.go S2.1)))
  (fun (T14 : Int) => (if E10.Synced = true then (some true)
  else (some (decide (T14 ≥ (0 : Int))))).bind (fun (T17 : Bool) =>
  bindC (if T17 = true then ((app 40 S2.2.2.2 ([{ Tenant := E10.Tenant, Ops := E10.Ops, Synced := true : MRow }])).bind fun E25 =>
  some (.go ((S2.2.2.1.set S2.2.1.toNat none), E25)))
  else (some (.go (S2.2.2.1, S2.2.2.2))))
  (fun (T20 : List (Option MRow) × List MRow) => some (.go (T14, IntKind.i64.wrap (S2.2.1 + (1 : Int)), T20.1, T20.2))))))
  else (some (.done (.go (S2.2.2.1, S2.2.2.2)))))
    (hf : ∀ ls, f (ls, keepR n l) = some z) : bindC (loopO body (goMax n 0, (0 : Int), l.map some, ([] : List MRow))) f = some z := by
  have hkeep : keepI (max n 0) l = keepR n l := keepI_eq l n (max n 0) (by omega)
  rw [goMax_eq]
  refine loopO_bind (fun k (S : Int × Int × List (Option MRow) × List MRow) => (-(k : Int) ≤ S.1 ∧ S.1 ≤ 9223372036854775807) ∧ S.2.1 = (k : Int) ∧ wholeO l k S.2.2.1 ∧ S.2.2.2.length ≤ k ∧ S.2.2.2 ++ keepI S.1 (l.drop k) = keepR n l) l.length
    (fun r => ∃ ls, r = .go (ls, keepR n l)) ⟨by simp only; omega, rfl, wholeO_map l, by simp, by simpa using hkeep⟩ ?_ ?_ ?_
  · rintro k ⟨c, i, ls, out⟩ hk ⟨hc, h1, h2, h3, h4⟩
    simp only at hc h1 h2 h3 h4
    subst h1
    left
    have hw : IntKind.i64.wrap ((k : Int) + (1 : Int)) = ((k + 1 : Nat) : Int) := by rw [wrap_ok (by omega) (by omega)]; omega
    have hap : ∀ x : MRow, app 40 out [x] = some (out ++ [x]) := fun x => app_ok (by simp only [List.length_singleton]; omega) (by simp only [List.length_singleton]; omega)
    rw [List.drop_eq_getElem_cons hk, keepI] at h4
    rw [hb]
    simp only [wholeO_idx h2 hk, Option.bind_some]
    rw [if_pos (by simpa using hk), hw]
    cases hs : l[k].Synced with
    | true =>
      rw [hs] at h4
      simp only [Bool.not_true, Bool.false_eq_true, if_false, bindC_go, if_true, Option.bind_some, hap]
      exact ⟨_, rfl, by simp only; omega, rfl, wholeO_set (wholeO_next h2) (by simp), by simp; omega, by simpa using h4⟩
    | false =>
      rw [hs] at h4
      rw [wrap_ok (n := c - 1) (by omega) (by omega)]
      simp only [Bool.not_false, if_true, bindC_go, Bool.false_eq_true, if_false, Option.bind_some]
      simp only [cond_false] at h4
      cases hd : decide (c - 1 ≥ 0) with
      | true =>
        rw [hd] at h4
        simp only [if_true, hap, Option.bind_some, bindC_go]
        exact ⟨_, rfl, by simp only; omega, rfl, wholeO_set (wholeO_next h2) (by simp), by simp; omega, by simpa using h4⟩
      | false =>
        rw [hd] at h4
        simp only [Bool.false_eq_true, if_false, bindC_go]
        exact ⟨_, rfl, by simp only; omega, rfl, wholeO_next h2, by simp only; omega, by simpa using h4⟩
  · rintro ⟨c, i, ls, out⟩ ⟨hc, h1, h2, h3, h4⟩
    simp only at h1 h4
    subst h1
    rw [List.drop_length, keepI, List.append_nil] at h4
    exact ⟨.go (ls, keepR n l), by rw [hb]; simp [h4], ls, rfl⟩
  · rintro _ ⟨ls, rfl⟩
    exact hf ls
theorem spec_keep {R : Type} (l : List MRow) (n : Int) (hl : l.length ≤ 1000) (hn : -9223372036854775808 ≤ n ∧ n ≤ 9223372036854775807) {body : Int × Int × List (Option MRow) × List MRow → Option (Ctl (Int × Int × List (Option MRow) × List MRow) (Ctl (List (Option MRow) × List MRow) R))} {f : List (Option MRow) × List MRow → Option R} {z : R}
    (hb : body = fun (S4 : Int × Int × List (Option MRow) × List MRow) => if (decide (S4.2.1 < ((S4.2.2.1.length : Nat) : Int))) = true then (bindC ((idx S4.2.2.1 S4.2.1).bind fun E11 =>
  (E11).bind fun E14 =>
  bindC (if (!E14.Synced) = true then (if (decide (S4.1 < (1 : Int))) = true then (some (.done (.go (S4.1, S4.2.2.1, S4.2.2.2))))
  else (some (.go (IntKind.i64.wrap (S4.1 - (1 : Int))))))
  else (some (.go S4.1)))
  (fun (T18 : Int) => (app 40 S4.2.2.2 ([{ Tenant := E14.Tenant, Ops := E14.Ops, Synced := true : MRow }])).bind fun E24 =>
  some (.go (T18, (S4.2.2.1.set S4.2.1.toNat none), E24))))
  (fun (T9 : Int × List (Option MRow) × List MRow) => some (.go (T9.1, IntKind.i64.wrap (S4.2.1 + (1 : Int)), T9.2.1, T9.2.2))))
  else (some (.done (.go (S4.2.2.1, S4.2.2.2)))))
    (hf : ∀ ls, f (ls, keepR n l) = some z) : bindC (loopO body (n, (0 : Int), l.map some, ([] : List MRow))) f = some z := by
  refine loopO_bind (fun k (S : Int × Int × List (Option MRow) × List MRow) => (-9223372036854775808 ≤ S.1 ∧ S.1 ≤ 9223372036854775807) ∧ S.2.1 = (k : Int) ∧ wholeO l k S.2.2.1 ∧ S.2.2.2.length ≤ k ∧ S.2.2.2 ++ keepR S.1 (l.drop k) = keepR n l) l.length
    (fun r => ∃ ls, r = .go (ls, keepR n l)) ⟨hn, rfl, wholeO_map l, by simp, by simp⟩ ?_ ?_ ?_
  · rintro k ⟨c, i, ls, out⟩ hk ⟨hc, h1, h2, h3, h4⟩
    simp only at hc h1 h2 h3 h4
    subst h1
    left
    have hw : IntKind.i64.wrap ((k : Int) + (1 : Int)) = ((k + 1 : Nat) : Int) := by rw [wrap_ok (by omega) (by omega)]; omega
    have hap : ∀ x : MRow, app 40 out [x] = some (out ++ [x]) := fun x => app_ok (by simp only [List.length_singleton]; omega) (by simp only [List.length_singleton]; omega)
    rw [List.drop_eq_getElem_cons hk, keepR] at h4
    rw [hb]
    simp only [wholeO_idx h2 hk, Option.bind_some]
    rw [if_pos (by rw [h2.1]; simpa using hk), hw]
    cases hs : l[k].Synced with
    | true =>
      rw [hs] at h4
      simp only [Bool.not_true, Bool.false_eq_true, if_false, bindC_go, Option.bind_some, hap]
      exact ⟨_, rfl, hc, rfl, wholeO_set (wholeO_next h2) (by simp), by simp; omega, by simpa using h4⟩
    | false =>
      rw [hs] at h4
      simp only [cond_false] at h4
      cases hd : decide (c < 1) with
      | true =>
        rw [hd] at h4
        simp only [Bool.not_false, if_true, bindC_done, bindC_go]
        exact ⟨_, rfl, hc, rfl, wholeO_next h2, by simp only; omega, by simpa using h4⟩
      | false =>
        rw [hd] at h4
        have hc1 := of_decide_eq_false hd
        rw [wrap_ok (n := c - 1) (by omega) (by omega)]
        simp only [Bool.not_false, if_true, Bool.false_eq_true, if_false, bindC_go, Option.bind_some, hap]
        exact ⟨_, rfl, by simp only; omega, rfl, wholeO_set (wholeO_next h2) (by simp), by simp; omega, by simpa using h4⟩
  · rintro ⟨c, i, ls, out⟩ ⟨hc, h1, h2, h3, h4⟩
    simp only at h1 h2 h4
    subst h1
    rw [List.drop_length, keepR, List.append_nil] at h4
    exact ⟨.go (ls, keepR n l), by rw [hb]; simp [h4, h2.1], ls, rfl⟩
  · rintro _ ⟨ls, rfl⟩
    exact hf ls
structure okU (B : Nat) (t : MTen) : Prop where
  srt : srtK t.Map
  kv : ∀ x ∈ t.Map, kvV x = true
  len : t.Map.length ≤ B
  seq : 0 ≤ t.Seq ∧ t.Seq ≤ B
theorem okU.up {A B : Nat} {t : MTen} (h : okU A t) (hab : A ≤ B) : okU B t := ⟨h.srt, h.kv, Nat.le_trans h.len hab, h.seq.1, by have := h.seq.2; omega⟩
theorem okT.w {n : Nat} {t : MTen} (h : okT n t) : okU (6 * n) t := ⟨h.srt, h.kv, h.len, h.seq.1, by have := h.seq; omega⟩
theorem batch_len {l : List Op} (h : batchV l = true) : l.length ≤ 6 := (batchV_iff h).1.2
theorem playT_nat (ts : List MTen) (r : MRow) (j : Nat) (hj : j < ts.length) (ha : atT ts r.Tenant = (j : Int)) : playT ts r = ts.set j { Id := ts[j].Id, Epoch := ts[j].Epoch, Seq := ts[j].Seq + 1, Map := applyK ts[j].Map r.Ops, Snaps := ts[j].Snaps } := by
  unfold playT
  rw [ha, decide_eq_true (by omega), cond_true, getT_nat ts j hj, Int.toNat_natCast]
theorem playT_none (ts : List MTen) (r : MRow) (ha : atT ts r.Tenant = -1) : playT ts r = ts := by
  unfold playT
  rw [ha]; rfl
theorem playT_ids (ts : List MTen) (r : MRow) : (playT ts r).map MTen.Id = ts.map MTen.Id := by
  rcases atT_cases ts r.Tenant with ⟨j, hj, e, h1, _⟩ | ⟨e, _⟩
  · rw [playT_nat ts r j hj e, List.map_set]
    refine List.ext_getElem (by simp) fun i h1 h2 => ?_
    rw [List.getElem_set]
    split
    · rename_i h; subst h; simp
    · rfl
  · rw [playT_none ts r e]
theorem playT_okU {B : Nat} {ts : List MTen} {r : MRow} (h : ∀ t ∈ ts, okU B t) (hb : batchV r.Ops = true) : ∀ t ∈ playT ts r, okU (B + 6) t := by
  rcases atT_cases ts r.Tenant with ⟨j, hj, e, h1, _⟩ | ⟨e, _⟩
  · rw [playT_nat ts r j hj e]
    intro t ht
    rcases List.mem_or_eq_of_mem_set ht with ht | rfl
    · exact (h t ht).up (by omega)
    · have hw := h _ (List.getElem_mem hj)
      have hl := applyK_len r.Ops ts[j].Map
      have := batch_len hb
      have := hw.len
      have := hw.seq
      exact ⟨applyK_srt _ hw.srt, applyK_kv hw.kv hb, by simp only; omega, by simp only; omega, by simp only; omega⟩
  · rw [playT_none ts r e]
    exact fun t ht => (h t ht).up (by omega)
theorem plays_ids (rs : List MRow) : ∀ ts : List MTen, (rs.foldl playT ts).map MTen.Id = ts.map MTen.Id := by
  induction rs with
  | nil => intro ts; rfl
  | cons r rs ih => intro ts; rw [List.foldl_cons, ih, playT_ids]
theorem plays_len (rs : List MRow) (ts : List MTen) : (rs.foldl playT ts).length = ts.length := by
  have := congrArg List.length (plays_ids rs ts)
  simpa using this
theorem plays_okU (B : Nat) : ∀ (rs : List MRow) (ts : List MTen), (∀ t ∈ ts, okU B t) → (∀ r ∈ rs, batchV r.Ops = true) → ∀ t ∈ rs.foldl playT ts, okU (B + 6 * rs.length) t := by
  intro rs
  induction rs generalizing B with
  | nil => intro ts h _ t ht; exact (h t ht).up (by simp)
  | cons r rs ih =>
    intro ts h hb t ht
    exact (ih (B + 6) (playT ts r) (playT_okU h (hb r (by simp))) (fun x hx => hb x (by simp [hx])) t ht).up (by simp only [List.length_cons]; omega)
theorem foldl_take_succ {α β : Type} (f : β → α → β) (l : List α) (b : β) (k : Nat) (hk : k < l.length) : (l.take (k + 1)).foldl f b = f ((l.take k).foldl f b) l[k] := by
  rw [take_snoc l k hk, List.foldl_append]; rfl
theorem impl_play {R : Type} (rs : List MRow) (ts : List MTen) (B : Nat) (hB : B ≤ 10000) (h : ∀ t ∈ ts, okU B t) (hl : ts.length ≤ 1000) (hr : rs.length ≤ 1000) (hb : ∀ r ∈ rs, batchV r.Ops = true)
    {body : Int × List MTen → Option (Ctl (Int × List MTen) (Ctl (List MTen) R))} {f : List MTen → Option R} {z : R}
    (hbody : body = fun (S41 : Int × List MTen) => if (decide (S41.1 < ((rs.length : Nat) : Int))) = true then ((idx rs S41.1).bind fun E46 =>
  (impl_tenAt S41.2 E46.Tenant).bind fun R51 =>
  bindC (if (decide (R51 ≥ (0 : Int))) = true then ((idx S41.2 R51).bind fun E57 =>
  (impl_applied E57.Map E46.Ops).bind fun R61 =>
  some (.go (S41.2.set R51.toNat ({ Id := E57.Id, Epoch := E57.Epoch, Seq := IntKind.i64.wrap (E57.Seq + (1 : Int)), Map := R61, Snaps := E57.Snaps : MTen }))))
  else (some (.go S41.2)))
  (fun (T54 : List MTen) => some (.go (IntKind.i64.wrap (S41.1 + (1 : Int)), T54))))
  else (some (.done (.go S41.2)))) (hf : f (rs.foldl playT ts) = some z) : bindC (loopO body ((0 : Int), ts)) f = some z := by
  refine loopO_bind (fun k (S : Int × List MTen) => S = ((k : Int), (rs.take k).foldl playT ts)) rs.length (fun r => r = .go (rs.foldl playT ts)) rfl ?_ ?_ (fun r hr => by rw [hr]; exact hf)
  · rintro k _ hk rfl
    left
    refine ⟨_, ?_, rfl⟩
    have hw := plays_okU B (rs.take k) ts h fun r hr => hb r (List.mem_of_mem_take hr)
    have hlen := plays_len (rs.take k) ts
    rw [foldl_take_succ _ _ _ k hk]
    generalize (rs.take k).foldl playT ts = us at hw hlen
    have hB2 : B + 6 * (rs.take k).length ≤ 20000 := by rw [List.length_take]; omega
    have hbk := batch_len (hb _ (List.getElem_mem hk))
    rw [hbody]
    simp only [idx_nat rs k hk, Option.bind_some, tenAt_R us _ (by omega)]
    rw [if_pos (by simpa using hk), wrap_ok (n := (k : Int) + 1) (by omega) (by omega)]
    rcases atT_cases us rs[k].Tenant with ⟨j, hj, e, h1, _⟩ | ⟨e, _⟩
    · have hwj := hw _ (List.getElem_mem hj)
      have h5 := hwj.seq
      have h6 := hwj.len
      rw [e, decide_eq_true (by omega), playT_nat us _ j hj e]
      have happ := impl_applied_eq us[j].Map rs[k].Ops hwj.srt (by omega) (by omega)
      simp only [if_true, idx_nat us j hj, Option.bind_some, happ, bindC_go, Int.toNat_natCast]
      rw [wrap_ok (n := us[j].Seq + 1) (by omega) (by omega)]
      rfl
    · rw [e, playT_none us _ e]
      rfl
  · rintro _ rfl
    exact ⟨.go (rs.foldl playT ts), by rw [hbody]; simp [List.take_length], rfl⟩
theorem spec_play {R : Type} (rs : List MRow) (ts : List MTen) (B : Nat) (hB : B ≤ 10000) (h : ∀ t ∈ ts, okU B t) (hl : ts.length ≤ 1000) (hr : rs.length ≤ 1000) (hb : ∀ r ∈ rs, batchV r.Ops = true)
    {body : Int × List MTen → Option (Ctl (Int × List MTen) (Ctl (List MTen) R))} {f : List MTen → Option R} {z : R}
    (hbody : body = fun (S29 : Int × List MTen) => if (decide (S29.1 < ((rs.length : Nat) : Int))) = true then ((idx rs S29.1).bind fun E34 =>
  (spec_l21At S29.2 E34.Tenant).bind fun R36 =>
  bindC (if (decide (R36 ≥ (0 : Int))) = true then ((idx S29.2 R36).bind fun E42 =>
  (spec_ApplyBatch E42.Map E34.Ops).bind fun R48 =>
  some (.go (S29.2.set R36.toNat ({ Id := E42.Id, Epoch := E42.Epoch, Seq := IntKind.i64.wrap (E42.Seq + (1 : Int)), Map := R48.1, Snaps := E42.Snaps : MTen }))))
  else (some (.go S29.2)))
  (fun (T39 : List MTen) => some (.go (IntKind.i64.wrap (S29.1 + (1 : Int)), T39))))
  else (some (.done (.go S29.2)))) (hf : f (rs.foldl playT ts) = some z) : bindC (loopO body ((0 : Int), ts)) f = some z := by
  refine loopO_bind (fun k (S : Int × List MTen) => S = ((k : Int), (rs.take k).foldl playT ts)) rs.length (fun r => r = .go (rs.foldl playT ts)) rfl ?_ ?_ (fun r hr => by rw [hr]; exact hf)
  · rintro k _ hk rfl
    left
    refine ⟨_, ?_, rfl⟩
    have hw := plays_okU B (rs.take k) ts h fun r hr => hb r (List.mem_of_mem_take hr)
    have hlen := plays_len (rs.take k) ts
    rw [foldl_take_succ _ _ _ k hk]
    generalize (rs.take k).foldl playT ts = us at hw hlen
    have hB2 : B + 6 * (rs.take k).length ≤ 20000 := by rw [List.length_take]; omega
    have hbv := hb _ (List.getElem_mem hk)
    have hbk := batch_len hbv
    rw [hbody]
    simp only [idx_nat rs k hk, Option.bind_some, l21At_R us _ (by omega)]
    rw [if_pos (by simpa using hk), wrap_ok (n := (k : Int) + 1) (by omega) (by omega)]
    rcases atT_cases us rs[k].Tenant with ⟨j, hj, e, h1, _⟩ | ⟨e, _⟩
    · have hwj := hw _ (List.getElem_mem hj)
      have h5 := hwj.seq
      have h6 := hwj.len
      rw [e, decide_eq_true (by omega), playT_nat us _ j hj e]
      have happ := ApplyBatch_eq us[j].Map rs[k].Ops hwj.srt hwj.kv (by omega) (by omega)
      simp only [if_true, idx_nat us j hj, Option.bind_some, happ, hbv, cond_true, bindC_go, Int.toNat_natCast]
      rw [wrap_ok (n := us[j].Seq + 1) (by omega) (by omega)]
      rfl
    · rw [e, playT_none us _ e]
      rfl
  · rintro _ rfl
    exact ⟨.go (rs.foldl playT ts), by rw [hbody]; simp [List.take_length], rfl⟩
/-! ## the model's step: calls of a tenant, both sides -/
theorem sh_lens {s : Shares} (h : sharesV s = true) : s.List.length ≤ 4 := ((sharesV_iff s).1 h).2.1
theorem okM.n4 {n : Nat} {m : Model} (h : okM n m) : m.Tens.length = m.Shares.List.length ∧ m.Tens.length ≤ 4 ∧ m.Base.length = m.Tens.length := by
  have h1 := congrArg List.length h.ids
  have h2 := congrArg List.length h.base
  simp only [List.length_map] at h1 h2
  have := sh_lens h.sh
  omega
theorem okM.sm {n : Nat} {m : Model} (h : okM n m) (hn : n ≤ 1000) : smM m := by
  have h4 := h.n4
  have hr := h.rows
  exact ⟨by omega, by omega, by omega, fun t ht => (h.tens t ht).sm hn⟩
theorem map_get {α β : Type} {f : α → β} {l : List α} {k : List β} (h : l.map f = k) (i : Nat) (hi : i < l.length) (hk : i < k.length) : f l[i] = k[i] := by
  subst h; simp
theorem okM.id {n : Nat} {m : Model} (h : okM n m) (i : Nat) (hi : i < m.Tens.length) : m.Tens[i].Id = (m.Shares.List[i]'(by have := h.n4; omega)).Tenant := by
  have h4 := h.n4
  have := map_get h.ids i hi (by simp; omega)
  simpa using this
theorem okM.lt {n : Nat} {m : Model} (h : okM n m) (i j : Nat) (hij : i < j) (hj : j < m.Tens.length) : (m.Tens[i]'(by omega)).Id < m.Tens[j].Id := by
  have h4 := h.n4
  rw [h.id i (by omega), h.id j hj]
  exact shares_lt h.sh j (by omega) i hij
theorem atT_self {n : Nat} {m : Model} (h : okM n m) (j : Nat) (hj : j < m.Tens.length) : atT m.Tens m.Tens[j].Id = (j : Int) := by
  rcases atT_cases m.Tens m.Tens[j].Id with ⟨i, hi, e, h1, _⟩ | ⟨_, h1⟩
  · rcases Nat.lt_trichotomy i j with hl | rfl | hl
    · have := h.lt i j hl hj; omega
    · exact e
    · have := h.lt j i hl hi; omega
  · exact absurd rfl (h1 _ (List.getElem_mem hj))
theorem quoV_same {n : Nat} {m : Model} (h : okM n m) (j : Nat) (hj : j < m.Tens.length) (d : Int) : quoV d m.Shares m.Tens[j].Id = quoV (-1) m.Shares m.Tens[j].Id := by
  unfold quoV
  cases hf : m.Shares.List.find? (fun x => decide (x.Tenant = m.Tens[j].Id)) with
  | some x => rfl
  | none =>
    exfalso
    rw [List.find?_eq_none] at hf
    have h4 := h.n4
    refine hf _ (List.getElem_mem (show j < m.Shares.List.length by omega)) ?_
    rw [decide_eq_true_eq]
    exact (h.id j hj).symm
theorem count_loop {R : Type} (l : List MRow) (id : Int) (hl : l.length ≤ 1000) {body : Int × Int → Option (Ctl (Int × Int) (Ctl Int R))} {f : Int → Option R} {z : R}
    (hb : body = fun (S : Int × Int) => if (decide (S.2 < ((l.length : Nat) : Int))) = true then ((idx l S.2).bind fun E35 =>
  bindC (if (decide (E35.Tenant = id)) = true then (some (.go (IntKind.i64.wrap (S.1 + (1 : Int)))))
  else (some (.go S.1)))
  (fun (T40 : Int) => some (.go (T40, IntKind.i64.wrap (S.2 + (1 : Int))))))
  else (some (.done (.go S.1)))) (hf : f (ofRow id l : Int) = some z) : bindC (loopO body ((0 : Int), (0 : Int))) f = some z := by
  refine loopO_bind (fun k (S : Int × Int) => S = ((ofRow id (l.take k) : Int), (k : Int))) l.length (fun r => r = .go (ofRow id l : Int)) rfl ?_ ?_ (fun r hr => by rw [hr]; exact hf)
  · rintro k _ hk rfl
    left
    refine ⟨_, ?_, rfl⟩
    have hlen : ofRow id (l.take k) ≤ k := Nat.le_trans (List.length_filter_le _ _) (by simp; omega)
    rw [hb]
    simp only [idx_nat l k hk, Option.bind_some]
    rw [if_pos (by simpa using hk), wrap_ok (n := (k : Int) + 1) (by omega) (by omega)]
    have hc : ofRow id (l.take (k + 1)) = ofRow id (l.take k) + (if l[k].Tenant = id then 1 else 0) := by
      unfold ofRow
      rw [filt_take _ l k hk, List.length_append]
      by_cases h : l[k].Tenant = id <;> simp [h]
    rw [hc]
    by_cases h : l[k].Tenant = id
    · rw [decide_eq_true h, if_pos rfl, if_pos h, wrap_ok (by omega) (by omega)]
      rfl
    · rw [decide_eq_false h, if_neg (by simp), if_neg h]
      rfl
  · rintro _ rfl
    exact ⟨.go (ofRow id l : Int), by rw [hb]; simp [List.take_length], rfl⟩
theorem noRow_len (id : Int) (l : List MRow) : (noRow id l).length ≤ l.length := List.length_filter_le _ _
theorem writeM_nat (m : Model) (j : Nat) (hj : j < m.Tens.length) (ops : List Op) : writeM m (j : Int) ops =
    (bif batchV ops then
    (bif decide ((bytesN (applyK m.Tens[j].Map ops) : Int) > quoV (-1) m.Shares m.Tens[j].Id) then (m, codeR 3)
    else ({ Secret := m.Secret, Shares := m.Shares, Tens := m.Tens.set j { Id := m.Tens[j].Id, Epoch := m.Tens[j].Epoch, Seq := m.Tens[j].Seq + 1, Map := applyK m.Tens[j].Map ops, Snaps := m.Tens[j].Snaps }, Base := (bif decide (6 ≤ ofRow m.Tens[j].Id m.Rows) then flushM m (j : Int) else m).Base, Rows := (bif decide (6 ≤ ofRow m.Tens[j].Id m.Rows) then flushM m (j : Int) else m).Rows ++ [{ Tenant := m.Tens[j].Id, Ops := ops, Synced := false }] },
      { Code := 0, N := m.Tens[j].Seq + 1, Text := [], List := [] }))
  else (m, codeR 1)) := by
  unfold writeM
  rw [getT_nat _ j hj, Int.toNat_natCast]
theorem flush_rows (m : Model) (i : Int) : (flushM m i).Rows.length ≤ m.Rows.length := noRow_len _ _
theorem impl_write_eq {n : Nat} (m : Model) (c : Call) (h : okM n m) (hn : n ≤ 500) (hc : c.Ops.length ≤ 1048576) (j : Nat) (hj : j < m.Tens.length) : impl_Model_write_el0_MTen_of m (j : Int) c = some ((writeM m (j : Int) c.Ops).2, (writeM m (j : Int) c.Ops).1) := by
  have hs := h.sm (by omega)
  have ht := h.tens _ (List.getElem_mem hj)
  have h4 := h.n4
  have hr := h.rows
  have hl := ht.len
  have hq := ht.seq
  have hfl := impl_Model_flush_eq m _ hs j hj (atT_self h j hj) rfl
  unfold impl_Model_write_el0_MTen_of
  rw [writeM_nat m j hj, idx_nat m.Tens j hj]
  simp only [Option.bind_some, impl_BatchOk_eq _ hc, no_R]
  cases hb : batchV c.Ops with
  | false => rfl
  | true =>
    have hbl := batch_len hb
    have hal := applyK_len c.Ops m.Tens[j].Map
    have happ := impl_applied_eq m.Tens[j].Map c.Ops ht.srt (by omega) (by omega)
    have hby := impl_bytesOf_eq (applyK m.Tens[j].Map c.Ops) (applyK_kv ht.kv hb) (by omega)
    simp only [Bool.not_true, Bool.false_eq_true, if_false, happ, hby, impl_quotaOf_eq m.Shares _ (show m.Shares.List.length ≤ 1048576 by omega), quoV_same h j hj 0, Option.bind_some, cond_true]
    cases decide ((bytesN (applyK m.Tens[j].Map c.Ops) : Int) > quoV (-1) m.Shares m.Tens[j].Id) with
    | true => rfl
    | false =>
      simp only [Bool.false_eq_true, if_false, cond_false]
      refine count_loop m.Rows m.Tens[j].Id (by omega) rfl ?_
      have hap : ∀ l : List MRow, l.length ≤ 1000 → ∀ x : MRow, app 40 l [x] = some (l ++ [x]) := fun l hl x => app_ok (by simp only [List.length_singleton]; omega) (by simp only [List.length_singleton]; omega)
      have hset : idx (m.Tens.set j { Id := m.Tens[j].Id, Epoch := m.Tens[j].Epoch, Seq := m.Tens[j].Seq + 1, Map := applyK m.Tens[j].Map c.Ops, Snaps := m.Tens[j].Snaps }) (j : Int) = some { Id := m.Tens[j].Id, Epoch := m.Tens[j].Epoch, Seq := m.Tens[j].Seq + 1, Map := applyK m.Tens[j].Map c.Ops, Snaps := m.Tens[j].Snaps } := by
        rw [idx_nat _ j (by rw [List.length_set]; exact hj), List.getElem_set_self]
      by_cases h6 : 6 ≤ ofRow m.Tens[j].Id m.Rows
      · rw [decide_eq_true (by omega : (ofRow m.Tens[j].Id m.Rows : Int) ≥ 6), decide_eq_true h6]
        have hfr := flush_rows m (j : Int)
        simp only [if_true, hfl, Option.bind_some, bindC_go, cloneOp_R _ hc, hap _ (show (flushM m (j : Int)).Rows.length ≤ 1000 by omega), Int.toNat_natCast, cond_true]
        rw [wrap_ok (n := m.Tens[j].Seq + 1) (by omega) (by omega), hset]
        rfl
      · rw [decide_eq_false (by omega : ¬ (ofRow m.Tens[j].Id m.Rows : Int) ≥ 6), decide_eq_false h6]
        simp only [Bool.false_eq_true, if_false, Option.bind_some, bindC_go, cloneOp_R _ hc, hap _ (show m.Rows.length ≤ 1000 by omega), Int.toNat_natCast, cond_false]
        rw [wrap_ok (n := m.Tens[j].Seq + 1) (by omega) (by omega), hset]
        rfl
theorem spec_l21Write_eq {n : Nat} (m : Model) (ops : List Op) (h : okM n m) (hn : n ≤ 500) (hc : ops.length ≤ 1048576) (j : Nat) (hj : j < m.Tens.length) : spec_l21Write m (j : Int) ops = some (writeM m (j : Int) ops) := by
  have hs := h.sm (by omega)
  have ht := h.tens _ (List.getElem_mem hj)
  have h4 := h.n4
  have hr := h.rows
  have hl := ht.len
  have hq := ht.seq
  have hfl := spec_l21Flush_eq m hs j hj
  unfold spec_l21Write
  rw [writeM_nat m j hj, idx_nat m.Tens j hj]
  have hbo : spec_ApplyBatch m.Tens[j].Map ops = some (bif batchV ops then (applyK m.Tens[j].Map ops, true) else (m.Tens[j].Map, false)) := by
    by_cases h6 : ops.length ≤ 1000
    · exact ApplyBatch_eq _ _ ht.srt ht.kv (by omega) h6
    · have hb : batchV ops = false := by
        cases hb : batchV ops with
        | false => rfl
        | true => have := batch_len hb; omega
      unfold spec_ApplyBatch
      rw [MapOk_true m.Tens[j].Map ht.srt ht.kv (by omega)]
      simp only [Option.bind_some, Bool.not_true, Bool.false_eq_true, if_false]
      rw [app_ok (by simp only [List.length_nil]; omega) (by simp only [List.length_nil]; omega), spec_BatchOk_eq ops hc, hb]
      rfl
  simp only [Option.bind_some, hbo, l21Code_R]
  cases hb : batchV ops with
  | false => rfl
  | true =>
    have hbl := batch_len hb
    have hal := applyK_len ops m.Tens[j].Map
    have hby := spec_Bytes_eq (applyK m.Tens[j].Map ops) (applyK_srt _ ht.srt) (applyK_kv ht.kv hb) (by omega)
    simp only [Bool.not_true, Bool.false_eq_true, if_false, hby, spec_l21Quota_eq m.Shares _ (show m.Shares.List.length ≤ 1048576 by omega), Option.bind_some, cond_true]
    cases decide ((bytesN (applyK m.Tens[j].Map ops) : Int) > quoV (-1) m.Shares m.Tens[j].Id) with
    | true => rfl
    | false =>
      simp only [Bool.false_eq_true, if_false, cond_false]
      refine count_loop m.Rows m.Tens[j].Id (by omega) rfl ?_
      have hap : ∀ l : List MRow, l.length ≤ 1000 → ∀ x : MRow, app 40 l [x] = some (l ++ [x]) := fun l hl x => app_ok (by simp only [List.length_singleton]; omega) (by simp only [List.length_singleton]; omega)
      have hao : app 40 ([] : List Op) ops = some ops := by rw [app_ok (by simp only [List.length_nil]; omega) (by simp only [List.length_nil]; omega)]; rfl
      by_cases h6 : 6 ≤ ofRow m.Tens[j].Id m.Rows
      · rw [decide_eq_true (by omega : (ofRow m.Tens[j].Id m.Rows : Int) ≥ 6), decide_eq_true h6]
        have hfr := flush_rows m (j : Int)
        have hft : (flushM m (j : Int)).Tens = m.Tens := rfl
        simp only [if_true, hfl, Option.bind_some, bindC_go, hao, hft, idx_nat m.Tens j hj, hap _ (show (flushM m (j : Int)).Rows.length ≤ 1000 by omega), Int.toNat_natCast, cond_true]
        rw [wrap_ok (n := m.Tens[j].Seq + 1) (by omega) (by omega)]
        rfl
      · rw [decide_eq_false (by omega : ¬ (ofRow m.Tens[j].Id m.Rows : Int) ≥ 6), decide_eq_false h6]
        simp only [Bool.false_eq_true, if_false, Option.bind_some, bindC_go, hao, idx_nat m.Tens j hj, hap _ (show m.Rows.length ≤ 1000 by omega), Int.toNat_natCast, cond_false]
        rw [wrap_ok (n := m.Tens[j].Seq + 1) (by omega) (by omega)]
theorem lastIs_eval (l : List MSnap) (q : Int) (hl : l.length ≤ 1000) : (if (decide (((l.length : Nat) : Int) > (0 : Int))) = true then ((idx l (IntKind.i64.wrap (((l.length : Nat) : Int) - (1 : Int)))).bind fun E => some (decide (E.Seq = q))) else (some false)) = some (lastIs l q) := by
  unfold lastIs
  by_cases h : 0 < l.length
  · rw [if_pos (by simpa using h), wrap_ok (by omega) (by omega), show ((l.length : Nat) : Int) - 1 = ((l.length - 1 : Nat) : Int) by omega, idx_nat l _ (by omega), List.getLast?_eq_getElem?, List.getElem?_eq_getElem (by omega)]
    rfl
  · have : l = [] := List.eq_nil_of_length_eq_zero (by omega)
    subst this
    rfl
theorem withSnaps_nat (m : Model) (j : Nat) (hj : j < m.Tens.length) (l : List MSnap) : withSnaps m (j : Int) l = { Secret := m.Secret, Shares := m.Shares, Tens := m.Tens.set j { Id := m.Tens[j].Id, Epoch := m.Tens[j].Epoch, Seq := m.Tens[j].Seq, Map := m.Tens[j].Map, Snaps := l }, Base := m.Base, Rows := m.Rows } := by
  unfold withSnaps
  rw [getT_nat _ j hj, Int.toNat_natCast]
theorem snapM_nat (m : Model) (j : Nat) (hj : j < m.Tens.length) : snapM m (j : Int) =
    (bif lastIs m.Tens[j].Snaps m.Tens[j].Seq then (m, { Code := 0, N := m.Tens[j].Seq, Text := [], List := [] })
  else bif decide (2 ≤ m.Tens[j].Snaps.length) then (m, codeR 4)
  else (withSnaps m (j : Int) (m.Tens[j].Snaps ++ [{ Seq := m.Tens[j].Seq, Map := m.Tens[j].Map }]), { Code := 0, N := m.Tens[j].Seq, Text := [], List := [] })) := by
  unfold snapM
  rw [getT_nat _ j hj]
theorem impl_snap_eq {n : Nat} (m : Model) (h : okM n m) (hn : n ≤ 500) (j : Nat) (hj : j < m.Tens.length) : impl_MTen_snap_el0_MTen m.Tens (j : Int) = some ((snapM m (j : Int)).2, (snapM m (j : Int)).1.Tens) := by
  have ht := h.tens _ (List.getElem_mem hj)
  have hsn := ht.sn
  have hl := ht.len
  unfold impl_MTen_snap_el0_MTen
  rw [snapM_nat m j hj, withSnaps_nat m j hj, idx_nat m.Tens j hj]
  simp only [Option.bind_some, lastIs_eval _ _ (show m.Tens[j].Snaps.length ≤ 1000 by omega), no_R]
  cases lastIs m.Tens[j].Snaps m.Tens[j].Seq with
  | true => rfl
  | false =>
    simp only [Bool.false_eq_true, if_false, cond_false]
    by_cases h2 : 2 ≤ m.Tens[j].Snaps.length
    · rw [decide_eq_true (by omega : ((m.Tens[j].Snaps.length : Nat) : Int) ≥ 2), decide_eq_true h2]
      rfl
    · rw [decide_eq_false (by omega : ¬ ((m.Tens[j].Snaps.length : Nat) : Int) ≥ 2), decide_eq_false h2]
      simp only [Bool.false_eq_true, if_false, cond_false, cloneKV_R _ (show m.Tens[j].Map.length ≤ 1048576 by omega), Option.bind_some]
      rw [app_ok (by simp only [List.length_singleton]; omega) (by simp only [List.length_singleton]; omega)]
      simp only [Option.bind_some, Int.toNat_natCast]
      rw [idx_nat _ j (by rw [List.length_set]; exact hj), List.getElem_set_self]
      rfl
theorem spec_snap_eq {n : Nat} (m : Model) (h : okM n m) (hn : n ≤ 500) (j : Nat) (hj : j < m.Tens.length) : spec_l21Snap m (j : Int) = some (snapM m (j : Int)) := by
  have ht := h.tens _ (List.getElem_mem hj)
  have hsn := ht.sn
  have hl := ht.len
  unfold spec_l21Snap
  rw [snapM_nat m j hj, withSnaps_nat m j hj, idx_nat m.Tens j hj]
  simp only [Option.bind_some, lastIs_eval _ _ (show m.Tens[j].Snaps.length ≤ 1000 by omega), l21Code_R]
  cases lastIs m.Tens[j].Snaps m.Tens[j].Seq with
  | true => rfl
  | false =>
    simp only [Bool.false_eq_true, if_false, cond_false]
    by_cases h2 : 2 ≤ m.Tens[j].Snaps.length
    · rw [decide_eq_true (by omega : ((m.Tens[j].Snaps.length : Nat) : Int) ≥ 2), decide_eq_true h2]
      rfl
    · rw [decide_eq_false (by omega : ¬ ((m.Tens[j].Snaps.length : Nat) : Int) ≥ 2), decide_eq_false h2]
      simp only [Bool.false_eq_true, if_false, cond_false, l21CopyMap_R _ (show m.Tens[j].Map.length ≤ 1048576 by omega), Option.bind_some]
      rw [app_ok (by simp only [List.length_nil]; omega) (by simp only [List.length_nil]; omega)]
      simp only [Option.bind_some, List.nil_append, Int.toNat_natCast]
      rw [app_ok (by simp only [List.length_singleton]; omega) (by simp only [List.length_singleton]; omega)]
      rfl
theorem atS_cases (l : List MSnap) (q : Int) : (∃ j, ∃ hj : j < l.length, atS l q = (j : Int)) ∨ atS l q = -1 := by
  rcases fstV_eq (fun s : MSnap => decide (s.Seq = q)) l with ⟨j, hj, e, _, _⟩ | ⟨e, _⟩
  · exact .inl ⟨j, hj, e⟩
  · exact .inr e
theorem impl_snapAt_eq {n : Nat} (m : Model) (h : okM n m) (j : Nat) (hj : j < m.Tens.length) (q : Int) : impl_MTen_snapAt_el0_MTen m.Tens (j : Int) q = some (atS m.Tens[j].Snaps q) := by
  have hsn := (h.tens _ (List.getElem_mem hj)).sn
  unfold impl_MTen_snapAt_el0_MTen
  rw [idx_nat m.Tens j hj]
  have : slices_IndexFunc_19507_at_impl_MTen_snapAt_1 m.Tens[j].Snaps q = some (atS m.Tens[j].Snaps q) := by
    unfold slices_IndexFunc_19507_at_impl_MTen_snapAt_1 atS fstV
    rw [fst_loop (fun s : MSnap => decide (s.Seq = q)) m.Tens[j].Snaps (by omega) (fun j => j) rfl (fun k hk => ?_) (by simp)]
    simp only [idx_nat m.Tens[j].Snaps k hk, Option.bind_some, impl_MTen_snapAt_1]
    rw [if_pos (by simpa using hk), wrap_ok (by omega) (by omega)]
    cases decide (m.Tens[j].Snaps[k].Seq = q) <;> rfl
  simp only [Option.bind_some, this]
theorem del_snap (l : List MSnap) (k : Nat) (hk : k < l.length) (hl : l.length ≤ 1000) : slices_Delete_19507 l (k : Int) (IntKind.i64.wrap ((k : Int) + (1 : Int))) = some (l.take k ++ l.drop (k + 1)) := by
  unfold slices_Delete_19507
  rw [wrap_ok (n := (k : Int) + 1) (by omega) (by omega)]
  have p1 : piece l (k : Int) ((k : Int) + 1) = some ((l.drop k).take 1) := by
    unfold piece
    rw [if_pos ⟨by omega, by omega, by omega⟩, Int.toNat_natCast, show ((k : Int) + 1).toNat - k = 1 by omega]
  have p2 : piece l (0 : Int) (k : Int) = some (l.take k) := by
    unfold piece
    rw [if_pos ⟨by omega, by omega, by omega⟩]
    simp
  have p3 : piece l ((k : Int) + 1) ((l.length : Nat) : Int) = some (l.drop (k + 1)) := by
    unfold piece
    rw [if_pos ⟨by omega, by omega, by omega⟩, show ((k : Int) + 1).toNat = k + 1 by omega, Int.toNat_natCast, List.take_of_length_le (by rw [List.length_drop]; omega)]
  simp only [p1, p2, p3, Option.bind_some]
  rw [decide_eq_false (by omega : ¬ (k : Int) = (k : Int) + 1)]
  rfl
theorem heldM_nat (m : Model) (j : Nat) (hj : j < m.Tens.length) (c : Call) : heldM m (j : Int) c =
    (bif decide (atS m.Tens[j].Snaps c.N < 0) then (m, codeR 5)
  else bif decide (c.Kind = 10) then (m, findR (m.Tens[j].Snaps.getD (atS m.Tens[j].Snaps c.N).toNat { Seq := 0, Map := [] }).Map c.Key)
  else (withSnaps m (j : Int) (m.Tens[j].Snaps.take (atS m.Tens[j].Snaps c.N).toNat ++ m.Tens[j].Snaps.drop ((atS m.Tens[j].Snaps c.N).toNat + 1)), codeR 0)) := by
  unfold heldM
  rw [getT_nat _ j hj]
theorem cutO_first {α : Type} (l : List α) (k : Nat) (hk : k ≤ l.length) : cutO (l.map some) (0 : Int) (k : Int) = some (l.take k, List.replicate k none ++ (l.drop k).map some) := by
  unfold cutO
  rw [if_pos ⟨by omega, by omega, by simp; omega⟩]
  simp only [Int.toNat_natCast, Int.toNat_zero, Nat.sub_zero, List.drop_zero, List.take_zero, List.nil_append, ← List.map_take, allO_some, Option.map_some, ← List.map_drop, List.map_nil, List.nil_append]
theorem cutO_second {α : Type} (l : List α) (k : Nat) (hk : k < l.length) : ∃ ms, cutO (List.replicate k none ++ (l.drop k).map some) ((k : Int) + 1) ((l.length : Nat) : Int) = some (l.drop (k + 1), ms) := by
  unfold cutO
  rw [if_pos ⟨by omega, by omega, by simp; omega⟩]
  have e : ((List.replicate k (none : Option α) ++ (l.drop k).map some).drop ((k : Int) + 1).toNat).take (((l.length : Nat) : Int).toNat - ((k : Int) + 1).toNat) = (l.drop (k + 1)).map some := by
    rw [show ((k : Int) + 1).toNat = k + 1 by omega, Int.toNat_natCast, List.drop_append, List.drop_of_length_le (by simp), List.nil_append, List.length_replicate, show k + 1 - k = 1 by omega, ← List.map_drop, List.drop_drop, List.take_of_length_le (by simp)]
  rw [e, allO_some]
  exact ⟨_, rfl⟩
theorem spec_held_eq {n : Nat} (m : Model) (h : okM n m) (hn : n ≤ 500) (j : Nat) (hj : j < m.Tens.length) (c : Call) :
    bindC (loopO (fun (S38 : Int) => if (decide (S38 < ((m.Tens[j].Snaps.length : Nat) : Int))) = true then ((idx m.Tens[j].Snaps S38).bind fun E43 =>
  if (!(decide (E43.Seq = c.N))) = true then (some (.go (IntKind.i64.wrap (S38 + (1 : Int)))))
  else (if (decide (c.Kind = (10 : Int))) = true then ((spec_l21Find E43.Map c.Key).bind fun R49 =>
  some (.done (.done (m, R49))))
  else ((piece m.Tens[j].Snaps (0 : Int) S38).bind fun E53 =>
  (cutO (m.Tens[j].Snaps.map some) (0 : Int) S38).bind fun E56 =>
  (app 32 ([] : List MSnap) E56.1).bind fun E58 =>
  (piece E56.2 (IntKind.i64.wrap (S38 + (1 : Int))) ((E56.2.length : Nat) : Int)).bind fun E60 =>
  (cutO E56.2 (IntKind.i64.wrap (S38 + (1 : Int))) ((E56.2.length : Nat) : Int)).bind fun E63 =>
  (app 32 E58 E63.1).bind fun E65 =>
  some (.done (.done ({ Secret := m.Secret, Shares := m.Shares, Tens := m.Tens.set ((j : Nat) : Int).toNat ({ Id := m.Tens[j].Id, Epoch := m.Tens[j].Epoch, Seq := m.Tens[j].Seq, Map := m.Tens[j].Map, Snaps := E65 : MTen }), Base := m.Base, Rows := m.Rows : Model }, { Code := (0 : Int), N := (0 : Int), Text := [], List := ([] : List KV) : Reply }))))))
  else (some (.done (.go ()))))
  (0 : Int))
  (fun (T40 : Unit) => (spec_l21Code (5 : Int)).bind fun R68 =>
  some (m, R68)) = some (heldM m (j : Int) c) := by
  have ht := h.tens _ (List.getElem_mem hj)
  have hsn := ht.sn
  refine (fst_loop (fun s : MSnap => decide (s.Seq = c.N)) m.Tens[j].Snaps (by omega) (fun k => (bif decide (c.Kind = 10) then (m, findR (m.Tens[j].Snaps.getD k.toNat { Seq := 0, Map := [] }).Map c.Key)
    else (withSnaps m (j : Int) (m.Tens[j].Snaps.take k.toNat ++ m.Tens[j].Snaps.drop (k.toNat + 1)), codeR 0))) (z := (m, codeR 5)) rfl (fun k hk => ?_) (by simp)).trans ?_
  · simp only [idx_nat m.Tens[j].Snaps k hk, Option.bind_some]
    rw [if_pos (by simpa using hk), wrap_ok (n := (k : Int) + 1) (by omega) (by omega)]
    have hE := (ht.each _ (List.getElem_mem hk)).2.1
    cases decide (m.Tens[j].Snaps[k].Seq = c.N) with
    | false => rfl
    | true =>
      simp only [Bool.not_true, Bool.false_eq_true, if_false, if_true, Int.toNat_natCast]
      cases decide (c.Kind = 10) with
      | true =>
        simp only [if_true, spec_l21Find_eq _ _ (show m.Tens[j].Snaps[k].Map.length ≤ 1048576 by omega), Option.bind_some, cond_true, List.getD_eq_getElem?_getD, List.getElem?_eq_getElem hk, Option.getD_some]
      | false =>
        have p0 : piece m.Tens[j].Snaps (0 : Int) (k : Int) = some (m.Tens[j].Snaps.take k) := by
          unfold piece
          rw [if_pos ⟨by omega, by omega, by omega⟩]
          simp
        have hlen : (List.replicate k (none : Option MSnap) ++ (m.Tens[j].Snaps.drop k).map some).length = m.Tens[j].Snaps.length := by simp; omega
        have p1 : ∃ z, piece (List.replicate k (none : Option MSnap) ++ (m.Tens[j].Snaps.drop k).map some) ((k : Int) + 1) ((m.Tens[j].Snaps.length : Nat) : Int) = some z := by
          unfold piece
          rw [if_pos ⟨by omega, by omega, by omega⟩]
          exact ⟨_, rfl⟩
        obtain ⟨z, p1⟩ := p1
        obtain ⟨ms, p2⟩ := cutO_second m.Tens[j].Snaps k hk
        simp only [Bool.false_eq_true, if_false, p0, Option.bind_some, cutO_first m.Tens[j].Snaps k (by omega), hlen, p1, p2, cond_false]
        rw [app_ok (by simp only [List.length_nil, List.length_take]; omega) (by simp only [List.length_nil, List.length_take]; omega)]
        simp only [Option.bind_some, List.nil_append]
        rw [app_ok (by simp only [List.length_take, List.length_drop]; omega) (by simp only [List.length_take, List.length_drop]; omega), withSnaps_nat m j hj]
        rfl
  · rw [heldM_nat m j hj]
    unfold atS fstV
    cases m.Tens[j].Snaps.findIdx? (fun s : MSnap => decide (s.Seq = c.N)) with
    | none => rfl
    | some k =>
      simp only
      rw [decide_eq_false (by omega : ¬ (k : Int) < 0)]
      rfl
/-! ## the model's step, both sides -/
theorem set_loop {α R : Type} (g : α → α) (l : List α) (hl : l.length ≤ 1000000) {body : Int × List α → Option (Ctl (Int × List α) (Ctl (List α) R))} {f : List α → Option R} {z : R}
    (hb : ∀ k (us : List α), k < l.length → us.length = l.length → body ((k : Int), us) = (idx us (k : Int)).bind fun E => some (.go (IntKind.i64.wrap ((k : Int) + (1 : Int)), us.set ((k : Nat) : Int).toNat (g E))))
    (hn : ∀ us : List α, us.length = l.length → body ((l.length : Int), us) = some (.done (.go us))) (hf : f (l.map g) = some z) : bindC (loopO body ((0 : Int), l)) f = some z := by
  refine loopO_bind (fun k (S : Int × List α) => S = ((k : Int), (l.take k).map g ++ l.drop k)) l.length (fun r => r = .go (l.map g)) rfl ?_ ?_ (fun r hr => by rw [hr]; exact hf)
  · rintro k _ hk rfl
    left
    refine ⟨_, ?_, rfl⟩
    have hlen : ((l.take k).map g ++ l.drop k).length = l.length := by simp; omega
    have hg : ((l.take k).map g ++ l.drop k)[k]'(by omega) = l[k] := by
      rw [List.getElem_append_right (by rw [List.length_map, List.length_take]; omega), List.getElem_drop]
      congr 1
      simp; omega
    rw [hb k _ hk hlen, idx_nat _ k (by omega), Option.bind_some, hg, Int.toNat_natCast, wrap_ok (n := (k : Int) + 1) (by omega) (by omega)]
    congr 3
    rw [take_snoc l k hk, List.map_append, List.set_append_right _ _ (by rw [List.length_map, List.length_take]; omega), List.length_map, List.length_take, show k - min k l.length = 0 by omega, List.drop_eq_getElem_cons hk, List.set_cons_zero]
    simp
  · rintro _ rfl
    refine ⟨.go (l.map g), ?_, rfl⟩
    rw [List.take_length, List.drop_length, List.append_nil, hn _ (by simp)]
theorem writeM_sh (m : Model) (i : Int) (ops : List Op) : (writeM m i ops).1.Shares = m.Shares := by
  unfold writeM
  cases batchV ops with
  | false => rfl
  | true =>
    cases decide ((bytesN (applyK (getT m.Tens i).Map ops) : Int) > quoV (-1) m.Shares (getT m.Tens i).Id) <;> rfl
theorem snapM_tens (m : Model) (i : Int) : (snapM m i).1 = { Secret := m.Secret, Shares := m.Shares, Tens := (snapM m i).1.Tens, Base := m.Base, Rows := m.Rows } := by
  unfold snapM
  cases lastIs (getT m.Tens i).Snaps (getT m.Tens i).Seq with
  | true => rfl
  | false => cases decide (2 ≤ (getT m.Tens i).Snaps.length) <;> rfl
theorem tenM_nat (m : Model) (j : Nat) (hj : j < m.Tens.length) (c : Call) : tenM m (j : Int) c =
    (bif decide (c.Kind = 5) then writeM m (j : Int) c.Ops
  else bif decide (c.Kind = 6) then (m, findR m.Tens[j].Map c.Key)
  else bif decide (c.Kind = 7) then (m, { Code := 0, N := 0, Text := [], List := scanV m.Tens[j].Map c.Key c.To })
  else bif decide (c.Kind = 8) then snapM m (j : Int)
  else bif decide (c.Kind = 11) then (m, { Code := 0, N := (bytesN m.Tens[j].Map : Int), Text := [], List := [] })
  else heldM m (j : Int) c) := by
  unfold tenM
  rw [getT_nat _ j hj]
theorem callM_none (m : Model) (c : Call) (ha : atT m.Tens (tokR m.Secret c.Token).1 = -1) : callM m c = (m, codeR 2) := by
  unfold callM
  rw [ha]
  cases (tokR m.Secret c.Token).2.2 <;> rfl
theorem callM_nat (m : Model) (c : Call) (j : Nat) (hj : j < m.Tens.length) (ha : atT m.Tens (tokR m.Secret c.Token).1 = (j : Int)) :
    callM m c = (bif !(tokR m.Secret c.Token).2.2 || !decide (m.Tens[j].Epoch = (tokR m.Secret c.Token).2.1) then (m, codeR 2) else tenM m (j : Int) c) := by
  unfold callM
  rw [ha, getT_nat _ j hj, decide_eq_false (by omega), Bool.false_or]
theorem impl_call_eq {n : Nat} (m : Model) (c : Call) (h : okM n m) (hn : n ≤ 500) (ht : c.Token.length ≤ 1048576) (hc : c.Ops.length ≤ 1048576) : impl_Model_ofTenant m c = some ((callM m c).2, (callM m c).1) := by
  have h4 := h.n4
  unfold impl_Model_ofTenant
  rw [impl_ReadToken_eq m.Secret c.Token (by omega)]
  simp only [Option.bind_some, tenAt_R _ _ (show m.Tens.length ≤ 1048576 by omega), no_R]
  rcases atT_cases m.Tens (tokR m.Secret c.Token).1 with ⟨j, hj, e, _, _⟩ | ⟨e, _⟩
  · rw [callM_nat m c j hj e, e, decide_eq_false (by omega : ¬ (j : Int) < 0)]
    simp only [idx_nat m.Tens j hj, Option.bind_some]
    cases (tokR m.Secret c.Token).2.2 with
    | false => rfl
    | true =>
      cases decide (m.Tens[j].Epoch = (tokR m.Secret c.Token).2.1) with
      | false => rfl
      | true =>
        simp only [Bool.not_true, Bool.false_eq_true, if_false, Option.bind_some, Bool.or_self, cond_false]
        rw [tenM_nat m j hj c]
        have hT := h.tens _ (List.getElem_mem hj)
        have hl := hT.len
        have hsn := hT.sn
        cases decide (c.Kind = 5) with
        | true =>
          simp only [if_true, impl_write_eq m c h hn hc j hj, Option.bind_some, cond_true]
          have := writeM_sh m (j : Int) c.Ops
          rw [← this]
        | false =>
          cases decide (c.Kind = 6) with
          | true => simp only [Bool.false_eq_true, if_false, if_true, impl_lookUp_eq _ _ hT.srt (show m.Tens[j].Map.length ≤ 1048576 by omega), Option.bind_some, cond_true, cond_false]
          | false =>
            cases decide (c.Kind = 7) with
            | true => simp only [Bool.false_eq_true, if_false, if_true, impl_between_eq _ _ _ (show m.Tens[j].Map.length ≤ 1048576 by omega), Option.bind_some, cond_true, cond_false]
            | false =>
              cases decide (c.Kind = 8) with
              | true =>
                simp only [Bool.false_eq_true, if_false, if_true, impl_snap_eq m h hn j hj, Option.bind_some, cond_true, cond_false]
                rw [← snapM_tens m (j : Int)]
              | false =>
                cases decide (c.Kind = 11) with
                | true => simp only [Bool.false_eq_true, if_false, if_true, impl_bytesOf_eq _ hT.kv (show m.Tens[j].Map.length ≤ 1048576 by omega), Option.bind_some, cond_true, cond_false]
                | false =>
                  simp only [Bool.false_eq_true, if_false, impl_snapAt_eq m h j hj, Option.bind_some, cond_false]
                  rw [heldM_nat m j hj]
                  rcases atS_cases m.Tens[j].Snaps c.N with ⟨k, hk, es⟩ | es
                  · rw [es, decide_eq_false (by omega : ¬ (k : Int) < 0)]
                    simp only [Bool.false_eq_true, if_false, cond_false, idx_nat m.Tens[j].Snaps k hk, Option.bind_some, del_snap m.Tens[j].Snaps k hk (by omega), Int.toNat_natCast]
                    have hE := hT.each _ (List.getElem_mem hk)
                    cases decide (c.Kind = 10) with
                    | true => simp only [if_true, impl_lookUp_eq _ _ hE.1 (show m.Tens[j].Snaps[k].Map.length ≤ 1048576 by omega), Option.bind_some, cond_true, List.getD_eq_getElem?_getD, List.getElem?_eq_getElem hk, Option.getD_some]
                    | false =>
                      rw [withSnaps_nat m j hj]
                      rfl
                  · rw [es]
                    rfl
  · rw [callM_none m c e, e]
    cases (tokR m.Secret c.Token).2.2 <;> rfl
theorem spec_tenant_eq {n : Nat} (m : Model) (c : Call) (h : okM n m) (hn : n ≤ 500) (hc : c.Ops.length ≤ 1048576) (j : Nat) (hj : j < m.Tens.length) : spec_l21Tenant m (j : Int) c = some (tenM m (j : Int) c) := by
  have hT := h.tens _ (List.getElem_mem hj)
  have hl := hT.len
  have hsn := hT.sn
  unfold spec_l21Tenant
  rw [tenM_nat m j hj c, idx_nat m.Tens j hj]
  simp only [Option.bind_some]
  cases decide (c.Kind = 5) with
  | true => simp only [if_true, spec_l21Write_eq m c.Ops h hn hc j hj, Option.bind_some, cond_true]
  | false =>
    cases decide (c.Kind = 6) with
    | true => simp only [Bool.false_eq_true, if_false, if_true, spec_l21Find_eq _ _ (show m.Tens[j].Map.length ≤ 1048576 by omega), Option.bind_some, cond_true, cond_false]
    | false =>
      cases decide (c.Kind = 7) with
      | true => simp only [Bool.false_eq_true, if_false, if_true, spec_l21Scan_eq _ _ _ (show m.Tens[j].Map.length ≤ 1048576 by omega), Option.bind_some, cond_true, cond_false]
      | false =>
        cases decide (c.Kind = 8) with
        | true => simp only [Bool.false_eq_true, if_false, if_true, spec_snap_eq m h hn j hj, Option.bind_some, cond_true, cond_false]
        | false =>
          cases decide (c.Kind = 11) with
          | true => simp only [Bool.false_eq_true, if_false, if_true, spec_Bytes_eq _ hT.srt hT.kv (show m.Tens[j].Map.length ≤ 1000000 by omega), Option.bind_some, cond_true, cond_false]
          | false =>
            simp only [Bool.false_eq_true, if_false, cond_false]
            exact spec_held_eq m h hn j hj c
theorem impl_create_eq {n : Nat} (m : Model) (c : Call) (h : okM n m) : impl_Model_create m c = some ((createM m c).2, (createM m c).1) := by
  have h4 := h.n4
  have hsl := sh_lens h.sh
  unfold impl_Model_create createM
  simp only [isTenant_R, isQuota_R, tenAt_R _ _ (show m.Tens.length ≤ 1048576 by omega), no_R, impl_ShareSet_R m.Shares _ _ (show m.Shares.List.length ≤ 1048576 by omega), impl_MintToken_eq, len32, Option.bind_some]
  cases decide (1 ≤ c.Tenant ∧ c.Tenant ≤ 99) with
  | false => rfl
  | true =>
  cases decide (0 ≤ c.N ∧ c.N ≤ 40) with
  | false => rfl
  | true =>
  cases decide (c.Key.length = 32) with
  | false => rfl
  | true =>
  rcases atT_cases m.Tens c.Tenant with ⟨j, hj, e, _, _⟩ | ⟨e, hno⟩
  · rw [e, decide_eq_true (by omega : (j : Int) ≥ 0)]
    rfl
  · have hnb : ∀ x ∈ m.Base, ¬ x.Id = c.Tenant := by
      intro x hx hxe
      have hm : x.Id ∈ m.Base.map MTen.Id := List.mem_map_of_mem hx
      rw [h.base] at hm
      obtain ⟨y, hy, hye⟩ := List.mem_map.1 hm
      exact hno y hy (hye.trans hxe)
    rw [e]
    simp only [Bool.not_true, Bool.false_eq_true, if_false, Option.bind_some, Bool.false_or, show decide ((-1 : Int) ≥ 0) = false from rfl, cond_false]
    by_cases h44 : 4 ≤ m.Tens.length
    · rw [decide_eq_true (by omega : ((m.Tens.length : Nat) : Int) ≥ 4), decide_eq_true h44]
      rfl
    · rw [decide_eq_false (by omega : ¬ ((m.Tens.length : Nat) : Int) ≥ 4), decide_eq_false h44]
      have i1 := impl_addTen_eq m.Tens (newTen c.Tenant) (by omega) hno
      have i2 := impl_addTen_eq m.Base (newTen c.Tenant) (by omega) hnb
      unfold newTen at i1 i2
      simp only [Bool.false_eq_true, if_false, cond_false, i1, i2, Option.bind_some]
      cases (setR m.Shares c.Tenant c.N).2 <;> rfl
theorem spec_create_eq {n : Nat} (m : Model) (c : Call) (h : okM n m) : spec_l21Create m c = some (createM m c) := by
  have h4 := h.n4
  have hsl := sh_lens h.sh
  unfold spec_l21Create createM
  simp only [l1In_eq, l21At_R _ _ (show m.Tens.length ≤ 1048576 by omega), l21Code_R, spec_ShareSet_R m.Shares _ _ (show m.Shares.List.length ≤ 1048576 by omega), spec_MintToken_eq, len32, Option.bind_some]
  cases decide (1 ≤ c.Tenant ∧ c.Tenant ≤ 99) with
  | false => rfl
  | true =>
  cases decide (0 ≤ c.N ∧ c.N ≤ 40) with
  | false => rfl
  | true =>
  cases decide (c.Key.length = 32) with
  | false => rfl
  | true =>
  cases decide (atT m.Tens c.Tenant ≥ 0) with
  | true => rfl
  | false =>
    simp only [Bool.not_true, Bool.false_eq_true, if_false, Option.bind_some, Bool.false_or, cond_false]
    have i1 := spec_l21Put_eq m.Tens (newTen c.Tenant) (by omega)
    have i2 := spec_l21Put_eq m.Base (newTen c.Tenant) (by omega)
    unfold newTen at i1 i2
    by_cases h44 : 4 ≤ m.Tens.length
    · rw [decide_eq_true (by omega : ((m.Tens.length : Nat) : Int) ≥ 4), decide_eq_true h44]
      rfl
    · rw [decide_eq_false (by omega : ¬ ((m.Tens.length : Nat) : Int) ≥ 4), decide_eq_false h44]
      simp only [Bool.false_eq_true, if_false, cond_false, i1, i2, Option.bind_some]
      cases (setR m.Shares c.Tenant c.N).2 <;> rfl
theorem upEpoch_nat (l : List MTen) (j : Nat) (hj : j < l.length) (e : Int) : upEpoch l (j : Int) e = l.set j { Id := l[j].Id, Epoch := e, Seq := l[j].Seq, Map := l[j].Map, Snaps := l[j].Snaps } := by
  unfold upEpoch
  rw [getT_nat _ j hj, Int.toNat_natCast]
theorem quotaM_rest (m : Model) (c : Call) : (quotaM m c).1 = { Secret := (quotaM m c).1.Secret, Shares := (quotaM m c).1.Shares, Tens := m.Tens, Base := m.Base, Rows := m.Rows } := by
  unfold quotaM
  cases decide (0 ≤ c.N ∧ c.N ≤ 40) with
  | false => rfl
  | true => cases (setR m.Shares c.Tenant c.N).2 <;> rfl
theorem rotateM_nat (m : Model) (id : Int) (j : Nat) (hj : j < m.Tens.length) (ha : atT m.Tens id = (j : Int)) : rotateM m id =
    (bif decide (m.Tens[j].Epoch ≥ 1000000) then (m, codeR 4)
  else ({ Secret := m.Secret, Shares := m.Shares, Tens := upEpoch m.Tens (j : Int) (m.Tens[j].Epoch + 1), Base := (bif decide (atT m.Base id ≥ 0) then upEpoch m.Base (atT m.Base id) (m.Tens[j].Epoch + 1) else m.Base), Rows := m.Rows },
    { Code := 0, N := 0, Text := mintV m.Secret id (m.Tens[j].Epoch + 1), List := [] })) := by
  unfold rotateM
  rw [ha, getT_nat _ j hj]
theorem impl_rotate_eq {n : Nat} (m : Model) (id : Int) (h : okM n m) (j : Nat) (hj : j < m.Tens.length) (ha : atT m.Tens id = (j : Int)) : impl_Model_rotate m id = some ((rotateM m id).2, (rotateM m id).1) := by
  have h4 := h.n4
  have hep := (h.tens _ (List.getElem_mem hj)).ep
  unfold impl_Model_rotate
  rw [rotateM_nat m id j hj ha]
  simp only [tenAt_R _ _ (show m.Tens.length ≤ 1048576 by omega), tenAt_R _ _ (show m.Base.length ≤ 1048576 by omega), ha, idx_nat m.Tens j hj, no_R, impl_MintToken_eq, Option.bind_some, Int.toNat_natCast]
  by_cases he : m.Tens[j].Epoch ≥ 1000000
  · rw [decide_eq_true he]
    rfl
  · rw [decide_eq_false he, wrap_ok (n := m.Tens[j].Epoch + 1) (by omega) (by omega), upEpoch_nat m.Tens j hj]
    have hset : ∀ t : MTen, idx (m.Tens.set j t) (j : Int) = some t := fun t => by rw [idx_nat _ j (by rw [List.length_set]; exact hj), List.getElem_set_self]
    simp only [Bool.false_eq_true, if_false, cond_false, hset, Option.bind_some]
    rcases atT_cases m.Base id with ⟨k, hk, e, _, _⟩ | ⟨e, _⟩
    · rw [e, decide_eq_true (by omega : (k : Int) ≥ 0), upEpoch_nat m.Base k hk]
      simp only [if_true, idx_nat m.Base k hk, Option.bind_some, bindC_go, Int.toNat_natCast, cond_true]
    · rw [e]
      rfl
theorem impl_remove_eq {n : Nat} (m : Model) (id : Int) (h : okM n m) (hn : n ≤ 500) : impl_Model_remove m id = some (codeR 0, removeM m id) := by
  have h4 := h.n4
  have hsl := sh_lens h.sh
  have hr := h.rows
  unfold impl_Model_remove impl_Model_dropRows removeM
  simp only [impl_dropTen_eq m.Tens id (by omega), impl_dropTen_eq m.Base id (by omega), impl_ShareDrop_eq m.Shares id (by omega), dropRows_eq m.Rows id (by omega), Option.bind_some]
  rfl
theorem impl_quota_eq {n : Nat} (m : Model) (c : Call) (h : okM n m) : impl_Model_quota m c = some ((quotaM m c).2, (quotaM m c).1) := by
  have hsl := sh_lens h.sh
  unfold impl_Model_quota quotaM
  simp only [isQuota_R, no_R, impl_ShareSet_R m.Shares _ _ (show m.Shares.List.length ≤ 1048576 by omega), Option.bind_some]
  cases decide (0 ≤ c.N ∧ c.N ≤ 40) with
  | false => rfl
  | true => cases (setR m.Shares c.Tenant c.N).2 <;> rfl
theorem rotateM_sh (m : Model) (id : Int) : (rotateM m id).1.Shares = m.Shares ∧ (rotateM m id).1.Rows = m.Rows := by
  unfold rotateM
  cases decide ((getT m.Tens (atT m.Tens id)).Epoch ≥ 1000000) <;> exact ⟨rfl, rfl⟩
theorem impl_own_eq {n : Nat} (m : Model) (c : Call) (h : okM n m) (hn : n ≤ 500) : impl_Model_ofOwner m c = some ((ownM m c).2, (ownM m c).1) := by
  have h4 := h.n4
  unfold impl_Model_ofOwner ownM
  simp only [tenAt_R _ _ (show m.Tens.length ≤ 1048576 by omega), no_R, Option.bind_some]
  rcases atT_cases m.Tens c.Tenant with ⟨j, hj, e, hid, _⟩ | ⟨e, _⟩
  · rw [e, decide_eq_false (by omega : ¬ (j : Int) < 0)]
    simp only [Bool.false_eq_true, if_false, cond_false]
    cases decide (c.Kind = 2) with
    | true =>
      simp only [if_true, impl_quota_eq m c h, Option.bind_some, cond_true]
      rw [← quotaM_rest m c]
    | false =>
      cases decide (c.Kind = 3) with
      | true => simp only [Bool.false_eq_true, if_false, if_true, impl_remove_eq m _ h hn, Option.bind_some, cond_true, cond_false]
      | false =>
        cases decide (c.Kind = 4) with
        | true =>
          simp only [Bool.false_eq_true, if_false, if_true, impl_rotate_eq m _ h j hj e, Option.bind_some, cond_true, cond_false]
          obtain ⟨g1, g2⟩ := rotateM_sh m c.Tenant
          rw [← g1, ← g2]
        | false =>
          simp only [Bool.false_eq_true, if_false, impl_Model_flush_eq m _ (h.sm (by omega)) j hj e hid, Option.bind_some, cond_false]
          rfl
  · rw [e]
    rfl
theorem impl_sync_eq {n : Nat} (m : Model) (h : okM n m) (hn : n ≤ 500) : impl_Model_sync m = some (codeR 0, syncM m) := by
  have hr := h.rows
  unfold impl_Model_sync syncM
  refine set_loop (fun r : MRow => { Tenant := r.Tenant, Ops := r.Ops, Synced := true }) m.Rows (by omega) (fun k us hk hu => ?_) (fun us hu => ?_) rfl
  · simp only
    rw [if_pos (by simpa using hk)]
  · simp
theorem impl_crash_eq {n : Nat} (m : Model) (c : Int) (h : okM n m) (hn : n ≤ 500) (hc : -9223372036854775808 ≤ c ∧ c ≤ 9223372036854775807) : impl_Model_crash m c = some (codeR 0, crashM m c) := by
  have h4 := h.n4
  have hr := h.rows
  have hkl := keepR_len m.Rows c
  unfold impl_Model_crash crashM
  refine impl_keep m.Rows c (by omega) hc rfl fun ls => ?_
  simp only [impl_copyTens_eq m.Base (by omega) fun t ht => (h.bases t ht).1.sm (by omega), Option.bind_some]
  have hmap : m.Base.map (fun t : MTen => ({ Id := t.Id, Epoch := t.Epoch, Seq := t.Seq, Map := t.Map, Snaps := [] } : MTen)) = m.Base := by
    conv => rhs; rw [← List.map_id m.Base]
    refine List.map_congr_left fun t ht => ?_
    have := (h.bases t ht).2.1
    obtain ⟨a, b, d, e, f⟩ := t
    simp only at this
    subst this
    rfl
  refine set_loop (fun t : MTen => { Id := t.Id, Epoch := t.Epoch, Seq := t.Seq, Map := t.Map, Snaps := [] }) m.Base (by omega) (fun k us hk hu => ?_) (fun us hu => ?_) ?_
  · simp only
    rw [if_pos (by simpa using hk)]
  · simp
  · rw [hmap]
    refine impl_play (keepR c m.Rows) m.Base (6 * n) (by omega) (fun t ht => (h.bases t ht).1.w) (by omega) (by omega) (fun r hr => ?_) rfl rfl
    obtain ⟨s, hs, rfl⟩ := keepR_of _ _ _ hr
    exact h.ops s hs
theorem spec_crash_eq {n : Nat} (m : Model) (c : Int) (h : okM n m) (hn : n ≤ 500) (hc : -9223372036854775808 ≤ c ∧ c ≤ 9223372036854775807) : spec_l21Crash m c = some (crashM m c) := by
  have h4 := h.n4
  have hr := h.rows
  have hkl := keepR_len m.Rows c
  unfold spec_l21Crash crashM
  refine spec_keep m.Rows c (by omega) hc rfl fun ls => ?_
  simp only [spec_l21CopyTens_eq m.Base (by omega) fun t ht => (h.bases t ht).1.sm (by omega), Option.bind_some]
  refine spec_play (keepR c m.Rows) m.Base (6 * n) (by omega) (fun t ht => (h.bases t ht).1.w) (by omega) (by omega) (fun r hr => ?_) rfl rfl
  obtain ⟨s, hs, rfl⟩ := keepR_of _ _ _ hr
  exact h.ops s hs
theorem spec_owner_eq {n : Nat} (m : Model) (c : Call) (h : okM n m) (hn : n ≤ 500) (hc : -9223372036854775808 ≤ c.N ∧ c.N ≤ 9223372036854775807) : spec_l21Owner m c = some
    (bif decide (c.Kind = 1) then createM m c else bif decide (c.Kind = 12) then (syncM m, codeR 0) else bif decide (c.Kind = 14) then (crashM m c.N, codeR 0) else ownM m c) := by
  have h4 := h.n4
  have hr := h.rows
  have hsl := sh_lens h.sh
  unfold spec_l21Owner
  cases decide (c.Kind = 1) with
  | true => simp only [if_true, spec_create_eq m c h, Option.bind_some, cond_true]
  | false =>
  cases decide (c.Kind = 12) with
  | true =>
    simp only [Bool.false_eq_true, if_false, if_true, cond_true, cond_false]
    unfold syncM
    refine set_loop (fun r : MRow => { Tenant := r.Tenant, Ops := r.Ops, Synced := true }) m.Rows (by omega) (fun k us hk hu => ?_) (fun us hu => ?_) rfl
    · simp only
      rw [if_pos (by rw [hu]; simpa using hk)]
    · simp [hu]
  | false =>
  cases decide (c.Kind = 14) with
  | true => simp only [Bool.false_eq_true, if_false, if_true, spec_crash_eq m c.N h hn hc, Option.bind_some, cond_true, cond_false]; rfl
  | false =>
  simp only [Bool.false_eq_true, if_false, cond_false, l21At_R _ _ (show m.Tens.length ≤ 1048576 by omega), l21Code_R, Option.bind_some]
  unfold ownM
  rcases atT_cases m.Tens c.Tenant with ⟨j, hj, e, hid, _⟩ | ⟨e, _⟩
  · rw [e, decide_eq_false (by omega : ¬ (j : Int) < 0)]
    simp only [Bool.false_eq_true, if_false, cond_false]
    cases decide (c.Kind = 2) with
    | true =>
      simp only [if_true, l1In_eq, spec_ShareSet_R m.Shares _ _ (show m.Shares.List.length ≤ 1048576 by omega), Option.bind_some, cond_true]
      unfold quotaM
      cases decide (0 ≤ c.N ∧ c.N ≤ 40) with
      | false => rfl
      | true => cases hset : (setR m.Shares c.Tenant c.N).2 <;> simp [hset, bindC] <;> rfl
    | false =>
      cases decide (c.Kind = 3) with
      | true =>
        simp only [Bool.false_eq_true, if_false, if_true, spec_ShareDrop_eq m.Shares c.Tenant (by omega), spec_l21Without_eq m.Tens c.Tenant (by omega), spec_l21Without_eq m.Base c.Tenant (by omega), spec_l21Rows_eq m.Rows c.Tenant (by omega), Option.bind_some, bindC_go, cond_true, cond_false]
        rfl
      | false =>
        cases decide (c.Kind = 4) with
        | true =>
          have hep := (h.tens _ (List.getElem_mem hj)).ep
          simp only [Bool.false_eq_true, if_false, if_true, idx_nat m.Tens j hj, Option.bind_some, cond_true, cond_false, l21At_R _ _ (show m.Base.length ≤ 1048576 by omega), spec_MintToken_eq]
          rw [rotateM_nat m c.Tenant j hj e]
          by_cases he : m.Tens[j].Epoch ≥ 1000000
          · rw [decide_eq_true he]
            rfl
          · rw [decide_eq_false he, wrap_ok (n := m.Tens[j].Epoch + 1) (by omega) (by omega), upEpoch_nat m.Tens j hj]
            simp only [Bool.false_eq_true, if_false, cond_false]
            rcases atT_cases m.Base c.Tenant with ⟨k, hk, e2, _, _⟩ | ⟨e2, _⟩
            · rw [e2, decide_eq_true (by omega : (k : Int) ≥ 0), upEpoch_nat m.Base k hk]
              simp only [if_true, idx_nat m.Base k hk, Option.bind_some, bindC_go, Int.toNat_natCast, cond_true]
              rfl
            · rw [e2]
              rfl
        | false =>
          simp only [Bool.false_eq_true, if_false, spec_l21Flush_eq m (h.sm (by omega)) j hj, Option.bind_some, cond_false]
          rfl
  · rw [e]
    rfl
structure smC (c : Call) : Prop where
  tok : c.Token.length ≤ 1048576
  ops : c.Ops.length ≤ 1048576
  num : -9223372036854775808 ≤ c.N ∧ c.N ≤ 9223372036854775807
theorem impl_perform_eq {n : Nat} (m : Model) (c : Call) (h : okM n m) (hn : n ≤ 500) (hc : smC c) : impl_Model_perform m c = some ((doM m c).2, (doM m c).1) := by
  unfold impl_Model_perform doM
  simp only [inRange_eq, no_R, Option.bind_some]
  cases h1 : decide (c.Kind = 1) with
  | true =>
    have hrows : (createM m c).1.Rows = m.Rows := by
      unfold createM
      cases (!decide (1 ≤ c.Tenant ∧ c.Tenant ≤ 99) || (!decide (0 ≤ c.N ∧ c.N ≤ 40) || (!decide (c.Key.length = 32) || decide (atT m.Tens c.Tenant ≥ 0)))) with
      | true => rfl
      | false =>
        cases decide (4 ≤ m.Tens.length) with
        | true => rfl
        | false => cases (setR m.Shares c.Tenant c.N).2 <;> rfl
    simp only [if_true, impl_create_eq m c h, Option.bind_some, cond_true]
    rw [← hrows]
  | false =>
    simp only [Bool.false_eq_true, if_false, cond_false]
    have hk1 := of_decide_eq_false h1
    by_cases h12 : c.Kind = 12
    · rw [decide_eq_true h12, decide_eq_false (by omega : ¬ (2 ≤ c.Kind ∧ c.Kind ≤ 4)), decide_eq_false (by omega : ¬ c.Kind = 13), decide_eq_false (by omega : ¬ (5 ≤ c.Kind ∧ c.Kind ≤ 11))]
      simp only [Bool.false_eq_true, if_false, if_true, Option.bind_some, impl_sync_eq m h hn, cond_true]
      rfl
    · by_cases h14 : c.Kind = 14
      · rw [decide_eq_false h12, decide_eq_true h14, decide_eq_false (by omega : ¬ (2 ≤ c.Kind ∧ c.Kind ≤ 4)), decide_eq_false (by omega : ¬ c.Kind = 13), decide_eq_false (by omega : ¬ (5 ≤ c.Kind ∧ c.Kind ≤ 11))]
        simp only [Bool.false_eq_true, if_false, if_true, Option.bind_some, impl_crash_eq m c.N h hn hc.num, cond_true, cond_false]
        rfl
      · rw [decide_eq_false h12, decide_eq_false h14]
        have hor : ((if decide (2 ≤ c.Kind ∧ c.Kind ≤ 4) = true then (some true) else (some (decide (c.Kind = (13 : Int))))) : Option Bool) = some (decide (2 ≤ c.Kind ∧ c.Kind ≤ 4) || decide (c.Kind = 13)) := by
          cases decide (2 ≤ c.Kind ∧ c.Kind ≤ 4) <;> rfl
        rw [hor]
        simp only [Option.bind_some, cond_false]
        cases decide (2 ≤ c.Kind ∧ c.Kind ≤ 4) || decide (c.Kind = 13) with
        | true => simp only [if_true, impl_own_eq m c h hn, Option.bind_some, cond_true]
        | false =>
          simp only [Bool.false_eq_true, if_false, cond_false]
          cases decide (5 ≤ c.Kind ∧ c.Kind ≤ 11) with
          | true =>
            have hsh : (callM m c).1.Shares = m.Shares := by
              unfold callM
              cases (!(tokR m.Secret c.Token).2.2 || (decide (atT m.Tens (tokR m.Secret c.Token).1 < 0) || !decide ((getT m.Tens (atT m.Tens (tokR m.Secret c.Token).1)).Epoch = (tokR m.Secret c.Token).2.1))) with
              | true => rfl
              | false =>
                unfold tenM
                cases decide (c.Kind = 5) with
                | true => exact writeM_sh _ _ _
                | false =>
                cases decide (c.Kind = 6) with
                | true => rfl
                | false =>
                cases decide (c.Kind = 7) with
                | true => rfl
                | false =>
                cases decide (c.Kind = 8) with
                | true => simp only [cond_true, cond_false]; rw [snapM_tens]
                | false =>
                cases decide (c.Kind = 11) with
                | true => rfl
                | false =>
                  simp only [cond_false]
                  unfold heldM
                  cases decide (atS (getT m.Tens (atT m.Tens (tokR m.Secret c.Token).1)).Snaps c.N < 0) with
                  | true => rfl
                  | false => cases decide (c.Kind = 10) <;> rfl
            simp only [if_true, impl_call_eq m c h hn hc.tok hc.ops, Option.bind_some, cond_true]
            rw [← hsh]
          | false => rfl
theorem spec_l21Do_eq {n : Nat} (m : Model) (c : Call) (h : okM n m) (hn : n ≤ 500) (hc : smC c) : spec_l21Do m c = some (doM m c) := by
  have h4 := h.n4
  unfold spec_l21Do doM
  have hor : (((spec_l1In c.Kind (1 : Int) (4 : Int)).bind fun R7 => if R7 = true then (some true) else ((spec_l1In c.Kind (12 : Int) (14 : Int)).bind fun R11 => some R11)) : Option Bool) = some (decide (1 ≤ c.Kind ∧ c.Kind ≤ 4) || decide (12 ≤ c.Kind ∧ c.Kind ≤ 14)) := by
    simp only [l1In_eq, Option.bind_some]
    cases decide (1 ≤ c.Kind ∧ c.Kind ≤ 4) <;> rfl
  rw [hor]
  simp only [l1In_eq, Option.bind_some, l21Code_R]
  by_cases ho : (1 ≤ c.Kind ∧ c.Kind ≤ 4) ∨ (12 ≤ c.Kind ∧ c.Kind ≤ 14)
  · have hb : (decide (1 ≤ c.Kind ∧ c.Kind ≤ 4) || decide (12 ≤ c.Kind ∧ c.Kind ≤ 14)) = true := by simpa using ho
    rw [hb]
    simp only [if_true, spec_owner_eq m c h hn hc.num, Option.bind_some]
    cases h1 : decide (c.Kind = 1) with
    | true => rfl
    | false =>
    cases h12 : decide (c.Kind = 12) with
    | true => rfl
    | false =>
    cases h14 : decide (c.Kind = 14) with
    | true => rfl
    | false =>
      have a1 := of_decide_eq_false h1
      have a2 := of_decide_eq_false h12
      have a3 := of_decide_eq_false h14
      have : (decide (2 ≤ c.Kind ∧ c.Kind ≤ 4) || decide (c.Kind = 13)) = true := by
        rw [Bool.or_eq_true, decide_eq_true_eq, decide_eq_true_eq]
        omega
      rw [this]
      rfl
  · have hb : (decide (1 ≤ c.Kind ∧ c.Kind ≤ 4) || decide (12 ≤ c.Kind ∧ c.Kind ≤ 14)) = false := by simpa using ho
    rw [hb, decide_eq_false (by omega : ¬ c.Kind = 1), decide_eq_false (by omega : ¬ c.Kind = 12), decide_eq_false (by omega : ¬ c.Kind = 14), decide_eq_false (by omega : ¬ (2 ≤ c.Kind ∧ c.Kind ≤ 4)), decide_eq_false (by omega : ¬ c.Kind = 13)]
    simp only [Bool.false_eq_true, if_false, Bool.or_self, cond_false]
    cases decide (5 ≤ c.Kind ∧ c.Kind ≤ 11) with
    | false => rfl
    | true =>
      rw [spec_ReadToken_eq m.Secret c.Token (by have := hc.tok; omega)]
      simp only [Bool.not_true, Bool.false_eq_true, if_false, Option.bind_some, l21At_R _ _ (show m.Tens.length ≤ 1048576 by omega), cond_true]
      rcases atT_cases m.Tens (tokR m.Secret c.Token).1 with ⟨j, hj, e, _, _⟩ | ⟨e, _⟩
      · rw [callM_nat m c j hj e, e, decide_eq_false (by omega : ¬ (j : Int) < 0)]
        simp only [idx_nat m.Tens j hj, Option.bind_some]
        cases (tokR m.Secret c.Token).2.2 with
        | false => rfl
        | true =>
          cases decide (m.Tens[j].Epoch = (tokR m.Secret c.Token).2.1) with
          | false => rfl
          | true => simp only [Bool.not_true, Bool.false_eq_true, if_false, Option.bind_some, spec_tenant_eq m c h hn hc.ops j hj, Bool.or_self, cond_false]
      · rw [callM_none m c e, e]
        cases (tokR m.Secret c.Token).2.2 <;> rfl
/-! ## what a model keeps -/
theorem okT.up {n k : Nat} {t : MTen} (h : okT n t) (hk : n ≤ k) : okT k t :=
  ⟨h.srt, h.kv, by have := h.len; omega, by have := h.seq; omega, h.ep, h.sn, fun s hs => by
    obtain ⟨a, b, c⟩ := h.each s hs
    exact ⟨a, by omega, c⟩⟩
theorem okM.up {n k : Nat} {m : Model} (h : okM n m) (hk : n ≤ k) : okM k m :=
  ⟨h.sh, h.ids, h.base, fun t ht => (h.tens t ht).up hk, fun t ht => by
    obtain ⟨a, b, c, d⟩ := h.bases t ht
    exact ⟨a.up hk, b, by omega, by omega⟩, by have := h.rows; omega, h.ops⟩
theorem sharesV_drop {s : Shares} (t : Int) (hv : sharesV s = true) : sharesV { s with List := dropT s.List t } = true := by
  obtain ⟨h1, h2, h3, h4, h5⟩ := (sharesV_iff s).1 hv
  have hs := need_filter (fun x => !decide (x.Tenant = t)) s.List
  have hl : (dropT s.List t).length ≤ s.List.length := List.length_filter_le _ _
  rw [sharesV_iff]
  refine ⟨h1, by simp only; omega, fun x hx => h3 x (List.mem_filter.1 hx).1, h4.filter _, ?_⟩
  unfold allNeed at h5 ⊢
  simp only
  unfold dropT at hl ⊢
  split
  · rw [if_pos (by omega)] at h5; omega
  · split at h5 <;> omega
theorem dropR_list {s : Shares} (t : Int) (hv : sharesV s = true) : (shareDropR s t).1 = { s with List := dropT s.List t } := by
  unfold shareDropR
  rw [if_pos hv]
  split
  · rename_i h
    have : dropT s.List t = s.List := List.filter_eq_self.2 (List.length_filter_eq_length_iff.1 h)
    simp only [this]
  · rfl
theorem filter_map_eq {α β : Type} (f : α → β) (p : α → Bool) (q : β → Bool) (h : ∀ x, p x = q (f x)) : ∀ l : List α, (l.filter p).map f = (l.map f).filter q
  | [] => rfl
  | x :: l => by
    rw [List.filter_cons, List.map_cons, List.filter_cons, ← h x]
    cases p x with
    | true => simp only [if_true, List.map_cons, filter_map_eq f p q h l]
    | false => simp only [Bool.false_eq_true, if_false, filter_map_eq f p q h l]
theorem noTen_ids (id : Int) (l : List MTen) : (noTen id l).map MTen.Id = (l.map MTen.Id).filter fun x => !decide (x = id) := filter_map_eq MTen.Id (fun x => !decide (x.Id = id)) (fun x => !decide (x = id)) (fun _ => rfl) l
theorem dropT_ids (id : Int) (l : List Share) : (dropT l id).map Share.Tenant = (l.map Share.Tenant).filter fun x => !decide (x = id) := filter_map_eq Share.Tenant (fun x => !decide (x.Tenant = id)) (fun x => !decide (x = id)) (fun _ => rfl) l
theorem ofRow_sub {id : Int} {k l : List MRow} (h : k.Sublist l) : ofRow id k ≤ ofRow id l := (h.filter _).length_le
theorem ofRow_no (id : Int) (l : List MRow) : ofRow id (noRow id l) = 0 := by
  unfold ofRow noRow
  rw [List.filter_filter, List.length_eq_zero_iff, List.filter_eq_nil_iff]
  intro x _
  simp
theorem ofRow_len (id : Int) (l : List MRow) : ofRow id l ≤ l.length := List.length_filter_le _ _
theorem ofRow_app (id : Int) (l k : List MRow) : ofRow id (l ++ k) = ofRow id l + ofRow id k := by unfold ofRow; rw [List.filter_append, List.length_append]
theorem noRow_sub (id : Int) (l : List MRow) : (noRow id l).Sublist l := List.filter_sublist
theorem set_ids {l : List MTen} {j : Nat} (hj : j < l.length) (t : MTen) (h : t.Id = l[j].Id) : (l.set j t).map MTen.Id = l.map MTen.Id := by
  rw [List.map_set]
  refine List.ext_getElem (by simp) fun i h1 h2 => ?_
  rw [List.getElem_set]
  split
  · rename_i e; subst e; simp [h]
  · rfl
theorem set_all {α : Type} {P : α → Prop} {l : List α} {j : Nat} {t : α} (h : ∀ x ∈ l, P x) (ht : P t) : ∀ x ∈ l.set j t, P x := by
  intro x hx
  rcases List.mem_or_eq_of_mem_set hx with hx | rfl
  · exact h x hx
  · exact ht
theorem place_ids {ts : List MTen} {L R : List Share} {id : Int} (h : ts.map MTen.Id = (L ++ R).map Share.Tenant) (hL : ∀ y ∈ L, y.Tenant < id) (hR : ∀ y ∈ R, id < y.Tenant) : placeT ts id = L.length := by
  obtain ⟨t1, t2, t3⟩ := placeT_facts ts id
  have hlen : ts.length = L.length + R.length := by have := congrArg List.length h; simpa using this
  have hget : ∀ i (hi : i < ts.length), ts[i].Id = ((L ++ R)[i]'(by simp; omega)).Tenant := by
    intro i hi
    have := map_get h i hi (by simp; omega)
    simpa only [List.getElem_map] using this
  rcases Nat.lt_trichotomy (placeT ts id) L.length with hl | e | hl
  · have hp : placeT ts id < ts.length := by omega
    have h1 := t3 hp
    rw [hget _ hp, List.getElem_append_left hl] at h1
    have := hL _ (List.getElem_mem hl)
    omega
  · exact e
  · have hp : L.length < ts.length := by omega
    have h1 := t2 L.length hp hl
    rw [hget _ hp, List.getElem_append_right (Nat.le_refl _)] at h1
    have := hR _ (List.getElem_mem (show L.length - L.length < R.length by omega))
    omega
theorem insT_ids {ts : List MTen} {L R : List Share} {t : MTen} (q : Int) (h : ts.map MTen.Id = (L ++ R).map Share.Tenant) (hL : ∀ y ∈ L, y.Tenant < t.Id) (hR : ∀ y ∈ R, t.Id < y.Tenant) :
    (insT ts t).map MTen.Id = (L ++ ({ Tenant := t.Id, Quota := q } :: R)).map Share.Tenant := by
  unfold insT
  rw [place_ids h hL hR, List.map_append, List.map_cons, List.map_take, List.map_drop, h, List.map_append, List.take_left' (by simp), List.drop_left' (by simp)]
  simp
theorem insT_mem {ts : List MTen} {t x : MTen} (h : x ∈ insT ts t) : x = t ∨ x ∈ ts := by
  unfold insT at h
  rcases List.mem_append.1 h with h | h
  · exact .inr (List.mem_of_mem_take h)
  · rcases List.mem_cons.1 h with h | h
    · exact .inl h
    · exact .inr (List.mem_of_mem_drop h)
theorem setR_form (s : Shares) (t q : Int) (hv : sharesV s = true) (hr : (setR s t q).2 = true) : ∃ L M R : List Share, s.List = L ++ (M ++ R) ∧ (∀ y ∈ L, y.Tenant < t) ∧ (∀ y ∈ R, t < y.Tenant) ∧ (M = [] ∨ ∃ m : Share, M = [m] ∧ m.Tenant = t) ∧
    sharesV (setR s t q).1 = true ∧ (setR s t q).1.List = L ++ ({ Tenant := t, Quota := q } :: R) ∧ (setR s t q).1.Size = s.Size := by
  have h4 := sh_lens hv
  obtain ⟨L, M, R, h1, h2, h3, h5, h6⟩ := ShareSet_form s t q hv (by omega)
  refine ⟨L, M, R, h1, h2, h3, h5, ?_⟩
  rw [spec_ShareSet_R s t q (by omega)] at h6
  have h7 := Option.some.inj h6
  split at h7
  · rename_i hs
    rw [h7]
    exact ⟨hs, rfl, rfl⟩
  · rw [h7] at hr; cases hr
theorem newTen_ok (n : Nat) (id : Int) : okT n (newTen id) :=
  ⟨List.Pairwise.nil, fun x hx => (by cases hx), Nat.zero_le _, ⟨by simp [newTen], by simp only [newTen]; omega⟩, ⟨by simp [newTen], by simp [newTen]⟩, Nat.zero_le _, fun s hs => by cases hs⟩
theorem createM_ok {n : Nat} {m : Model} (h : okM n m) (c : Call) : okM n (createM m c).1 := by
  unfold createM
  cases hb : (!decide (1 ≤ c.Tenant ∧ c.Tenant ≤ 99) || (!decide (0 ≤ c.N ∧ c.N ≤ 40) || (!decide (c.Key.length = 32) || decide (atT m.Tens c.Tenant ≥ 0)))) with
  | true => exact h
  | false =>
    cases decide (4 ≤ m.Tens.length) with
    | true => exact h
    | false =>
      cases hr : (setR m.Shares c.Tenant c.N).2 with
      | false => exact h
      | true =>
        simp only [cond_true, cond_false]
        obtain ⟨L, M, R, h1, h2, h3, h5, h6, h7, h8⟩ := setR_form m.Shares c.Tenant c.N h.sh hr
        have hat : ¬ atT m.Tens c.Tenant ≥ 0 := by
          simp only [Bool.or_eq_false_iff] at hb
          exact of_decide_eq_false hb.2.2.2
        have hno : ∀ x ∈ m.Tens, ¬ x.Id = c.Tenant := by
          rcases atT_cases m.Tens c.Tenant with ⟨j, _, e, _, _⟩ | ⟨_, g⟩
          · omega
          · exact g
        have hM : M = [] := by
          rcases h5 with h5 | ⟨y, h5, h9⟩
          · exact h5
          · exfalso
            have hmem : y.Tenant ∈ m.Tens.map MTen.Id := by
              rw [h.ids, h1, h5]
              exact List.mem_map_of_mem (by simp)
            obtain ⟨x, hx, hxe⟩ := List.mem_map.1 hmem
            exact hno x hx (hxe.trans h9)
        subst hM
        rw [List.nil_append] at h1
        have hids : (insT m.Tens (newTen c.Tenant)).map MTen.Id = (setR m.Shares c.Tenant c.N).1.List.map Share.Tenant := by
          rw [h7]
          exact insT_ids c.N (by rw [h.ids, h1]) h2 h3
        refine ⟨h6, hids, ?_, fun t ht => ?_, fun t ht => ?_, h.rows, h.ops⟩
        · rw [hids, h7]
          exact insT_ids c.N (by rw [h.base, h.ids, h1]) h2 h3
        · rcases insT_mem ht with rfl | ht
          · exact newTen_ok n _
          · exact h.tens t ht
        · rcases insT_mem ht with rfl | ht
          · have h9 := ofRow_len c.Tenant m.Rows
            have h10 := h.rows
            exact ⟨newTen_ok n _, rfl, by simp only [newTen, List.length_nil]; omega, by simp only [newTen]; omega⟩
          · exact h.bases t ht
theorem quotaM_ok {n : Nat} {m : Model} (h : okM n m) (c : Call) (hin : ∃ x ∈ m.Tens, x.Id = c.Tenant) : okM n (quotaM m c).1 := by
  unfold quotaM
  cases decide (0 ≤ c.N ∧ c.N ≤ 40) with
  | false => exact h
  | true =>
    cases hr : (setR m.Shares c.Tenant c.N).2 with
    | false => exact h
    | true =>
      simp only [cond_true]
      obtain ⟨L, M, R, h1, h2, h3, h5, h6, h7, h8⟩ := setR_form m.Shares c.Tenant c.N h.sh hr
      refine ⟨h6, ?_, h.base, h.tens, h.bases, h.rows, h.ops⟩
      simp only
      rw [h.ids, h7, h1]
      rcases h5 with rfl | ⟨y, rfl, h9⟩
      · exfalso
        obtain ⟨x, hx, hxe⟩ := hin
        have hmem : x.Id ∈ m.Tens.map MTen.Id := List.mem_map_of_mem hx
        rw [h.ids, h1, List.nil_append] at hmem
        obtain ⟨y, hy, hye⟩ := List.mem_map.1 hmem
        rcases List.mem_append.1 hy with hy | hy
        · have := h2 y hy; omega
        · have := h3 y hy; omega
      · simp [h9]
theorem removeM_ok {n : Nat} {m : Model} (h : okM n m) (id : Int) : okM n (removeM m id) := by
  unfold removeM
  rw [dropR_list id h.sh]
  refine ⟨sharesV_drop id h.sh, ?_, ?_, fun t ht => h.tens t (List.mem_filter.1 ht).1, fun t ht => ?_, ?_, fun r hr => h.ops r (List.mem_filter.1 hr).1⟩
  · simp only
    rw [noTen_ids, dropT_ids, h.ids]
  · rw [noTen_ids, noTen_ids, h.base]
  · obtain ⟨a, b, c, d⟩ := h.bases t (List.mem_filter.1 ht).1
    have := ofRow_sub (id := t.Id) (noRow_sub id m.Rows)
    exact ⟨a, b, by simp only; omega, by simp only; omega⟩
  · have := noRow_len id m.Rows
    have := h.rows
    simp only
    omega
theorem rotateM_ok {n : Nat} {m : Model} (h : okM n m) (id : Int) (j : Nat) (hj : j < m.Tens.length) (ha : atT m.Tens id = (j : Int)) : okM n (rotateM m id).1 := by
  rw [rotateM_nat m id j hj ha]
  by_cases he : m.Tens[j].Epoch ≥ 1000000
  · rw [decide_eq_true he]; exact h
  · rw [decide_eq_false he, upEpoch_nat m.Tens j hj]
    simp only [cond_false]
    have hT := h.tens _ (List.getElem_mem hj)
    have hep := hT.ep
    have hb : (∀ t ∈ (bif decide (atT m.Base id ≥ 0) then upEpoch m.Base (atT m.Base id) (m.Tens[j].Epoch + 1) else m.Base), okT n t ∧ t.Snaps = [] ∧ t.Map.length + 6 * ofRow t.Id m.Rows ≤ 6 * n ∧ t.Seq + (ofRow t.Id m.Rows : Int) ≤ n) ∧ (bif decide (atT m.Base id ≥ 0) then upEpoch m.Base (atT m.Base id) (m.Tens[j].Epoch + 1) else m.Base).map MTen.Id = m.Base.map MTen.Id := by
      rcases atT_cases m.Base id with ⟨k, hk, e, _, _⟩ | ⟨e, _⟩
      · rw [e, decide_eq_true (by omega : (k : Int) ≥ 0), cond_true, upEpoch_nat m.Base k hk]
        obtain ⟨a, b, c, d⟩ := h.bases _ (List.getElem_mem hk)
        refine ⟨set_all h.bases ⟨⟨a.srt, a.kv, a.len, a.seq, by simp only; omega, a.sn, a.each⟩, b, c, d⟩, set_ids hk _ rfl⟩
      · rw [e]
        exact ⟨h.bases, rfl⟩
    refine ⟨h.sh, ?_, ?_, set_all h.tens ⟨hT.srt, hT.kv, hT.len, hT.seq, by simp only; omega, hT.sn, hT.each⟩, hb.1, h.rows, h.ops⟩
    · simp only
      rw [set_ids hj, h.ids]; rfl
    · simp only
      rw [hb.2, h.base, set_ids hj]; rfl
theorem flushM_ok {n : Nat} {m : Model} (h : okM n m) (j : Nat) (hj : j < m.Tens.length) : okM n (flushM m (j : Int)) := by
  have hT := h.tens _ (List.getElem_mem hj)
  unfold flushM
  rw [getT_nat _ j hj]
  have hsub := noRow_sub m.Tens[j].Id m.Rows
  have hold : ∀ t ∈ m.Base, okT n t ∧ t.Snaps = [] ∧ t.Map.length + 6 * ofRow t.Id (noRow m.Tens[j].Id m.Rows) ≤ 6 * n ∧ t.Seq + (ofRow t.Id (noRow m.Tens[j].Id m.Rows) : Int) ≤ n := by
    intro t ht
    obtain ⟨a, b, c, d⟩ := h.bases t ht
    have := ofRow_sub (id := t.Id) hsub
    exact ⟨a, b, by omega, by omega⟩
  have hrl : (noRow m.Tens[j].Id m.Rows).length ≤ n := Nat.le_trans (noRow_len _ _) h.rows
  have hop : ∀ r ∈ noRow m.Tens[j].Id m.Rows, batchV r.Ops = true := fun r hr => h.ops r (List.mem_filter.1 hr).1
  rcases atT_cases m.Base m.Tens[j].Id with ⟨k, hk, e, hid, _⟩ | ⟨e, _⟩
  · rw [e, decide_eq_true (by omega : (k : Int) ≥ 0), cond_true, Int.toNat_natCast]
    have hl := hT.len
    have hq := hT.seq
    refine ⟨h.sh, h.ids, by simp only; rw [set_ids hk, h.base]; exact hid.symm, h.tens, set_all hold ⟨⟨hT.srt, hT.kv, hT.len, hT.seq, hT.ep, Nat.zero_le _, fun s hs => by cases hs⟩, rfl, ?_, ?_⟩, hrl, hop⟩
    · simp only [ofRow_no]; omega
    · simp only [ofRow_no]; omega
  · rw [e]
    exact ⟨h.sh, h.ids, h.base, h.tens, hold, hrl, hop⟩
theorem ownM_ok {n : Nat} {m : Model} (h : okM n m) (c : Call) : okM n (ownM m c).1 := by
  unfold ownM
  rcases atT_cases m.Tens c.Tenant with ⟨j, hj, e, hid, _⟩ | ⟨e, _⟩
  · rw [e, decide_eq_false (by omega : ¬ (j : Int) < 0), cond_false]
    cases decide (c.Kind = 2) with
    | true => exact quotaM_ok h c ⟨_, List.getElem_mem hj, hid⟩
    | false =>
    cases decide (c.Kind = 3) with
    | true => exact removeM_ok h _
    | false =>
    cases decide (c.Kind = 4) with
    | true => exact rotateM_ok h _ j hj e
    | false => exact flushM_ok h j hj
  · rw [e]; exact h
theorem syncM_ok {n : Nat} {m : Model} (h : okM n m) : okM n (syncM m) := by
  have hof : ∀ id, ofRow id (m.Rows.map fun r => ({ Tenant := r.Tenant, Ops := r.Ops, Synced := true } : MRow)) = ofRow id m.Rows := by
    intro id
    unfold ofRow
    rw [List.filter_map, List.length_map]
    rfl
  refine ⟨h.sh, h.ids, h.base, h.tens, fun t ht => ?_, by have := h.rows; unfold syncM; simp only [List.length_map]; omega, fun r hr => ?_⟩
  · obtain ⟨a, b, c, d⟩ := h.bases t ht
    unfold syncM
    simp only [hof]
    exact ⟨a, b, c, d⟩
  · obtain ⟨s, hs, rfl⟩ := List.mem_map.1 hr
    exact h.ops s hs
theorem keepR_of_len (id : Int) : ∀ (l : List MRow) (n : Int), ofRow id (keepR n l) ≤ ofRow id l
  | [], _ => Nat.le_refl _
  | r :: l, n => by
    have hc : ∀ (x : MRow) (k : List MRow), x.Tenant = r.Tenant → ofRow id (x :: k) = ofRow id k + (if r.Tenant = id then 1 else 0) := by
      intro x k hx
      unfold ofRow
      rw [List.filter_cons, hx]
      by_cases h : r.Tenant = id <;> simp [h]
    have hr := hc r l rfl
    unfold keepR
    cases r.Synced with
    | true =>
      simp only [cond_true]
      rw [hc ({ Tenant := r.Tenant, Ops := r.Ops, Synced := true } : MRow) _ rfl, hr]
      have := keepR_of_len id l n
      omega
    | false =>
      cases decide (n < 1) with
      | true =>
        simp only [cond_true, cond_false]
        have := keepR_of_len id l n
        omega
      | false =>
        simp only [cond_false]
        rw [hc ({ Tenant := r.Tenant, Ops := r.Ops, Synced := true } : MRow) _ rfl, hr]
        have := keepR_of_len id l (n - 1)
        omega
def okP (n : Nat) (rs : List MRow) (t : MTen) : Prop := okT n t ∧ t.Snaps = [] ∧ t.Map.length + 6 * ofRow t.Id rs ≤ 6 * n ∧ t.Seq + (ofRow t.Id rs : Int) ≤ n
theorem plays_okP (n : Nat) : ∀ (rs : List MRow) (ts : List MTen), (∀ t ∈ ts, okP n rs t) → (∀ r ∈ rs, batchV r.Ops = true) → ∀ t ∈ rs.foldl playT ts, okP n [] t := by
  intro rs
  induction rs with
  | nil => intro ts h _ t ht; exact h t ht
  | cons r rs ih =>
    intro ts h hb
    refine ih (playT ts r) ?_ (fun x hx => hb x (by simp [hx]))
    have hc : ∀ id, ofRow id (r :: rs) = ofRow id rs + (if r.Tenant = id then 1 else 0) := by
      intro id
      unfold ofRow
      rw [List.filter_cons]
      by_cases h : r.Tenant = id <;> simp [h]
    have hw : ∀ t ∈ ts, okP n rs t := by
      intro t ht
      obtain ⟨a, b, c, d⟩ := h t ht
      rw [hc] at c d
      exact ⟨a, b, by omega, by omega⟩
    rcases atT_cases ts r.Tenant with ⟨j, hj, e, h1, _⟩ | ⟨e, _⟩
    · rw [playT_nat ts r j hj e]
      refine set_all hw ?_
      obtain ⟨a, b, c, d⟩ := h _ (List.getElem_mem hj)
      rw [hc, if_pos h1.symm] at c d
      have hl := applyK_len r.Ops ts[j].Map
      have hb6 := batch_len (hb r (by simp))
      have hq := a.seq
      exact ⟨⟨applyK_srt _ a.srt, applyK_kv a.kv (hb r (by simp)), by simp only; omega, by simp only; omega, a.ep, a.sn, a.each⟩, b, by simp only; omega, by simp only; omega⟩
    · rw [playT_none ts r e]
      exact hw
theorem crashM_ok {n : Nat} {m : Model} (h : okM n m) (c : Int) : okM n (crashM m c) := by
  have hb : ∀ t ∈ m.Base, okP n (keepR c m.Rows) t := by
    intro t ht
    obtain ⟨a, b, d, e⟩ := h.bases t ht
    have := keepR_of_len t.Id m.Rows c
    exact ⟨a, b, by omega, by omega⟩
  have hops : ∀ r ∈ keepR c m.Rows, batchV r.Ops = true := by
    intro r hr
    obtain ⟨s, hs, rfl⟩ := keepR_of _ _ _ hr
    exact h.ops s hs
  have hp := plays_okP n (keepR c m.Rows) m.Base hb hops
  have hi := plays_ids (keepR c m.Rows) m.Base
  unfold crashM
  refine ⟨h.sh, by simp only; rw [hi, h.base, h.ids], by simp only; rw [hi], fun t ht => (hp t ht).1, hb, ?_, hops⟩
  have := keepR_len m.Rows c
  have := h.rows
  simp only
  omega
theorem setTen_ok {n : Nat} {m : Model} (h : okM n m) (j : Nat) (hj : j < m.Tens.length) (t : MTen) (hid : t.Id = m.Tens[j].Id) (ht : okT n t) : okM n { Secret := m.Secret, Shares := m.Shares, Tens := m.Tens.set j t, Base := m.Base, Rows := m.Rows } :=
  ⟨h.sh, by simp only; rw [set_ids hj _ hid, h.ids], by simp only; rw [set_ids hj _ hid, h.base], set_all h.tens ht, h.bases, h.rows, h.ops⟩
theorem writeM_ok {n : Nat} {m : Model} (h : okM n m) (j : Nat) (hj : j < m.Tens.length) (ops : List Op) : okM (n + 1) (writeM m (j : Int) ops).1 := by
  rw [writeM_nat m j hj]
  cases hb : batchV ops with
  | false => exact h.up (by omega)
  | true =>
    cases decide ((bytesN (applyK m.Tens[j].Map ops) : Int) > quoV (-1) m.Shares m.Tens[j].Id) with
    | true => exact h.up (by omega)
    | false =>
      simp only [cond_true, cond_false]
      have hm1 : okM n (bif decide (6 ≤ ofRow m.Tens[j].Id m.Rows) then flushM m (j : Int) else m) := by
        cases decide (6 ≤ ofRow m.Tens[j].Id m.Rows) with
        | true => exact flushM_ok h j hj
        | false => exact h
      have ht1 : (bif decide (6 ≤ ofRow m.Tens[j].Id m.Rows) then flushM m (j : Int) else m).Tens = m.Tens := by cases decide (6 ≤ ofRow m.Tens[j].Id m.Rows) <;> rfl
      generalize (bif decide (6 ≤ ofRow m.Tens[j].Id m.Rows) then flushM m (j : Int) else m) = m1 at hm1 ht1
      have hT := h.tens _ (List.getElem_mem hj)
      have hl := applyK_len ops m.Tens[j].Map
      have hb6 := batch_len hb
      have hlen := hT.len
      have hq := hT.seq
      have hn : okT (n + 1) { Id := m.Tens[j].Id, Epoch := m.Tens[j].Epoch, Seq := m.Tens[j].Seq + 1, Map := applyK m.Tens[j].Map ops, Snaps := m.Tens[j].Snaps } :=
        ⟨applyK_srt _ hT.srt, applyK_kv hT.kv hb, by simp only; omega, by simp only; omega, hT.ep, hT.sn, (hT.up (Nat.le_succ n)).each⟩
      refine ⟨h.sh, by simp only; rw [set_ids hj, h.ids]; rfl, by simp only; rw [hm1.base, ht1, set_ids hj]; rfl, set_all (fun t ht => (h.tens t ht).up (Nat.le_succ n)) hn, fun t ht => ?_, ?_, fun r hr => ?_⟩
      · obtain ⟨a, b, c, d⟩ := hm1.bases t ht
        have h1 : ofRow t.Id (m1.Rows ++ [({ Tenant := m.Tens[j].Id, Ops := ops, Synced := false } : MRow)]) ≤ ofRow t.Id m1.Rows + 1 := by
          rw [ofRow_app]
          have := ofRow_len t.Id [({ Tenant := m.Tens[j].Id, Ops := ops, Synced := false } : MRow)]
          simp only [List.length_singleton] at this
          omega
        exact ⟨a.up (Nat.le_succ n), b, by simp only; omega, by simp only; omega⟩
      · have := hm1.rows
        simp only [List.length_append, List.length_singleton]
        omega
      · rcases List.mem_append.1 hr with hr | hr
        · exact hm1.ops r hr
        · rw [List.mem_singleton] at hr
          subst hr
          exact hb
theorem withSnaps_ok {n : Nat} {m : Model} (h : okM n m) (j : Nat) (hj : j < m.Tens.length) (l : List MSnap) (hl : l.length ≤ 2) (he : ∀ s ∈ l, srtK s.Map ∧ s.Map.length ≤ 6 * n ∧ ∀ x ∈ s.Map, kvV x = true) : okM n (withSnaps m (j : Int) l) := by
  rw [withSnaps_nat m j hj]
  have hT := h.tens _ (List.getElem_mem hj)
  exact setTen_ok h j hj _ rfl ⟨hT.srt, hT.kv, hT.len, hT.seq, hT.ep, hl, he⟩
theorem tenM_ok {n : Nat} {m : Model} (h : okM n m) (j : Nat) (hj : j < m.Tens.length) (c : Call) : okM (n + 1) (tenM m (j : Int) c).1 := by
  have hu := h.up (Nat.le_succ n)
  have hT := h.tens _ (List.getElem_mem hj)
  rw [tenM_nat m j hj]
  cases decide (c.Kind = 5) with
  | true => exact writeM_ok h j hj _
  | false =>
  cases decide (c.Kind = 6) with
  | true => exact hu
  | false =>
  cases decide (c.Kind = 7) with
  | true => exact hu
  | false =>
  cases decide (c.Kind = 8) with
  | true =>
    simp only [cond_true, cond_false]
    rw [snapM_nat m j hj]
    cases lastIs m.Tens[j].Snaps m.Tens[j].Seq with
    | true => exact hu
    | false =>
      by_cases h2 : 2 ≤ m.Tens[j].Snaps.length
      · rw [decide_eq_true h2]; exact hu
      · rw [decide_eq_false h2]
        refine (withSnaps_ok h j hj _ (by simp; omega) fun s hs => ?_).up (Nat.le_succ n)
        rcases List.mem_append.1 hs with hs | hs
        · exact hT.each s hs
        · rw [List.mem_singleton] at hs
          subst hs
          exact ⟨hT.srt, hT.len, hT.kv⟩
  | false =>
  cases decide (c.Kind = 11) with
  | true => exact hu
  | false =>
    simp only [cond_false]
    rw [heldM_nat m j hj]
    cases decide (atS m.Tens[j].Snaps c.N < 0) with
    | true => exact hu
    | false =>
      cases decide (c.Kind = 10) with
      | true => exact hu
      | false =>
        have hsn := hT.sn
        refine (withSnaps_ok h j hj _ ?_ fun s hs => ?_).up (Nat.le_succ n)
        · simp only [List.length_append, List.length_take, List.length_drop]; omega
        · rcases List.mem_append.1 hs with hs | hs
          · exact hT.each s (List.mem_of_mem_take hs)
          · exact hT.each s (List.mem_of_mem_drop hs)
theorem doM_ok {n : Nat} {m : Model} (h : okM n m) (c : Call) : okM (n + 1) (doM m c).1 := by
  have hu := fun {x : Model} (h : okM n x) => h.up (Nat.le_succ n)
  unfold doM
  cases decide (c.Kind = 1) with
  | true => exact hu (createM_ok h c)
  | false =>
  cases decide (c.Kind = 12) with
  | true => exact hu (syncM_ok h)
  | false =>
  cases decide (c.Kind = 14) with
  | true => exact hu (crashM_ok h _)
  | false =>
  cases decide (2 ≤ c.Kind ∧ c.Kind ≤ 4) || decide (c.Kind = 13) with
  | true => exact hu (ownM_ok h c)
  | false =>
  cases decide (5 ≤ c.Kind ∧ c.Kind ≤ 11) with
  | false => exact hu h
  | true =>
    simp only [cond_true, cond_false]
    rcases atT_cases m.Tens (tokR m.Secret c.Token).1 with ⟨j, hj, e, _, _⟩ | ⟨e, _⟩
    · rw [callM_nat m c j hj e]
      cases (!(tokR m.Secret c.Token).2.2 || !decide (m.Tens[j].Epoch = (tokR m.Secret c.Token).2.1)) with
      | true => exact hu h
      | false => exact tenM_ok h j hj c
    · rw [callM_none m c e]
      exact hu h
/-! ## a model's play -/
noncomputable def runM : Model → List Call → List Reply
  | _, [] => []
  | m, c :: l => (doM m c).2 :: runM (doM m c).1 l
def newM (secret : List UInt8) (size : Int) : Model := { Secret := secret, Shares := { Size := size, List := [] }, Tens := [], Base := [], Rows := [] }
def newOk (secret : List UInt8) (size : Int) : Bool := decide (secret.length = 32) && decide (0 ≤ size ∧ size ≤ 1000)
noncomputable def playM (secret : List UInt8) (size : Int) (l : List Call) : List Reply := bif newOk secret size && decide (l.length ≤ 120) then runM (newM secret size) l else []
theorem runM_len : ∀ (l : List Call) (m : Model), (runM m l).length = l.length
  | [], _ => rfl
  | c :: l, m => by rw [runM, List.length_cons, runM_len l, List.length_cons]
theorem newM_ok (secret : List UInt8) (size : Int) (h : newOk secret size = true) : okM 0 (newM secret size) := by
  unfold newOk at h
  rw [Bool.and_eq_true] at h
  have h2 := of_decide_eq_true h.2
  refine ⟨?_, rfl, rfl, fun t ht => (by cases ht), fun t ht => (by cases ht), Nat.le_refl _, fun r hr => (by cases hr)⟩
  rw [sharesV_iff]
  exact ⟨h2, by simp [newM], fun x hx => (by cases hx), List.Pairwise.nil, by simp [allNeed, newM]; omega⟩
theorem modelNew_R (secret : List UInt8) (size : Int) : impl_ModelNew secret size = some (bif newOk secret size then (newM secret size, true) else (newM [] 0, false)) ∧ spec_ModelNew secret size = some (bif newOk secret size then (newM secret size, true) else (newM [] 0, false)) := by
  unfold impl_ModelNew spec_ModelNew newOk
  simp only [inRange_eq, l1In_eq, len32, Option.bind_some]
  cases decide (secret.length = 32) with
  | false => exact ⟨rfl, rfl⟩
  | true => cases decide (0 ≤ size ∧ size ≤ 1000) <;> exact ⟨rfl, rfl⟩
theorem runM_at (l : List Call) (m : Model) (k : Nat) (hk : k < l.length) : runM m (l.drop k) = (doM m l[k]).2 :: runM (doM m l[k]).1 (l.drop (k + 1)) := by
  rw [List.drop_eq_getElem_cons hk, runM]
theorem impl_ModelPlay_eq (secret : List UInt8) (size : Int) (l : List Call) (hl : l.length ≤ 1048576) (hc : ∀ c ∈ l, smC c) : impl_ModelPlay secret size l = some (playM secret size l) := by
  unfold impl_ModelPlay playM
  rw [(modelNew_R secret size).1, Option.bind_some]
  cases hn : newOk secret size with
  | false => rfl
  | true =>
    simp only [cond_true, Bool.not_true, Bool.false_eq_true, if_false, Option.bind_some, Bool.true_and]
    by_cases h120 : l.length ≤ 120
    · rw [decide_eq_false (by omega : ¬ ((l.length : Nat) : Int) > 120), decide_eq_true h120]
      simp only [Bool.false_eq_true, if_false, cond_true]
      refine loopO_bind (fun k (S : List UInt8 × Int × Int × List Share × List MTen × List MTen × List MRow × List Reply) => ∃ m out, S = (m.Secret, m.Shares.Size, (k : Int), m.Shares.List, m.Tens, m.Base, m.Rows, out) ∧ okM k m ∧ out.length = k ∧ out ++ runM m (l.drop k) = runM (newM secret size) l) l.length
        (fun r => r = .go (runM (newM secret size) l)) ⟨newM secret size, [], rfl, newM_ok _ _ hn, rfl, by simp⟩ ?_ ?_ (fun r hr => by rw [hr]; rfl)
      · rintro k _ hk ⟨m, out, rfl, hm, hol, ho⟩
        left
        rw [runM_at l m k hk] at ho
        have hp := impl_perform_eq m l[k] hm (by omega) (hc _ (List.getElem_mem hk))
        have hE : ({ Secret := m.Secret, Shares := { Size := m.Shares.Size, List := m.Shares.List }, Tens := m.Tens, Base := m.Base, Rows := m.Rows } : Model) = m := rfl
        refine ⟨_, ?_, (doM m l[k]).1, out ++ [(doM m l[k]).2], rfl, doM_ok hm _, by simp [hol], by simpa using ho⟩
        simp only [idx_nat l k hk, Option.bind_some, hE, hp]
        rw [if_pos (by simpa using hk), app_ok (by simp only [List.length_singleton]; omega) (by simp only [List.length_singleton]; omega), wrap_ok (n := (k : Int) + 1) (by omega) (by omega)]
        rfl
      · rintro _ ⟨m, out, rfl, hm, hol, ho⟩
        refine ⟨.go (runM (newM secret size) l), ?_, rfl⟩
        rw [List.drop_length, runM, List.append_nil] at ho
        simp [ho]
    · rw [decide_eq_true (by omega : ((l.length : Nat) : Int) > 120), decide_eq_false h120]
      rfl
theorem spec_ModelPlay_eq (secret : List UInt8) (size : Int) (l : List Call) (hl : l.length ≤ 1048576) (hc : ∀ c ∈ l, smC c) : spec_ModelPlay secret size l = some (playM secret size l) := by
  unfold spec_ModelPlay playM
  rw [(modelNew_R secret size).2, Option.bind_some]
  cases hn : newOk secret size with
  | false => rfl
  | true =>
    simp only [cond_true, Bool.not_true, Bool.false_eq_true, if_false, Option.bind_some, Bool.true_and]
    by_cases h120 : l.length ≤ 120
    · rw [decide_eq_false (by omega : ¬ ((l.length : Nat) : Int) > 120), decide_eq_true h120]
      simp only [Bool.false_eq_true, if_false, cond_true]
      refine loopO_bind (fun k (S : List UInt8 × Int × Int × List Reply × List Share × List MTen × List MTen × List MRow) => ∃ m out, S = (m.Secret, m.Shares.Size, (k : Int), out, m.Shares.List, m.Tens, m.Base, m.Rows) ∧ okM k m ∧ out.length = k ∧ out ++ runM m (l.drop k) = runM (newM secret size) l) l.length
        (fun r => r = .go (runM (newM secret size) l)) ⟨newM secret size, [], rfl, newM_ok _ _ hn, rfl, by simp⟩ ?_ ?_ (fun r hr => by rw [hr]; rfl)
      · rintro k _ hk ⟨m, out, rfl, hm, hol, ho⟩
        left
        rw [runM_at l m k hk] at ho
        have hp := spec_l21Do_eq m l[k] hm (by omega) (hc _ (List.getElem_mem hk))
        have hE : ({ Secret := m.Secret, Shares := { Size := m.Shares.Size, List := m.Shares.List }, Tens := m.Tens, Base := m.Base, Rows := m.Rows } : Model) = m := rfl
        refine ⟨_, ?_, (doM m l[k]).1, out ++ [(doM m l[k]).2], rfl, doM_ok hm _, by simp [hol], by simpa using ho⟩
        simp only [idx_nat l k hk, Option.bind_some, hE, hp]
        rw [if_pos (by simpa using hk), app_ok (by simp only [List.length_singleton]; omega) (by simp only [List.length_singleton]; omega), wrap_ok (n := (k : Int) + 1) (by omega) (by omega)]
        rfl
      · rintro _ ⟨m, out, rfl, hm, hol, ho⟩
        refine ⟨.go (runM (newM secret size) l), ?_, rfl⟩
        rw [List.drop_length, runM, List.append_nil] at ho
        simp [ho]
    · rw [decide_eq_true (by omega : ((l.length : Nat) : Int) > 120), decide_eq_false h120]
      rfl
theorem doM_reply {n : Nat} {m : Model} (h : okM n m) (c : Call) : (doM m c).2.List.length ≤ 6 * n := by
  have z : ∀ k, (codeR k).List.length ≤ 6 * n := fun k => Nat.zero_le _
  unfold doM
  cases decide (c.Kind = 1) with
  | true =>
    simp only [cond_true]
    unfold createM
    cases (!decide (1 ≤ c.Tenant ∧ c.Tenant ≤ 99) || (!decide (0 ≤ c.N ∧ c.N ≤ 40) || (!decide (c.Key.length = 32) || decide (atT m.Tens c.Tenant ≥ 0)))) with
    | true => exact z _
    | false =>
      cases decide (4 ≤ m.Tens.length) with
      | true => exact z _
      | false =>
        cases (setR m.Shares c.Tenant c.N).2 with
        | true => exact Nat.zero_le _
        | false => exact z _
  | false =>
  cases decide (c.Kind = 12) with
  | true => exact z _
  | false =>
  cases decide (c.Kind = 14) with
  | true => exact z _
  | false =>
  cases decide (2 ≤ c.Kind ∧ c.Kind ≤ 4) || decide (c.Kind = 13) with
  | true =>
    simp only [cond_true, cond_false]
    unfold ownM
    cases decide (atT m.Tens c.Tenant < 0) with
    | true => exact z _
    | false =>
    cases decide (c.Kind = 2) with
    | true =>
      simp only [cond_true, cond_false]
      unfold quotaM
      cases decide (0 ≤ c.N ∧ c.N ≤ 40) with
      | false => exact z _
      | true => cases (setR m.Shares c.Tenant c.N).2 <;> exact z _
    | false =>
    cases decide (c.Kind = 3) with
    | true => exact z _
    | false =>
    cases decide (c.Kind = 4) with
    | true =>
      simp only [cond_true, cond_false]
      unfold rotateM
      cases decide ((getT m.Tens (atT m.Tens c.Tenant)).Epoch ≥ 1000000) with
      | true => exact z _
      | false => exact Nat.zero_le _
    | false => exact z _
  | false =>
  cases decide (5 ≤ c.Kind ∧ c.Kind ≤ 11) with
  | false => exact z _
  | true =>
    simp only [cond_true, cond_false]
    rcases atT_cases m.Tens (tokR m.Secret c.Token).1 with ⟨j, hj, e, _, _⟩ | ⟨e, _⟩
    · rw [callM_nat m c j hj e]
      cases (!(tokR m.Secret c.Token).2.2 || !decide (m.Tens[j].Epoch = (tokR m.Secret c.Token).2.1)) with
      | true => exact z _
      | false =>
        simp only [cond_false]
        rw [tenM_nat m j hj]
        have hF : ∀ (l : List KV) (k : List UInt8), (findR l k).List.length ≤ 6 * n := by
          intro l k
          unfold findR
          cases l.find? (fun x => decide (x.Key = k)) <;> exact Nat.zero_le _
        cases decide (c.Kind = 5) with
        | true =>
          simp only [cond_true]
          unfold writeM
          cases batchV c.Ops with
          | false => exact z _
          | true =>
            simp only [cond_true]
            cases decide ((bytesN (applyK (getT m.Tens (j : Int)).Map c.Ops) : Int) > quoV (-1) m.Shares (getT m.Tens (j : Int)).Id) with
            | true => exact z _
            | false => exact Nat.zero_le _
        | false =>
        cases decide (c.Kind = 6) with
        | true => exact hF _ _
        | false =>
        cases decide (c.Kind = 7) with
        | true => exact Nat.le_trans (List.length_filter_le _ _) (h.tens _ (List.getElem_mem hj)).len
        | false =>
        cases decide (c.Kind = 8) with
        | true =>
          simp only [cond_true, cond_false]
          unfold snapM
          cases lastIs (getT m.Tens (j : Int)).Snaps (getT m.Tens (j : Int)).Seq with
          | true => exact Nat.zero_le _
          | false =>
            simp only [cond_false]
            cases decide (2 ≤ (getT m.Tens (j : Int)).Snaps.length) with
            | true => exact z _
            | false => exact Nat.zero_le _
        | false =>
        cases decide (c.Kind = 11) with
        | true => exact Nat.zero_le _
        | false =>
          simp only [cond_false]
          rw [heldM_nat m j hj]
          cases decide (atS m.Tens[j].Snaps c.N < 0) with
          | true => exact z _
          | false =>
            cases decide (c.Kind = 10) with
            | true => exact hF _ _
            | false => exact z _
    · rw [callM_none m c e]
      exact z _
theorem runM_reply : ∀ (l : List Call) (n : Nat) (m : Model), okM n m → ∀ r ∈ runM m l, r.List.length ≤ 6 * (n + l.length)
  | [], _, _, _, r, hr => by cases hr
  | c :: l, n, m, h, r, hr => by
    rw [runM] at hr
    rcases List.mem_cons.1 hr with rfl | hr
    · have := doM_reply h c
      simp only [List.length_cons]; omega
    · have := runM_reply l (n + 1) _ (doM_ok h c) r hr
      simp only [List.length_cons]; omega
theorem playM_small (secret : List UInt8) (size : Int) (l : List Call) : (playM secret size l).length ≤ 120 ∧ ∀ r ∈ playM secret size l, r.List.length ≤ 720 := by
  unfold playM
  cases hn : newOk secret size with
  | false => exact ⟨Nat.zero_le _, fun r hr => by cases hr⟩
  | true =>
    by_cases h : l.length ≤ 120
    · rw [decide_eq_true h]
      refine ⟨by simp only [Bool.and_self, cond_true]; rw [runM_len]; exact h, fun r hr => ?_⟩
      have := runM_reply l 0 _ (newM_ok _ _ hn) r hr
      omega
    · rw [decide_eq_false h]
      exact ⟨Nat.zero_le _, fun r hr => by cases hr⟩
/-! ## calls drawn -/
theorem goO_go {T R : Type} {Q : T → Prop} {t : T} (h : Q t) : goO Q (some (.go t) : Option (Ctl T R)) := ⟨t, rfl, h⟩
theorem goO_if {T R : Type} {Q : T → Prop} {c : Bool} {x y : Option (Ctl T R)} (h1 : goO Q x) (h2 : goO Q y) : goO Q (if c = true then x else y) := by cases c <;> assumption
theorem goO_bind {τ T R : Type} {Q : T → Prop} {m : Option (Ctl τ (Ctl T R))} {k : τ → Option (Ctl T R)} (Q1 : τ → Prop) (h : goO Q1 m) (hk : ∀ t, Q1 t → goO Q (k t)) : goO Q (bindC m k) := bindC_ex (P := goO Q) Q1 h hk
def inB (b : List UInt8) (i : Int) : Prop := 0 ≤ i ∧ i ≤ (b.length : Int)
def smN (n : Int) : Prop := -1000 ≤ n ∧ n ≤ 1000
def q5 (b : List UInt8) (t : Int × Int × Int × Int × List Op) : Prop := inB b t.1 ∧ smN t.2.2.2.1 ∧ t.2.2.2.2.length ≤ 1000
def q6 (b : List UInt8) (t : Int × Int × Int × Int × List UInt8 × List Op) : Prop := inB b t.1 ∧ smN t.2.2.2.1 ∧ t.2.2.2.2.2.length ≤ 1000
def q7 (b : List UInt8) (t : Int × Int × Int × Int × List UInt8 × List UInt8 × List Op) : Prop := inB b t.1 ∧ smN t.2.2.2.1 ∧ t.2.2.2.2.2.2.length ≤ 1000
def litC (c : Call) : Prop := c.Token.length ≤ 2000 ∧ c.Ops.length ≤ 1000 ∧ smN c.N
theorem litC.sm {c : Call} (h : litC c) : smC c := ⟨by have := h.1; omega, by have := h.2.1; omega, by have := h.2.2; unfold smN at this; omega⟩
def drC (b : List UInt8) (o : Option (Call × L1Cur)) : Prop := ∃ c i' h', o = some (c, ({ b := b, i := i', h := h' } : L1Cur)) ∧ litC c ∧ inB b i'
def drO (b : List UInt8) (o : Option (List Op × L1Cur)) : Prop := ∃ l i' h', o = some (l, ({ b := b, i := i', h := h' } : L1Cur)) ∧ l.length ≤ 1000 ∧ inB b i'
def drL (b : List UInt8) (o : Option (List Call × L1Cur)) : Prop := ∃ l i' h', o = some (l, ({ b := b, i := i', h := h' } : L1Cur)) ∧ l.length ≤ 2000 ∧ (∀ c ∈ l, litC c) ∧ inB b i'
theorem l21Fill_R (x : UInt8) : spec_l21Fill x = some (List.replicate 32 x) := by
  unfold spec_l21Fill
  refine loopO_bind (fun k (S : Int × List UInt8) => S = ((k : Int), List.replicate k x)) 32 (fun r => r = .go (List.replicate 32 x)) rfl ?_ ?_ (fun r hr => by rw [hr]; rfl)
  · rintro k _ hk rfl
    left
    refine ⟨_, ?_, rfl⟩
    rw [if_pos (by simp only [decide_eq_true_eq]; omega), app_ok (by simp; omega) (by simp; omega), wrap_ok (n := (k : Int) + 1) (by omega) (by omega), List.replicate_succ']
    rfl
  · rintro _ rfl
    exact ⟨_, by simp, rfl⟩
theorem l21Batch_ok (b : List UInt8) (i h : Int) (hi : inB b i) (hb : b.length ≤ 1048576) : drO b (spec_l21Batch { b := b, i := i, h := h }) := by
  unfold spec_l21Batch
  obtain ⟨x0, i0, h0, e0, k0⟩ := l1Once_ok b i h 8 hi hb
  simp only [e0, Option.bind_some]
  cases x0 with
  | true =>
    obtain ⟨l, i1, h1, e1, g1, k1⟩ := l7Batch_ok b i0 h0 k0 hb
    simp only [if_true, e1, Option.bind_some]
    exact ⟨_, _, _, rfl, by omega, k1⟩
  | false =>
    obtain ⟨x1, i1, h1, e1, g1, k1⟩ := l1Below_ok b i0 h0 2 k0 hb
    have hx1 := g1.2.1 (by omega)
    have hx0 := g1.1
    simp only [Bool.false_eq_true, if_false, e1, Option.bind_some]
    rw [wrap_ok (n := 1 + x1) (by omega) (by omega)]
    refine loopO_G (R := List Op × L1Cur) (ρ := Int × Int × List Op) (drO b) (fun k (S : Int × Int × Int × List Op) => inB b S.1 ∧ S.2.2.1 = 1 + x1 - (k : Int) ∧ S.2.2.2.length = k) (1 + x1).toNat (fun r => ∃ t : Int × Int × List Op, r = .go t ∧ inB b t.1 ∧ t.2.2.length ≤ 1000) ⟨k1, by simp, rfl⟩ ?_ ?_ ?_
    · rintro k ⟨p, q, c, l⟩ hk ⟨hp, hc, hl⟩
      simp only at hp hc hl
      subst hc
      left
      obtain ⟨x2, i2, h2, e2, g2, k2⟩ := l1Pick_ok b p q [[97], [98], [97, 98], [99], [100]] (by simp) hp hb
      obtain ⟨x3, i3, h3, e3, k3⟩ := l1Once_ok b i2 h2 4 k2 hb
      simp only [e2, e3, Option.bind_some]
      rw [if_pos (by simp only [decide_eq_true_eq]; omega), wrap_ok (n := 1 + x1 - (k : Int) - 1) (by omega) (by omega)]
      cases x3 with
      | true =>
        simp only [if_true, bindC_go]
        rw [app_ok (by simp only [List.length_singleton]; omega) (by simp only [List.length_singleton]; omega)]
        exact ⟨_, rfl, k3, by simp only; omega, by simp [hl]⟩
      | false =>
        obtain ⟨x4, i4, h4, e4, g4, k4⟩ := l1Text_ok b i3 h3 3 (by omega) k3 hb
        simp only [Bool.false_eq_true, if_false, e4, Option.bind_some, bindC_go]
        rw [app_ok (by simp only [List.length_singleton]; omega) (by simp only [List.length_singleton]; omega)]
        exact ⟨_, rfl, k4, by simp only; omega, by simp [hl]⟩
    · rintro ⟨p, q, c, l⟩ ⟨hp, hc, hl⟩
      simp only at hp hc hl
      subst hc
      exact ⟨.go (p, q, l), by simp only; rw [if_neg (by simp only [decide_eq_true_eq]; omega)], (p, q, l), rfl, hp, by simp only; omega⟩
    · rintro _ ⟨⟨p, q, l⟩, rfl, hp, hl⟩
      exact ⟨_, _, _, rfl, hl, hp⟩
theorem mint_small (secret : List UInt8) (t e : Int) : (mintV secret t e).length ≤ 100 := by
  unfold mintV
  cases mintOk secret t e with
  | false => exact Nat.zero_le _
  | true =>
    have h1 := varV_len t
    have h2 := varV_len e
    simp only [cond_true, List.length_append, List.length_take]
    omega
theorem l21Call_ok (b : List UInt8) (i h : Int) (secret : List UInt8) (hi : inB b i) (hb : b.length ≤ 1048576) : drC b (spec_l21Call { b := b, i := i, h := h } secret) := by
  unfold spec_l21Call
  obtain ⟨x1, i1, h1, e1, g1, k1⟩ := l1Below_ok b i h 3 hi hb
  obtain ⟨x2, i2, h2, e2, g2, k2⟩ := l1PickInt_ok b i1 h1 [0, 0, 0, 0, 0, 1] (by simp) k1 hb
  obtain ⟨x3, i3, h3, e3, g3, k3⟩ := l1Below_ok b i2 h2 24 k2 hb
  simp only [e1, e2, e3, spec_MintToken_eq, Option.bind_some]
  have hmint := mint_small secret (IntKind.i64.wrap (1 + x1)) x2
  generalize mintV secret (IntKind.i64.wrap (1 + x1)) x2 = tok at hmint
  have ps : ∀ {y : Int} {l : List Int}, y ∈ l → (∀ z ∈ l, -1000 ≤ z ∧ z ≤ 1000) → smN y := fun hy hl => hl _ hy
  refine bindC_ex (P := drC b) (fun _ => True) ?_ fun T16 _ => ?_
  · exact goO_if (goO_go trivial) (goO_go trivial)
  refine bindC_ex (P := drC b) (q7 b) ?_ fun T19 hT => ?_
  · refine goO_if ?_ ?_
    · obtain ⟨x4, i4, h4, e4, g4, k4⟩ := l1PickInt_ok b i3 h3 [40, 40, 20, 0, 41] (by simp) k3 hb
      obtain ⟨x5, i5, h5, e5, g5, k5⟩ := l1Below_ok b i4 h4 250 k4 hb
      simp only [e4, e5, l21Fill_R, Option.bind_some]
      exact goO_go ⟨k5, ps g4 (by simp), Nat.zero_le _⟩
    refine goO_bind (q7 b) (goO_if ?_ ?_) fun t ht => goO_go ht
    · obtain ⟨x4, i4, h4, e4, g4, k4⟩ := l1PickInt_ok b i3 h3 [40, 10, 30, -1, 41] (by simp) k3 hb
      simp only [e4, Option.bind_some]
      exact goO_go ⟨k4, ps g4 (by simp), Nat.zero_le _⟩
    refine goO_bind (q7 b) (goO_if ?_ ?_) fun t ht => goO_go ht
    · obtain ⟨x4, i4, h4, e4, k4⟩ := l1Once_ok b i3 h3 2 k3 hb
      simp only [e4, Option.bind_some]
      exact goO_bind (fun _ => True) (goO_if (goO_go trivial) (goO_go trivial)) fun t _ => goO_go ⟨k4, by unfold smN; simp, Nat.zero_le _⟩
    refine goO_bind (q7 b) (goO_if ?_ ?_) fun t ht => goO_go ht
    · obtain ⟨x4, i4, h4, e4, k4⟩ := l1Once_ok b i3 h3 4 k3 hb
      simp only [e4, Option.bind_some]
      exact goO_bind (fun _ => True) (goO_if (goO_go trivial) (goO_go trivial)) fun t _ => goO_go ⟨k4, by unfold smN; simp, Nat.zero_le _⟩
    refine goO_bind (fun _ => True) (goO_if (goO_go trivial) (goO_bind (fun _ => True) (goO_if (goO_go trivial) (goO_go trivial)) fun t _ => goO_go trivial)) fun T57 _ => ?_
    refine goO_bind (q7 b) (goO_if ?_ ?_) fun t ht => goO_go ht
    · obtain ⟨x4, i4, h4, e4, g4, k4⟩ := l1Pick_ok b i3 h3 [[97], [98], [97, 98], [99], [100], [122, 122]] (by simp) k3 hb
      simp only [e4, Option.bind_some]
      exact goO_go ⟨k4, by unfold smN; simp, Nat.zero_le _⟩
    refine goO_bind (fun _ => True) (goO_if (goO_go trivial) (goO_go trivial)) fun T70 _ => ?_
    refine goO_bind (q7 b) (goO_if ?_ ?_) fun t ht => goO_go ht
    · obtain ⟨x4, i4, h4, e4, g4, k4⟩ := l1Pick_ok b i3 h3 [[], [97], [98]] (by simp) k3 hb
      obtain ⟨x5, i5, h5, e5, g5, k5⟩ := l1Pick_ok b i4 h4 [[], [99], [98]] (by simp) k4 hb
      simp only [e4, e5, Option.bind_some]
      exact goO_go ⟨k5, by unfold smN; simp, Nat.zero_le _⟩
    refine goO_bind (q6 b) (goO_if ?_ ?_) fun t ht => goO_go ht
    · exact goO_go ⟨k3, by unfold smN; simp, Nat.zero_le _⟩
    refine goO_bind (q6 b) (goO_if ?_ ?_) fun t ht => goO_go ht
    · obtain ⟨x4, i4, h4, e4, g4, k4⟩ := l1Below_ok b i3 h3 5 k3 hb
      have := g4.2.1 (by omega)
      have := g4.1
      simp only [e4, Option.bind_some]
      exact goO_go ⟨k4, by unfold smN; simp only; omega, Nat.zero_le _⟩
    refine goO_bind (fun _ => True) (goO_if (goO_go trivial) (goO_go trivial)) fun T93 _ => ?_
    refine goO_bind (q6 b) (goO_if ?_ ?_) fun t ht => goO_go ht
    · obtain ⟨x4, i4, h4, e4, g4, k4⟩ := l1Below_ok b i3 h3 5 k3 hb
      obtain ⟨x5, i5, h5, e5, g5, k5⟩ := l1Pick_ok b i4 h4 [[97], [98], [97, 98], [99]] (by simp) k4 hb
      have := g4.2.1 (by omega)
      have := g4.1
      simp only [e4, e5, Option.bind_some]
      exact goO_go ⟨k5, by unfold smN; simp only; omega, Nat.zero_le _⟩
    refine goO_bind (q5 b) (goO_if ?_ ?_) fun t ht => goO_go ht
    · exact goO_go ⟨k3, by unfold smN; simp, Nat.zero_le _⟩
    refine goO_bind (q5 b) (goO_if ?_ ?_) fun t ht => goO_go ht
    · exact goO_go ⟨k3, by unfold smN; simp, Nat.zero_le _⟩
    refine goO_bind (q5 b) (goO_if ?_ ?_) fun t ht => goO_go ht
    · exact goO_go ⟨k3, by unfold smN; simp, Nat.zero_le _⟩
    refine goO_bind (q5 b) (goO_if ?_ ?_) fun t ht => goO_go ht
    · obtain ⟨x4, i4, h4, e4, g4, k4⟩ := l1PickInt_ok b i3 h3 [0, 0, 1, 2, 9, -1] (by simp) k3 hb
      simp only [e4, Option.bind_some]
      exact goO_go ⟨k4, ps g4 (by simp), Nat.zero_le _⟩
    · obtain ⟨l, i4, h4, e4, g4, k4⟩ := l21Batch_ok b i3 h3 k3 hb
      simp only [e4, Option.bind_some]
      exact goO_go ⟨k4, by unfold smN; simp, g4⟩
  · obtain ⟨p, q, kd, n, key, to, ops⟩ := T19
    obtain ⟨a1, a2, a3⟩ := hT
    simp only at a1 a2 a3
    obtain ⟨x4, i4, h4, e4, k4⟩ := l1Once_ok b p q 30 a1 hb
    simp only [e4, Option.bind_some]
    refine bindC_ex (P := drC b) (fun t : Int × Int × Int => inB b t.1) (goO_if ?_ ?_) fun T128 hT => ?_
    · obtain ⟨x5, i5, h5, e5, g5, k5⟩ := l1PickInt_ok b i4 h4 [0, 15] (by simp) k4 hb
      simp only [e5, Option.bind_some]
      exact goO_go k5
    · exact goO_go k4
    obtain ⟨p2, q2, kd2⟩ := T128
    simp only at hT
    obtain ⟨x6, i6, h6, e6, k6⟩ := l1Once_ok b p2 q2 25 hT hb
    simp only [e6, Option.bind_some]
    refine bindC_ex (P := drC b) (fun t : List UInt8 × Int × Int => t.1.length ≤ 2000 ∧ inB b t.2.1) (goO_if ?_ ?_) fun T138 hT2 => ?_
    · obtain ⟨x7, i7, h7, e7, g7, k7⟩ := l1Spoil_ok b i6 h6 tok (by omega) k6 hb
      simp only [e7, Option.bind_some]
      exact goO_go ⟨by simp only; omega, k7⟩
    · exact goO_go ⟨by simp only; omega, k6⟩
    exact ⟨_, _, _, rfl, ⟨hT2.1, a3, a2⟩, hT2.2⟩
theorem l21Calls_ok (b : List UInt8) (i h : Int) (secret : List UInt8) (most : Int) (hm : most ≤ 1000) (hi : inB b i) (hb : b.length ≤ 1048576) : drL b (spec_l21Calls { b := b, i := i, h := h } secret most) := by
  unfold spec_l21Calls
  have lit0 : ∀ k t n key to, smN n → litC { Kind := k, Token := [], Tenant := t, N := n, Key := key, To := to, Ops := [] } := fun k t n key to hn => ⟨Nat.zero_le _, Nat.zero_le _, hn⟩
  have hap : ∀ (l : List Call) (c : Call), l.length ≤ 10000 → app 96 l [c] = some (l ++ [c]) := fun l c hl => app_ok (by simp only [List.length_singleton]; omega) (by simp only [List.length_singleton]; omega)
  have hsn : ∀ {l : List Call} {c : Call}, (∀ x ∈ l, litC x) → litC c → ∀ x ∈ l ++ [c], litC x := by
    intro l c hl hc x hx
    rcases List.mem_append.1 hx with hx | hx
    · exact hl x hx
    · rw [List.mem_singleton] at hx; subst hx; exact hc
  refine loopO_G (R := List Call × L1Cur) (ρ := Int × Int × List Call) (drL b) (fun k (S : Int × Int × Int × List Call) => inB b S.1 ∧ S.2.2.1 = 1 + (k : Int) ∧ S.2.2.2.length ≤ k ∧ ∀ c ∈ S.2.2.2, litC c) 2 (fun r => ∃ t : Int × Int × List Call, r = .go t ∧ inB b t.1 ∧ t.2.2.length ≤ 2 ∧ ∀ c ∈ t.2.2, litC c) ⟨hi, by simp, Nat.zero_le _, fun c hc => by cases hc⟩ ?_ ?_ ?_
  · rintro k ⟨p, q, c, l⟩ hk ⟨hp, hc, hl, hL⟩
    simp only at hp hc hl hL
    subst hc
    left
    obtain ⟨x2, i2, h2, e2, k2⟩ := l1Once_ok b p q 8 hp hb
    simp only [e2, Option.bind_some]
    rw [if_pos (by simp only [decide_eq_true_eq]; omega), wrap_ok (n := 1 + (k : Int) + 1) (by omega) (by omega)]
    cases x2 with
    | true => exact ⟨_, rfl, k2, by simp only; omega, by simp only; omega, hL⟩
    | false =>
      simp only [Bool.not_false, if_true, l21Fill_R, Option.bind_some, hap l _ (show l.length ≤ 10000 by omega), bindC_go]
      exact ⟨_, rfl, k2, by simp only; omega, by simp; omega, hsn hL (lit0 _ _ _ _ _ (by unfold smN; omega))⟩
  · rintro ⟨p, q, c, l⟩ ⟨hp, hc, hl, hL⟩
    simp only at hp hc hl hL
    subst hc
    exact ⟨.go (p, q, l), by simp only; rw [if_neg (by simp only [decide_eq_true_eq]; omega)], (p, q, l), rfl, hp, hl, hL⟩
  rintro _ ⟨⟨p, q, l⟩, rfl, hp, hl, hL⟩
  simp only at hp hl hL
  obtain ⟨x1, i1, h1, e1, g1, k1⟩ := l1Below_ok b p q most hp hb
  simp only [bindC_go, e1, Option.bind_some]
  have hx1 : x1 ≤ 1000 := by
    rcases Int.lt_or_le 0 most with h0 | h0
    · have := g1.2.1 h0; omega
    · have := g1.2.2 h0; omega
  have hx0 := g1.1
  refine loopO_G (R := List Call × L1Cur) (ρ := Int × Int × List Call) (drL b) (fun k (S : Int × Int × Int × List Call) => inB b S.1 ∧ S.2.2.1 = x1 - (k : Int) ∧ S.2.2.2.length ≤ 2 + k ∧ ∀ c ∈ S.2.2.2, litC c) x1.toNat (fun r => ∃ t : Int × Int × List Call, r = .go t ∧ inB b t.1 ∧ t.2.2.length ≤ 1500 ∧ ∀ c ∈ t.2.2, litC c) ⟨k1, by simp, by simp only; omega, hL⟩ ?_ ?_ ?_
  · rintro k ⟨p, q, c, l⟩ hk ⟨hp, hc, hl, hL⟩
    simp only at hp hc hl hL
    subst hc
    left
    obtain ⟨cc, i2, h2, e2, g2, k2⟩ := l21Call_ok b p q secret hp hb
    simp only [e2, Option.bind_some, hap l _ (show l.length ≤ 10000 by omega)]
    rw [if_pos (by simp only [decide_eq_true_eq]; omega), wrap_ok (n := x1 - (k : Int) - 1) (by omega) (by omega)]
    exact ⟨_, rfl, k2, by simp only; omega, by simp; omega, hsn hL g2⟩
  · rintro ⟨p, q, c, l⟩ ⟨hp, hc, hl, hL⟩
    simp only at hp hc hl hL
    subst hc
    exact ⟨.go (p, q, l), by simp only; rw [if_neg (by simp only [decide_eq_true_eq]; omega)], (p, q, l), rfl, hp, by simp only; omega, hL⟩
  rintro _ ⟨⟨p, q, l⟩, rfl, hp, hl, hL⟩
  simp only at hp hl hL
  obtain ⟨x2, i2, h2, e2, k2⟩ := l1Once_ok b p q 60 hp hb
  simp only [bindC_go, e2, Option.bind_some]
  refine bindC_ex (P := drL b) (fun t : Int × Int × List Call => inB b t.1 ∧ t.2.2.length ≤ 2000 ∧ ∀ c ∈ t.2.2, litC c) (goO_if ?_ ?_) fun t ht => ⟨_, _, _, rfl, ht.2.1, ht.2.2, ht.1⟩
  · obtain ⟨x3, i3, h3, e3, g3, k3⟩ := l1Below_ok b i2 h2 2 k2 hb
    have := g3.2.1 (by omega)
    have := g3.1
    simp only [e3, Option.bind_some]
    rw [wrap_ok (n := 120 + x3) (by omega) (by omega)]
    refine loopO_G (ρ := List Call) (goO fun t : Int × Int × List Call => inB b t.1 ∧ t.2.2.length ≤ 2000 ∧ ∀ c ∈ t.2.2, litC c) (fun k (S : List Call) => S.length = l.length + k ∧ ∀ c ∈ S, litC c) (120 + x3 - (l.length : Int)).toNat (fun r => ∃ t : List Call, r = .go t ∧ t.length ≤ 2000 ∧ ∀ c ∈ t, litC c) ⟨rfl, hL⟩ ?_ ?_ ?_
    · rintro k S hk ⟨hs, hS⟩
      left
      simp only [hap S _ (show S.length ≤ 10000 by omega), Option.bind_some]
      rw [if_pos (by simp only [decide_eq_true_eq]; omega)]
      exact ⟨_, rfl, by simp; omega, hsn hS (lit0 _ _ _ _ _ (by unfold smN; omega))⟩
    · rintro S ⟨hs, hS⟩
      exact ⟨.go S, by rw [if_neg (by simp only [decide_eq_true_eq]; omega)], S, rfl, by omega, hS⟩
    · rintro _ ⟨t, rfl, h1, h2⟩
      exact goO_go ⟨k3, h1, h2⟩
  · exact goO_go ⟨k2, by simp only; omega, hL⟩
theorem DrawModelPlay_ok (code : List UInt8) (hb : code.length ≤ 1048576) : ∃ s n l, spec_DrawModelPlay code = some (s, n, l) ∧ l.length ≤ 2000 ∧ ∀ c ∈ l, litC c := by
  unfold spec_DrawModelPlay
  obtain ⟨q, hq⟩ := l1New_ok code hb
  obtain ⟨x1, i1, h1, e1, k1⟩ := l1Once_ok code 0 q 30 (by omega) hb
  obtain ⟨n, hn, hn1, hn2⟩ := l1Size_ok code 36 hb (by omega)
  simp only [hq, l21Fill_R, e1, hn, Option.bind_some]
  refine bindC_ex (P := fun o => ∃ (s : List UInt8) (n : Int) (l : List Call), o = some (s, n, l) ∧ l.length ≤ 2000 ∧ ∀ c ∈ l, litC c) (fun t : Int × Int × List UInt8 => inB code t.1) (goO_if ?_ ?_) fun T hT => ?_
  · obtain ⟨s, i2, h2, e2, g2, k2⟩ := l3Key_ok code i1 h1 k1 hb
    simp only [e2, Option.bind_some]
    exact goO_go k2
  · exact goO_go k1
  · obtain ⟨x3, i3, h3, e3, g3, k3⟩ := l1PickInt_ok code T.1 T.2.1 [100, 100, 12, 20, 1001] (by simp) hT hb
    obtain ⟨l, i4, h4, e4, g4, g5, k4⟩ := l21Calls_ok code i3 h3 T.2.2 n (by omega) k3 hb
    simp only [e3, e4, Option.bind_some]
    exact ⟨_, _, _, rfl, g4, g5⟩
/-! ## replies at the beginning do not depend on what comes behind -/
theorem impl_copyModel_eq {n : Nat} (m : Model) (h : okM n m) (hn : n ≤ 500) : impl_copyModel m = some m := by
  have h4 := h.n4
  have hr := h.rows
  have hsl := sh_lens h.sh
  have hcs : impl_copyShares m.Shares = some m.Shares := by
    unfold impl_copyShares slices_Clone_21618
    rw [app_ok (by simp only [List.length_nil]; omega) (by simp only [List.length_nil]; omega)]
    rfl
  unfold impl_copyModel
  simp only [hcs, impl_copyTens_eq m.Tens (by omega) fun t ht => (h.tens t ht).sm (by omega), impl_copyTens_eq m.Base (by omega) fun t ht => (h.bases t ht).1.sm (by omega), Option.bind_some]
  refine copy_loop m.Rows (by omega) 40 (by decide) id (fun k hk out => ?_) (fun out => by simp) (by rw [List.map_id])
  have hbk := batch_len (h.ops _ (List.getElem_mem hk))
  simp only [idx_nat m.Rows k hk, Option.bind_some, cloneOp_R _ (show m.Rows[k].Ops.length ≤ 1048576 by omega)]
  rw [if_pos (by simpa using hk)]
  rfl
theorem impl_ModelDo_eq {n : Nat} (m : Model) (c : Call) (h : okM n m) (hn : n ≤ 500) (hc : smC c) : impl_ModelDo m c = some (doM m c) := by
  unfold impl_ModelDo
  rw [impl_copyModel_eq m h hn, Option.bind_some, impl_perform_eq m c h hn hc]
  rfl
theorem runM_take : ∀ (l : List Call) (m : Model) (k : Nat), (runM m l).take k = runM m (l.take k)
  | [], m, k => by rw [List.take_nil, runM, List.take_nil]
  | c :: l, m, 0 => rfl
  | c :: l, m, k + 1 => by rw [runM, List.take_succ_cons, List.take_succ_cons, runM, runM_take l]
theorem sameReplies_eq (a b : List Reply) (ha : a.length ≤ 1048576) (hb : ∀ r ∈ a, r.List.length ≤ 1048576) : laws_sameReplies a b = some (decide (a = b)) := by
  unfold laws_sameReplies
  have := eqS_of a b (fun x y => some (decide (x = y))) (fun x y _ _ => rfl) (by omega)
  rw [← this]
  refine congrArg (fun o => if (!decide (((a.length : Nat) : Int) = ((b.length : Nat) : Int))) = true then some false else bindC (loopO o (0 : Int)) (fun _ => some true)) ?_
  funext S2
  by_cases hk : decide (S2 < ((a.length : Nat) : Int)) = true
  · rw [if_pos hk, if_pos hk]
    cases hx : idx a S2 with
    | none => rfl
    | some x =>
      cases hy : idx b S2 with
      | none => rfl
      | some y =>
        have hmem : x ∈ a := by
          obtain ⟨h0, h1, h2⟩ := idx_get hx
          exact List.mem_of_getElem? h2
        simp only [Option.bind_some, sameMap_eq x.List y.List (hb x hmem)]
        obtain ⟨x1, x2, x3, x4⟩ := x
        obtain ⟨y1, y2, y3, y4⟩ := y
        by_cases c1 : x1 = y1 <;> by_cases c2 : x2 = y2 <;> by_cases c3 : x3 = y3 <;> by_cases c4 : x4 = y4 <;> simp [c1, c2, c3, c4]
  · rw [if_neg hk, if_neg hk]
theorem FnForever_pure (code : List UInt8) : laws_FnForever code = some true := by
  unfold laws_FnForever laws_big
  simp only [Option.bind_some]
  by_cases hbig : ((code.length : Nat) : Int) > 1048576
  · rw [decide_eq_true hbig, if_pos rfl]
  · rw [decide_eq_false hbig, if_neg (by simp)]
    have hb : code.length ≤ 1048576 := by omega
    obtain ⟨s, n, l, e1, hl, hL⟩ := DrawModelPlay_ok code hb
    obtain ⟨a, e2, ha1, ha2⟩ := at_ok code 0 (by omega) hb
    have hsm : ∀ c ∈ l, smC c := fun c hc => (hL c hc).sm
    simp only [e1, e2, Option.bind_some]
    rw [wrap_ok (n := ((l.length : Nat) : Int) + 1) (by omega) (by omega)]
    have hnz : ∃ u, nz (((l.length : Nat) : Int) + 1) = some u := by
      unfold nz
      rw [if_neg (by omega)]
      exact ⟨(), rfl⟩
    obtain ⟨u, hnz⟩ := hnz
    rw [hnz, Option.bind_some, impl_ModelPlay_eq s n l (by omega) hsm, Option.bind_some]
    obtain ⟨k, hk, hkl⟩ : ∃ k : Nat, Int.tmod a (((l.length : Nat) : Int) + 1) = (k : Int) ∧ k ≤ l.length := by
      have h1 := Int.tmod_nonneg (((l.length : Nat) : Int) + 1) ha1
      have h2 := Int.tmod_lt_of_pos a (show 0 < ((l.length : Nat) : Int) + 1 by omega)
      exact ⟨(Int.tmod a (((l.length : Nat) : Int) + 1)).toNat, by omega, by omega⟩
    rw [hk]
    have hp : ∀ {α : Type} (x : List α), k ≤ x.length → piece x (0 : Int) (k : Int) = some (x.take k) := by
      intro α x hx
      unfold piece
      rw [if_pos ⟨by omega, by omega, by omega⟩]
      simp
    rw [hp l hkl, Option.bind_some, impl_ModelPlay_eq s n (l.take k) (by rw [List.length_take]; omega) (fun c hc => hsm c (List.mem_of_mem_take hc)), spec_ModelPlay_eq s n l (by omega) hsm]
    simp only [Option.bind_some, decide_true, Bool.not_true, Bool.false_eq_true, if_false]
    obtain ⟨p1, p2⟩ := playM_small s n l
    by_cases h0 : (playM s n l).length = 0
    · rw [decide_eq_true (by omega : (((playM s n l).length : Nat) : Int) = 0)]
      simp only [if_true]
      by_cases h120 : l.length ≤ 120
      · have hq : (playM s n (l.take k)).length = 0 := by
          unfold playM at h0 ⊢
          cases hn : newOk s n with
          | false => rfl
          | true =>
            rw [hn, decide_eq_true h120] at h0
            simp only [Bool.and_self, cond_true] at h0
            rw [runM_len] at h0
            have : l = [] := List.eq_nil_of_length_eq_zero h0
            subst this
            rw [List.take_nil]
            rfl
        rw [decide_eq_true (by omega : (((playM s n (l.take k)).length : Nat) : Int) = 0)]
        rfl
      · cases decide ((((playM s n (l.take k)).length : Nat) : Int) = 0) with
        | true => rfl
        | false =>
          simp only [Bool.false_eq_true, if_false, Option.bind_some]
          rw [decide_eq_true (by omega : ((l.length : Nat) : Int) > 120)]
    · rw [decide_eq_false (by omega : ¬ (((playM s n l).length : Nat) : Int) = 0)]
      simp only [Bool.false_eq_true, if_false]
      have hplay : newOk s n = true ∧ l.length ≤ 120 ∧ playM s n l = runM (newM s n) l ∧ playM s n (l.take k) = runM (newM s n) (l.take k) := by
        unfold playM at h0 ⊢
        cases hn : newOk s n with
        | false => rw [hn] at h0; exact absurd rfl h0
        | true =>
          by_cases h120 : l.length ≤ 120
          · rw [decide_eq_true h120, decide_eq_true (by rw [List.length_take]; omega : (l.take k).length ≤ 120)]
            exact ⟨rfl, h120, rfl, rfl⟩
          · rw [hn, decide_eq_false h120] at h0; exact absurd rfl h0
      obtain ⟨hn, h120, hr, hq⟩ := hplay
      rw [(modelNew_R s n).1, hn, hr, hq, Option.bind_some]
      rw [hr] at p2
      simp only [cond_true]
      have hlen := runM_len l (newM s n)
      refine loopO_bind (fun k (S : List UInt8 × Int × Int × List Share × List MTen × List MTen × List MRow) => ∃ m, S = (m.Secret, m.Shares.Size, (k : Int), m.Shares.List, m.Tens, m.Base, m.Rows) ∧ okM k m ∧ (runM (newM s n) l).drop k = runM m (l.drop k)) l.length (fun r => r = .go ()) ⟨newM s n, rfl, newM_ok _ _ hn, rfl⟩ ?_ ?_ ?_
      · rintro j _ hj ⟨m, rfl, hm, hd⟩
        left
        have hE : ({ Secret := m.Secret, Shares := { Size := m.Shares.Size, List := m.Shares.List }, Tens := m.Tens, Base := m.Base, Rows := m.Rows } : Model) = m := rfl
        rw [runM_at l m j hj, List.drop_eq_getElem_cons (by omega)] at hd
        obtain ⟨hd1, hd2⟩ := List.cons.inj hd
        refine ⟨_, ?_, (doM m l[j]).1, rfl, doM_ok hm _, hd2⟩
        simp only [idx_nat l j hj, Option.bind_some, hE, impl_ModelDo_eq m l[j] hm (by omega) (hsm _ (List.getElem_mem hj)), idx_nat (runM (newM s n) l) j (by omega), hd1]
        rw [if_pos (by simpa using hj), wrap_ok (n := (j : Int) + 1) (by omega) (by omega)]
        simp
      · rintro _ ⟨m, rfl, hm, hd⟩
        exact ⟨.go (), by simp, rfl⟩
      · rintro r rfl
        rw [hp (runM (newM s n) l) (by omega), hlen]
        simp only [bindC_go, decide_true, if_true, Option.bind_some]
        rw [runM_take, sameReplies_eq _ _ (by rw [runM_len, List.length_take]; omega) (fun r hr => ?_)]
        · simp
        · rw [← runM_take] at hr
          have := p2 r (List.mem_of_mem_take hr)
          omega
theorem FnForever_proved : Rows.FnForeverSaid := FnForever_over fun code _ => FnForever_pure code
end Go.Proofs.YtmigafjpdoeicaaGreat
