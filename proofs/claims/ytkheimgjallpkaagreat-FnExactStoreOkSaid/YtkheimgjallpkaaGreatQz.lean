/-
  The plain laws: what the pure functions come to, and the statements. Conditions: none.
-/
import Derived.Test.YtkheimgjallpkaaGreatQza
set_option linter.unusedVariables false
set_option linter.unusedSimpArgs false
namespace Go.Proofs.YtkheimgjallpkaaGreat
open Go Sl

theorem rbStep_ok (s : List UInt8) (k m : Nat) (l : List Op) (q : Int × List UInt8) (o : Op) (hk : k < 1000) (hl : l.length = k) (hq : q.1 = -1 ∨ ∃ b : Nat, q.1 = (b : Int) ∧ b ≤ s.length) :
    (∃ s' : Int × Int × List Op, rbStep k l q o = some (.go s') ∧ s'.2.1 = ((k + 1 : Nat) : Int) ∧ (∃ a : Nat, s'.1 = (a : Int) ∧ a ≤ s.length) ∧ s'.2.2.length = k + 1) ∨
    (∃ r : Ctl (List Op) (List Op × Bool), rbStep k l q o = some (.done r) ∧ ((∃ l : List Op, r = .go l ∧ l.length = m) ∨ r = .done ([], false))) := by
  rcases hq with hq | ⟨b2, hq, hb2⟩
  · right
    exact ⟨.done ([], false), by unfold rbStep; rw [hq]; rfl, .inr rfl⟩
  · left
    refine ⟨(q.1, ((k + 1 : Nat) : Int), l ++ [{ Key := o.Key, Del := o.Del, Val := q.2 : Op }]), ?_, rfl, ⟨b2, hq, hb2⟩, by simp [hl]⟩
    unfold rbStep
    rw [hq, decide_eq_false (by omega : ¬ (b2 : Int) < 0), app_ok (by simp [hl]; omega) (by simp [hl]; omega), wrap_ok (n := (k : Int) + 1) (by omega) (by omega)]
    rfl
theorem spec_ReadBatch_sound (s : List UInt8) (hs : s.length ≤ 1048576) : ∃ r, spec_ReadBatch s = some r ∧ ((r.2 = true ∧ batchV r.1 = true ∧ showB r.1 = s) ∨ r = ([], false)) := by
  unfold spec_ReadBatch
  rw [show spec_l6Vars s (0 : Int) (1 : Int) = some (l6V s 1 0) from spec_l6Vars_eq s 0 1 (by omega) (by decide) (by decide)]
  simp only [Option.bind_some]
  rcases l6V_one (s := s) with e | ⟨b, n, e, hb, hn0, hne⟩
  · rw [e]
    exact ⟨_, rfl, .inr rfl⟩
  · rw [e]
    have j0 : idx [n] (0 : Int) = some n := rfl
    rw [decide_eq_false (by omega : ¬ (b : Int) < 0)]
    simp only [Bool.false_eq_true, if_false, j0, Option.bind_some]
    by_cases h6 : n > 6
    · rw [decide_eq_true h6]
      exact ⟨_, rfl, .inr rfl⟩
    rw [decide_eq_false h6]
    simp only [Bool.false_eq_true, if_false]
    obtain ⟨m, rfl⟩ : ∃ m : Nat, n = (m : Int) := ⟨n.toNat, by omega⟩
    refine loopO_G (R := List Op × Bool) (ρ := List Op) (fun o => ∃ r, o = some r ∧ ((r.2 = true ∧ batchV r.1 = true ∧ showB r.1 = s) ∨ r = ([], false))) (fun k (S : Int × Int × List Op) => S.2.1 = (k : Int) ∧ (∃ a : Nat, S.1 = (a : Int) ∧ a ≤ s.length) ∧ S.2.2.length = k) m
      (fun r => (∃ l, r = .go l ∧ l.length = m) ∨ r = .done ([], false)) ⟨rfl, ⟨b, rfl, hb⟩, rfl⟩ ?_ ?_ ?_
    · rintro k ⟨i, c, l⟩ hk ⟨hc, ⟨a, ha, hal⟩, hl⟩
      simp only at hc ha hl
      subst hc ha
      simp only [decide_eq_true (by omega : (k : Int) < (m : Int)), if_true]
      by_cases c1 : (a : Int) ≥ ((s.length : Nat) : Int)
      · right
        exact ⟨.done ([], false), by rw [decide_eq_true c1]; rfl, .inr rfl⟩
      · have hlt : a < s.length := by omega
        rw [decide_eq_false c1]
        simp only [Bool.false_eq_true, if_false, sidx_nat s a hlt, Option.bind_some]
        rw [wrap_ok (n := (a : Int) + 1) (by omega) (by omega), show (a : Int) + 1 = ((a + 1 : Nat) : Int) by omega, spec_l6Take_eq s (a + 1) (by omega) hs]
        simp only [Option.bind_some]
        have fin := fun q hq o => rbStep_ok s k m l q o (by omega) hl hq
        have hk1 := takeB_range s (a + 1) (by omega)
        generalize takeB s (a + 1) = q1 at hk1
        by_cases cd : ((s[a].toNat : Nat) : Int) = 1
        · rw [decide_eq_true cd]
          simp only [Bool.not_true, Bool.false_eq_true, if_false, bindC_go]
          exact fin (q1.2, []) hk1 { Key := q1.1, Del := true, Val := [] }
        · rw [decide_eq_false cd]
          simp only [Bool.not_false, if_true]
          rcases hk1 with hq | ⟨b2, hq, hb2⟩
          · rw [hq, spec_l6Take_neg]
            exact fin (-1, []) (.inl rfl) { Key := q1.1, Del := false, Val := [] }
          · rw [hq, spec_l6Take_eq s b2 hb2 hs]
            exact fin ((takeB s b2).2, (takeB s b2).1) (takeB_range s b2 hb2) { Key := q1.1, Del := false, Val := [] }
    · rintro ⟨i, c, l⟩ ⟨hc, _, hl⟩
      simp only at hc hl
      subst hc
      exact ⟨.go l, by simp, .inl ⟨l, rfl, hl⟩⟩
    · rintro r (⟨l, rfl, hl⟩ | rfl)
      · simp only [bindC_go]
        by_cases c0 : ((l.length : Nat) : Int) = 0
        · rw [decide_eq_true c0]
          exact ⟨_, rfl, .inr rfl⟩
        · rw [decide_eq_false c0, spec_ShowBatch_eq l (by omega)]
          simp only [Bool.false_eq_true, if_false, Option.bind_some]
          by_cases c1 : shownB l = s
          · rw [decide_eq_true c1]
            refine ⟨_, rfl, .inl ⟨rfl, ?_⟩⟩
            unfold shownB at c1
            cases hv : batchV l with
            | true => rw [hv] at c1; exact ⟨rfl, c1⟩
            | false => rw [hv] at c1; exact absurd c1.symm hne
          · rw [decide_eq_false c1]
            exact ⟨_, rfl, .inr rfl⟩
      · exact ⟨_, rfl, .inr rfl⟩
theorem spec_ReadBatch_complete {l : List Op} (h : batchV l = true) : spec_ReadBatch (showB l) = some (l, true) := by
  obtain ⟨⟨h1, h2⟩, h3⟩ := batchV_iff h
  have hlen := showB_len h
  have hs : (showB l).length ≤ 1048576 := by omega
  have d0 : (showB l).drop 0 = varV (l.length : Int) ++ (l.flatMap opB ++ []) := by rw [List.drop_zero, List.append_nil]; rfl
  have d1 := drop_enc d0
  have e1 : l6V (showB l) 1 0 = ([(l.length : Int)], ((0 + (varV (l.length : Int)).length : Nat) : Int)) := by
    have := l6V_enc (showB l) [(l.length : Int)] 0 (l.flatMap opB ++ []) (fun x hx => by rw [List.mem_singleton] at hx; rw [hx]; omega) (Nat.zero_le _) (by simpa using d0)
    simpa using this
  unfold spec_ReadBatch
  rw [show spec_l6Vars (showB l) (0 : Int) (1 : Int) = some (l6V (showB l) 1 0) from spec_l6Vars_eq (showB l) 0 1 (by omega) (by decide) (by decide), e1]
  have j0 : idx [(l.length : Int)] (0 : Int) = some (l.length : Int) := rfl
  simp only [Option.bind_some]
  simp only [j0]
  rw [decide_eq_false (by omega : ¬ ((0 + (varV (l.length : Int)).length : Nat) : Int) < 0)]
  simp only [Bool.false_eq_true, if_false, Option.bind_some]
  rw [decide_eq_false (by omega : ¬ (l.length : Int) > 6)]
  simp only [Bool.false_eq_true, if_false]
  let p (k : Nat) : Nat := 0 + (varV (l.length : Int)).length + ((l.take k).flatMap opB).length
  have dk : ∀ k (hk : k < l.length), (showB l).drop (p k) = opB l[k] ++ ((l.drop (k + 1)).flatMap opB ++ []) := by
    intro k hk
    have : (l.flatMap opB ++ [] : List UInt8) = (l.take k).flatMap opB ++ (opB l[k] ++ ((l.drop (k + 1)).flatMap opB ++ [])) := by
      conv => lhs; rw [← List.take_append_drop k l, List.drop_eq_getElem_cons hk, List.flatMap_append, List.flatMap_cons]
      simp only [List.append_assoc, List.append_nil]
    rw [this] at d1
    exact drop_enc d1
  refine loopO_bind (fun k (S : Int × Int × List Op) => S = (((p k : Nat) : Int), (k : Int), l.take k)) l.length (fun r => r = .go l) (by simp [p]) ?_ ?_ ?_
  · rintro k _ hk rfl
    left
    have ho := h3 _ (List.getElem_mem hk)
    obtain ⟨⟨o1, o2⟩, o3, o4⟩ := opV_iff ho
    have hd := dk k hk
    have htk : l.take (k + 1) = l.take k ++ [l[k]] := by rw [List.take_add_one, List.getElem?_eq_getElem hk]; rfl
    have hpk : p (k + 1) = p k + (opB l[k]).length := by show _ + ((l.take (k + 1)).flatMap opB).length = _ + _ + _; rw [htk, List.flatMap_append, List.length_append, List.flatMap_cons, List.flatMap_nil, List.append_nil]; omega
    have hlen2 := congrArg List.length hd
    rw [List.length_drop, List.length_append] at hlen2
    have hop : 1 ≤ (opB l[k]).length := by unfold opB; cases l[k].Del <;> simp <;> omega
    have hlt : p k < (showB l).length := by omega
    simp only [decide_eq_true (by omega : (k : Int) < (l.length : Int)), if_true]
    rw [decide_eq_false (by omega : ¬ ((p k : Nat) : Int) ≥ (((showB l).length : Nat) : Int))]
    simp only [Bool.false_eq_true, if_false, sidx_nat (showB l) (p k) hlt, Option.bind_some]
    rw [wrap_ok (n := ((p k : Nat) : Int) + 1) (by omega) (by omega), show ((p k : Nat) : Int) + 1 = ((p k + 1 : Nat) : Int) by omega, spec_l6Take_eq (showB l) (p k + 1) (by omega) hs]
    simp only [Option.bind_some]
    refine ⟨(((p (k + 1) : Nat) : Int), ((k + 1 : Nat) : Int), l.take (k + 1)), ?_, rfl⟩
    have hw : IntKind.i64.wrap ((k : Int) + 1) = ((k + 1 : Nat) : Int) := by rw [wrap_ok (by omega) (by omega)]; omega
    have hap : ∀ o : Op, app 40 (l.take k) [o] = some (l.take k ++ [o]) := fun o => app_ok (by simp; omega) (by simp; omega)
    have hhead : ∀ (x : UInt8) (r : List UInt8), (showB l).drop (p k) = x :: r → (showB l)[p k] = x := by
      intro x r hx
      rw [List.drop_eq_getElem_cons hlt] at hx
      exact (List.cons.inj hx).1
    cases hdel : l[k].Del with
    | true =>
      have hv := o4 hdel
      have hop' : opB l[k] = [1] ++ (pieceV l[k].Key ++ []) := by unfold opB; rw [hdel]; simp
      have hd' := hd
      rw [hop'] at hd'
      simp only [List.append_assoc, List.singleton_append, List.append_nil, List.cons_append, List.nil_append] at hd'
      have hx := hhead _ _ hd'
      have hd2 : (showB l).drop (p k + 1) = pieceV l[k].Key ++ (l.drop (k + 1)).flatMap opB := by
        have : (showB l).drop (p k) = [(1 : UInt8)] ++ (pieceV l[k].Key ++ (l.drop (k + 1)).flatMap opB) := hd'
        exact drop_enc this
      have hl2 := congrArg List.length hd2
      rw [List.length_drop, List.length_append] at hl2
      have ht := takeB_enc hd2 (by omega) (by omega)
      have hplen : (opB l[k]).length = 1 + (pieceV l[k].Key).length := by rw [hop']; simp; omega
      rw [ht, hx]
      have hn1 : ((((1 : UInt8)).toNat : Nat) : Int) = 1 := rfl
      simp only [hn1, decide_true, Bool.not_true, Bool.false_eq_true, if_false, bindC_go]
      rw [decide_eq_false (by omega : ¬ ((p k + 1 + (pieceV l[k].Key).length : Nat) : Int) < 0)]
      simp only [Bool.false_eq_true, if_false, hap, Option.bind_some, hw]
      rw [htk, hpk, hplen]
      have he : ({ Key := l[k].Key, Del := true, Val := [] } : Op) = l[k] := by rw [← hdel, ← hv]
      rw [he, Nat.add_assoc]
    | false =>
      have hop' : opB l[k] = [0] ++ (pieceV l[k].Key ++ pieceV l[k].Val) := by unfold opB; rw [hdel]; simp
      have hd' := hd
      rw [hop'] at hd'
      simp only [List.append_assoc, List.singleton_append, List.append_nil, List.cons_append, List.nil_append] at hd'
      have hx := hhead _ _ hd'
      have hd2 : (showB l).drop (p k + 1) = pieceV l[k].Key ++ (pieceV l[k].Val ++ (l.drop (k + 1)).flatMap opB) := by
        have : (showB l).drop (p k) = [(0 : UInt8)] ++ (pieceV l[k].Key ++ (pieceV l[k].Val ++ (l.drop (k + 1)).flatMap opB)) := hd'
        exact drop_enc this
      have hl2 := congrArg List.length hd2
      rw [List.length_drop, List.length_append, List.length_append] at hl2
      have hd3 := drop_enc hd2
      have ht := takeB_enc hd2 (by omega) (by omega)
      have ht2 := takeB_enc hd3 (by omega) (by omega)
      have hplen : (opB l[k]).length = 1 + ((pieceV l[k].Key).length + (pieceV l[k].Val).length) := by rw [hop']; simp; omega
      rw [ht, hx]
      have hn1 : ((((0 : UInt8)).toNat : Nat) : Int) = 0 := rfl
      simp only [hn1, decide_eq_false (by decide : ¬ (0 : Int) = 1), Bool.not_false, if_true]
      rw [spec_l6Take_eq (showB l) (p k + 1 + (pieceV l[k].Key).length) (by omega) hs, ht2]
      simp only [Option.bind_some, bindC_go]
      rw [decide_eq_false (by omega : ¬ ((p k + 1 + (pieceV l[k].Key).length + (pieceV l[k].Val).length : Nat) : Int) < 0)]
      simp only [Bool.false_eq_true, if_false, hap, Option.bind_some, hw]
      rw [htk, hpk, hplen]
      have he : ({ Key := l[k].Key, Del := false, Val := l[k].Val } : Op) = l[k] := by rw [← hdel]
      rw [he]
      congr 3
      omega
  · rintro _ rfl
    exact ⟨.go l, by simp, rfl⟩
  · rintro r rfl
    simp only [bindC_go]
    rw [decide_eq_false (by omega : ¬ ((l.length : Nat) : Int) = 0), spec_ShowBatch_eq l (by omega)]
    have : shownB l = showB l := by unfold shownB; rw [h]; rfl
    simp [this]
theorem ReadBatch_both (s : List UInt8) (hs : s.length ≤ 1048576) : spec_ReadBatch s = some (readB s) := by
  obtain ⟨r, hr, h | h⟩ := spec_ReadBatch_sound s hs
  · obtain ⟨h1, h2, h3⟩ := h
    rw [hr, ← h3, readB_show h2, ← h1]
  · rw [hr, h]
    cases hb : (readB s).2 with
    | false => rw [readB_false hb]
    | true =>
      obtain ⟨g1, g2⟩ := readB_sound hb
      have := spec_ReadBatch_complete g1
      rw [g2, hr, h] at this
      have := congrArg (fun o => o.map Prod.snd) this
      simp at this

/-! ## stores as required -/
/-- the first place where something holds -/
def fstV {α : Type} (p : α → Bool) (l : List α) : Int := match l.findIdx? p with
  | some j => (j : Int)
  | none => -1
theorem fst_loop {α R : Type} (p : α → Bool) (l : List α) (hl : l.length ≤ 1048576) {body : Int → Option (Ctl Int (Ctl Unit R))} (g : Int → R) {f : Unit → Option R} {z : R} (hf : f () = some z)
    (h : ∀ k (hk : k < l.length), body (k : Int) = some (if p l[k] = true then .done (.done (g (k : Int))) else .go ((k : Int) + 1))) (hn : body (l.length : Int) = some (.done (.go ()))) :
    bindC (loopO body 0) f = some (match l.findIdx? p with | some j => g (j : Int) | none => z) := by
  have key : ∀ (n k : Nat), k + n = l.length → (∀ i (hi : i < l.length), i < k → p l[i] = false) → bindC (loopO body (k : Int)) f = some (match l.findIdx? p with | some j => g (j : Int) | none => z) := by
    intro n
    induction n with
    | zero =>
      intro k hk hno
      have : k = l.length := by omega
      subst this
      rw [loopO_eq, hn]
      have : l.findIdx? p = none := by
        rw [List.findIdx?_eq_none_iff]
        intro x hx
        obtain ⟨i, hi, rfl⟩ := List.getElem_of_mem hx
        exact hno i hi hi
      rw [this]
      exact hf
    | succ n ih =>
      intro k hk hno
      have hk' : k < l.length := by omega
      rw [loopO_eq, h k hk']
      cases hp : p l[k] with
      | true =>
        have : l.findIdx? p = some k := by
          rw [List.findIdx?_eq_some_iff_getElem]
          exact ⟨hk', hp, fun j hj => by rw [hno j (by omega) hj]; simp⟩
        rw [this]
        rfl
      | false =>
        simp only [Bool.false_eq_true, if_false]
        have := ih (k + 1) (by omega) (fun i hi hik => by
          rcases Nat.lt_succ_iff_lt_or_eq.1 hik with h | rfl
          · exact hno i hi h
          · exact hp)
        rw [show (k : Int) + 1 = ((k + 1 : Nat) : Int) by omega]
        exact this
  exact key l.length 0 (by omega) (fun i _ h => by omega)
theorem spec_l22At_eq (l : List STen) (id : Int) (h : l.length ≤ 1048576) : spec_l22At l id = some (fstV (fun t => decide (t.Id = id)) l) := by
  unfold spec_l22At fstV
  refine fst_loop (fun t : STen => decide (t.Id = id)) l h (fun j => j) rfl (fun k hk => ?_) (by simp)
  simp only [idx_nat l k hk, Option.bind_some]
  rw [if_pos (by simpa using hk), wrap_ok (by omega) (by omega)]
  cases decide (l[k].Id = id) <;> rfl
theorem impl_Store_at_eq (s : Store) (id : Int) (h : s.Tens.length ≤ 1048576) : impl_Store_at s id = some (fstV (fun t => decide (t.Id = id)) s.Tens) := by
  unfold impl_Store_at slices_IndexFunc_91949_at_impl_Store_at_1 fstV
  rw [fst_loop (fun t : STen => decide (t.Id = id)) s.Tens h (fun j => j) rfl (fun k hk => ?_) (by simp)]
  · rfl
  · simp only [idx_nat s.Tens k hk, Option.bind_some, impl_Store_at_1]
    rw [if_pos (by simpa using hk), wrap_ok (by omega) (by omega)]
    cases decide (s.Tens[k].Id = id) <;> rfl
theorem impl_slotOf_eq (d : KeyDev) (t : Int) (h : d.Slots.length ≤ 1048576) : impl_slotOf d t = some (fstV (fun x => decide (x.Tenant = t)) d.Slots) := by
  unfold impl_slotOf slices_IndexFunc_79532_at_impl_slotOf_1 fstV
  rw [fst_loop (fun x : KeySlot => decide (x.Tenant = t)) d.Slots h (fun j => j) rfl (fun k hk => ?_) (by simp)]
  · rfl
  · simp only [idx_nat d.Slots k hk, Option.bind_some, impl_slotOf_1]
    rw [if_pos (by simpa using hk), wrap_ok (by omega) (by omega)]
    cases decide (d.Slots[k].Tenant = t) <;> rfl
theorem isNumber_eq (n : Int) : impl_isNumber n = some (decide (0 ≤ n ∧ n ≤ 1000000)) := by
  unfold impl_isNumber; rw [inRange_eq]; rfl
theorem KeyOk_impl (d : KeyDev) : impl_KeyOk d = spec_KeyOk d := by
  unfold impl_KeyOk spec_KeyOk
  simp only [isNumber_eq, isTenant_eq, l1In_eq, ge_iff_le]
theorem KeyOk_some (d : KeyDev) (h : d.Slots.length ≤ 1048576) : ∃ b, spec_KeyOk d = some b := by
  unfold spec_KeyOk
  simp only [l1In_eq, Option.bind_some]
  have ht : ∃ tb, (if (!(decide (((d.Master.length : Nat) : Int) = (32 : Int)))) = true then (some true)
      else (if (decide (((d.Slots.length : Nat) : Int) > (4 : Int))) = true then (some true)
      else (some (!decide (0 ≤ d.Wiped ∧ d.Wiped ≤ 1000000))))) = some tb := by
    split
    · exact ⟨_, rfl⟩
    · split <;> exact ⟨_, rfl⟩
  obtain ⟨tb, ht⟩ := ht
  rw [ht]
  simp only [Option.bind_some]
  cases tb with
  | true => exact ⟨_, rfl⟩
  | false =>
    simp only [Bool.false_eq_true, if_false]
    refine bindC_ends (loopO_ends (fun k s => s = (k : Int)) d.Slots.length rfl ?_ ?_) (fun _ => ⟨_, rfl⟩)
    · rintro k _ hk rfl
      simp only [idx_nat d.Slots k hk, Option.bind_some]
      rw [if_pos (by simpa using hk)]
      have hin : ∃ b, (if (!decide (1 ≤ d.Slots[k].Tenant ∧ d.Slots[k].Tenant ≤ 99)) = true then (some true)
          else (if (!(decide (((d.Slots[k].Key.length : Nat) : Int) = (32 : Int)))) = true then (some true)
          else (if (decide ((k : Int) > (0 : Int))) = true then ((idx d.Slots (IntKind.i64.wrap ((k : Int) - (1 : Int)))).bind fun E26 =>
          some (decide (E26.Tenant ≥ d.Slots[k].Tenant)))
          else (some false)))) = some b := by
        split
        · exact ⟨_, rfl⟩
        · split
          · exact ⟨_, rfl⟩
          · by_cases h0 : 0 < k
            · rw [if_pos (by simpa using h0), wrap_ok (n := (k : Int) - 1) (by omega) (by omega), show (k : Int) - 1 = ((k - 1 : Nat) : Int) by omega, idx_nat d.Slots (k - 1) (by omega)]
              exact ⟨_, rfl⟩
            · rw [if_neg (by simpa using h0)]
              exact ⟨_, rfl⟩
      obtain ⟨b, hb⟩ := hin
      rw [hb]
      simp only [Option.bind_some]
      cases b with
      | true => exact .inr ⟨_, rfl⟩
      | false => exact .inl ⟨_, rfl, by rw [wrap_ok (by omega) (by omega)]; omega⟩
    · rintro _ rfl
      exact ⟨_, by rw [if_neg (by simp)]⟩
noncomputable def keysV (d : KeyDev) : Bool := (spec_KeyOk d).getD false
theorem KeyOk_eq (d : KeyDev) (h : d.Slots.length ≤ 1048576) : spec_KeyOk d = some (keysV d) := by
  obtain ⟨b, hb⟩ := KeyOk_some d h
  unfold keysV; rw [hb]; rfl
noncomputable def keyOfV (d : KeyDev) (t : Int) : List UInt8 := bif keysV d then (match d.Slots.findIdx? (fun x => decide (x.Tenant = t)) with | some j => ((d.Slots[j]?).map KeySlot.Key).getD [] | none => []) else []
theorem spec_KeyOf_eq (d : KeyDev) (t : Int) (h : d.Slots.length ≤ 1048576) : spec_KeyOf d t = some (keyOfV d t) := by
  unfold spec_KeyOf keyOfV
  simp only [KeyOk_eq d h, Option.bind_some]
  cases keysV d with
  | false =>
    rw [loopO_eq]
    cases hl : decide ((0 : Int) < ((d.Slots.length : Nat) : Int)) <;> simp [hl, bindC]
  | true =>
    simp only [cond_true]
    rw [fst_loop (fun x : KeySlot => decide (x.Tenant = t)) d.Slots h (fun j => ((d.Slots[j.toNat]?).map KeySlot.Key).getD []) (z := []) rfl (fun k hk => ?_) (by simp)]
    · simp only [Int.toNat_natCast]
    · simp only [decide_eq_true (by omega : (k : Int) < ((d.Slots.length : Nat) : Int)), if_true, Option.bind_some, idx_nat d.Slots k hk, Int.toNat_natCast, List.getElem?_eq_getElem hk, Option.map_some, Option.getD_some]
      rw [wrap_ok (by omega) (by omega)]
      cases decide (d.Slots[k].Tenant = t) <;> rfl
theorem impl_KeyOf_eq (d : KeyDev) (t : Int) (h : d.Slots.length ≤ 1048576) : impl_KeyOf d t = some (keyOfV d t) := by
  unfold impl_KeyOf keyOfV
  rw [impl_slotOf_eq d t h, KeyOk_impl, KeyOk_eq d h]
  simp only [Option.bind_some]
  unfold fstV
  cases hf : d.Slots.findIdx? (fun x => decide (x.Tenant = t)) with
  | none => cases keysV d <;> rfl
  | some j =>
    have hj : j < d.Slots.length := (List.findIdx?_eq_some_iff_getElem.1 hf).1
    simp only
    rw [decide_eq_false (by omega : ¬ (j : Int) < 0)]
    simp only [Bool.false_eq_true, if_false, Option.bind_some]
    cases keysV d with
    | false => rfl
    | true => simp [idx_nat d.Slots j hj, List.getElem?_eq_getElem hj]
theorem readB_ok (t : List UInt8) : ((readB t).2 = true ∧ batchV (readB t).1 = true ∧ (showB (readB t).1) = t) ∨ readB t = ([], false) := by
  cases h : (readB t).2 with
  | true => exact .inl ⟨rfl, readB_sound h⟩
  | false => exact .inr (readB_false h)
theorem spec_OpenBatch_eq (key : List UInt8) (boot seq : Int) (s : List UInt8) (h : s.length ≤ 1048576) : spec_OpenBatch key boot seq s = some (openB key boot seq s) := by
  unfold spec_OpenBatch openB
  have hs := streamV_len key 0 (placeN boot seq) s
  have hr := ReadBatch_both (streamV key 0 (placeN boot seq) s) (by omega)
  have hbig : ¬ s.length ≤ 300 → readB (streamV key 0 (placeN boot seq) s) = ([], false) := by
    intro c
    rcases readB_ok (streamV key 0 (placeN boot seq) s) with ⟨_, h2, h3⟩ | h
    · have h4 := showB_len h2
      have h5 := showB_ne h2
      rw [h3] at h4 h5
      unfold streamV at h4 h5
      cases hk : streamOk key 0 (placeN boot seq) s.length with
      | true => rw [hk, cond_true, xorV_len] at h4; omega
      | false => rw [hk] at h5; exact absurd rfl h5
    · exact h
  simp only [spec_l8At_eq, spec_NonceOf_eq, len32, Option.bind_some, spec_ChaStream_eq key 0 _ s (by omega)]
  unfold placeN at hr hbig
  unfold placeN
  simp only [hr, Option.bind_some]
  by_cases c : s.length ≤ 300
  · cases decide (key.length = 32) <;> cases placeV boot seq <;> simp [c]
  · rw [hbig c]
    cases decide (key.length = 32) <;> cases placeV boot seq <;> simp
theorem openB_ok (key : List UInt8) (boot seq : Int) (s : List UInt8) : ((openB key boot seq s).2 = true ∧ batchV (openB key boot seq s).1 = true) ∨ openB key boot seq s = ([], false) := by
  unfold openB
  cases decide (key.length = 32) && (placeV boot seq && decide (s.length ≤ 300)) with
  | false => exact .inr rfl
  | true =>
    rcases readB_ok (streamV key 0 (placeN boot seq) s) with ⟨h1, h2, _⟩ | h
    · exact .inl ⟨h1, h2⟩
    · exact .inr h
/-- an engine behind the rows of a log -/
noncomputable def repS (key : List UInt8) : Eng → List LogRow → Eng × Bool
  | e, [] => (e, true)
  | e, r :: rs => bif (openB key r.Boot r.Seq r.Text).2 && (putR e (openB key r.Boot r.Seq r.Text).1).2 then repS key (putR e (openB key r.Boot r.Seq r.Text).1).1 rs else ({ Mem := [], Tables := [], Seq := 0, Snaps := [] }, false)
theorem putR_two {e : Eng} {l : List Op} (h : (putR e l).2 = true) : engV e = true ∧ batchV l = true ∧ okB e l = true ∧ (putR e l).1 = engB e l := by
  unfold putR at h ⊢
  cases h1 : engV e with
  | false => rw [h1] at h; cases h
  | true =>
    cases h2 : batchV l with
    | false => rw [h1, h2] at h; cases h
    | true =>
      cases h3 : okB e l with
      | false => rw [h1, h2, h3] at h; cases h
      | true => exact ⟨rfl, rfl, rfl, rfl⟩
theorem replayed_loop (key : List UInt8) (tabs : List (List Ent)) (rows : List LogRow) (hr : rows.length ≤ 1048576) (hx : ∀ r ∈ rows, r.Text.length ≤ 1048576) {body : Int × Int × List Ent → Option (Ctl (Int × Int × List Ent) (Ctl (Int × List Ent) (Eng × Bool)))}
    (hb : body = fun (S16 : Int × Int × List Ent) => if (decide (S16.2.1 < ((rows.length : Nat) : Int))) = true then ((idx rows S16.2.1).bind fun E21 =>
  (impl_OpenBatch key E21.Boot E21.Seq E21.Text).bind fun R24 =>
  (if (!R24.2) = true then (some (S16.1, true, S16.2.2))
  else ((impl_Eng_engPut ({ Mem := S16.2.2, Tables := tabs, Seq := S16.1, Snaps := ([] : List Int) : Eng }) R24.1).bind fun R30 =>
  some (R30.2.Seq, !R30.1, R30.2.Mem))).bind (fun (T27 : Int × Bool × List Ent) =>
  if T27.2.1 = true then (some (.done (.done ({ Mem := ([] : List Ent), Tables := ([] : List (List Ent)), Seq := (0 : Int), Snaps := ([] : List Int) : Eng }, false))))
  else (some (.go (T27.1, IntKind.i64.wrap (S16.2.1 + (1 : Int)), T27.2.2)))))
  else (some (.done (.go (S16.1, S16.2.2))))) :
    ∀ (n k : Nat) (seq : Int) (mem : List Ent), k + n = rows.length → engV { Mem := mem, Tables := tabs, Seq := seq, Snaps := [] } = true →
      bindC (loopO body (seq, (k : Int), mem)) (fun (T18 : Int × List Ent) => some (({ Mem := T18.2, Tables := tabs, Seq := T18.1, Snaps := ([] : List Int) : Eng }), true)) = some (repS key { Mem := mem, Tables := tabs, Seq := seq, Snaps := [] } (rows.drop k)) := by
  intro n
  induction n with
  | zero =>
    intro k seq mem hk hv
    have : k = rows.length := by omega
    subst this
    rw [loopO_eq, hb]
    simp [bindC, repS]
  | succ n ih =>
    intro k seq mem hk hv
    have hk' : k < rows.length := by omega
    rw [loopO_eq, List.drop_eq_getElem_cons hk']
    have hstep : body (seq, (k : Int), mem) = some (bif (openB key rows[k].Boot rows[k].Seq rows[k].Text).2 && (putR { Mem := mem, Tables := tabs, Seq := seq, Snaps := [] } (openB key rows[k].Boot rows[k].Seq rows[k].Text).1).2 then
        .go ((putR { Mem := mem, Tables := tabs, Seq := seq, Snaps := [] } (openB key rows[k].Boot rows[k].Seq rows[k].Text).1).1.Seq, (k : Int) + 1, (putR { Mem := mem, Tables := tabs, Seq := seq, Snaps := [] } (openB key rows[k].Boot rows[k].Seq rows[k].Text).1).1.Mem)
        else .done (.done ({ Mem := [], Tables := [], Seq := 0, Snaps := [] }, false))) := by
      rw [hb]
      simp only [idx_nat rows k hk', Option.bind_some, impl_OpenBatch_eq key _ _ _ (hx _ (List.getElem_mem hk'))]
      rw [if_pos (by simpa using hk'), wrap_ok (n := (k : Int) + 1) (by omega) (by omega)]
      rcases openB_ok key rows[k].Boot rows[k].Seq rows[k].Text with ⟨h1, h2⟩ | h
      · rw [h1]
        simp only [Bool.not_true, Bool.false_eq_true, if_false, Bool.true_and, impl_engPut_eq _ _ hv h2, Option.bind_some]
        unfold putR
        rw [hv, h2]
        cases okB { Mem := mem, Tables := tabs, Seq := seq, Snaps := [] } (openB key rows[k].Boot rows[k].Seq rows[k].Text).1 <;> rfl
      · rw [h]; rfl
    rw [hstep]
    simp only [repS]
    cases hc : ((openB key rows[k].Boot rows[k].Seq rows[k].Text).2 && (putR { Mem := mem, Tables := tabs, Seq := seq, Snaps := [] } (openB key rows[k].Boot rows[k].Seq rows[k].Text).1).2) with
    | false => rfl
    | true =>
      simp only [cond_true]
      have h2 := (Bool.and_eq_true _ _ ▸ hc : _ ∧ _).2
      obtain ⟨p1, p2, p3, p4⟩ := putR_two h2
      have hv' := putR_ok hv (openB key rows[k].Boot rows[k].Seq rows[k].Text).1
      rw [p4] at hv' ⊢
      have := ih (k + 1) _ _ (by omega) hv'
      rw [show (k : Int) + 1 = ((k + 1 : Nat) : Int) by omega]
      exact this
noncomputable def rep0 (t : STen) : Eng := { Mem := [], Tables := t.Eng.Tables, Seq := t.Base, Snaps := [] }
theorem impl_Store_replayed_eq (s : Store) (t : STen) (rows : List LogRow) (hr : rows.length ≤ 1048576) (hx : ∀ r ∈ rows, r.Text.length ≤ 1048576) (hk : s.Keys.Slots.length ≤ 1048576) (ht : engV t.Eng = true) (h0 : engV (rep0 t) = true) :
    impl_Store_replayed s t rows = some (repS (keyOfV s.Keys t.Id) (rep0 t) rows) := by
  unfold impl_Store_replayed
  obtain ⟨e1, e2, e3, e4, e5⟩ := eng_small ht
  rw [impl_copyEng_eq t.Eng (by omega) (by omega) e5 (by omega), impl_KeyOf_eq s.Keys t.Id hk]
  simp only [Option.bind_some]
  have := replayed_loop (keyOfV s.Keys t.Id) t.Eng.Tables rows hr hx rfl rows.length 0 t.Base [] (by omega) h0
  rw [List.drop_zero] at this
  exact this
noncomputable def rowsV (s : Store) (id : Int) : List LogRow := s.Rows.filter fun r => decide (r.Tenant = id)
theorem impl_Store_rowsOf_eq (s : Store) (id : Int) (h : s.Rows.length ≤ 1048576) : impl_Store_rowsOf s id = some (rowsV s id) := by
  unfold impl_Store_rowsOf rowsV
  refine loopO_bind (fun k (S : Int × List LogRow) => S = ((k : Int), (s.Rows.take k).filter fun r => decide (r.Tenant = id))) s.Rows.length (fun r => r = .go (s.Rows.filter fun r => decide (r.Tenant = id))) rfl ?_ ?_ (fun r hr => by rw [hr]; rfl)
  · rintro k _ hk rfl
    left
    refine ⟨_, ?_, rfl⟩
    have hl := filter_len (fun r : LogRow => decide (r.Tenant = id)) s.Rows k
    simp only [idx_nat s.Rows k hk, Option.bind_some]
    rw [if_pos (by simpa using hk), wrap_ok (n := (k : Int) + 1) (by omega) (by omega), filter_take _ s.Rows k hk]
    cases c : decide (s.Rows[k].Tenant = id) with
    | false => simp [bindC]
    | true =>
      rw [if_pos rfl, app_ok (by simp; omega) (by simp; omega)]
      simp [bindC]
  · rintro _ rfl
    exact ⟨.go (s.Rows.filter fun r => decide (r.Tenant = id)), by simp [List.take_length], rfl⟩
/-- the same, each row in its place -/
noncomputable def chkS (key : List UInt8) (base : Int) : Int → Eng → List LogRow → Eng × Bool
  | _, e, [] => (e, true)
  | n, e, r :: rs => bif ((openB key r.Boot r.Seq r.Text).2 && (putR e (openB key r.Boot r.Seq r.Text).1).2) && decide (r.Seq = base + (n + 1)) then chkS key base (n + 1) (putR e (openB key r.Boot r.Seq r.Text).1).1 rs else ({ Mem := [], Tables := [], Seq := 0, Snaps := [] }, false)
theorem mine_loop (s : Store) (t : STen) (key : List UInt8) (hr : s.Rows.length ≤ 1048576) (hx : ∀ r ∈ s.Rows, r.Text.length ≤ 1048576) (hbase : 0 ≤ t.Base ∧ t.Base ≤ 1000000) {body : Int × Int × Int × List Ent × List (List Ent) × List Int → Option (Ctl (Int × Int × Int × List Ent × List (List Ent) × List Int) (Ctl (Int × Int × List Ent × List (List Ent) × List Int) Bool))}
    (hb : body = fun (S7 : Int × Int × Int × List Ent × List (List Ent) × List Int) => if (decide (S7.2.2.1 < ((s.Rows.length : Nat) : Int))) = true then (bindC ((idx s.Rows S7.2.2.1).bind fun E14 =>
  if (!(decide (E14.Tenant = t.Id))) = true then (some (.go (S7.1, S7.2.1, S7.2.2.2.1, S7.2.2.2.2.1, S7.2.2.2.2.2)))
  else ((spec_OpenBatch key E14.Boot E14.Seq E14.Text).bind fun R18 =>
  (spec_EngPut ({ Mem := S7.2.2.2.1, Tables := S7.2.2.2.2.1, Seq := S7.2.1, Snaps := S7.2.2.2.2.2 : Eng }) R18.1).bind fun R21 =>
  (if (!R18.2) = true then (some (true, S7.2.2.2.2.1))
  else (if (!R21.2) = true then (some (true, S7.2.2.2.2.1))
  else (some (!(decide (E14.Seq = IntKind.i64.wrap (t.Base + (IntKind.i64.wrap (S7.1 + (1 : Int)))))), S7.2.2.2.2.1)))).bind (fun (T25 : Bool × List (List Ent)) =>
  if T25.1 = true then (some (.done (.done (.done false))))
  else (some (.go (IntKind.i64.wrap (S7.1 + (1 : Int)), R21.1.Seq, R21.1.Mem, R21.1.Tables, R21.1.Snaps))))))
  (fun (T12 : Int × Int × List Ent × List (List Ent) × List Int) => some (.go (T12.1, T12.2.1, IntKind.i64.wrap (S7.2.2.1 + (1 : Int)), T12.2.2.1, T12.2.2.2.1, T12.2.2.2.2))))
  else (some (.done (.go (S7.1, S7.2.1, S7.2.2.2.1, S7.2.2.2.2.1, S7.2.2.2.2.2))))) :
    ∀ (n k : Nat) (cnt : Int) (e : Eng), k + n = s.Rows.length → smallE e → (0 ≤ cnt ∧ cnt ≤ (k : Int)) →
      loopO body (cnt, e.Seq, (k : Int), e.Mem, e.Tables, e.Snaps) = some (bif (chkS key t.Base cnt e ((s.Rows.drop k).filter fun r => decide (r.Tenant = t.Id))).2 then
        .go (cnt + (((s.Rows.drop k).filter fun r => decide (r.Tenant = t.Id)).length : Int), (chkS key t.Base cnt e ((s.Rows.drop k).filter fun r => decide (r.Tenant = t.Id))).1.Seq, (chkS key t.Base cnt e ((s.Rows.drop k).filter fun r => decide (r.Tenant = t.Id))).1.Mem, (chkS key t.Base cnt e ((s.Rows.drop k).filter fun r => decide (r.Tenant = t.Id))).1.Tables, (chkS key t.Base cnt e ((s.Rows.drop k).filter fun r => decide (r.Tenant = t.Id))).1.Snaps)
        else .done false) := by
  intro n
  induction n with
  | zero =>
    intro k cnt e hk hs hc
    have : k = s.Rows.length := by omega
    subst this
    rw [loopO_eq, hb]
    simp [chkS]
  | succ n ih =>
    intro k cnt e hk hs hc
    have hk' : k < s.Rows.length := by omega
    have hw : IntKind.i64.wrap ((k : Int) + 1) = ((k + 1 : Nat) : Int) := by rw [wrap_ok (by omega) (by omega)]; omega
    have hw1 : IntKind.i64.wrap (cnt + 1) = cnt + 1 := wrap_ok (by omega) (by omega)
    have hw2 : IntKind.i64.wrap (t.Base + (cnt + 1)) = t.Base + (cnt + 1) := wrap_ok (by omega) (by omega)
    rw [loopO_eq, List.drop_eq_getElem_cons hk']
    by_cases c : s.Rows[k].Tenant = t.Id
    · rw [List.filter_cons_of_pos (by simpa using c)]
      have hlen : (openB key s.Rows[k].Boot s.Rows[k].Seq s.Rows[k].Text).1.length ≤ 1048576 := by
        rcases openB_ok key s.Rows[k].Boot s.Rows[k].Seq s.Rows[k].Text with ⟨_, h2⟩ | h
        · have := (batchV_iff h2).1; omega
        · rw [h]; simp
      obtain ⟨s1, s2, s3, s4⟩ := id hs
      have hput := spec_EngPut_eq e (openB key s.Rows[k].Boot s.Rows[k].Seq s.Rows[k].Text).1 (by omega) (by omega) (by omega) (by omega) hlen
      have hstep : body (cnt, e.Seq, (k : Int), e.Mem, e.Tables, e.Snaps) = some (bif ((openB key s.Rows[k].Boot s.Rows[k].Seq s.Rows[k].Text).2 && (putR e (openB key s.Rows[k].Boot s.Rows[k].Seq s.Rows[k].Text).1).2) && decide (s.Rows[k].Seq = t.Base + (cnt + 1)) then
          .go (cnt + 1, (putR e (openB key s.Rows[k].Boot s.Rows[k].Seq s.Rows[k].Text).1).1.Seq, ((k + 1 : Nat) : Int), (putR e (openB key s.Rows[k].Boot s.Rows[k].Seq s.Rows[k].Text).1).1.Mem, (putR e (openB key s.Rows[k].Boot s.Rows[k].Seq s.Rows[k].Text).1).1.Tables, (putR e (openB key s.Rows[k].Boot s.Rows[k].Seq s.Rows[k].Text).1).1.Snaps)
          else .done (.done false)) := by
        rw [hb]
        simp only [idx_nat s.Rows k hk', Option.bind_some, spec_OpenBatch_eq key _ _ _ (hx _ (List.getElem_mem hk')), hput, hw, hw1, hw2]
        rw [if_pos (by simpa using hk'), if_neg (by simp [c])]
        cases (openB key s.Rows[k].Boot s.Rows[k].Seq s.Rows[k].Text).2 <;> cases (putR e (openB key s.Rows[k].Boot s.Rows[k].Seq s.Rows[k].Text).1).2 <;> cases decide (s.Rows[k].Seq = t.Base + (cnt + 1)) <;> rfl
      rw [hstep]
      simp only [chkS]
      cases hc2 : (((openB key s.Rows[k].Boot s.Rows[k].Seq s.Rows[k].Text).2 && (putR e (openB key s.Rows[k].Boot s.Rows[k].Seq s.Rows[k].Text).1).2) && decide (s.Rows[k].Seq = t.Base + (cnt + 1))) with
      | false => rfl
      | true =>
        simp only [cond_true]
        rw [ih (k + 1) (cnt + 1) _ (by omega) (putR_small hs _) (by omega)]
        simp only [List.length_cons]
        rw [show cnt + 1 + ((((s.Rows.drop (k + 1)).filter fun r => decide (r.Tenant = t.Id)).length : Nat) : Int) = cnt + (((((s.Rows.drop (k + 1)).filter fun r => decide (r.Tenant = t.Id)).length + 1 : Nat)) : Int) by omega]
    · rw [List.filter_cons_of_neg (by simpa using c)]
      have hstep : body (cnt, e.Seq, (k : Int), e.Mem, e.Tables, e.Snaps) = some (.go (cnt, e.Seq, ((k + 1 : Nat) : Int), e.Mem, e.Tables, e.Snaps)) := by
        rw [hb]
        simp only [idx_nat s.Rows k hk', Option.bind_some, hw]
        rw [if_pos (by simpa using hk'), if_pos (by simp [c])]
        rfl
      rw [hstep]
      exact ih (k + 1) cnt e (by omega) hs (by omega)
theorem chkS_eq (key : List UInt8) (base : Int) : ∀ (rs : List LogRow) (n : Int) (e : Eng), chkS key base n e rs = bif (repS key e rs).2 && ((List.range rs.length).all fun i => match rs[i]? with | some r => decide (r.Seq = base + (n + 1 + i)) | none => true) then ((repS key e rs).1, true) else ({ Mem := [], Tables := [], Seq := 0, Snaps := [] }, false)
  | [], n, e => rfl
  | r :: rs, n, e => by
    have hall : ((List.range (r :: rs).length).all fun i => match (r :: rs)[i]? with | some r => decide (r.Seq = base + (n + 1 + i)) | none => true) = (decide (r.Seq = base + (n + 1)) && ((List.range rs.length).all fun i => match rs[i]? with | some r => decide (r.Seq = base + (n + 1 + 1 + i)) | none => true)) := by
      rw [List.length_cons, List.range_succ_eq_map, List.all_cons, List.all_map]
      congr 1
      · simp
      · congr 1
        funext i
        simp only [Function.comp_apply, List.getElem?_cons_succ]
        rw [show n + 1 + ((i.succ : Nat) : Int) = n + 1 + 1 + (i : Int) by omega]
    rw [hall]
    simp only [chkS, repS]
    rw [chkS_eq key base rs (n + 1)]
    cases (openB key r.Boot r.Seq r.Text).2 && (putR e (openB key r.Boot r.Seq r.Text).1).2 with
    | false => rfl
    | true =>
      simp only [Bool.true_and, cond_true]
      cases decide (r.Seq = base + (n + 1)) with
      | true => simp only [cond_true, Bool.true_and]
      | false => simp
/-- a tenant as required -/
noncomputable def seqsV (base : Int) (rs : List LogRow) : Bool := (List.range rs.length).all fun i => match rs[i]? with | some r => decide (r.Seq = base + (0 + 1 + i)) | none => true
noncomputable def tenV (s : Store) (t : STen) : Bool :=
  (decide (0 ≤ t.Epoch ∧ t.Epoch ≤ 1000000) && decide (0 ≤ t.Base ∧ t.Base ≤ 1000000)) && ((decide (t.Eng.Snaps.length ≤ 2) && decide (t.Eng.Tables.length ≤ 1)) && (engV t.Eng &&
    ((decide ((rowsV s t.Id).length ≤ 6) && decide (t.Base + ((rowsV s t.Id).length : Int) = t.Eng.Seq)) && (seqsV t.Base (rowsV s t.Id) && (engV (rep0 t) && ((repS (keyOfV s.Keys t.Id) (rep0 t) (rowsV s t.Id)).2 && decide ((repS (keyOfV s.Keys t.Id) (rep0 t) (rowsV s t.Id)).1.Mem = t.Eng.Mem)))))))
theorem equalEnts_eq (a b : List Ent) (h : a.length ≤ 1048576) : slices_Equal_94167 a b = some (decide (a = b)) := by
  unfold slices_Equal_94167
  have := eqS_of a b (fun x y => some (decide (x.Key = y.Key) && (decide (x.Seq = y.Seq) && (decide (x.Del = y.Del) && (decide (x.Val = y.Val) && true))))) (fun x y _ _ => by
    congr 1
    obtain ⟨x1, x2, x3, x4⟩ := x
    obtain ⟨y1, y2, y3, y4⟩ := y
    simp only [Ent.mk.injEq, Bool.and_true, Bool.decide_and]) (by omega)
  simp only [Option.bind_some] at this
  exact this
theorem seqs_loop (rs : List LogRow) (base : Int) (hb : 0 ≤ base ∧ base ≤ 1000000) (hl : rs.length ≤ 1048576) {body : Int → Option (Ctl Int (Ctl Unit Bool))}
    (hbody : body = fun (S25 : Int) => if (decide (S25 < ((rs.length : Nat) : Int))) = true then ((idx rs S25).bind fun E30 =>
  if (!(decide (E30.Seq = IntKind.i64.wrap (IntKind.i64.wrap (base + S25) + (1 : Int))))) = true then (some (.done (.done false)))
  else (some (.go (IntKind.i64.wrap (S25 + (1 : Int))))))
  else (some (.done (.go ())))) (f : Unit → Option Bool) :
    bindC (loopO body 0) f = bif seqsV base rs then f () else some false := by
  have hp : ∀ k (hk : k < rs.length), body (k : Int) = some (if (decide (rs[k].Seq = base + (0 + 1 + (k : Int)))) = true then .go ((k : Int) + 1) else .done (.done false)) := by
    intro k hk
    rw [hbody]
    simp only [idx_nat rs k hk, Option.bind_some]
    rw [if_pos (by simpa using hk), wrap_ok (n := base + (k : Int)) (by omega) (by omega), wrap_ok (n := base + (k : Int) + 1) (by omega) (by omega), wrap_ok (n := (k : Int) + 1) (by omega) (by omega), show base + (k : Int) + 1 = base + (0 + 1 + (k : Int)) by omega]
    cases decide (rs[k].Seq = base + (0 + 1 + (k : Int))) <;> rfl
  have key : ∀ (n k : Nat), k + n = rs.length → bindC (loopO body (k : Int)) f = bif ((List.range n).all fun i => match rs[k + i]? with | some r => decide (r.Seq = base + (0 + 1 + ((k + i : Nat) : Int))) | none => true) then f () else some false := by
    intro n
    induction n with
    | zero =>
      intro k hk
      have : k = rs.length := by omega
      subst this
      rw [loopO_eq, hbody]
      simp [bindC]
    | succ n ih =>
      intro k hk
      have hk' : k < rs.length := by omega
      rw [loopO_eq, hp k hk', List.range_succ_eq_map, List.all_cons, List.all_map]
      simp only [Nat.add_zero, List.getElem?_eq_getElem hk']
      cases decide (rs[k].Seq = base + (0 + 1 + (k : Int))) with
      | false => rfl
      | true =>
        simp only [if_true, Bool.true_and]
        rw [show (k : Int) + 1 = ((k + 1 : Nat) : Int) by omega, ih (k + 1) (by omega)]
        congr 2
        funext i
        simp only [Function.comp_apply]
        rw [show k + i.succ = k + 1 + i by omega]
  have := key rs.length 0 (by omega)
  simp only [Nat.zero_add] at this
  exact this
theorem repS_ok (key : List UInt8) : ∀ (rs : List LogRow) (e : Eng), engV e = true → (repS key e rs).2 = true → engV (repS key e rs).1 = true
  | [], e, h, _ => h
  | r :: rs, e, h, h2 => by
    simp only [repS] at h2 ⊢
    cases hc : (openB key r.Boot r.Seq r.Text).2 && (putR e (openB key r.Boot r.Seq r.Text).1).2 with
    | false => rw [hc] at h2; cases h2
    | true =>
      rw [hc] at h2
      exact repS_ok key rs _ (putR_ok h _) h2
structure smallT (t : STen) : Prop where
  mem : t.Eng.Mem.length ≤ 1048576
  tables : t.Eng.Tables.length ≤ 1048576
  total : totalV t.Eng.Tables ≤ 1048576
  snaps : t.Eng.Snaps.length ≤ 1048576
structure smallS (s : Store) : Prop where
  each : ∀ t ∈ s.Tens, smallT t
  rows : s.Rows.length ≤ 1048576
  text : ∀ r ∈ s.Rows, r.Text.length ≤ 1048576
  tens : s.Tens.length ≤ 1048576
  slots : s.Keys.Slots.length ≤ 1048576
  shares : s.Shares.List.length ≤ 1048576
  hist : s.Hist.length ≤ 1048576
theorem impl_Store_tenOk_eq (s : Store) (t : STen) (hs : smallS s) (ht : smallT t) : impl_Store_tenOk s t = some (tenV s t) := by
  unfold impl_Store_tenOk tenV
  simp only [isNumber_eq, impl_EngOk_eq t.Eng ht.mem ht.tables ht.total ht.snaps, impl_Store_rowsOf_eq s t.Id hs.rows, Option.bind_some]
  cases c1 : decide (0 ≤ t.Epoch ∧ t.Epoch ≤ 1000000) with
  | false => rfl
  | true =>
  cases c2 : decide (0 ≤ t.Base ∧ t.Base ≤ 1000000) with
  | false => rfl
  | true =>
  have hbase := of_decide_eq_true c2
  have e1 : decide (((t.Eng.Snaps.length : Nat) : Int) > (2 : Int)) = !decide (t.Eng.Snaps.length ≤ 2) := by
    by_cases c : t.Eng.Snaps.length ≤ 2
    · rw [decide_eq_true c, decide_eq_false (by omega)]; rfl
    · rw [decide_eq_false c, decide_eq_true (by omega)]; rfl
  have e2 : decide (((t.Eng.Tables.length : Nat) : Int) > (1 : Int)) = !decide (t.Eng.Tables.length ≤ 1) := by
    by_cases c : t.Eng.Tables.length ≤ 1
    · rw [decide_eq_true c, decide_eq_false (by omega)]; rfl
    · rw [decide_eq_false c, decide_eq_true (by omega)]; rfl
  rw [e1, e2]
  cases decide (t.Eng.Snaps.length ≤ 2) with
  | false => rfl
  | true =>
  cases decide (t.Eng.Tables.length ≤ 1) with
  | false => rfl
  | true =>
  cases hv : engV t.Eng with
  | false => rfl
  | true =>
  have hrl : (rowsV s t.Id).length ≤ 1048576 := Nat.le_trans (List.length_filter_le _ _) hs.rows
  have e3 : decide ((((rowsV s t.Id).length : Nat) : Int) > (6 : Int)) = !decide ((rowsV s t.Id).length ≤ 6) := by
    by_cases c : (rowsV s t.Id).length ≤ 6
    · rw [decide_eq_true c, decide_eq_false (by omega)]; rfl
    · rw [decide_eq_false c, decide_eq_true (by omega)]; rfl
  simp only [Bool.not_true, Bool.false_eq_true, if_false, Option.bind_some, Bool.and_self, Bool.true_and]
  rw [e3, wrap_ok (n := t.Base + (((rowsV s t.Id).length : Nat) : Int)) (by omega) (by omega)]
  cases decide ((rowsV s t.Id).length ≤ 6) with
  | false => rfl
  | true =>
  cases decide (t.Base + (((rowsV s t.Id).length : Nat) : Int) = t.Eng.Seq) with
  | false => rfl
  | true =>
  simp only [Bool.not_true, Bool.false_eq_true, if_false, Option.bind_some, Bool.and_self, Bool.true_and]
  rw [seqs_loop (rowsV s t.Id) t.Base hbase hrl rfl]
  cases seqsV t.Base (rowsV s t.Id) with
  | false => rfl
  | true =>
  simp only [cond_true, Bool.true_and]
  have h0 := impl_EngOk_eq (rep0 t) (by simp [rep0]) (by simpa [rep0] using ht.tables) (by simpa [rep0] using ht.total) (by simp [rep0])
  unfold rep0 at h0
  rw [h0]
  simp only [Option.bind_some]
  cases hv0 : engV { Mem := [], Tables := t.Eng.Tables, Seq := t.Base, Snaps := [] } with
  | false => simp [rep0, hv0]
  | true =>
  rw [impl_Store_replayed_eq s t (rowsV s t.Id) hrl (fun r hr => hs.text r (List.mem_filter.1 hr).1) hs.slots hv hv0]
  simp only [Option.bind_some, Bool.not_true, Bool.false_eq_true, if_false]
  have h1 : engV (rep0 t) = true := hv0
  rw [h1]
  cases hr : (repS (keyOfV s.Keys t.Id) (rep0 t) (rowsV s t.Id)).2 with
  | false => rfl
  | true =>
    have := smallE_of (repS_ok _ _ _ h1 hr)
    rw [if_pos rfl, equalEnts_eq _ _ (by have := this.1; omega)]
    simp
noncomputable def mineV (s : Store) (t : STen) : Bool :=
  decide (t.Eng.Tables.length ≤ 1) && ((decide ((rowsV s t.Id).length ≤ 6) && decide (t.Base + ((rowsV s t.Id).length : Int) = t.Eng.Seq)) && (seqsV t.Base (rowsV s t.Id) && (engV (rep0 t) && ((repS (keyOfV s.Keys t.Id) (rep0 t) (rowsV s t.Id)).2 && decide ((repS (keyOfV s.Keys t.Id) (rep0 t) (rowsV s t.Id)).1.Mem = t.Eng.Mem)))))
theorem repS_first (key : List UInt8) (rs : List LogRow) (e : Eng) (h : (repS key e rs).2 = true) (hne : rs ≠ []) : engV e = true := by
  cases rs with
  | nil => exact absurd rfl hne
  | cons r rs =>
    simp only [repS] at h
    cases hc : (openB key r.Boot r.Seq r.Text).2 && (putR e (openB key r.Boot r.Seq r.Text).1).2 with
    | false => rw [hc] at h; cases h
    | true =>
      rw [Bool.and_eq_true] at hc
      exact (putR_two hc.2).1
theorem cmp_loop {X : Type} (a b : List Ent) (x : X) (hl : a.length = b.length) (h : a.length ≤ 1048576) {body : Int × X → Option (Ctl (Int × X) (Ctl Unit Bool))}
    (hb : body = fun (S34 : Int × X) => if (decide (S34.1 < ((a.length : Nat) : Int))) = true then ((idx a S34.1).bind fun E39 =>
  (idx b S34.1).bind fun E41 =>
  if (!(decide (E39.Key = E41.Key) && (decide (E39.Seq = E41.Seq) && (decide (E39.Del = E41.Del) && (decide (E39.Val = E41.Val) && true))))) = true then (some (.done (.done false)))
  else (some (.go (IntKind.i64.wrap (S34.1 + (1 : Int)), S34.2))))
  else (some (.done (.go ())))) (f : Unit → Option Bool) : bindC (loopO body (0, x)) f = bif decide (a = b) then f () else some false := by
  have key : ∀ (n k : Nat), k + n = a.length → bindC (loopO body ((k : Int), x)) f = bif decide (a.drop k = b.drop k) then f () else some false := by
    intro n
    induction n with
    | zero =>
      intro k hk
      have : k = a.length := by omega
      subst this
      rw [loopO_eq, hb, List.drop_length, hl, List.drop_length]
      simp [bindC]
    | succ n ih =>
      intro k hk
      have hk' : k < a.length := by omega
      have hkb : k < b.length := by omega
      have hE : (decide (a[k].Key = b[k].Key) && (decide (a[k].Seq = b[k].Seq) && (decide (a[k].Del = b[k].Del) && (decide (a[k].Val = b[k].Val) && true)))) = decide (a[k] = b[k]) := by
        generalize a[k] = y
        generalize b[k] = z
        obtain ⟨y1, y2, y3, y4⟩ := y
        obtain ⟨z1, z2, z3, z4⟩ := z
        simp only [Ent.mk.injEq, Bool.and_true, Bool.decide_and]
      have hstep : body ((k : Int), x) = some (if (decide (a[k] = b[k])) = true then .go (((k + 1 : Nat) : Int), x) else .done (.done false)) := by
        rw [hb]
        simp only [idx_nat a k hk', idx_nat b k hkb, Option.bind_some, hE]
        rw [if_pos (by simpa using hk'), wrap_ok (n := (k : Int) + 1) (by omega) (by omega)]
        cases decide (a[k] = b[k]) <;> rfl
      rw [loopO_eq, hstep, List.drop_eq_getElem_cons hk', List.drop_eq_getElem_cons hkb]
      by_cases c : a[k] = b[k]
      · rw [decide_eq_true c, if_pos rfl, c]
        simp only [List.cons.injEq, true_and]
        exact ih (k + 1) (by omega)
      · rw [decide_eq_false c, decide_eq_false fun h => c (List.cons.inj h).1]
        rfl
  have := key a.length 0 (by omega)
  simpa using this
theorem spec_l22Mine_eq (s : Store) (t : STen) (hs : smallS s) (ht : smallT t) (hv : engV t.Eng = true) (hbase : 0 ≤ t.Base ∧ t.Base ≤ 1000000) : spec_l22Mine s t = some (mineV s t) := by
  unfold spec_l22Mine
  obtain ⟨g1, g2, g3, g4⟩ := smallE_of hv
  have hsm : smallE (rep0 t) := ⟨by simp [rep0], g2, g3, by simp [rep0]⟩
  have hl := mine_loop s t (keyOfV s.Keys t.Id) hs.rows hs.text hbase rfl s.Rows.length 0 0 (rep0 t) (by omega) hsm (by omega)
  rw [List.drop_zero, chkS_eq] at hl
  rw [spec_KeyOf_eq s.Keys t.Id hs.slots, Option.bind_some]
  refine Eq.trans (congrArg (fun o => bindC o _) hl) ?_
  have hseq : ((List.range (s.Rows.filter fun r => decide (r.Tenant = t.Id)).length).all fun i => match (s.Rows.filter fun r => decide (r.Tenant = t.Id))[i]? with | some r => decide (r.Seq = t.Base + (0 + 1 + (i : Int))) | none => true) = seqsV t.Base (rowsV s t.Id) := rfl
  have hrow : (s.Rows.filter fun r => decide (r.Tenant = t.Id)) = rowsV s t.Id := rfl
  rw [hseq, hrow]
  unfold mineV
  cases hr : (repS (keyOfV s.Keys t.Id) (rep0 t) (rowsV s t.Id)).2 with
  | false => simp [bindC]
  | true =>
  cases hq : seqsV t.Base (rowsV s t.Id) with
  | false => simp [bindC]
  | true =>
  simp only [Bool.and_self, cond_true, bindC_go]
  have hrl : (rowsV s t.Id).length ≤ 1048576 := Nat.le_trans (List.length_filter_le _ _) hs.rows
  by_cases cl : (repS (keyOfV s.Keys t.Id) (rep0 t) (rowsV s t.Id)).1.Mem.length = t.Eng.Mem.length
  · rw [decide_eq_true (by omega : (((repS (keyOfV s.Keys t.Id) (rep0 t) (rowsV s t.Id)).1.Mem.length : Nat) : Int) = ((t.Eng.Mem.length : Nat) : Int))]
    simp only [Bool.not_true, Bool.false_eq_true, if_false, Option.bind_some]
    by_cases c1 : t.Eng.Tables.length ≤ 1
    · rw [decide_eq_false (by omega : ¬ ((t.Eng.Tables.length : Nat) : Int) > 1), decide_eq_true c1]
      simp only [Bool.false_eq_true, if_false, Bool.true_and]
      rw [cmp_loop _ _ _ cl (by have := ht.mem; omega) rfl]
      by_cases cm : (repS (keyOfV s.Keys t.Id) (rep0 t) (rowsV s t.Id)).1.Mem = t.Eng.Mem
      · rw [decide_eq_true cm]
        simp only [cond_true]
        by_cases c6 : (rowsV s t.Id).length ≤ 6
        · rw [decide_eq_true (by omega : (0 : Int) + (((rowsV s t.Id).length : Nat) : Int) ≤ 6), decide_eq_true c6, if_pos rfl, wrap_ok (by omega) (by omega), Int.zero_add]
          by_cases cs : t.Base + (((rowsV s t.Id).length : Nat) : Int) = t.Eng.Seq
          · have h0 : engV (rep0 t) = true := by
              cases hrw : rowsV s t.Id with
              | cons r rs => exact repS_first _ _ _ hr (by rw [hrw]; simp)
              | nil =>
                rw [hrw] at cm cs
                have e1 : t.Eng.Mem = [] := cm.symm
                have e2 : t.Base = t.Eng.Seq := by simpa using cs
                have := engV_snaps hv (l := []) (by simp) rfl
                have e3 : rep0 t = { t.Eng with Snaps := [] } := by unfold rep0; rw [e2, ← e1]
                rw [e3]; exact this
            rw [decide_eq_true cs, h0]
            rfl
          · rw [decide_eq_false cs]
            simp
        · rw [decide_eq_false (by omega : ¬ (0 : Int) + (((rowsV s t.Id).length : Nat) : Int) ≤ 6), decide_eq_false c6]
          simp
      · rw [decide_eq_false cm]
        simp
    · rw [decide_eq_true (by omega : ((t.Eng.Tables.length : Nat) : Int) > 1), decide_eq_false c1]
      simp
  · rw [decide_eq_false (by omega : ¬ (((repS (keyOfV s.Keys t.Id) (rep0 t) (rowsV s t.Id)).1.Mem.length : Nat) : Int) = ((t.Eng.Mem.length : Nat) : Int)), decide_eq_false (fun h => cl (congrArg List.length h) : ¬ (repS (keyOfV s.Keys t.Id) (rep0 t) (rowsV s t.Id)).1.Mem = t.Eng.Mem)]
    simp
/-- the i-th tenant and what lies beside it -/
noncomputable def slotP (s : Store) (i : Nat) : Bool := match s.Tens[i]?, s.Keys.Slots[i]?, s.Shares.List[i]? with
  | some t, some k, some h => decide (t.Id = k.Tenant) && (decide (t.Id = h.Tenant) && tenV s t)
  | _, _, _ => false
theorem slotP_at (s : Store) (i : Nat) (h1 : i < s.Tens.length) (h2 : i < s.Keys.Slots.length) (h3 : i < s.Shares.List.length) : slotP s i = (decide (s.Tens[i].Id = s.Keys.Slots[i].Tenant) && (decide (s.Tens[i].Id = s.Shares.List[i].Tenant) && tenV s s.Tens[i])) := by
  unfold slotP
  rw [List.getElem?_eq_getElem h1, List.getElem?_eq_getElem h2, List.getElem?_eq_getElem h3]
noncomputable def bodyS (s : Store) : Bool := (List.range s.Tens.length).all (slotP s) && s.Rows.all fun r => decide (0 ≤ fstV (fun t : STen => decide (t.Id = r.Tenant)) s.Tens)
theorem tenV_mine (s : Store) (t : STen) : tenV s t = ((decide (0 ≤ t.Epoch ∧ t.Epoch ≤ 1000000) && decide (0 ≤ t.Base ∧ t.Base ≤ 1000000)) && (engV t.Eng && (decide (t.Eng.Snaps.length ≤ 2) && mineV s t))) := by
  unfold tenV mineV
  cases decide (0 ≤ t.Epoch ∧ t.Epoch ≤ 1000000) <;> cases decide (0 ≤ t.Base ∧ t.Base ≤ 1000000) <;> cases engV t.Eng <;> cases decide (t.Eng.Snaps.length ≤ 2) <;> cases decide (t.Eng.Tables.length ≤ 1) <;> rfl
noncomputable def storeV (s : Store) : Bool :=
  (decide (s.Secret.length = 32) && (keysV s.Keys && (sharesV s.Shares && (decide (0 ≤ s.Boot ∧ s.Boot ≤ 1000) && (decide (s.Hist.length ≤ 120) && (decide (s.Tens.length = s.Keys.Slots.length) && decide (s.Tens.length = s.Shares.List.length))))))) && bodyS s
theorem rows_loop (s : Store) (hs : smallS s) {body : Int → Option (Ctl Int (Ctl Unit Bool))} (g : Int → Option Int) (hg : ∀ id, g id = some (fstV (fun t : STen => decide (t.Id = id)) s.Tens))
    (hb : body = fun (S45 : Int) => if (decide (S45 < ((s.Rows.length : Nat) : Int))) = true then ((idx s.Rows S45).bind fun E50 =>
  (g E50.Tenant).bind fun R53 =>
  if (decide (R53 < (0 : Int))) = true then (some (.done (.done false)))
  else (some (.go (IntKind.i64.wrap (S45 + (1 : Int))))))
  else (some (.done (.go ())))) :
    bindC (loopO body 0) (fun (_ : Unit) => some true) = some (s.Rows.all fun r => decide (0 ≤ fstV (fun t : STen => decide (t.Id = r.Tenant)) s.Tens)) := by
  have hr := hs.rows
  rw [passes (ρ := Unit) s.Rows (fun r => decide (0 ≤ fstV (fun t : STen => decide (t.Id = r.Tenant)) s.Tens)) body (fun k hk => ?_) (by rw [hb]; simp)]
  · cases s.Rows.all fun r => decide (0 ≤ fstV (fun t : STen => decide (t.Id = r.Tenant)) s.Tens) <;> rfl
  · rw [hb]
    simp only [idx_nat s.Rows k hk, Option.bind_some, hg]
    rw [if_pos (by simpa using hk), wrap_ok (n := (k : Int) + 1) (by omega) (by omega)]
    by_cases c : 0 ≤ fstV (fun t : STen => decide (t.Id = s.Rows[k].Tenant)) s.Tens
    · rw [decide_eq_true c, decide_eq_false (by omega)]; rfl
    · rw [decide_eq_false c, decide_eq_true (by omega)]; rfl
theorem lenI (a b : Nat) : decide (((a : Nat) : Int) = ((b : Nat) : Int)) = decide (a = b) := decide_eq_decide.2 (by omega)
theorem histI (a : Nat) : decide (((a : Nat) : Int) > (120 : Int)) = !decide (a ≤ 120) := by
  by_cases c : a ≤ 120
  · rw [decide_eq_true c, decide_eq_false (by omega)]; rfl
  · rw [decide_eq_false c, decide_eq_true (by omega)]; rfl
theorem snapI (a : Nat) : decide (((a : Nat) : Int) > (2 : Int)) = !decide (a ≤ 2) := by
  by_cases c : a ≤ 2
  · rw [decide_eq_true c, decide_eq_false (by omega)]; rfl
  · rw [decide_eq_false c, decide_eq_true (by omega)]; rfl
theorem impl_StoreOk_eq (s : Store) (hs : smallS s) : impl_StoreOk s = some (storeV s) := by
  unfold impl_StoreOk storeV
  have hsh := hs.shares
  simp only [KeyOk_impl, KeyOk_eq s.Keys hs.slots, impl_SharesOk_spec s.Shares hs.shares, spec_SharesOk_eq s.Shares hs.shares, inRange_eq, len32, lenI, histI, Option.bind_some]
  cases decide (s.Secret.length = 32) with
  | false => rfl
  | true =>
  cases keysV s.Keys with
  | false => rfl
  | true =>
  cases sharesV s.Shares with
  | false => rfl
  | true =>
  cases decide (0 ≤ s.Boot ∧ s.Boot ≤ 1000) with
  | false => rfl
  | true =>
  cases decide (s.Hist.length ≤ 120) with
  | false => rfl
  | true =>
  cases c1 : decide (s.Tens.length = s.Keys.Slots.length) with
  | false => rfl
  | true =>
  cases c2 : decide (s.Tens.length = s.Shares.List.length) with
  | false => rfl
  | true =>
  have l1 := of_decide_eq_true c1
  have l2 := of_decide_eq_true c2
  have ht := hs.tens
  simp only [Bool.not_true, Bool.false_eq_true, if_false, Option.bind_some, Bool.true_and]
  rw [all_loop (slotP s) s.Tens.length (fun k hk => ?_) (by simp)]
  · unfold bodyS
    cases (List.range s.Tens.length).all (slotP s) with
    | false => rfl
    | true =>
      simp only [if_true, bindC_go, Bool.true_and]
      exact rows_loop s hs (impl_Store_at s) (fun id => impl_Store_at_eq s id hs.tens) rfl
  · have h2 : k < s.Keys.Slots.length := by omega
    have h3 : k < s.Shares.List.length := by omega
    rw [slotP_at s k hk h2 h3]
    simp only [idx_nat s.Tens k hk, idx_nat s.Keys.Slots k h2, idx_nat s.Shares.List k h3, Option.bind_some, impl_Store_tenOk_eq s _ hs (hs.each _ (List.getElem_mem hk))]
    rw [if_pos (by simpa using hk), wrap_ok (n := (k : Int) + 1) (by omega) (by omega), decide_eq_decide.2 (eq_comm (a := s.Keys.Slots[k].Tenant)), decide_eq_decide.2 (eq_comm (a := s.Shares.List[k].Tenant))]
    cases decide (s.Tens[k].Id = s.Keys.Slots[k].Tenant) <;> cases decide (s.Tens[k].Id = s.Shares.List[k].Tenant) <;> cases tenV s s.Tens[k] <;> rfl
theorem spec_StoreOk_eq (s : Store) (hs : smallS s) : spec_StoreOk s = some (storeV s) := by
  unfold spec_StoreOk storeV
  have hsh := hs.shares
  simp only [KeyOk_eq s.Keys hs.slots, spec_SharesOk_eq s.Shares hs.shares, l1In_eq, len32, lenI, histI, Option.bind_some]
  cases decide (s.Secret.length = 32) with
  | false => rfl
  | true =>
  cases keysV s.Keys with
  | false => rfl
  | true =>
  cases sharesV s.Shares with
  | false => rfl
  | true =>
  cases c1 : decide (s.Tens.length = s.Keys.Slots.length) with
  | false => simp
  | true =>
  cases c2 : decide (s.Tens.length = s.Shares.List.length) with
  | false => simp
  | true =>
  cases decide (0 ≤ s.Boot ∧ s.Boot ≤ 1000) with
  | false => rfl
  | true =>
  cases decide (s.Hist.length ≤ 120) with
  | false => rfl
  | true =>
  have l1 := of_decide_eq_true c1
  have l2 := of_decide_eq_true c2
  have ht := hs.tens
  simp only [Bool.not_true, Bool.false_eq_true, if_false, Option.bind_some, Bool.true_and]
  rw [all_loop (slotP s) s.Tens.length (fun k hk => ?_) (by simp)]
  · unfold bodyS
    cases (List.range s.Tens.length).all (slotP s) with
    | false => rfl
    | true =>
      simp only [if_true, bindC_go, Bool.true_and]
      exact rows_loop s hs (spec_l22At s.Tens) (fun id => spec_l22At_eq s.Tens id hs.tens) rfl
  · have h2 : k < s.Keys.Slots.length := by omega
    have h3 : k < s.Shares.List.length := by omega
    have hT := hs.each _ (List.getElem_mem hk)
    rw [slotP_at s k hk h2 h3, tenV_mine]
    simp only [idx_nat s.Tens k hk, idx_nat s.Keys.Slots k h2, idx_nat s.Shares.List k h3, Option.bind_some, spec_EngOk_eq _ hT.mem hT.tables hT.total hT.snaps, snapI]
    rw [if_pos (by simpa using hk), wrap_ok (n := (k : Int) + 1) (by omega) (by omega)]
    cases decide (s.Tens[k].Id = s.Keys.Slots[k].Tenant) with
    | false => rfl
    | true =>
    cases decide (s.Tens[k].Id = s.Shares.List[k].Tenant) with
    | false => rfl
    | true =>
    cases decide (0 ≤ s.Tens[k].Epoch ∧ s.Tens[k].Epoch ≤ 1000000) with
    | false => rfl
    | true =>
    cases cb : decide (0 ≤ s.Tens[k].Base ∧ s.Tens[k].Base ≤ 1000000) with
    | false => rfl
    | true =>
    cases cv : engV s.Tens[k].Eng with
    | false => rfl
    | true =>
    rw [spec_l22Mine_eq s _ hs hT cv (of_decide_eq_true cb)]
    cases decide (s.Tens[k].Eng.Snaps.length ≤ 2) with
    | false => rfl
    | true => cases mineV s s.Tens[k] <;> rfl
theorem wS_each {α : Type} {w : α → Nat} {l : List α} {n : Nat} (h : wS w l ≤ n) : ∀ x ∈ l, w x ≤ n := by
  intro x hx
  have h' : l.length + (l.map w).sum ≤ n := h
  have := sum_mem w hx
  omega
theorem store_small (s : Store) (h : wgt_Store s ≤ 1048576) : smallS s := by
  have h0 : s.Secret.length + (wgt_KeyDev s.Keys + (wgt_Shares s.Shares + (wS wgt_STen s.Tens + (wS wgt_LogRow s.Rows + (wS wgt_LogRow s.Hist + 0))))) ≤ 1048576 := h
  refine ⟨fun t ht => ?_, wS_len (w := wgt_LogRow) (by omega), fun r hr => ?_, wS_len (w := wgt_STen) (by omega), ?_, ?_, wS_len (w := wgt_LogRow) (by omega)⟩
  · have h1 := wS_each (w := wgt_STen) (n := 1048576) (by omega) t ht
    have h2 : wgt_Eng t.Eng + 0 ≤ 1048576 := h1
    obtain ⟨a, b, c, d⟩ := eng_lens t.Eng (by omega)
    exact ⟨a, b, c, d⟩
  · have h1 := wS_each (w := wgt_LogRow) (n := 1048576) (by omega) r hr
    have h2 : r.Text.length + 0 ≤ 1048576 := h1
    omega
  · have h1 : wgt_KeyDev s.Keys ≤ 1048576 := by omega
    unfold wgt_KeyDev at h1
    exact wS_len (w := wgt_KeySlot) (by omega)
  · have h1 : wgt_Shares s.Shares ≤ 1048576 := by omega
    unfold wgt_Shares at h1
    omega
theorem FnExactStoreOk_pure (a : Store) (h : Dec.ok a) : laws_FnExactStoreOk a = some true := by
  unfold laws_FnExactStoreOk
  rw [sz_Store a 1048576 (by omega) (by omega) h]
  simp only [Option.bind_some]
  by_cases hl : szV 1048576 (wgt_Store a) < 0
  · rw [if_pos (by simpa using hl)]
  · have hn := szV_nonneg hl
    have hw : wgt_Store a ≤ 1048576 := by omega
    have hs := store_small a hw
    rw [if_neg (by simpa using hl), to_Store a hw]
    simp only [Option.bind_some, spec_StoreOk_eq a hs, impl_StoreOk_eq a hs, eq_Store a a (bnd_of_Store a hw)]
    simp
theorem FnExactStoreOk_proved : Rows.FnExactStoreOkSaid := FnExactStoreOk_over fun a h => FnExactStoreOk_pure a h

end Go.Proofs.YtkheimgjallpkaaGreat
