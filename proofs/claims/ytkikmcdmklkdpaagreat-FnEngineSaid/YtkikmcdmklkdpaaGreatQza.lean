/-
  The plain laws: what the pure functions come to, and the statements. Conditions: none.
-/
import Derived.Test.YtkikmcdmklkdpaaGreatPm
import Derived.Test.YtkikmcdmklkdpaaGreatQ4
set_option linter.unusedVariables false
set_option linter.unusedSimpArgs false
namespace Go.Proofs.YtkikmcdmklkdpaaGreat
open Go Sl
theorem inRange_eq (n a b : Int) : impl_inRange n a b = some (decide (a ≤ n ∧ n ≤ b)) := by
  unfold impl_inRange
  by_cases h : n ≥ a <;> simp [h]
theorem l1In_eq (n a b : Int) : spec_l1In n a b = some (decide (a ≤ n ∧ n ≤ b)) := by
  unfold spec_l1In
  by_cases h : n ≥ a <;> simp [h]
/-! ### SpaceOk -/
theorem idx_some' {α : Type} {l : List α} {i : Int} (h0 : 0 ≤ i) (h1 : i < l.length) : idx l i = some (l[i.toNat]'(by omega)) := by
  unfold idx; rw [if_pos h0, List.getElem?_eq_getElem]
theorem sLt_compl : ∀ a b : List UInt8, (sLt b a || decide (b = a)) = !sLt a b
  | [], [] => rfl
  | [], b :: y => by simp [sLt, Op.bytesLess]
  | a :: x, [] => by simp [sLt, Op.bytesLess]
  | a :: x, b :: y => by
    have ih := sLt_compl x y
    simp only [sLt] at ih
    simp only [sLt, Op.bytesLess]
    by_cases h1 : a < b
    · have h2 : ¬ b < a := fun h => absurd (UInt8.lt_trans h1 h) (UInt8.lt_irrefl _)
      have h3 : ¬ b = a := fun h => by subst h; exact UInt8.lt_irrefl _ h1
      simp [h1, h2, h3]
    · by_cases h2 : b < a
      · have h3 : ¬ a = b := fun h => by subst h; exact UInt8.lt_irrefl _ h2
        simp [h1, h2, h3]
      · have h3 : a = b := by
          rw [UInt8.lt_iff_toNat_lt] at h1 h2
          apply UInt8.toNat_inj.1
          omega
        subst h3
        simp only [h1, decide_false, Bool.false_or, beq_self_eq_true, Bool.true_and, List.cons.injEq, true_and]
        exact ih
theorem all_loop {body : Int → Option (Ctl Int (Ctl Unit Bool))} (pass : Nat → Bool) (n : Nat) (h : ∀ k, k < n → body (k : Int) = some (if pass k = true then .go ((k : Int) + 1) else .done (.done false))) (hn : body (n : Int) = some (.done (.go ()))) :
    loopO body 0 = some (if (List.range n).all pass = true then .go () else .done false) := by
  have key : ∀ d k, k + d = n → loopO body (k : Int) = some (if ((List.range n).drop k).all pass = true then .go () else .done false) := by
    intro d
    induction d with
    | zero =>
      intro k hk
      obtain rfl : k = n := by omega
      rw [loopO_eq, hn, List.drop_of_length_le (by simp)]
      rfl
    | succ d ih =>
      intro k hk
      have hd : (List.range n).drop k = k :: (List.range n).drop (k + 1) := by rw [List.drop_eq_getElem_cons (by simp; omega)]; simp
      rw [loopO_eq, h k (by omega), hd, List.all_cons]
      cases hp : pass k with
      | true =>
        have := ih (k + 1) (by omega)
        rw [show ((k + 1 : Nat) : Int) = (k : Int) + 1 by omega] at this
        simpa using this
      | false => simp
  have := key n 0 (by omega)
  simpa using this
theorem cmpI_eq (x y : Int) : cmp_Compare_26527 x y = some (if x < y then -1 else if x > y then 1 else 0) := by
  unfold cmp_Compare_26527 cmp_isNaN_26527
  by_cases h1 : x < y <;> by_cases h2 : x > y <;> simp [h1, h2]
theorem cmpS_eq (x y : List UInt8) : cmp_Compare_83645 x y = some (if sLt x y = true then -1 else if (!(sLt x y || decide (x = y))) = true then 1 else 0) := by
  unfold cmp_Compare_83645 cmp_isNaN_83645
  simp only [decide_true, Bool.not_true, Option.bind_some, Bool.false_eq_true, if_false]
  split
  · rfl
  · split <;> rfl
theorem sLt_trans : ∀ {a b c : List UInt8}, sLt a b = true → sLt b c = true → sLt a c = true
  | [], [], _, h, _ => by simp [sLt, Op.bytesLess] at h
  | [], _ :: _, [], _, h => by simp [sLt, Op.bytesLess] at h
  | [], _ :: _, _ :: _, _, _ => rfl
  | _ :: _, [], _, h, _ => by simp [sLt, Op.bytesLess] at h
  | _ :: _, _ :: _, [], _, h => by simp [sLt, Op.bytesLess] at h
  | x :: a, y :: b, z :: c, h1, h2 => by
    simp only [sLt, Op.bytesLess, Bool.or_eq_true, decide_eq_true_eq, Bool.and_eq_true, beq_iff_eq] at h1 h2 ⊢
    rcases h1 with h1 | ⟨rfl, h1⟩
    · rcases h2 with h2 | ⟨rfl, _⟩
      · exact .inl (UInt8.lt_trans h1 h2)
      · exact .inl h1
    · rcases h2 with h2 | ⟨rfl, h2⟩
      · exact .inl h2
      · exact .inr ⟨rfl, sLt_trans h1 h2⟩
theorem sLt_irrefl (a : List UInt8) : sLt a a = false := by
  have := sLt_compl a a
  simpa using this
def entV (e : Ent) : Bool := decide (1 ≤ (e.Key.length : Int) ∧ (e.Key.length : Int) ≤ 10) && (decide (0 ≤ e.Seq ∧ e.Seq ≤ 1000000) && (decide ((e.Val.length : Int) ≤ 16) && (!e.Del || decide (e.Val = []))))
def entLt (a b : Ent) : Bool := sLt a.Key b.Key || (decide (a.Key = b.Key) && decide (a.Seq > b.Seq))
def entP (l : List Ent) (k : Nat) : Bool := match l[k]? with
  | some e => entV e && (match k with | 0 => true | j + 1 => match l[j]? with | some d => entLt d e | none => true)
  | none => true
theorem entP_at (l : List Ent) (k : Nat) (h : k < l.length) : entP l k = (entV l[k] && (if h0 : 0 < k then entLt (l[k - 1]'(by omega)) l[k] else true)) := by
  unfold entP
  rw [List.getElem?_eq_getElem h]
  cases k with
  | zero => rfl
  | succ j =>
    simp only [Nat.zero_lt_succ, dif_pos, Nat.add_sub_cancel]
    rw [List.getElem?_eq_getElem (by omega)]
def entsV (l : List Ent) : Bool := (List.range l.length).all (entP l)
theorem spec_l9Ent_eq (e : Ent) : spec_l9Ent e = some (entV e) := by
  unfold spec_l9Ent spec_l7Op entV
  simp only [l1In_eq, Option.bind_some]
  by_cases h1 : 1 ≤ (e.Key.length : Int) ∧ (e.Key.length : Int) ≤ 10 <;> by_cases h2 : 0 ≤ e.Seq ∧ e.Seq ≤ 1000000 <;> by_cases h3 : (e.Val.length : Int) ≤ 16 <;> cases h4 : e.Del <;>
    simp only [h1, h2, h3, and_self, decide_true, decide_false, if_true, if_false, Option.bind_some, Bool.true_and, Bool.false_and, Bool.not_true, Bool.not_false, Bool.false_eq_true, Bool.true_or, Bool.false_or, Bool.and_true, Bool.and_false] <;> cases decide (e.Val = []) <;> rfl
theorem entOk_eq (e : Ent) : impl_entOk e = some (entV e) := by
  unfold impl_entOk impl_isKey impl_isNumber impl_isVal entV
  simp only [inRange_eq, Option.bind_some]
  by_cases h1 : 1 ≤ (e.Key.length : Int) ∧ (e.Key.length : Int) ≤ 10 <;> by_cases h2 : 0 ≤ e.Seq ∧ e.Seq ≤ 1000000 <;> by_cases h3 : (e.Val.length : Int) ≤ 16 <;> cases h4 : e.Del <;>
    simp only [h1, h2, h3, and_self, decide_true, decide_false, if_true, if_false, Option.bind_some, Bool.true_and, Bool.false_and, Bool.not_true, Bool.not_false, Bool.false_eq_true, Bool.true_or, Bool.false_or, Bool.and_true, Bool.and_false, Bool.not_not] <;> cases decide (e.Val = []) <;> rfl
theorem spec_l9Ahead_eq (a b : Ent) : spec_l9Ahead a b = some (entLt a b) := by
  unfold spec_l9Ahead entLt
  cases sLt a.Key b.Key <;> by_cases h : a.Key = b.Key <;> simp [h]
theorem cmpOr_eq (x y : Int) : cmp_Or_26527 [x, y] = some (if x ≠ 0 then x else y) := by
  unfold cmp_Or_26527
  by_cases hx : x = 0
  · by_cases hy : y = 0
    · rw [loopO_count (fun k => (k : Int)) 2 (r := Ctl.go ()) ?h0]
      case h0 => rfl
      · simp [hx, hy]
      · intro k hk
        have : k = 0 ∨ k = 1 := by omega
        rcases this with rfl | rfl
        · simp [idx, hx]; rfl
        · simp [idx, hy]; rfl
      · rfl
    · rw [loopO_eq]
      simp only [idx, hx]
      simp
      rw [loopO_eq]
      have : IntKind.i64.wrap 1 = 1 := by decide
      simp [this, hy]
  · rw [loopO_eq]
    simp [idx, hx]
theorem compareEnts_eq (a b : Ent) : ∃ r, impl_compareEnts a b = some r ∧ decide (r ≥ 0) = !entLt a b := by
  unfold impl_compareEnts entLt
  rw [cmpS_eq, cmpI_eq]
  simp only [Option.bind_some, cmpOr_eq]
  refine ⟨_, rfl, ?_⟩
  by_cases c : sLt a.Key b.Key = true
  · simp [c]
  · have c' : sLt a.Key b.Key = false := by simpa using c
    rw [if_neg c, c']
    by_cases c2 : a.Key = b.Key
    · rw [decide_eq_true c2]
      by_cases c3 : b.Seq < a.Seq
      · simp [c3]
      · by_cases c4 : b.Seq > a.Seq <;> simp [c3, c4]
    · rw [decide_eq_false c2]
      rfl
theorem all_loop' {body : Int → Option (Ctl Int (Ctl Unit Bool))} (pass : Nat → Bool) (n : Nat) (h : ∀ k, k < n → body (k : Int) = some (if pass k = true then .go ((k : Int) + 1) else .done (.done false))) (hn : body (n : Int) = some (.done (.go ()))) :
    bindC (loopO body 0) (fun (_ : Unit) => some true) = some ((List.range n).all pass) := by
  rw [all_loop pass n h hn]
  cases (List.range n).all pass <;> rfl
theorem spec_l9Ents_eq (l : List Ent) (h : l.length ≤ 1048576) : spec_l9Ents l = some (entsV l) := by
  unfold spec_l9Ents entsV
  refine all_loop' (entP l) l.length ?_ (by simp)
  intro k hk
  simp only [idx_nat l k hk, Option.bind_some, spec_l9Ent_eq]
  rw [if_pos (by simpa using hk), wrap_ok (n := (k : Int) + 1) (by omega) (by omega), entP_at l k hk]
  cases hf : entV l[k] with
  | false => simp
  | true =>
    by_cases h0 : 0 < k
    · have hw : IntKind.i64.wrap ((k : Int) - 1) = ((k - 1 : Nat) : Int) := by rw [wrap_ok (by omega) (by omega)]; omega
      rw [dif_pos h0, if_neg (by simp), if_pos (by simp; omega)]
      simp only [hw, idx_nat l (k - 1) (by omega), Option.bind_some, spec_l9Ahead_eq]
      cases entLt (l[k - 1]'(by omega)) l[k] <;> simp
    · have hk0 : k = 0 := by omega
      subst hk0
      simp
theorem impl_inOrder_eq (l : List Ent) (h : l.length ≤ 1048576) : impl_inOrder l = some (entsV l) := by
  unfold impl_inOrder entsV
  refine all_loop' (entP l) l.length ?_ (by simp)
  intro k hk
  simp only [idx_nat l k hk, Option.bind_some, entOk_eq]
  rw [if_pos (by simpa using hk), wrap_ok (n := (k : Int) + 1) (by omega) (by omega), entP_at l k hk]
  cases hf : entV l[k] with
  | false => simp
  | true =>
    by_cases h0 : 0 < k
    · have hw : IntKind.i64.wrap ((k : Int) - 1) = ((k - 1 : Nat) : Int) := by rw [wrap_ok (by omega) (by omega)]; omega
      obtain ⟨c, hc, hc2⟩ := compareEnts_eq (l[k - 1]'(by omega)) l[k]
      rw [dif_pos h0, if_neg (by simp), if_pos (by simp; omega)]
      simp only [hw, idx_nat l (k - 1) (by omega), Option.bind_some, hc, hc2]
      cases entLt (l[k - 1]'(by omega)) l[k] <;> simp
    · have hk0 : k = 0 := by omega
      subst hk0
      simp
theorem ents_lt {l : List Ent} (hv : entsV l = true) : ∀ (j : Nat) (hj : j < l.length) (i : Nat) (hi : i < j), sLt (l[i]'(by omega)).Key l[j].Key = true ∨ ((l[i]'(by omega)).Key = l[j].Key ∧ (l[i]'(by omega)).Seq > l[j].Seq) := by
  intro j
  induction j with
  | zero => intro _ i hi; omega
  | succ j ih =>
    intro hj i hi
    have hp : entLt (l[j]'(by omega)) l[j + 1] = true := by
      unfold entsV at hv
      rw [List.all_eq_true] at hv
      have := hv (j + 1) (by simp; omega)
      rw [entP_at l (j + 1) hj, dif_pos (by omega), Bool.and_eq_true] at this
      exact this.2
    unfold entLt at hp
    simp only [Bool.or_eq_true, Bool.and_eq_true, decide_eq_true_eq] at hp
    by_cases e : i = j
    · subst e; exact hp
    · rcases ih (by omega) i (by omega) with h1 | ⟨h1, h2⟩
      · rcases hp with h3 | ⟨h3, _⟩
        · exact .inl (sLt_trans h1 h3)
        · rw [← h3]; exact .inl h1
      · rcases hp with h3 | ⟨h3, h4⟩
        · rw [h1]; exact .inl h3
        · exact .inr ⟨h1.trans h3, by omega⟩
def visE (l : List Ent) (seq : Int) (k : Nat) : Bool := match l[k]? with
  | some e => decide (e.Seq ≤ seq) && (l.take k).all fun d => !(decide (d.Key = e.Key) && decide (d.Seq ≤ seq))
  | none => false
theorem visE_at (l : List Ent) (seq : Int) (k : Nat) (h : k < l.length) : visE l seq k = (decide (l[k].Seq ≤ seq) && (l.take k).all fun d => !(decide (d.Key = l[k].Key) && decide (d.Seq ≤ seq))) := by
  unfold visE; rw [List.getElem?_eq_getElem h]
def visL (l : List Ent) (seq : Int) : Nat → List KV
  | 0 => []
  | k + 1 => visL l seq k ++ (match l[k]? with | some e => if visE l seq k = true ∧ e.Del = false then [{ Key := e.Key, Val := e.Val }] else [] | none => [])
theorem visL_succ (l : List Ent) (seq : Int) (k : Nat) (h : k < l.length) : visL l seq (k + 1) = visL l seq k ++ if visE l seq k = true ∧ l[k].Del = false then [{ Key := l[k].Key, Val := l[k].Val }] else [] := by
  show visL l seq k ++ (match l[k]? with | some e => _ | none => _) = _
  rw [List.getElem?_eq_getElem h]
theorem visL_len (l : List Ent) (seq : Int) : ∀ k, k ≤ l.length → (visL l seq k).length ≤ k := by
  intro k
  induction k with
  | zero => intro _; simp [visL]
  | succ k ih =>
    intro h
    have := ih (by omega)
    rw [visL_succ l seq k (by omega), List.length_append]
    split
    · simp only [List.length_cons, List.length_nil]; omega
    · simp only [List.length_nil]; omega
theorem spec_l9Get_eq (l : List Ent) (key : List UInt8) (seq : Int) (h : l.length ≤ 1048576) :
    spec_l9Get l key seq = some (match l.find? (fun d => decide (d.Key = key) && decide (d.Seq ≤ seq)) with | some d => (d, true) | none => ({ Key := [], Seq := 0, Del := false, Val := [] }, false)) := by
  unfold spec_l9Get
  rw [loopO_is (fun k s => s = (k : Int) ∧ l.find? (fun d => decide (d.Key = key) && decide (d.Seq ≤ seq)) = (l.drop k).find? (fun d => decide (d.Key = key) && decide (d.Seq ≤ seq))) l.length
    (match l.find? (fun d => decide (d.Key = key) && decide (d.Seq ≤ seq)) with | some d => Ctl.done (d, true) | none => Ctl.go ()) ?h0 ?h1 ?h2]
  · cases l.find? (fun d => decide (d.Key = key) && decide (d.Seq ≤ seq)) <;> rfl
  case h0 => exact ⟨rfl, rfl⟩
  · rintro k s hk ⟨rfl, he⟩
    rw [he, List.drop_eq_getElem_cons hk]
    simp only [idx_nat l k hk, Option.bind_some]
    rw [if_pos (by simpa using hk), wrap_ok (n := (k : Int) + 1) (by omega) (by omega)]
    by_cases h1 : l[k].Key = key
    · by_cases h2 : l[k].Seq ≤ seq
      · right
        rw [List.find?_cons_of_pos (by simp [h1, h2])]
        simp [h1, h2]
      · left
        refine ⟨(k : Int) + 1, by simp [h1, h2], by omega, ?_⟩
        rw [List.find?_cons_of_neg (by simp [h2])]
    · left
      refine ⟨(k : Int) + 1, by simp [h1], by omega, ?_⟩
      rw [List.find?_cons_of_neg (by simp [h1])]
  · rintro s ⟨rfl, he⟩
    rw [he, List.drop_length]
    simp
theorem visE_find {l : List Ent} {seq : Int} {k : Nat} (hk : k < l.length) (hv : visE l seq k = true) : l.find? (fun d => decide (d.Key = l[k].Key) && decide (d.Seq ≤ seq)) = some l[k] := by
  rw [visE_at l seq k hk, Bool.and_eq_true, List.all_eq_true] at hv
  have hs : l = l.take k ++ l[k] :: l.drop (k + 1) := by rw [← List.drop_eq_getElem_cons hk, List.take_append_drop]
  have hn : (l.take k).find? (fun d => decide (d.Key = l[k].Key) && decide (d.Seq ≤ seq)) = none := by
    rw [List.find?_eq_none]
    intro d hd
    intro hq
    have := hv.2 d hd
    rw [hq] at this
    cases this
  generalize hx : l[k] = x at *
  rw [hs, List.find?_append, hn, List.find?_cons_of_pos (by simpa using hv.1)]
  rfl
theorem visE_not {l : List Ent} {seq : Int} {k : Nat} (ho : entsV l = true) (hk : k < l.length) (hv : visE l seq k = false) :
    ∀ d, l.find? (fun d => decide (d.Key = l[k].Key) && decide (d.Seq ≤ seq)) = some d → ¬ d.Seq = l[k].Seq := by
  intro d hd he
  have hp := List.find?_some hd
  simp only [Bool.and_eq_true, decide_eq_true_eq] at hp
  rw [visE_at l seq k hk, decide_eq_true (by omega), Bool.true_and] at hv
  have hex : ∃ e ∈ l.take k, e.Key = l[k].Key ∧ e.Seq ≤ seq := by
    rw [← Bool.not_eq_true, List.all_eq_true] at hv
    simp only [Classical.not_forall] at hv
    obtain ⟨e, he, h2⟩ := hv
    exact ⟨e, he, by simpa using h2⟩
  obtain ⟨e, hem, hek⟩ := hex
  have hsome : ∃ f, (l.take k).find? (fun d => decide (d.Key = l[k].Key) && decide (d.Seq ≤ seq)) = some f := by
    cases hf : (l.take k).find? (fun d => decide (d.Key = l[k].Key) && decide (d.Seq ≤ seq)) with
    | some f => exact ⟨f, rfl⟩
    | none =>
      rw [List.find?_eq_none] at hf
      exact absurd (by simp [hek.1, hek.2]) (hf e hem)
  obtain ⟨f, hf⟩ := hsome
  have hfd : f = d := by
    have hs : l = l.take k ++ l.drop k := (List.take_append_drop k l).symm
    generalize hx : l[k] = x at *
    rw [hs, List.find?_append, hf] at hd
    simpa using hd
  subst hfd
  obtain ⟨i, hi, rfl⟩ := List.getElem_of_mem (List.mem_of_find?_eq_some hf)
  have hi' : i < k := by simp at hi; omega
  simp only [List.getElem_take] at he hp
  rcases ents_lt ho k hk i hi' with h1 | ⟨_, h1⟩
  · rw [hp.1, sLt_irrefl] at h1; cases h1
  · omega
def lastS (l : List Ent) (seq : Int) : Nat → List UInt8 × Bool
  | 0 => ([], false)
  | k + 1 => match l[k]? with | some e => if visE l seq k = true then (e.Key, true) else lastS l seq k | none => lastS l seq k
theorem lastS_succ (l : List Ent) (seq : Int) (k : Nat) (h : k < l.length) : lastS l seq (k + 1) = if visE l seq k = true then (l[k].Key, true) else lastS l seq k := by
  show (match l[k]? with | some e => _ | none => _) = _
  rw [List.getElem?_eq_getElem h]
theorem lastS_spec (l : List Ent) (seq : Int) : ∀ k, k ≤ l.length → (lastS l seq k).2 = true ∧ (∃ i, ∃ h : i < l.length, i < k ∧ visE l seq i = true ∧ l[i].Key = (lastS l seq k).1 ∧ ∀ j, i < j → j < k → visE l seq j = false) ∨ (lastS l seq k).2 = false ∧ ∀ j, j < k → visE l seq j = false := by
  intro k
  induction k with
  | zero => intro _; exact .inr ⟨rfl, fun j hj => by omega⟩
  | succ k ih =>
    intro hk
    rw [lastS_succ l seq k (by omega)]
    cases hv : visE l seq k with
    | true => exact .inl ⟨rfl, k, by omega, by omega, hv, rfl, fun j h1 h2 => by omega⟩
    | false =>
      simp only [Bool.false_eq_true, if_false]
      have hx : ∀ j, j < k + 1 → (j < k → visE l seq j = false) → visE l seq j = false := by
        intro j hj hjk
        by_cases e : j = k
        · subst e; exact hv
        · exact hjk (by omega)
      rcases ih (by omega) with ⟨h1, i, hi, h2, h3, h4, h5⟩ | ⟨h1, h2⟩
      · exact .inl ⟨h1, i, hi, by omega, h3, h4, fun j h6 h7 => hx j h7 (h5 j h6)⟩
      · exact .inr ⟨h1, fun j hj => hx j hj (h2 j)⟩
theorem visE_first (l : List Ent) (seq : Int) : ∀ (n j : Nat) (hn : j ≤ n) (hj : j < l.length), l[j].Seq ≤ seq → ∃ i, ∃ h : i < l.length, i ≤ j ∧ visE l seq i = true ∧ l[i].Key = l[j].Key := by
  intro n
  induction n with
  | zero =>
    intro j hn hj hs
    obtain rfl : j = 0 := by omega
    exact ⟨0, hj, Nat.le_refl _, by rw [visE_at l seq 0 hj]; simp [hs], rfl⟩
  | succ n ih =>
    intro j hn hj hs
    cases hv : visE l seq j with
    | true => exact ⟨j, hj, Nat.le_refl _, hv, rfl⟩
    | false =>
      rw [visE_at l seq j hj, decide_eq_true hs, Bool.true_and, ← Bool.not_eq_true, List.all_eq_true] at hv
      simp only [Classical.not_forall] at hv
      obtain ⟨e, he, h2⟩ := hv
      obtain ⟨i, hi, rfl⟩ := List.getElem_of_mem he
      have hij : i < j := by simp at hi; omega
      simp only [List.getElem_take] at h2
      have h3 : (l[i]'(by omega)).Key = l[j].Key ∧ (l[i]'(by omega)).Seq ≤ seq := by simpa using h2
      obtain ⟨q, hq, h4, h5, h6⟩ := ih i (by omega) (by omega) h3.2
      exact ⟨q, hq, by omega, h5, h6.trans h3.1⟩
theorem skip_iff {l : List Ent} {seq : Int} {k : Nat} (ho : entsV l = true) (hk : k < l.length) (hs : l[k].Seq ≤ seq) : visE l seq k = !((lastS l seq k).2 && decide (l[k].Key = (lastS l seq k).1)) := by
  rw [visE_at l seq k hk, decide_eq_true hs, Bool.true_and]
  rcases lastS_spec l seq k (by omega) with ⟨h1, i, hi, h2, h3, h4, h5⟩ | ⟨h1, h2⟩
  · rw [h1, Bool.true_and]
    by_cases hkey : l[k].Key = (lastS l seq k).1
    · rw [decide_eq_true hkey]
      show _ = false
      rw [← Bool.not_eq_true, List.all_eq_true]
      intro hall
      have hm : l[i] ∈ l.take k := by
        have : (l.take k)[i]'(by simp; omega) = l[i] := by simp
        rw [← this]; exact List.getElem_mem _
      have := hall _ hm
      rw [visE_at l seq i hi, Bool.and_eq_true] at h3
      simp [h4, hkey] at this
      have h6 := of_decide_eq_true h3.1
      omega
    · rw [decide_eq_false hkey, Bool.not_false, List.all_eq_true]
      intro d hd
      obtain ⟨j, hj, rfl⟩ := List.getElem_of_mem hd
      have hjk : j < k := by simp at hj; omega
      simp only [List.getElem_take]
      cases hb : (decide ((l[j]'(by omega)).Key = l[k].Key) && decide ((l[j]'(by omega)).Seq ≤ seq)) with
      | false => rfl
      | true =>
        exfalso
        simp only [Bool.and_eq_true, decide_eq_true_eq] at hb
        obtain ⟨q, hq, h6, h7, h8⟩ := visE_first l seq j j (Nat.le_refl _) (by omega) hb.2
        have hqi : q ≤ i := by
          rcases Nat.lt_or_ge i q with h | h
          · have := h5 q h (by omega); rw [h7] at this; cases this
          · exact h
        have hqk : l[q].Key = l[k].Key := h8.trans hb.1
        refine hkey ?_
        rw [← h4]
        by_cases e : q = i
        · subst e; exact hqk.symm
        · rcases ents_lt ho i hi q (by omega) with h9 | ⟨h9, _⟩
          · rcases ents_lt ho k hk i h2 with h10 | ⟨h10, _⟩
            · have := sLt_trans h9 h10
              rw [hqk, sLt_irrefl] at this; cases this
            · exact h10.symm
          · exact hqk.symm.trans h9
  · rw [h1, Bool.false_and, Bool.not_false, List.all_eq_true]
    intro d hd
    obtain ⟨j, hj, rfl⟩ := List.getElem_of_mem hd
    have hjk : j < k := by simp at hj; omega
    simp only [List.getElem_take]
    cases hb : (decide ((l[j]'(by omega)).Key = l[k].Key) && decide ((l[j]'(by omega)).Seq ≤ seq)) with
    | false => rfl
    | true =>
      exfalso
      simp only [Bool.and_eq_true, decide_eq_true_eq] at hb
      obtain ⟨q, hq, h6, h7, h8⟩ := visE_first l seq j j (Nat.le_refl _) (by omega) hb.2
      have := h2 q (by omega)
      rw [h7] at this; cases this
theorem impl_visible_eq (l : List Ent) (seq : Int) (ho : entsV l = true) (h : l.length ≤ 1048576) : impl_visible l seq = some (visL l seq l.length) := by
  unfold impl_visible
  rw [loopO_count (fun k => ((lastS l seq k).1, (lastS l seq k).2, (k : Int), visL l seq k)) l.length (r := Ctl.go (visL l seq l.length)) ?h0]
  case h0 => rfl
  · rfl
  · intro k hk
    have hlen := visL_len l seq k (by omega)
    simp only [idx_nat l k hk, Option.bind_some, visL_succ l seq k hk, lastS_succ l seq k hk]
    rw [if_pos (by simpa using hk), wrap_ok (n := (k : Int) + 1) (by omega) (by omega)]
    by_cases hs : l[k].Seq ≤ seq
    · have hsk := skip_iff ho hk hs
      generalize lastS l seq k = ls at hsk ⊢
      obtain ⟨last, seen⟩ := ls
      simp only at hsk ⊢
      rw [decide_eq_false (by omega : ¬ l[k].Seq > seq)]
      simp only [Bool.false_eq_true, if_false]
      cases seen with
      | false =>
        rw [Bool.false_and, Bool.not_false] at hsk
        rw [hsk]
        cases hd : l[k].Del with
        | true => simp
        | false =>
          simp only [Bool.false_eq_true, if_false, if_true, Option.bind_some, Bool.not_false, and_self]
          rw [app_ok (by simp; omega) (by simp; omega)]
          simp
      | true =>
        rw [Bool.true_and] at hsk
        by_cases hkey : l[k].Key = last
        · rw [decide_eq_true hkey] at hsk
          rw [hsk, decide_eq_true hkey]
          simp
        · rw [decide_eq_false hkey] at hsk
          rw [hsk, decide_eq_false hkey]
          cases hd : l[k].Del with
          | true => simp
          | false =>
            simp only [Bool.false_eq_true, if_false, if_true, Option.bind_some, Bool.not_false, and_self]
            rw [app_ok (by simp; omega) (by simp; omega)]
            simp
    · have hv : visE l seq k = false := by rw [visE_at l seq k hk, decide_eq_false hs, Bool.false_and]
      rw [hv, decide_eq_true (by omega : l[k].Seq > seq)]
      simp
  · simp
def seenV (l : List Ent) (snaps : List Int) : List (List KV) := snaps.map (fun s => visL l s l.length) ++ [visL l 1000000 l.length]
def rangeV (l : List Ent) : Int × Int := l.foldl (fun s e => (goMin s.1 e.Seq, goMax s.2 e.Seq)) (1000001, -1)
theorem rangeV_take (l : List Ent) (k : Nat) (h : k < l.length) : rangeV (l.take (k + 1)) = (goMin (rangeV (l.take k)).1 l[k].Seq, goMax (rangeV (l.take k)).2 l[k].Seq) := by
  unfold rangeV
  rw [show l.take (k + 1) = l.take k ++ [l[k]] by rw [List.take_add_one, List.getElem?_eq_getElem h]; rfl, List.foldl_append]
  rfl
theorem impl_seqRange_eq (l : List Ent) (h : l.length ≤ 1048576) : impl_seqRange l = some (rangeV l) := by
  unfold impl_seqRange
  rw [loopO_count (fun k => ((rangeV (l.take k)).1, (rangeV (l.take k)).2, (k : Int))) l.length (r := Ctl.go (rangeV l)) ?h0]
  case h0 => rfl
  · rfl
  · intro k hk
    simp only [idx_nat l k hk, Option.bind_some, rangeV_take l k hk]
    rw [if_pos (by simpa using hk), wrap_ok (n := (k : Int) + 1) (by omega) (by omega)]
    rfl
  · simp
theorem spec_l20Bounds_eq (l : List Ent) (h : l.length ≤ 1048576) : spec_l20Bounds l = some (rangeV l) := by
  unfold spec_l20Bounds
  rw [loopO_count (fun k => ((rangeV (l.take k)).1, (rangeV (l.take k)).2, (k : Int))) l.length (r := Ctl.go (rangeV l)) ?h0]
  case h0 => rfl
  · rfl
  · intro k hk
    simp only [idx_nat l k hk, Option.bind_some, rangeV_take l k hk]
    rw [if_pos (by simpa using hk), wrap_ok (n := (k : Int) + 1) (by omega) (by omega)]
    unfold goMin goMax
    by_cases c1 : l[k].Seq < (rangeV (l.take k)).1 <;> by_cases c2 : l[k].Seq > (rangeV (l.take k)).2 <;> simp [c1, c2]
  · simp
def memV (l : List Ent) : Bool := decide (l.length ≤ 60) && entsV l
theorem spec_MemOk_eq (l : List Ent) (h : l.length ≤ 1048576) : spec_MemOk l = some (memV l) := by
  unfold spec_MemOk memV
  simp only [spec_l9Ents_eq l h, Option.bind_some]
  by_cases c : l.length ≤ 60
  · simp [c]; omega
  · simp [c]; omega
theorem impl_MemOk_eq (l : List Ent) (h : l.length ≤ 1048576) : impl_MemOk l = some (memV l) := by
  unfold impl_MemOk memV
  simp only [impl_inOrder_eq l h, Option.bind_some]
  by_cases c : l.length ≤ 60
  · simp [c]; omega
  · simp [c]; omega
def tabsV (seq : Int) : Int → List (List Ent) → Bool
  | _, [] => true
  | low, t :: r => (decide (t ≠ []) && (entsV t && (decide ((rangeV t).2 < low) && decide ((rangeV t).2 ≤ seq)))) && tabsV seq (rangeV t).1 r
def snapP (seq : Int) (l : List Int) (k : Nat) : Bool := match l[k]? with
  | some s => decide (0 ≤ s ∧ s ≤ seq) && (match k with | 0 => true | j + 1 => match l[j]? with | some d => decide (d < s) | none => true)
  | none => true
theorem snapP_at (seq : Int) (l : List Int) (k : Nat) (h : k < l.length) : snapP seq l k = (decide (0 ≤ l[k] ∧ l[k] ≤ seq) && (if h0 : 0 < k then decide (l[k - 1]'(by omega) < l[k]) else true)) := by
  unfold snapP
  rw [List.getElem?_eq_getElem h]
  cases k with
  | zero => rfl
  | succ j =>
    simp only [Nat.zero_lt_succ, dif_pos, Nat.add_sub_cancel]
    rw [List.getElem?_eq_getElem (by omega)]
def snapsV (seq : Int) (l : List Int) : Bool := (List.range l.length).all (snapP seq l)
def totalV (l : List (List Ent)) : Nat := (l.map List.length).sum
def engV (e : Eng) : Bool := (decide (0 ≤ e.Seq ∧ e.Seq ≤ 1000000) && (decide (e.Snaps.length ≤ 4) && (decide (e.Tables.length ≤ 6) && (decide (totalV e.Tables + e.Mem.length ≤ 400) && (memV e.Mem && (decide ((rangeV e.Mem).2 ≤ e.Seq) && tabsV e.Seq (rangeV e.Mem).1 e.Tables)))))) && snapsV e.Seq e.Snaps
theorem total_take (l : List (List Ent)) (k : Nat) (h : k < l.length) : totalV (l.take (k + 1)) = totalV (l.take k) + l[k].length := by
  unfold totalV
  rw [show l.take (k + 1) = l.take k ++ [l[k]] by rw [List.take_add_one, List.getElem?_eq_getElem h]; rfl, List.map_append, List.sum_append]
  simp
theorem total_le (l : List (List Ent)) (k : Nat) : totalV (l.take k) ≤ totalV l := by
  unfold totalV
  conv => rhs; rw [← List.take_append_drop k l]
  rw [List.map_append, List.sum_append]
  omega
theorem impl_totalOf_eq (l : List (List Ent)) (h : l.length ≤ 1048576) (ht : totalV l ≤ 1048576) : impl_totalOf l = some (totalV l : Int) := by
  unfold impl_totalOf
  rw [loopO_count (fun k => ((totalV (l.take k) : Int), (k : Int))) l.length (r := Ctl.go (totalV l : Int)) ?h0]
  case h0 => rfl
  · rfl
  · intro k hk
    have h1 := total_take l k hk
    have h2 := total_le l (k + 1)
    simp only [idx_nat l k hk, Option.bind_some, h1]
    rw [if_pos (by simpa using hk), wrap_ok (n := (k : Int) + 1) (by omega) (by omega), wrap_ok (by omega) (by omega)]
    rfl
  · simp
theorem impl_tablesOk_eq (e : Eng) (h1 : e.Mem.length ≤ 1048576) (h2 : e.Tables.length ≤ 1048576) (h3 : totalV e.Tables ≤ 1048576) :
    impl_tablesOk e = some (decide (e.Tables.length ≤ 6) && (decide (totalV e.Tables + e.Mem.length ≤ 400) && (memV e.Mem && (decide ((rangeV e.Mem).2 ≤ e.Seq) && tabsV e.Seq (rangeV e.Mem).1 e.Tables)))) := by
  have hlen : ∀ t ∈ e.Tables, t.length ≤ 1048576 := fun t ht => Nat.le_trans (sum_mem List.length ht) h3
  unfold impl_tablesOk
  rw [impl_totalOf_eq _ h2 h3]
  simp only [impl_MemOk_eq _ h1, impl_seqRange_eq _ h1, Option.bind_some]
  by_cases c1 : e.Tables.length ≤ 6
  · rw [decide_eq_true c1, decide_eq_false (by omega : ¬ ((e.Tables.length : Nat) : Int) > 6), wrap_ok (by omega) (by omega)]
    by_cases c2 : totalV e.Tables + e.Mem.length ≤ 400
    · rw [decide_eq_true c2, decide_eq_false (by omega : ¬ ((totalV e.Tables : Int) + ((e.Mem.length : Nat) : Int) > 400))]
      cases c3 : memV e.Mem with
      | false => simp
      | true =>
        by_cases c4 : (rangeV e.Mem).2 ≤ e.Seq
        · rw [decide_eq_true c4, decide_eq_false (by omega : ¬ (rangeV e.Mem).2 > e.Seq)]
          simp only [Bool.false_eq_true, if_false, Option.bind_some, Bool.not_true, Bool.true_and]
          rw [loopO_is (fun k s => s.2 = (k : Int) ∧ tabsV e.Seq (rangeV e.Mem).1 e.Tables = tabsV e.Seq s.1 (e.Tables.drop k)) e.Tables.length (bif tabsV e.Seq (rangeV e.Mem).1 e.Tables then Ctl.go () else Ctl.done false) ?h0 ?h1 ?h2]
          case h0 => exact ⟨rfl, rfl⟩
          · cases tabsV e.Seq (rangeV e.Mem).1 e.Tables <;> rfl
          · rintro k ⟨low, i⟩ hk ⟨rfl, he⟩
            have hd : e.Tables.drop k = e.Tables[k] :: e.Tables.drop (k + 1) := List.drop_eq_getElem_cons hk
            have hkl := hlen _ (List.getElem_mem hk)
            rw [he, hd]
            simp only [tabsV, idx_nat e.Tables k hk, Option.bind_some, impl_seqRange_eq _ hkl, impl_inOrder_eq _ hkl]
            rw [if_pos (by simpa using hk), wrap_ok (n := (k : Int) + 1) (by omega) (by omega)]
            by_cases d1 : e.Tables[k] = []
            · right; simp [d1]
            · have d1' : ¬ ((e.Tables[k].length : Nat) : Int) = 0 := by have := List.length_pos_iff.2 d1; omega
              rw [decide_eq_false d1', decide_eq_true d1]
              cases d2 : entsV e.Tables[k] with
              | false => right; simp
              | true =>
                by_cases d3 : (rangeV e.Tables[k]).2 < low
                · by_cases d4 : (rangeV e.Tables[k]).2 ≤ e.Seq
                  · left
                    refine ⟨((rangeV e.Tables[k]).1, (k : Int) + 1), ?_, by simp, ?_⟩
                    · simp [show ¬ low ≤ (rangeV e.Tables[k]).2 by omega, show ¬ e.Seq < (rangeV e.Tables[k]).2 by omega]
                    · simp [d3, d4]
                  · right; simp [d4, show ¬ low ≤ (rangeV e.Tables[k]).2 by omega, show e.Seq < (rangeV e.Tables[k]).2 by omega]
                · right; simp [d3, show low ≤ (rangeV e.Tables[k]).2 by omega]
          · rintro ⟨low, i⟩ ⟨rfl, he⟩
            rw [he, List.drop_length]
            simp [tabsV]
        · rw [decide_eq_false c4, decide_eq_true (by omega : (rangeV e.Mem).2 > e.Seq)]
          simp
    · rw [decide_eq_false c2, decide_eq_true (by omega : (totalV e.Tables : Int) + ((e.Mem.length : Nat) : Int) > 400)]
      simp
  · rw [decide_eq_false c1, decide_eq_true (by omega : ((e.Tables.length : Nat) : Int) > 6)]
    rfl
theorem impl_EngOk_eq (e : Eng) (h1 : e.Mem.length ≤ 1048576) (h2 : e.Tables.length ≤ 1048576) (h3 : totalV e.Tables ≤ 1048576) (h4 : e.Snaps.length ≤ 1048576) : impl_EngOk e = some (engV e) := by
  unfold impl_EngOk impl_isNumber engV
  simp only [impl_tablesOk_eq e h1 h2 h3, inRange_eq, Option.bind_some]
  by_cases c1 : 0 ≤ e.Seq ∧ e.Seq ≤ 1000000
  · rw [decide_eq_true c1]
    by_cases c2 : e.Snaps.length ≤ 4
    · rw [decide_eq_true c2, decide_eq_false (by omega : ¬ ((e.Snaps.length : Nat) : Int) > 4)]
      simp only [Bool.not_true, Bool.false_eq_true, if_false, Option.bind_some, Bool.true_and]
      generalize (decide (e.Tables.length ≤ 6) && (decide (totalV e.Tables + e.Mem.length ≤ 400) && (memV e.Mem && (decide ((rangeV e.Mem).2 ≤ e.Seq) && tabsV e.Seq (rangeV e.Mem).1 e.Tables)))) = q
      cases q with
      | false => rfl
      | true =>
        simp only [Bool.not_true, Bool.false_eq_true, if_false, Bool.true_and]
        unfold snapsV
        refine all_loop' (snapP e.Seq e.Snaps) e.Snaps.length ?_ (by simp)
        intro k hk
        simp only [idx_nat e.Snaps k hk, Option.bind_some]
        rw [if_pos (by simpa using hk), wrap_ok (n := (k : Int) + 1) (by omega) (by omega), snapP_at e.Seq e.Snaps k hk]
        by_cases d1 : 0 ≤ e.Snaps[k] ∧ e.Snaps[k] ≤ e.Seq
        · rw [decide_eq_true d1]
          by_cases h0 : 0 < k
          · have hw : IntKind.i64.wrap ((k : Int) - 1) = ((k - 1 : Nat) : Int) := by rw [wrap_ok (by omega) (by omega)]; omega
            rw [dif_pos h0, if_neg (by simp), if_pos (by simp; omega)]
            simp only [hw, idx_nat e.Snaps (k - 1) (by omega), Option.bind_some]
            by_cases d2 : e.Snaps[k - 1]'(by omega) < e.Snaps[k]
            · simp [d2, show ¬ e.Snaps[k] ≤ e.Snaps[k - 1]'(by omega) by omega]
            · simp [d2, show e.Snaps[k] ≤ e.Snaps[k - 1]'(by omega) by omega]
          · obtain rfl : k = 0 := by omega
            simp
        · rw [decide_eq_false d1]
          simp
    · rw [decide_eq_false c2, decide_eq_true (by omega : ((e.Snaps.length : Nat) : Int) > 4)]
      simp
  · rw [decide_eq_false c1]
    simp
theorem spec_EngOk_eq (e : Eng) (h1 : e.Mem.length ≤ 1048576) (h2 : e.Tables.length ≤ 1048576) (h3 : totalV e.Tables ≤ 1048576) (h4 : e.Snaps.length ≤ 1048576) : spec_EngOk e = some (engV e) := by
  have hlen : ∀ t ∈ e.Tables, t.length ≤ 1048576 := fun t ht => Nat.le_trans (sum_mem List.length ht) h3
  unfold spec_EngOk engV
  simp only [spec_MemOk_eq _ h1, l1In_eq, spec_l20Bounds_eq _ h1, Option.bind_some]
  cases c3 : memV e.Mem with
  | false => simp
  | true =>
    by_cases c1 : e.Tables.length ≤ 6
    · rw [decide_eq_true c1, decide_eq_false (by omega : ¬ ((e.Tables.length : Nat) : Int) > 6)]
      by_cases c5 : 0 ≤ e.Seq ∧ e.Seq ≤ 1000000
      · rw [decide_eq_true c5]
        by_cases c6 : e.Snaps.length ≤ 4
        · rw [decide_eq_true c6, decide_eq_false (by omega : ¬ ((e.Snaps.length : Nat) : Int) > 4)]
          by_cases c4 : (rangeV e.Mem).2 ≤ e.Seq
          · rw [decide_eq_true c4, decide_eq_false (by omega : ¬ (rangeV e.Mem).2 > e.Seq)]
            simp only [Bool.not_true, Bool.false_eq_true, if_false, Option.bind_some, Bool.true_and]
            have hL := loopO_is (ρ := Ctl Int Bool) (s0 := ((rangeV e.Mem).1, ((e.Mem.length : Nat) : Int), (0 : Int))) (body := fun (S18 : Int × Int × Int) => if (decide (S18.2.2 < ((e.Tables.length : Nat) : Int))) = true then ((idx e.Tables S18.2.2).bind fun E23 =>
                (spec_l20Bounds E23).bind fun R26 =>
                (if (decide (((E23.length : Nat) : Int) = (0 : Int))) = true then (some true)
                else ((spec_l9Ents E23).bind fun R32 =>
                if (!R32) = true then (some true)
                else (if (decide (R26.2 ≥ S18.1)) = true then (some true)
                else (some (decide (R26.2 > e.Seq)))))).bind (fun (T29 : Bool) =>
                if T29 = true then (some (.done (.done false)))
                else (some (.go (R26.1, IntKind.i64.wrap (S18.2.1 + ((E23.length : Nat) : Int)), IntKind.i64.wrap (S18.2.2 + (1 : Int)))))))
                else (some (.done (.go S18.2.1))))
              (fun k s => s.2.2 = (k : Int) ∧ s.2.1 = (totalV (e.Tables.take k) : Int) + e.Mem.length ∧ tabsV e.Seq (rangeV e.Mem).1 e.Tables = tabsV e.Seq s.1 (e.Tables.drop k)) e.Tables.length
              (bif tabsV e.Seq (rangeV e.Mem).1 e.Tables then Ctl.go ((totalV e.Tables : Int) + e.Mem.length) else Ctl.done false) ⟨rfl, by simp [totalV], rfl⟩ (by
                rintro k ⟨low, tot, i⟩ hk ⟨h5, h6, he⟩
                simp only at h5 h6 he
                subst h5 h6
                have hd : e.Tables.drop k = e.Tables[k] :: e.Tables.drop (k + 1) := List.drop_eq_getElem_cons hk
                have hkl := hlen _ (List.getElem_mem hk)
                have t1 := total_take e.Tables k hk
                have t2 := total_le e.Tables (k + 1)
                rw [he, hd]
                simp only [tabsV, idx_nat e.Tables k hk, Option.bind_some, spec_l20Bounds_eq _ hkl, spec_l9Ents_eq _ hkl]
                rw [if_pos (by simpa using hk), wrap_ok (n := (k : Int) + 1) (by omega) (by omega), wrap_ok (n := (totalV (e.Tables.take k) : Int) + e.Mem.length + ((e.Tables[k].length : Nat) : Int)) (by omega) (by omega)]
                by_cases d1 : e.Tables[k] = []
                · right; simp [d1]
                · have d1' : ¬ ((e.Tables[k].length : Nat) : Int) = 0 := by have := List.length_pos_iff.2 d1; omega
                  rw [decide_eq_false d1', decide_eq_true d1]
                  cases d2 : entsV e.Tables[k] with
                  | false => right; simp
                  | true =>
                    by_cases d3 : (rangeV e.Tables[k]).2 < low
                    · by_cases d4 : (rangeV e.Tables[k]).2 ≤ e.Seq
                      · left
                        refine ⟨((rangeV e.Tables[k]).1, (totalV (e.Tables.take k) : Int) + e.Mem.length + ((e.Tables[k].length : Nat) : Int), (k : Int) + 1), ?_, by simp, by simp only [t1]; omega, ?_⟩
                        · simp [show ¬ low ≤ (rangeV e.Tables[k]).2 by omega, show ¬ e.Seq < (rangeV e.Tables[k]).2 by omega]
                        · simp [d3, d4]
                      · right; simp [d4, show ¬ low ≤ (rangeV e.Tables[k]).2 by omega, show e.Seq < (rangeV e.Tables[k]).2 by omega]
                    · right; simp [d3, show low ≤ (rangeV e.Tables[k]).2 by omega]) (by
                rintro ⟨low, tot, i⟩ ⟨h5, h6, he⟩
                simp only at h5 h6 he
                subst h5 h6
                rw [he, List.drop_length]
                simp [tabsV])
            rw [hL]
            cases tabsV e.Seq (rangeV e.Mem).1 e.Tables with
            | false => simp
            | true =>
              simp only [if_true, bindC_go, Bool.and_true]
              rw [all_loop (snapP e.Seq e.Snaps) e.Snaps.length ?hp ?hq]
              case hq => simp
              case hp =>
                intro k hk
                simp only [idx_nat e.Snaps k hk, Option.bind_some]
                rw [if_pos (by simpa using hk), wrap_ok (n := (k : Int) + 1) (by omega) (by omega), snapP_at e.Seq e.Snaps k hk]
                by_cases d1 : 0 ≤ e.Snaps[k] ∧ e.Snaps[k] ≤ e.Seq
                · rw [decide_eq_true d1]
                  by_cases h0 : 0 < k
                  · have hw : IntKind.i64.wrap ((k : Int) - 1) = ((k - 1 : Nat) : Int) := by rw [wrap_ok (by omega) (by omega)]; omega
                    rw [dif_pos h0, if_neg (by simp), if_pos (by simp; omega)]
                    simp only [hw, idx_nat e.Snaps (k - 1) (by omega), Option.bind_some]
                    by_cases d2 : e.Snaps[k - 1]'(by omega) < e.Snaps[k]
                    · simp [d2, show ¬ e.Snaps[k] ≤ e.Snaps[k - 1]'(by omega) by omega]
                    · simp [d2, show e.Snaps[k] ≤ e.Snaps[k - 1]'(by omega) by omega]
                  · obtain rfl : k = 0 := by omega
                    simp
                · rw [decide_eq_false d1]
                  simp
              have hS' : (List.range e.Snaps.length).all (snapP e.Seq e.Snaps) = snapsV e.Seq e.Snaps := rfl
              rw [hS']
              have hc : decide ((totalV e.Tables : Int) + ((e.Mem.length : Nat) : Int) ≤ 400) = decide (totalV e.Tables + e.Mem.length ≤ 400) := decide_eq_decide.2 (by omega)
              cases snapsV e.Seq e.Snaps with
              | false => simp
              | true => simp only [if_true, cond_true, bindC_go, hc, Bool.true_and, Bool.and_true]
          · rw [decide_eq_false c4, decide_eq_true (by omega : (rangeV e.Mem).2 > e.Seq)]
            simp
        · rw [decide_eq_false c6, decide_eq_true (by omega : ((e.Snaps.length : Nat) : Int) > 4)]
          simp
      · rw [decide_eq_false c5]
        simp
    · rw [decide_eq_false c1, decide_eq_true (by omega : ((e.Tables.length : Nat) : Int) > 6)]
      simp
theorem cloneEnts_eq (s : List Ent) (h : s.length ≤ 1048576) : slices_Clone_94167 s = some s := by
  unfold slices_Clone_94167
  rw [app_ok (by simp; omega) (by simp; omega)]
  rfl
theorem cloneInts_eq (s : List Int) (h : s.length ≤ 1048576) : slices_Clone_88240 s = some s := by
  unfold slices_Clone_88240
  rw [app_ok (by simp; omega) (by simp; omega)]
  rfl
theorem impl_copyEng_eq (e : Eng) (h1 : e.Mem.length ≤ 1048576) (h2 : e.Tables.length ≤ 1048576) (h3 : ∀ t ∈ e.Tables, t.length ≤ 1048576) (h4 : e.Snaps.length ≤ 1048576) : impl_copyEng e = some e := by
  unfold impl_copyEng
  simp only [cloneEnts_eq _ h1, cloneInts_eq _ h4, Option.bind_some]
  rw [loopO_count (fun k => ((k : Int), e.Tables.take k)) e.Tables.length (r := Ctl.go e.Tables) ?h0]
  case h0 => rfl
  · rfl
  · intro k hk
    have ht : e.Tables.take (k + 1) = e.Tables.take k ++ [e.Tables[k]] := by rw [List.take_add_one, List.getElem?_eq_getElem hk]; rfl
    simp only [idx_nat e.Tables k hk, Option.bind_some, cloneEnts_eq _ (h3 _ (List.getElem_mem hk))]
    rw [if_pos (by simpa using hk), wrap_ok (n := (k : Int) + 1) (by omega) (by omega), app_ok (by simp; omega) (by simp; omega), ht]
    rfl
  · simp
theorem spec_l20Copy_eq (e : Eng) (h1 : e.Mem.length ≤ 1048576) (h2 : e.Tables.length ≤ 1048576) (h3 : ∀ t ∈ e.Tables, t.length ≤ 1048576) (h4 : e.Snaps.length ≤ 1048576) : spec_l20Copy e = some e := by
  have happ : ∀ t : List Ent, t.length ≤ 1048576 → app 48 ([] : List Ent) t = some t := fun t ht => by rw [app_ok (by simp; omega) (by simp; omega)]; rfl
  unfold spec_l20Copy
  rw [happ _ h1, app_ok (l := ([] : List Int)) (k := e.Snaps) (by simp; omega) (by simp; omega)]
  simp only [Option.bind_some]
  rw [loopO_count (fun k => ((k : Int), e.Tables.take k)) e.Tables.length (r := Ctl.go e.Tables) ?h0]
  case h0 => rfl
  · rfl
  · intro k hk
    have ht : e.Tables.take (k + 1) = e.Tables.take k ++ [e.Tables[k]] := by rw [List.take_add_one, List.getElem?_eq_getElem hk]; rfl
    simp only [idx_nat e.Tables k hk, Option.bind_some, happ _ (h3 _ (List.getElem_mem hk))]
    rw [if_pos (by simpa using hk), wrap_ok (n := (k : Int) + 1) (by omega) (by omega), app_ok (by simp; omega) (by simp; omega), ht]
    rfl
  · simp
theorem contains_eq (s : List Int) (v : Int) (h : s.length ≤ 1048576) : slices_Contains_88240 s v = some (decide (v ∈ s)) := by
  unfold slices_Contains_88240 slices_Index_88240
  have key : ∃ c, loopO (ρ := Ctl Unit Int) (fun (S1 : Int) => if (decide (S1 < ((s.length : Nat) : Int))) = true then ((idx s S1).bind fun E6 =>
      if (decide (v = E6)) = true then (some (.done (.done S1))) else (some (.go (IntKind.i64.wrap (S1 + (1 : Int)))))) else (some (.done (.go ())))) (0 : Int) = some c ∧
      ((∃ j : Int, c = .done j ∧ 0 ≤ j ∧ v ∈ s) ∨ (c = .go () ∧ v ∉ s)) := by
    refine loopO_total (fun i t => t = (i : Int) ∧ ∀ q (h : q < s.length), q < i → s[q] ≠ v) s.length _ ⟨rfl, fun q h h2 => by omega⟩ ?_ ?_
    · rintro i t hi ⟨rfl, h2⟩
      simp only [idx_nat s i hi, Option.bind_some]
      rw [if_pos (by simpa using hi), wrap_ok (by omega) (by omega)]
      by_cases c : v = s[i]
      · right
        exact ⟨_, by rw [if_pos (by simpa using c)], .inl ⟨_, rfl, by omega, by rw [c]; exact List.getElem_mem hi⟩⟩
      · left
        refine ⟨(i : Int) + 1, by rw [if_neg (by simpa using c)], by omega, fun q h h3 => ?_⟩
        by_cases e : q = i
        · subst e; exact fun e2 => c e2.symm
        · exact h2 q h (by omega)
    · rintro t ⟨rfl, h2⟩
      refine ⟨.go (), by simp, .inr ⟨rfl, fun hm => ?_⟩⟩
      obtain ⟨q, hq, rfl⟩ := List.getElem_of_mem hm
      exact h2 q hq hq rfl
  obtain ⟨c, hc, h2⟩ := key
  rw [hc]
  rcases h2 with ⟨j, rfl, h3, h4⟩ | ⟨rfl, h4⟩
  · simp [h3, h4]
  · simp [h4]
theorem snaps_at {seq : Int} {l : List Int} (hv : snapsV seq l = true) (k : Nat) (hk : k < l.length) : (0 ≤ l[k] ∧ l[k] ≤ seq) ∧ (0 < k → l[k - 1]'(by omega) < l[k]) := by
  unfold snapsV at hv
  rw [List.all_eq_true] at hv
  have := hv k (by simpa using hk)
  rw [snapP_at seq l k hk, Bool.and_eq_true] at this
  refine ⟨of_decide_eq_true this.1, fun h0 => ?_⟩
  have h2 := this.2
  rw [dif_pos h0] at h2
  exact of_decide_eq_true h2
theorem snaps_last {seq : Int} {l : List Int} (hv : snapsV seq l = true) (h0 : 0 < l.length) : (seq ∈ l) ↔ l[l.length - 1]'(by omega) = seq := by
  constructor
  · intro hm
    obtain ⟨i, hi, he⟩ := List.getElem_of_mem hm
    by_cases e : i = l.length - 1
    · subst e; exact he
    · have h1 := (snaps_at hv (i + 1) (by omega)).2 (by omega)
      have h2 := (snaps_at hv (i + 1) (by omega)).1
      simp only [Nat.add_sub_cancel] at h1
      omega
  · intro h
    rw [← h]
    exact List.getElem_mem _
def snapR (e : Eng) : Eng × Int × Bool :=
  if engV e = true then (if e.Seq ∈ e.Snaps then (e, e.Seq, true) else if e.Snaps.length = 4 then (e, 0, false) else ({ e with Snaps := e.Snaps ++ [e.Seq] }, e.Seq, true))
  else ({ Mem := [], Tables := [], Seq := 0, Snaps := [] }, 0, false)
theorem engV_parts {e : Eng} (h : engV e = true) : e.Snaps.length ≤ 4 ∧ snapsV e.Seq e.Snaps = true := by
  unfold engV at h
  simp only [Bool.and_eq_true, decide_eq_true_eq] at h
  exact ⟨h.1.2.1, h.2⟩
theorem impl_EngSnap_eq (e : Eng) (h1 : e.Mem.length ≤ 1048576) (h2 : e.Tables.length ≤ 1048576) (h3 : totalV e.Tables ≤ 1048576) (h4 : e.Snaps.length ≤ 1048576) : impl_EngSnap e = some (snapR e) := by
  have hlen : ∀ t ∈ e.Tables, t.length ≤ 1048576 := fun t ht => Nat.le_trans (sum_mem List.length ht) h3
  unfold impl_EngSnap snapR
  rw [impl_EngOk_eq e h1 h2 h3 h4]
  cases hv : engV e with
  | false => rfl
  | true =>
    simp only [Option.bind_some, Bool.not_true, Bool.false_eq_true, if_false, if_true, impl_copyEng_eq e h1 h2 hlen h4, contains_eq _ _ h4]
    by_cases c1 : e.Seq ∈ e.Snaps
    · simp [c1]
    · by_cases c2 : e.Snaps.length = 4
      · simp [c1, c2]
      · have : ¬ ((e.Snaps.length : Nat) : Int) = 4 := by omega
        simp only [c1, c2, this, decide_false, Bool.false_eq_true, if_false]
        rw [app_ok (by simp; omega) (by simp; omega)]
        rfl
theorem spec_EngSnap_eq (e : Eng) (h1 : e.Mem.length ≤ 1048576) (h2 : e.Tables.length ≤ 1048576) (h3 : totalV e.Tables ≤ 1048576) (h4 : e.Snaps.length ≤ 1048576) : spec_EngSnap e = some (snapR e) := by
  have hlen : ∀ t ∈ e.Tables, t.length ≤ 1048576 := fun t ht => Nat.le_trans (sum_mem List.length ht) h3
  unfold spec_EngSnap snapR
  rw [spec_EngOk_eq e h1 h2 h3 h4]
  cases hv : engV e with
  | false => rfl
  | true =>
    obtain ⟨p1, p2⟩ := engV_parts hv
    simp only [Option.bind_some, Bool.not_true, Bool.false_eq_true, if_false, if_true, spec_l20Copy_eq e h1 h2 hlen h4]
    have hx : ((if (decide (((e.Snaps.length : Nat) : Int) > (0 : Int))) = true then ((idx e.Snaps (IntKind.i64.wrap (((e.Snaps.length : Nat) : Int) - (1 : Int)))).bind fun E17 => some (decide (E17 = e.Seq))) else (some false))) = some (decide (e.Seq ∈ e.Snaps)) := by
      by_cases h0 : 0 < e.Snaps.length
      · have hw : IntKind.i64.wrap (((e.Snaps.length : Nat) : Int) - 1) = ((e.Snaps.length - 1 : Nat) : Int) := by rw [wrap_ok (by omega) (by omega)]; omega
        rw [if_pos (by simp; omega), hw, idx_nat _ _ (by omega)]
        simp only [Option.bind_some]
        rw [decide_eq_decide.2 (snaps_last p2 h0)]
      · have : e.Snaps = [] := List.eq_nil_of_length_eq_zero (by omega)
        simp [this]
    rw [hx]
    simp only [Option.bind_some]
    by_cases c1 : e.Seq ∈ e.Snaps
    · simp [c1]
    · by_cases c2 : e.Snaps.length = 4
      · simp [c1, c2]
      · have : ¬ ((e.Snaps.length : Nat) : Int) ≥ 4 := by omega
        simp only [c1, c2, this, decide_false, Bool.false_eq_true, if_false]
        rw [app_ok (by simp; omega) (by simp; omega)]
        rfl
theorem piece_nat {α : Type} (l : List α) (a b : Nat) (lo hi : Int) (h1 : lo = (a : Int)) (h2 : hi = (b : Int)) (h3 : a ≤ b) (h4 : b ≤ l.length) : piece l lo hi = some ((l.drop a).take (b - a)) := by
  subst h1 h2
  unfold piece
  rw [if_pos ⟨by omega, by omega, by omega⟩, Int.toNat_natCast, Int.toNat_natCast]
theorem filter_one {α : Type} (l : List α) (p : α → Bool) (j : Nat) (hj : j < l.length) (h1 : p l[j] = false) (h2 : ∀ i (h : i < l.length), i ≠ j → p l[i] = true) : l.filter p = l.take j ++ l.drop (j + 1) := by
  have hs : l = l.take j ++ l[j] :: l.drop (j + 1) := by rw [← List.drop_eq_getElem_cons hj, List.take_append_drop]
  have ha : (l.take j).filter p = l.take j := by
    rw [List.filter_eq_self]
    intro x hx
    obtain ⟨i, hi, rfl⟩ := List.getElem_of_mem hx
    have hi' : i < j := by simp at hi; omega
    simp only [List.getElem_take]
    exact h2 i (by omega) (by omega)
  have hb : (l.drop (j + 1)).filter p = l.drop (j + 1) := by
    rw [List.filter_eq_self]
    intro x hx
    obtain ⟨i, hi, rfl⟩ := List.getElem_of_mem hx
    have hi' : j + 1 + i < l.length := by simp at hi; omega
    simp only [List.getElem_drop]
    exact h2 (j + 1 + i) hi' (by omega)
  conv => lhs; rw [hs]
  rw [List.filter_append, List.filter_cons_of_neg (by simpa using h1), ha, hb]
theorem filter_take {α : Type} (p : α → Bool) (l : List α) (k : Nat) (h : k < l.length) : (l.take (k + 1)).filter p = (l.take k).filter p ++ if p l[k] = true then [l[k]] else [] := by
  rw [show l.take (k + 1) = l.take k ++ [l[k]] by rw [List.take_add_one, List.getElem?_eq_getElem h]; rfl, List.filter_append]
  congr 1
  by_cases c : p l[k] = true
  · rw [if_pos c, List.filter_cons_of_pos c]; rfl
  · rw [if_neg c, List.filter_cons_of_neg c]; rfl
theorem filter_len {α : Type} (p : α → Bool) (l : List α) (k : Nat) : ((l.take k).filter p).length ≤ k := Nat.le_trans (List.length_filter_le _ _) (by simp; omega)
theorem snaps_lt {seq : Int} {l : List Int} (hv : snapsV seq l = true) : ∀ (j : Nat) (hj : j < l.length) (i : Nat) (hi : i < j), l[i]'(by omega) < l[j] := by
  intro j
  induction j with
  | zero => intro _ i hi; omega
  | succ j ih =>
    intro hj i hi
    have h1 := (snaps_at hv (j + 1) hj).2 (by omega)
    simp only [Nat.add_sub_cancel] at h1
    by_cases e : i = j
    · subst e; exact h1
    · have := ih (by omega) i (by omega); omega
def dropS (l : List Int) (x : Int) : List Int := l.filter fun s => !decide (s = x)
theorem dropS_at {seq : Int} {l : List Int} (hv : snapsV seq l = true) (j : Nat) (hj : j < l.length) : dropS l l[j] = l.take j ++ l.drop (j + 1) := by
  unfold dropS
  refine filter_one l _ j hj (by simp) fun i hi hij => ?_
  have : ¬ l[i] = l[j] := by
    rcases Nat.lt_or_ge i j with h | h
    · have := snaps_lt hv j hj i h; omega
    · have := snaps_lt hv i hi j (by omega); omega
  simp [this]
def engDropR (e : Eng) (x : Int) : Eng × Bool := if engV e = true then (if x ∈ e.Snaps then ({ e with Snaps := dropS e.Snaps x }, true) else (e, false)) else ({ Mem := [], Tables := [], Seq := 0, Snaps := [] }, false)
theorem spec_EngDrop_eq (e : Eng) (x : Int) (h1 : e.Mem.length ≤ 1048576) (h2 : e.Tables.length ≤ 1048576) (h3 : totalV e.Tables ≤ 1048576) (h4 : e.Snaps.length ≤ 1048576) : spec_EngDrop e x = some (engDropR e x) := by
  have hlen : ∀ t ∈ e.Tables, t.length ≤ 1048576 := fun t ht => Nat.le_trans (sum_mem List.length ht) h3
  unfold spec_EngDrop engDropR
  rw [spec_EngOk_eq e h1 h2 h3 h4]
  cases hv : engV e with
  | false => rfl
  | true =>
    simp only [Option.bind_some, Bool.not_true, Bool.false_eq_true, if_false, if_true, spec_l20Copy_eq e h1 h2 hlen h4]
    rw [loopO_count (fun k => ((k : Int), (e.Snaps.take k).filter fun s => !decide (s = x))) e.Snaps.length (r := Ctl.go (dropS e.Snaps x)) ?h0]
    case h0 => rfl
    · simp only [bindC_go]
      by_cases hm : x ∈ e.Snaps
      · obtain ⟨j, hj, rfl⟩ := List.getElem_of_mem hm
        have hd := dropS_at (engV_parts hv).2 j hj
        have : ¬ (((dropS e.Snaps e.Snaps[j]).length : Nat) : Int) = ((e.Snaps.length : Nat) : Int) := by rw [hd]; simp; omega
        rw [if_neg (by simpa using this), if_pos hm]
      · have hd : dropS e.Snaps x = e.Snaps := by
          unfold dropS
          rw [List.filter_eq_self]
          intro s hs
          have : ¬ s = x := fun e2 => hm (e2 ▸ hs)
          simp [this]
        rw [hd, if_pos (by simp), if_neg hm]
    · intro k hk
      have hl := filter_len (fun s : Int => !decide (s = x)) e.Snaps k
      simp only [idx_nat e.Snaps k hk, Option.bind_some, filter_take _ e.Snaps k hk]
      rw [if_pos (by simpa using hk), wrap_ok (n := (k : Int) + 1) (by omega) (by omega)]
      by_cases c : e.Snaps[k] = x
      · simp [c]
      · simp only [c, decide_false, Bool.not_false, if_true]
        rw [app_ok (by simp only [List.length_cons, List.length_nil]; omega) (by simp only [List.length_cons, List.length_nil]; omega)]
        rfl
    · simp [dropS]
theorem sLt_asymm {a b : List UInt8} (h : sLt a b = true) : sLt b a = false := by
  have := sLt_compl a b
  rw [h] at this
  simp only [Bool.not_true, Bool.or_eq_false_iff] at this
  exact this.1
theorem sLt_same {a b : List UInt8} (h1 : sLt a b = false) (h2 : sLt b a = false) : a = b := by
  have := sLt_compl a b
  rw [h1, h2] at this
  have h : decide (b = a) = true := by simpa using this
  exact (of_decide_eq_true h).symm
theorem any_loop {α : Type} {body : Int → Option (Ctl Int (Ctl Unit Bool))} (l : List α) (p : α → Bool) (h : ∀ k (hk : k < l.length), body (k : Int) = some (if p l[k] = true then .done (.done true) else .go ((k : Int) + 1))) (hn : body (l.length : Int) = some (.done (.go ()))) :
    bindC (loopO body 0) (fun (_ : Unit) => some false) = some (l.any p) := by
  rw [loopO_is (fun k s => s = (k : Int) ∧ l.any p = (l.drop k).any p) l.length (if l.any p = true then Ctl.done true else Ctl.go ()) ?h0 ?h1 ?h2]
  · cases l.any p <;> rfl
  case h0 => exact ⟨rfl, rfl⟩
  · rintro k s hk ⟨rfl, he⟩
    rw [h k hk, he, List.drop_eq_getElem_cons hk, List.any_cons]
    cases hp : p l[k] with
    | true => right; rfl
    | false =>
      left
      refine ⟨(k : Int) + 1, rfl, by omega, ?_⟩
      rw [Bool.false_or]
  · rintro s ⟨rfl, he⟩
    rw [he, List.drop_length, hn]
    rfl
def stayV (snaps : List Int) (l : List Ent) : Nat → Bool
  | 0 => true
  | j + 1 => match l[j]?, l[j + 1]? with
    | some d, some e => !decide (d.Key = e.Key) || snaps.any (fun s => decide (e.Seq ≤ s) && decide (s < d.Seq))
    | _, _ => false
theorem stayV_succ (snaps : List Int) (l : List Ent) (j : Nat) (h : j + 1 < l.length) : stayV snaps l (j + 1) = (!decide ((l[j]'(by omega)).Key = l[j + 1].Key) || snaps.any (fun s => decide (l[j + 1].Seq ≤ s) && decide (s < (l[j]'(by omega)).Seq))) := by
  show (match l[j]?, l[j + 1]? with | some d, some e => _ | _, _ => false) = _
  rw [List.getElem?_eq_getElem h, List.getElem?_eq_getElem (by omega : j < l.length)]
theorem isSeen_eq (l : List Ent) (snaps : List Int) (k : Nat) (hk : k < l.length) (h : l.length ≤ 1048576) (hs : snaps.length ≤ 1048576) : impl_isSeen l (k : Int) snaps = some (stayV snaps l k) := by
  unfold impl_isSeen
  cases k with
  | zero => rfl
  | succ j =>
    have hw : IntKind.i64.wrap (((j + 1 : Nat) : Int) - 1) = (j : Int) := by rw [wrap_ok (by omega) (by omega)]; omega
    rw [if_neg (by simp; omega), hw, idx_nat l j (by omega), idx_nat l (j + 1) hk, stayV_succ snaps l j hk]
    simp only [Option.bind_some]
    by_cases c : (l[j]'(by omega)).Key = l[j + 1].Key
    · rw [decide_eq_true c]
      simp only [Bool.not_true, Bool.false_eq_true, if_false, Bool.false_or]
      refine any_loop snaps _ ?_ (by simp)
      intro m hm
      simp only [idx_nat snaps m hm, Option.bind_some]
      rw [if_pos (by simpa using hm), wrap_ok (n := (m : Int) + 1) (by omega) (by omega)]
      by_cases c1 : l[j + 1].Seq ≤ snaps[m]
      · by_cases c2 : snaps[m] < (l[j]'(by omega)).Seq <;> simp [c1, c2]
      · simp [c1]
    · rw [decide_eq_false c]
      rfl
def keepT (snaps : List Int) (l : List Ent) (a : Nat) : Nat → List Ent
  | 0 => []
  | n + 1 => keepT snaps l a n ++ (if stayV snaps l (a + n) = true then l[a + n]?.toList else [])
theorem keepT_succ (snaps : List Int) (l : List Ent) (a n : Nat) (h : a + n < l.length) : keepT snaps l a (n + 1) = keepT snaps l a n ++ (if stayV snaps l (a + n) = true then [l[a + n]] else []) := by
  show keepT snaps l a n ++ (if stayV snaps l (a + n) = true then l[a + n]?.toList else []) = _
  rw [List.getElem?_eq_getElem h]
  rfl
theorem keepT_len (snaps : List Int) (l : List Ent) (a : Nat) : ∀ n, (keepT snaps l a n).length ≤ n := by
  intro n
  induction n with
  | zero => simp [keepT]
  | succ n ih =>
    show (keepT snaps l a n ++ (if stayV snaps l (a + n) = true then l[a + n]?.toList else [])).length ≤ n + 1
    rw [List.length_append]
    split
    · cases l[a + n]? <;> simp <;> omega
    · simp; omega
theorem keepT_add (snaps : List Int) (l : List Ent) (a n : Nat) : ∀ m, keepT snaps l a (n + m) = keepT snaps l a n ++ keepT snaps l (a + n) m := by
  intro m
  induction m with
  | zero => simp [keepT]
  | succ m ih =>
    show keepT snaps l a (n + m) ++ (if stayV snaps l (a + (n + m)) = true then l[a + (n + m)]?.toList else []) = keepT snaps l a n ++ (keepT snaps l (a + n) m ++ (if stayV snaps l (a + n + m) = true then l[a + n + m]?.toList else []))
    rw [ih, Nat.add_assoc a n m, List.append_assoc]
theorem keepT_mem (snaps : List Int) (l : List Ent) (a : Nat) : ∀ n, ∀ x ∈ keepT snaps l a n, ∃ i, i < n ∧ ∃ h : a + i < l.length, x = l[a + i] := by
  intro n
  induction n with
  | zero => intro x hx; simp [keepT] at hx
  | succ n ih =>
    intro x hx
    have hx' : x ∈ keepT snaps l a n ++ (if stayV snaps l (a + n) = true then l[a + n]?.toList else []) := hx
    rcases List.mem_append.1 hx' with h | h
    · obtain ⟨i, hi, h2, h3⟩ := ih x h
      exact ⟨i, by omega, h2, h3⟩
    · by_cases hl : a + n < l.length
      · rw [List.getElem?_eq_getElem hl] at h
        split at h
        · exact ⟨n, by omega, hl, by simpa using h⟩
        · simp at h
      · rw [List.getElem?_eq_none (by omega)] at h
        simp at h
def sameK (e : Ent) : List Ent → Bool
  | y :: _ => decide (e.Key = y.Key)
  | [] => false
def tid : List Ent → Bool × List Ent
  | [] => (false, [])
  | e :: t => bif (((tid t).1 && sameK e t) || !e.Del) then (true, e :: (tid t).2) else (false, (tid t).2)
theorem tid_cons (e : Ent) (t : List Ent) : tid (e :: t) = bif (((tid t).1 && sameK e t) || !e.Del) then (true, e :: (tid t).2) else (false, (tid t).2) := rfl
theorem tid_len : ∀ l : List Ent, (tid l).2.length ≤ l.length := by
  intro l
  induction l with
  | nil => simp [tid]
  | cons e t ih =>
    rw [tid_cons]
    cases (((tid t).1 && sameK e t) || !e.Del)
    · simp; omega
    · simp; omega
theorem tid_append : ∀ (A B : List Ent), (∀ x ∈ A, ∀ y ∈ B, x.Key ≠ y.Key) → (tid (A ++ B)).2 = (tid A).2 ++ (tid B).2 ∧ (A ≠ [] → (tid (A ++ B)).1 = (tid A).1) := by
  intro A
  induction A with
  | nil => intro B _; exact ⟨by simp [tid], fun h => absurd rfl h⟩
  | cons e t ih =>
    intro B hd
    obtain ⟨h1, h2⟩ := ih B fun x hx y hy => hd x (.tail _ hx) y hy
    have hc : ((tid (t ++ B)).1 && sameK e (t ++ B)) = ((tid t).1 && sameK e t) := by
      cases t with
      | nil =>
        cases B with
        | nil => rfl
        | cons y B =>
          have : sameK e ([] ++ y :: B) = false := decide_eq_false (hd e (.head _) y (.head _))
          rw [this, Bool.and_false, show sameK e [] = false from rfl, Bool.and_false]
      | cons z t =>
        rw [h2 (by simp)]
        rfl
    show (tid (e :: (t ++ B))).2 = (tid (e :: t)).2 ++ (tid B).2 ∧ (_ → (tid (e :: (t ++ B))).1 = (tid (e :: t)).1)
    rw [tid_cons, tid_cons, hc, h1]
    cases (((tid t).1 && sameK e t) || !e.Del)
    · exact ⟨rfl, fun _ => rfl⟩
    · exact ⟨rfl, fun _ => rfl⟩
theorem tid_del (e : Ent) (hd : e.Del = true) : ∀ A : List Ent, (∀ x ∈ A, x.Key = e.Key) → tid (A ++ [e]) = tid A := by
  intro A
  induction A with
  | nil => intro _; simp [tid, sameK, hd]
  | cons x t ih =>
    intro hk
    have h1 := ih fun y hy => hk y (.tail _ hy)
    show tid (x :: (t ++ [e])) = tid (x :: t)
    have hc : ((tid (t ++ [e])).1 && sameK x (t ++ [e])) = ((tid t).1 && sameK x t) := by
      rw [h1]
      cases t with
      | nil => rfl
      | cons z t => rfl
    rw [tid_cons, hc, h1]
    rfl
theorem tid_keep (e : Ent) (hd : e.Del = false) : ∀ A : List Ent, (∀ x ∈ A, x.Key = e.Key) → tid (A ++ [e]) = (true, A ++ [e]) := by
  intro A
  induction A with
  | nil => intro _; simp [tid, sameK, hd]
  | cons x t ih =>
    intro hk
    have h1 := ih fun y hy => hk y (.tail _ hy)
    show tid (x :: (t ++ [e])) = _
    have hc : sameK x (t ++ [e]) = true := by
      cases t with
      | nil => exact decide_eq_true (hk x (.head _))
      | cons z t => exact decide_eq_true ((hk x (.head _)).trans (hk z (.tail _ (.head _))).symm)
    rw [tid_cons, hc, h1]
    rfl
def finE (bottom : Bool) (A : List Ent) : List Ent := bif bottom then (tid A).2 else A
theorem finE_len (b : Bool) (A : List Ent) : (finE b A).length ≤ A.length := by
  cases b
  · exact Nat.le_refl _
  · exact tid_len A
theorem finE_append (b : Bool) (A B : List Ent) (h : ∀ x ∈ A, ∀ y ∈ B, x.Key ≠ y.Key) : finE b (A ++ B) = finE b A ++ finE b B := by
  cases b
  · rfl
  · exact (tid_append A B h).1
theorem trim_loop (bottom : Bool) : ∀ (n : Nat) (A : List Ent), A.length = n → n ≤ 1048576 → (∀ x ∈ A, ∀ y ∈ A, x.Key = y.Key) →
    loopO (ρ := Ctl (List Ent) (List Ent)) (fun (S31 : List Ent) => (if bottom = true then (if (decide (((S31.length : Nat) : Int) > (0 : Int))) = true then ((idx S31 (IntKind.i64.wrap (((S31.length : Nat) : Int) - (1 : Int)))).bind fun E39 =>
  some E39.Del)
  else (some false))
  else (some false)).bind (fun (T35 : Bool) =>
  if T35 = true then ((piece S31 (0 : Int) (IntKind.i64.wrap (((S31.length : Nat) : Int) - (1 : Int)))).bind fun E43 =>
  (app 48 ([] : List Ent) E43).bind fun E46 =>
  some (.go E46))
  else (some (.done (.go S31))))) A = some (.go (finE bottom A)) := by
  intro n
  induction n with
  | zero =>
    intro A hA _ _
    obtain rfl : A = [] := List.eq_nil_of_length_eq_zero hA
    rw [loopO_eq]
    cases bottom <;> rfl
  | succ n ih =>
    intro A hA hn hk
    obtain ⟨B, e, rfl⟩ : ∃ B e, A = B ++ [e] := ⟨A.dropLast, A.getLast (by intro c; rw [c] at hA; simp at hA), (List.dropLast_concat_getLast _).symm⟩
    have hB : B.length = n := by simpa using hA
    rw [loopO_eq]
    have hw : IntKind.i64.wrap ((((B ++ [e]).length : Nat) : Int) - 1) = (B.length : Int) := by rw [wrap_ok (by omega) (by omega)]; simp
    have hke : ∀ x ∈ B, x.Key = e.Key := fun x hx => hk x (List.mem_append.2 (.inl hx)) e (by simp)
    cases bottom with
    | false => rfl
    | true =>
      rw [hw, idx_nat (B ++ [e]) B.length (by simp)]
      have hd : decide ((((B ++ [e]).length : Nat) : Int) > 0) = true := decide_eq_true (by simp)
      simp only [if_true, hd, Option.bind_some, List.getElem_concat_length]
      cases hdel : e.Del with
      | false =>
        simp only [Bool.false_eq_true, if_false]
        show some (Ctl.go (B ++ [e])) = some (Ctl.go (tid (B ++ [e])).2)
        rw [tid_keep e hdel B hke]
      | true =>
        simp only [if_true]
        rw [piece_nat _ 0 B.length (0 : Int) _ rfl rfl (by omega) (by simp)]
        have hp : ((B ++ [e]).drop 0).take (B.length - 0) = B := by simp
        rw [hp]
        simp only [Option.bind_some]
        rw [app_ok (by simp; omega) (by simp; omega)]
        simp only [Option.bind_some, List.nil_append]
        have ih' := ih B hB (by omega) fun x hx y hy => hk x (List.mem_append.2 (.inl hx)) y (List.mem_append.2 (.inl hy))
        simp only [if_true] at ih'
        rw [ih']
        show some (Ctl.go (tid B).2) = some (Ctl.go (tid (B ++ [e])).2)
        rw [tid_del e hdel B hke]
theorem revEnts_eq (l : List Ent) (h : l.length ≤ 1048576) : slices_Reverse_94167 l = some l.reverse := by
  unfold slices_Reverse_94167
  rw [loopO_is (fun m s => s.1 = (m : Int) ∧ s.2.1 = (l.length : Int) - 1 - m ∧ ∃ hl : s.2.2.length = l.length, ∀ k (hk : k < l.length), s.2.2[k]'(by omega) = if k < m ∨ l.length ≤ k + m then l[l.length - 1 - k]'(by omega) else l[k]) (l.length / 2) (Ctl.go l.reverse) ?h0 ?h1 ?h2]
  · rfl
  case h0 =>
    refine ⟨rfl, ?_, rfl, fun k hk => ?_⟩
    · show IntKind.i64.wrap ((l.length : Int) - 1) = (l.length : Int) - 1 - ((0 : Nat) : Int)
      rw [wrap_ok (by omega) (by omega)]; omega
    · rw [if_neg (by omega)]
  · rintro m ⟨i, j, s⟩ hm ⟨h1, h2, hl, h3⟩
    simp only at h1 h2 hl h3
    subst h1
    have hj : j = ((l.length - 1 - m : Nat) : Int) := by omega
    subst hj
    clear h2
    left
    have hm1 : m < s.length := by omega
    have hm2 : l.length - 1 - m < s.length := by omega
    refine ⟨((m : Int) + 1, ((l.length - 1 - m : Nat) : Int) - 1, (s.set m (s[l.length - 1 - m]'hm2)).set (l.length - 1 - m) (s[m]'hm1)), ?_, by simp, ?_, by simp [hl], ?_⟩
    · simp only [idx_nat s _ hm2, idx_nat s _ hm1, Option.bind_some, Int.toNat_natCast]
      rw [if_pos (by simp; omega), idx_nat _ _ (by simp; omega)]
      simp only [Option.bind_some, bindC_go]
      rw [wrap_ok (by omega) (by omega), wrap_ok (by omega) (by omega)]
    · simp only; omega
    · intro k hk
      simp only [List.getElem_set]
      by_cases c1 : l.length - 1 - m = k
      · rw [if_pos c1, h3 m (by omega), if_neg (by omega), if_pos (by omega)]
        congr 1
        omega
      · rw [if_neg c1]
        by_cases c2 : m = k
        · rw [if_pos c2, h3 _ (by omega), if_neg (by omega), if_pos (by omega)]
          congr 1
          omega
        · rw [if_neg c2, h3 k hk]
          by_cases c3 : k < m ∨ l.length ≤ k + m
          · rw [if_pos c3, if_pos (by omega)]
          · rw [if_neg c3, if_neg (by omega)]
  · rintro ⟨i, j, s⟩ ⟨h1, h2, hl, h3⟩
    simp only at h1 h2 hl h3
    subst h1 h2
    simp only
    rw [if_neg (by simp; omega)]
    congr 3
    refine List.ext_getElem (by simp [hl]) fun k hk1 hk2 => ?_
    rw [h3 k (by omega), List.getElem_reverse]
    by_cases c : k < l.length / 2 ∨ l.length ≤ k + l.length / 2
    · rw [if_pos c]
    · rw [if_neg c]
      congr 1
      omega
theorem impl_compacted_eq (l : List Ent) (snaps : List Int) (bottom : Bool) (h : l.length ≤ 1048576) (hs : snaps.length ≤ 1048576) : impl_compacted l snaps bottom = some (finE bottom (keepT snaps l 0 l.length)) := by
  unfold impl_compacted
  rw [loopO_count (fun k => ((k : Int), keepT snaps l 0 k)) l.length (r := Ctl.go (keepT snaps l 0 l.length)) ?h0]
  case h0 => rfl
  · simp only [bindC_go]
    cases bottom with
    | false => rfl
    | true =>
      simp only [Bool.not_true, Bool.false_eq_true, if_false]
      have hKl : (keepT snaps l 0 l.length).length ≤ 1048576 := Nat.le_trans (keepT_len snaps l 0 _) h
      generalize keepT snaps l 0 l.length = K at hKl
      rw [loopO_count (fun m => ((tid (K.drop (K.length - m))).1, (K.length : Int) - 1 - m, (tid (K.drop (K.length - m))).2.reverse)) K.length (r := Ctl.go (tid K).2.reverse) ?g0]
      case g0 =>
        rw [Nat.sub_zero, List.drop_length, wrap_ok (by omega) (by omega)]
        simp [tid]
      · simp only [bindC_go]
        rw [revEnts_eq _ (by rw [List.length_reverse]; exact Nat.le_trans (tid_len K) hKl), List.reverse_reverse]
        rfl
      · intro m hm
        have hi : (K.length : Int) - 1 - m = ((K.length - 1 - m : Nat) : Int) := by omega
        have hi1 : (K.length : Int) - 1 - ((m + 1 : Nat) : Int) = ((K.length - 1 - m : Nat) : Int) - 1 := by omega
        have hk1 : K.length - 1 - m < K.length := by omega
        have hdr : K.drop (K.length - (m + 1)) = K[K.length - 1 - m] :: K.drop (K.length - m) := by
          rw [show K.length - (m + 1) = K.length - 1 - m by omega, List.drop_eq_getElem_cons hk1, show K.length - 1 - m + 1 = K.length - m by omega]
        have hlen := tid_len (K.drop (K.length - m))
        rw [List.length_drop] at hlen
        rw [hdr, tid_cons, hi, hi1]
        have hc : (if decide (((K.length - 1 - m : Nat) : Int) = IntKind.i64.wrap (((K.length : Nat) : Int) - (1 : Int))) = true then (some true)
  else ((idx K ((K.length - 1 - m : Nat) : Int)).bind fun E28 =>
  (idx K (IntKind.i64.wrap (((K.length - 1 - m : Nat) : Int) + (1 : Int)))).bind fun E30 =>
  some (!(decide (E28.Key = E30.Key))))) = some (!sameK K[K.length - 1 - m] (K.drop (K.length - m))) := by
          by_cases h0 : m = 0
          · subst h0
            rw [if_pos (by rw [wrap_ok (by omega) (by omega)]; simp; omega), show K.drop (K.length - 0) = [] by simp]
            rfl
          · rw [if_neg (by rw [wrap_ok (by omega) (by omega)]; simp; omega), idx_nat K _ hk1, wrap_ok (by omega) (by omega)]
            rw [show ((K.length - 1 - m : Nat) : Int) + 1 = ((K.length - m : Nat) : Int) by omega, idx_nat K (K.length - m) (by omega), List.drop_eq_getElem_cons (by omega : K.length - m < K.length)]
            rfl
        simp only [hc]
        rw [if_pos (by simp), wrap_ok (n := ((K.length - 1 - m : Nat) : Int) - 1) (by omega) (by omega)]
        simp only [idx_nat K _ hk1, Option.bind_some]
        generalize sameK K[K.length - 1 - m] (K.drop (K.length - m)) = q
        generalize tid (K.drop (K.length - m)) = tt at hlen ⊢
        obtain ⟨nd, o⟩ := tt
        simp only at hlen ⊢
        have happ : app 48 o.reverse [K[K.length - 1 - m]] = some (o.reverse ++ [K[K.length - 1 - m]]) := app_ok (by simp; omega) (by simp; omega)
        cases q <;> cases nd <;> cases hd : K[K.length - 1 - m].Del <;> simp [happ, hd]
      · rw [Nat.sub_self, List.drop_zero]
        simp
        omega
  · intro k hk
    have hlen := keepT_len snaps l 0 k
    simp only [idx_nat l k hk, Option.bind_some, isSeen_eq l snaps k hk h hs, keepT_succ snaps l 0 k (by omega), Nat.zero_add]
    rw [if_pos (by simpa using hk), wrap_ok (n := (k : Int) + 1) (by omega) (by omega)]
    cases stayV snaps l k with
    | true =>
      simp only [if_true]
      rw [app_ok (by simp; omega) (by simp; omega)]
      rfl
    | false => simp
  · simp
theorem entP_of {l : List Ent} (hv : entsV l = true) (k : Nat) (hk : k < l.length) : entP l k = true := by
  unfold entsV at hv
  rw [List.all_eq_true] at hv
  exact hv k (by simpa using hk)
theorem entsV_sub {l : List Ent} (hv : entsV l = true) (a n : Nat) : entsV ((l.drop a).take n) = true := by
  unfold entsV
  rw [List.all_eq_true]
  intro k hk
  have hk' : k < ((l.drop a).take n).length := by simpa using hk
  have hk2 : a + k < l.length := by simp at hk'; omega
  have hp := entP_of hv (a + k) hk2
  rw [entP_at l (a + k) hk2, Bool.and_eq_true] at hp
  rw [entP_at _ k hk']
  simp only [List.getElem_take, List.getElem_drop]
  rw [hp.1, Bool.true_and]
  by_cases h0 : 0 < k
  · rw [dif_pos h0]
    have := hp.2
    rw [dif_pos (by omega)] at this
    simpa only [show a + k - 1 = a + (k - 1) by omega] using this
  · rw [dif_neg h0]
def cutV (l : List Ent) (a : Nat) : Prop := ∀ i (hi : i < l.length) j (hj : j < l.length), i < a → a ≤ j → l[i].Key ≠ l[j].Key
theorem l15Key_eq (l : List Ent) (snaps : List Int) (bottom : Bool) (a n : Nat) (hv : entsV l = true) (h : l.length ≤ 1048576) (hs : snaps.length ≤ 1048576) (hn : a + n ≤ l.length) (hc : cutV l a)
    (hk : ∀ i (hi : i < l.length) j (hj : j < l.length), a ≤ i → i < a + n → a ≤ j → j < a + n → l[i].Key = l[j].Key) : spec_l15Key ((l.drop a).take n) snaps bottom = some (finE bottom (keepT snaps l a n)) := by
  have hgl : ((l.drop a).take n).length = n := by simp; omega
  have hgv := entsV_sub hv a n
  have hg : ∀ i, i < n → ((l.drop a).take n)[i]? = l[a + i]? := fun i hi => by rw [List.getElem?_take, if_pos hi, List.getElem?_drop]
  generalize (l.drop a).take n = g at hgl hgv hg
  have hge : ∀ i (hi : i < n), g[i]'(by omega) = l[a + i]'(by omega) := fun i hi => by
    have := hg i hi
    rw [List.getElem?_eq_getElem (by omega), List.getElem?_eq_getElem (by omega)] at this
    exact Option.some.inj this
  unfold spec_l15Key
  rw [loopO_count (fun k => ((k : Int), keepT snaps l a k)) g.length (r := Ctl.go (keepT snaps l a n)) ?h0]
  case h0 => rfl
  · simp only [bindC_go]
    rw [trim_loop bottom (keepT snaps l a n).length _ rfl (Nat.le_trans (keepT_len snaps l a n) (by omega)) ?_]
    · rfl
    · intro x hx y hy
      obtain ⟨i, hi, h1, rfl⟩ := keepT_mem snaps l a n x hx
      obtain ⟨j, hj, h2, rfl⟩ := keepT_mem snaps l a n y hy
      exact hk _ _ _ _ (by omega) (by omega) (by omega) (by omega)
  · intro k hk1
    have hkn : k < n := by omega
    have hlen := keepT_len snaps l a k
    have hin : loopO (ρ := Ctl Bool (Ctl (Int × List Ent) (Ctl (List Ent) (List Ent)))) (fun (S7 : Bool × Int) => if (decide (S7.2 < ((snaps.length : Nat) : Int))) = true then ((idx g (k : Int)).bind fun E12 =>
  (idx snaps S7.2).bind fun E14 =>
  (spec_l9Get g E12.Key E14).bind fun R16 =>
  (if S7.1 = true then (some true)
  else (if R16.2 = true then (some (decide (R16.1.Seq = E12.Seq)))
  else (some false))).bind (fun (T25 : Bool) =>
  some (.go (T25, IntKind.i64.wrap (S7.2 + (1 : Int))))))
  else (some (.done (.go S7.1)))) (decide ((k : Int) = (0 : Int)), (0 : Int)) = some (.go (stayV snaps l (a + k))) := by
      rw [loopO_count (fun m => (decide (k = 0) || (snaps.take m).any (fun s => visE g s k), (m : Int))) snaps.length (r := Ctl.go (decide (k = 0) || snaps.any (fun s => visE g s k))) ?i0]
      case i0 =>
        rw [show decide ((k : Int) = 0) = decide (k = 0) from decide_eq_decide.2 (by omega)]
        simp
      · congr 2
        cases k with
        | zero =>
          simp only [decide_true, Bool.true_or, Nat.add_zero]
          cases a with
          | zero => rfl
          | succ b =>
            have := hc b (by omega) (b + 1) (by omega) (by omega) (Nat.le_refl _)
            rw [stayV_succ snaps l b (by omega), decide_eq_false this]
            rfl
        | succ j =>
          rw [show a + (j + 1) = (a + j) + 1 by omega, stayV_succ snaps l (a + j) (by omega)]
          have e1 : (l[a + j]'(by omega)).Key = (l[a + j + 1]'(by omega)).Key := hk _ _ _ _ (by omega) (by omega) (by omega) (by omega)
          rw [decide_eq_true e1]
          simp only [Nat.add_one_ne_zero, decide_false, Bool.false_or, Bool.not_true]
          congr 1
          funext s
          rw [visE_at g s (j + 1) hk1]
          have e2 := hge (j + 1) hkn
          have e3 := hge j (by omega)
          rw [e2, show l[a + (j + 1)]'(by omega) = l[a + j + 1]'(by omega) from rfl]
          congr 1
          rw [Bool.eq_iff_iff, List.all_eq_true, decide_eq_true_eq]
          constructor
          · intro hall
            have hm : g[j]'(by omega) ∈ g.take (j + 1) := by
              have : (g.take (j + 1))[j]'(by simp; omega) = g[j]'(by omega) := by simp
              rw [← this]; exact List.getElem_mem _
            have := hall _ hm
            rw [e3, e1] at this
            simp at this
            omega
          · intro hlt d hd
            obtain ⟨i, hi, rfl⟩ := List.getElem_of_mem hd
            have hij : i < j + 1 := by simp at hi; omega
            simp only [List.getElem_take]
            rw [hge i (by omega)]
            have hge2 : (l[a + j]'(by omega)).Seq ≤ (l[a + i]'(by omega)).Seq := by
              by_cases e : i = j
              · subst e; exact Int.le_refl _
              · rcases ents_lt hv (a + j) (by omega) (a + i) (by omega) with h1 | ⟨_, h1⟩
                · rw [hk (a + i) (by omega) (a + j) (by omega) (by omega) (by omega) (by omega) (by omega), sLt_irrefl] at h1
                  cases h1
                · omega
            have : ¬ (l[a + i]'(by omega)).Seq ≤ s := by omega
            simp [this]
      · intro m hm
        simp only [idx_nat g k hk1, idx_nat snaps m hm, Option.bind_some, spec_l9Get_eq g _ _ (by omega)]
        rw [if_pos (by simpa using hm), wrap_ok (n := (m : Int) + 1) (by omega) (by omega), List.take_add_one, List.getElem?_eq_getElem hm, List.any_append, ← Bool.or_assoc]
        simp only [Option.toList_some, List.any_cons, List.any_nil, Bool.or_false]
        generalize (decide (k = 0) || (snaps.take m).any (fun s => visE g s k)) = st
        cases hvis : visE g snaps[m] k with
        | true =>
          rw [visE_find hk1 hvis]
          cases st <;> simp
        | false =>
          have hn := visE_not hgv hk1 hvis
          cases hf : g.find? (fun d => decide (d.Key = g[k].Key) && decide (d.Seq ≤ snaps[m])) with
          | none => cases st <;> simp
          | some d =>
            have := hn d hf
            cases st <;> simp [this]
      · simp
    rw [if_pos (by simpa using hk1)]
    simp only [hin, bindC_go, keepT_succ snaps l a k (by omega)]
    rw [wrap_ok (n := (k : Int) + 1) (by omega) (by omega)]
    cases stayV snaps l (a + k) with
    | true =>
      simp only [if_true, idx_nat g k hk1, Option.bind_some, hge k hkn]
      rw [app_ok (by simp; omega) (by simp; omega)]
      rfl
    | false => simp
  · rw [hgl]
    simp
theorem l15Last_eq (l : List Ent) (a : Nat) (ha : a < l.length) (h : l.length ≤ 1048576) : ∃ e : Nat, spec_l15Last l (a : Int) = some (e : Int) ∧ a < e ∧ e ≤ l.length ∧ (∀ i (hi : i < l.length), a ≤ i → i < e → l[i].Key = l[a].Key) ∧ (∀ hi : e < l.length, l[e].Key ≠ l[a].Key) := by
  unfold spec_l15Last
  have key : ∃ c, loopO (ρ := Ctl Int Int) (fun (S1 : Int) => (if (decide (S1 < ((l.length : Nat) : Int))) = true then ((idx l S1).bind fun E8 =>
  (idx l (a : Int)).bind fun E10 =>
  some (decide (E8.Key = E10.Key)))
  else (some false)).bind (fun (T5 : Bool) =>
  if T5 = true then (some (.go (IntKind.i64.wrap (S1 + (1 : Int)))))
  else (some (.done (.go S1))))) (a : Int) = some c ∧ ∃ e : Nat, c = .go (e : Int) ∧ a < e ∧ e ≤ l.length ∧ (∀ i (hi : i < l.length), a ≤ i → i < e → l[i].Key = l[a].Key) ∧ (∀ hi : e < l.length, l[e].Key ≠ l[a].Key) := by
    refine loopO_total (fun k s => s = ((a + k : Nat) : Int) ∧ ∀ i (hi : i < l.length), a ≤ i → i < a + k → l[i].Key = l[a].Key) (l.length - a) _ ⟨rfl, fun i hi h1 h2 => by omega⟩ ?_ ?_
    · rintro k s hk ⟨rfl, hI⟩
      have hak : a + k < l.length := by omega
      simp only [idx_nat l (a + k) hak, idx_nat l a ha, Option.bind_some]
      rw [if_pos (by simp; omega), wrap_ok (by omega) (by omega)]
      by_cases c : l[a + k].Key = l[a].Key
      · left
        refine ⟨((a + k : Nat) : Int) + 1, by simp [c], by omega, fun i hi h1 h2 => ?_⟩
        by_cases e : i = a + k
        · subst e; exact c
        · exact hI i hi h1 (by omega)
      · right
        refine ⟨.go ((a + k : Nat) : Int), by simp [c], a + k, rfl, ?_, by omega, hI, fun _ => c⟩
        have : k ≠ 0 := by rintro rfl; exact c rfl
        omega
    · rintro s ⟨rfl, hI⟩
      have he : a + (l.length - a) = l.length := by omega
      rw [he] at hI ⊢
      exact ⟨.go ((l.length : Nat) : Int), by simp, l.length, rfl, ha, Nat.le_refl _, hI, fun hi => absurd hi (by omega)⟩
  obtain ⟨c, hc, e, rfl, h1⟩ := key
  exact ⟨e, by rw [hc]; rfl, h1⟩
theorem cutV_next {l : List Ent} (hv : entsV l = true) {a e : Nat} (hc : cutV l a) (hae : a < e) (ha : a < l.length) (h1 : ∀ i (hi : i < l.length), a ≤ i → i < e → l[i].Key = l[a].Key) (h2 : ∀ hi : e < l.length, l[e].Key ≠ l[a].Key) : cutV l e := by
  intro i hi j hj hie hej heq
  by_cases hia : i < a
  · exact hc i hi j hj hia (by omega) heq
  · rw [h1 i hi (by omega) hie] at heq
    have hel : e < l.length := by omega
    have hne := h2 hel
    have hlt : sLt l[a].Key l[e].Key = true := by
      rcases ents_lt hv e hel a hae with h | ⟨h, _⟩
      · exact h
      · exact absurd h.symm hne
    by_cases hj2 : j = e
    · subst hj2; exact hne heq.symm
    · rcases ents_lt hv j hj e (by omega) with h | ⟨h, _⟩
      · have := sLt_trans hlt h
        rw [← heq, sLt_irrefl] at this
        cases this
      · exact hne (h.trans heq.symm)
def compactR (l : List Ent) (snaps : List Int) (bottom : Bool) : List Ent := if l.length ≤ 400 ∧ entsV l = true then finE bottom (keepT snaps l 0 l.length) else []
theorem spec_CompactEnts_eq (l : List Ent) (snaps : List Int) (bottom : Bool) (h : l.length ≤ 1048576) (hs : snaps.length ≤ 1048576) : spec_CompactEnts l snaps bottom = some (compactR l snaps bottom) := by
  unfold spec_CompactEnts compactR
  rw [spec_l9Ents_eq l h]
  by_cases hl : l.length ≤ 400
  · rw [if_neg (by simp; omega)]
    cases hv : entsV l with
    | false => simp
    | true =>
      simp only [Option.bind_some, Bool.not_true, Bool.false_eq_true, if_false]
      rw [if_pos ⟨hl, trivial⟩]
      rw [loopO_is (fun k s => ∃ a : Nat, s = ((a : Int), finE bottom (keepT snaps l 0 a)) ∧ a ≤ l.length ∧ k ≤ a ∧ cutV l a) l.length (Ctl.go (finE bottom (keepT snaps l 0 l.length))) ?h0 ?h1 ?h2]
      · rfl
      case h0 => 
        refine ⟨0, ?_, Nat.zero_le _, Nat.le_refl _, fun i hi j hj h1 h2 => by omega⟩
        cases bottom <;> rfl
      · rintro k s hk ⟨a, rfl, ha, hka, hc⟩
        by_cases hal : a < l.length
        · left
          obtain ⟨e, he, h1, h2, h3, h4⟩ := l15Last_eq l a hal h
          have hsplit : keepT snaps l 0 e = keepT snaps l 0 a ++ keepT snaps l a (e - a) := by
            have := keepT_add snaps l 0 a (e - a)
            rw [Nat.zero_add, show a + (e - a) = e by omega] at this
            exact this
          have hfe : finE bottom (keepT snaps l 0 e) = finE bottom (keepT snaps l 0 a) ++ finE bottom (keepT snaps l a (e - a)) := by
            rw [hsplit]
            refine finE_append bottom _ _ fun x hx y hy => ?_
            obtain ⟨i, hi, p1, rfl⟩ := keepT_mem snaps l 0 a x hx
            obtain ⟨j, hj, p2, rfl⟩ := keepT_mem snaps l a (e - a) y hy
            exact hc _ _ _ _ (by omega) (by omega)
          refine ⟨((e : Int), finE bottom (keepT snaps l 0 e)), ?_, e, rfl, h2, by omega, cutV_next hv hc h1 hal h3 h4⟩
          have hb1 := Nat.le_trans (finE_len bottom (keepT snaps l 0 a)) (keepT_len snaps l 0 a)
          have hb2 := Nat.le_trans (finE_len bottom (keepT snaps l a (e - a))) (keepT_len snaps l a (e - a))
          simp only [he, Option.bind_some]
          rw [if_pos (by simpa using hal), piece_nat l a e _ _ rfl rfl (by omega) h2]
          simp only [Option.bind_some]
          rw [l15Key_eq l snaps bottom a (e - a) hv h hs (by omega) hc (fun i hi j hj p1 p2 p3 p4 => (h3 i hi p1 (by omega)).trans (h3 j hj p3 (by omega)).symm)]
          simp only [Option.bind_some]
          rw [app_ok (by omega) (by omega), hfe]
          rfl
        · right
          obtain rfl : a = l.length := by omega
          simp
      · rintro s ⟨a, rfl, ha, hka, hc⟩
        obtain rfl : a = l.length := by omega
        simp
  · rw [if_pos (by simp; omega), if_neg (fun hx => hl hx.1)]
    rfl
def flushS (e : Eng) : Bool × Eng := bif decide (e.Mem.length = 0 ∨ 6 ≤ e.Tables.length) then (false, e) else (true, { Mem := [], Tables := e.Mem :: e.Tables, Seq := e.Seq, Snaps := e.Snaps })
theorem flushS_pos {e : Eng} (h : e.Mem.length = 0 ∨ 6 ≤ e.Tables.length) : flushS e = (false, e) := by unfold flushS; rw [decide_eq_true h]; rfl
theorem flushS_neg {e : Eng} (h : ¬ (e.Mem.length = 0 ∨ 6 ≤ e.Tables.length)) : flushS e = (true, { Mem := [], Tables := e.Mem :: e.Tables, Seq := e.Seq, Snaps := e.Snaps }) := by unfold flushS; rw [decide_eq_false h]; rfl
def flushR (e : Eng) : Eng × Bool := bif engV e then ((flushS e).2, (flushS e).1) else ({ Mem := [], Tables := [], Seq := 0, Snaps := [] }, false)
theorem impl_flush_eq (e : Eng) (h2 : e.Tables.length ≤ 1048576) : impl_Eng_flush e = some (flushS e) := by
  unfold impl_Eng_flush slices_Insert_87572 ins
  by_cases c1 : e.Mem.length = 0
  · have d1 : ((e.Mem.length : Nat) : Int) = 0 := by omega
    rw [flushS_pos (Or.inl c1), if_pos (decide_eq_true d1)]
    rfl
  · have d1 : ¬ ((e.Mem.length : Nat) : Int) = 0 := by omega
    rw [if_neg (by simpa using d1)]
    by_cases c2 : 6 ≤ e.Tables.length
    · have d2 : ((e.Tables.length : Nat) : Int) ≥ 6 := by omega
      rw [flushS_pos (Or.inr c2), decide_eq_true d2]
      rfl
    · have d2 : ¬ ((e.Tables.length : Nat) : Int) ≥ 6 := by omega
      rw [flushS_neg (by omega), decide_eq_false d2]
      simp only [Option.bind_some, Bool.false_eq_true, if_false]
      rw [if_pos ⟨by omega, by omega, by simp; omega, by simp; omega⟩]
      rfl
theorem impl_EngFlush_eq (e : Eng) (h1 : e.Mem.length ≤ 1048576) (h2 : e.Tables.length ≤ 1048576) (h3 : totalV e.Tables ≤ 1048576) (h4 : e.Snaps.length ≤ 1048576) : impl_EngFlush e = some (flushR e) := by
  have hlen : ∀ t ∈ e.Tables, t.length ≤ 1048576 := fun t ht => Nat.le_trans (sum_mem List.length ht) h3
  unfold impl_EngFlush flushR
  rw [impl_EngOk_eq e h1 h2 h3 h4]
  cases hv : engV e with
  | false => rfl
  | true =>
    simp only [Option.bind_some, Bool.not_true, Bool.false_eq_true, if_false, if_true, impl_copyEng_eq e h1 h2 hlen h4, impl_flush_eq e h2, cond_true]
    by_cases c : e.Mem.length = 0 ∨ 6 ≤ e.Tables.length
    · rw [flushS_pos c]
    · rw [flushS_neg c]
theorem spec_EngFlush_eq (e : Eng) (h1 : e.Mem.length ≤ 1048576) (h2 : e.Tables.length ≤ 1048576) (h3 : totalV e.Tables ≤ 1048576) (h4 : e.Snaps.length ≤ 1048576) : spec_EngFlush e = some (flushR e) := by
  have hlen : ∀ t ∈ e.Tables, t.length ≤ 1048576 := fun t ht => Nat.le_trans (sum_mem List.length ht) h3
  unfold spec_EngFlush flushR
  rw [spec_EngOk_eq e h1 h2 h3 h4]
  cases hv : engV e with
  | false => rfl
  | true =>
    simp only [Option.bind_some, Bool.not_true, Bool.false_eq_true, if_false, if_true, spec_l20Copy_eq e h1 h2 hlen h4, cond_true]
    by_cases c1 : e.Mem.length = 0
    · have d1 : ((e.Mem.length : Nat) : Int) = 0 := by omega
      rw [if_pos (decide_eq_true d1), flushS_pos (Or.inl c1)]
      rfl
    · have d1 : ¬ ((e.Mem.length : Nat) : Int) = 0 := by omega
      rw [if_neg (by simpa using d1)]
      by_cases c2 : 6 ≤ e.Tables.length
      · have d2 : ((e.Tables.length : Nat) : Int) ≥ 6 := by omega
        rw [flushS_pos (Or.inr c2), decide_eq_true d2]
        rfl
      · have d2 : ¬ ((e.Tables.length : Nat) : Int) ≥ 6 := by omega
        rw [flushS_neg (by omega), decide_eq_false d2]
        simp only [Option.bind_some, Bool.false_eq_true, if_false]
        rw [app_ok (by simp; omega) (by simp; omega)]
        rfl
theorem half_eq {a : Int} (h0 : 0 ≤ a) (h1 : a ≤ 4611686018427387904) : IntKind.i64.wrap (ishr .u64 (IntKind.u64.wrap (IntKind.i64.wrap a)) (1 : Int)) = a / 2 := by
  have hu : IntKind.u64.wrap a = a := by simp [IntKind.wrap, IntKind.bits, IntKind.signed]; omega
  have hs : ishr .u64 a (1 : Int) = a / 2 := by
    unfold ishr
    show a.fdiv (2 ^ 1) = a / 2
    rw [Int.fdiv_eq_ediv_of_nonneg a (by decide)]
    rfl
  rw [wrap_ok (n := a) (by omega) (by omega), hu, hs, wrap_ok (by omega) (by omega)]
theorem bisect {α ρ : Type} (x : List α) (cf : α → Option Int) (c : α → Int) (hcf : ∀ e ∈ x, cf e = some (c e)) (hx : x.length ≤ 1048576) :
    ∃ j, j ≤ x.length ∧ loopO (ρ := Ctl Int ρ) (fun (S2 : Int × Int) => if (decide (S2.1 < S2.2)) = true then ((idx x (IntKind.i64.wrap (ishr .u64 (IntKind.u64.wrap (IntKind.i64.wrap (S2.1 + S2.2))) (1 : Int)))).bind fun E7 =>
  (cf E7).bind fun R9 =>
  bindC (if (decide (R9 < (0 : Int))) = true then (some (.go (IntKind.i64.wrap (IntKind.i64.wrap (ishr .u64 (IntKind.u64.wrap (IntKind.i64.wrap (S2.1 + S2.2))) (1 : Int)) + (1 : Int)), S2.2)))
  else (some (.go (S2.1, IntKind.i64.wrap (ishr .u64 (IntKind.u64.wrap (IntKind.i64.wrap (S2.1 + S2.2))) (1 : Int))))))
  (fun (T12 : Int × Int) => some (.go (T12.1, T12.2))))
  else (some (.done (.go S2.1)))) ((0 : Int), ((x.length : Nat) : Int)) = some (.go (j : Int)) ∧ (∀ i (hi : i < x.length), i + 1 = j → c x[i] < 0) ∧ (∀ hj : j < x.length, 0 ≤ c x[j]) := by
  obtain ⟨r, hr, j, rfl, h1, h2, h3⟩ := loopO_total (ρ := Ctl Int ρ) (s0 := ((0 : Int), ((x.length : Nat) : Int))) (body := fun (S2 : Int × Int) => if (decide (S2.1 < S2.2)) = true then ((idx x (IntKind.i64.wrap (ishr .u64 (IntKind.u64.wrap (IntKind.i64.wrap (S2.1 + S2.2))) (1 : Int)))).bind fun E7 =>
  (cf E7).bind fun R9 =>
  bindC (if (decide (R9 < (0 : Int))) = true then (some (.go (IntKind.i64.wrap (IntKind.i64.wrap (ishr .u64 (IntKind.u64.wrap (IntKind.i64.wrap (S2.1 + S2.2))) (1 : Int)) + (1 : Int)), S2.2)))
  else (some (.go (S2.1, IntKind.i64.wrap (ishr .u64 (IntKind.u64.wrap (IntKind.i64.wrap (S2.1 + S2.2))) (1 : Int))))))
  (fun (T12 : Int × Int) => some (.go (T12.1, T12.2))))
  else (some (.done (.go S2.1))))
    (fun k s => ∃ a b : Nat, s = ((a : Int), (b : Int)) ∧ a ≤ b ∧ b ≤ x.length ∧ b - a + k ≤ x.length ∧ (∀ i (hi : i < x.length), i + 1 = a → c x[i] < 0) ∧ (∀ hj : b < x.length, 0 ≤ c x[b])) x.length
    (fun r => ∃ j : Nat, r = .go (j : Int) ∧ j ≤ x.length ∧ (∀ i (hi : i < x.length), i + 1 = j → c x[i] < 0) ∧ (∀ hj : j < x.length, 0 ≤ c x[j]))
    ⟨0, x.length, rfl, Nat.zero_le _, Nat.le_refl _, by omega, fun i hi h => by omega, fun h => by omega⟩ (by
      rintro k s hk ⟨a, b, rfl, hab, hb, hd, h1, h2⟩
      by_cases hlt : a < b
      · left
        have hm : ((a : Int) + (b : Int)) / 2 = (((a + b) / 2 : Nat) : Int) := by omega
        have hmx : (a + b) / 2 < x.length := by omega
        simp only [half_eq (a := (a : Int) + (b : Int)) (by omega) (by omega), hm, idx_nat x _ hmx, Option.bind_some, hcf _ (List.getElem_mem hmx)]
        rw [if_pos (by simpa using hlt)]
        by_cases hc : c x[(a + b) / 2] < 0
        · rw [if_pos (by simpa using hc), wrap_ok (by omega) (by omega)]
          refine ⟨_, rfl, (a + b) / 2 + 1, b, rfl, by omega, hb, by omega, fun i hi h => ?_, h2⟩
          obtain rfl : i = (a + b) / 2 := by omega
          exact hc
        · rw [if_neg (by simpa using hc)]
          exact ⟨_, rfl, a, (a + b) / 2, rfl, by omega, by omega, by omega, h1, fun _ => by omega⟩
      · right
        obtain rfl : a = b := by omega
        exact ⟨.go (a : Int), by simp, a, rfl, hb, h1, h2⟩) (by
      rintro s ⟨a, b, rfl, hab, hb, hd, h1, h2⟩
      obtain rfl : a = b := by omega
      exact ⟨.go (a : Int), by simp, a, rfl, hb, h1, h2⟩)
  exact ⟨j, h1, hr, h2, h3⟩
theorem entLt_trans {a b c : Ent} (h1 : entLt a b = true) (h2 : entLt b c = true) : entLt a c = true := by
  unfold entLt at h1 h2 ⊢
  simp only [Bool.or_eq_true, Bool.and_eq_true, decide_eq_true_eq] at h1 h2 ⊢
  rcases h1 with h1 | ⟨h1, h3⟩
  · rcases h2 with h2 | ⟨h2, _⟩
    · exact .inl (sLt_trans h1 h2)
    · rw [← h2]; exact .inl h1
  · rcases h2 with h2 | ⟨h2, h4⟩
    · rw [h1]; exact .inl h2
    · exact .inr ⟨h1.trans h2, by omega⟩
theorem entLt_total {a b : Ent} (h : ¬ (a.Key = b.Key ∧ a.Seq = b.Seq)) (h2 : entLt a b = false) : entLt b a = true := by
  unfold entLt at h2 ⊢
  simp only [Bool.or_eq_false_iff, Bool.and_eq_false_iff, decide_eq_false_iff_not] at h2
  simp only [Bool.or_eq_true, Bool.and_eq_true, decide_eq_true_eq]
  have hc := sLt_compl a.Key b.Key
  rw [h2.1] at hc
  simp only [Bool.not_false] at hc
  by_cases hk : a.Key = b.Key
  · right
    refine ⟨hk.symm, ?_⟩
    rcases h2.2 with h3 | h3
    · exact absurd hk h3
    · have : ¬ a.Seq = b.Seq := fun e => h ⟨hk, e⟩
      omega
  · left
    have h5 : decide (b.Key = a.Key) = false := decide_eq_false fun e => hk e.symm
    rw [h5, Bool.or_false] at hc
    exact hc
theorem compareEnts_sign (a b : Ent) : ∃ r, impl_compareEnts a b = some r ∧ decide (r < 0) = entLt a b ∧ (r = 0 ↔ (a.Key = b.Key ∧ a.Seq = b.Seq)) := by
  unfold impl_compareEnts entLt
  rw [cmpS_eq, cmpI_eq]
  simp only [Option.bind_some, cmpOr_eq]
  refine ⟨_, rfl, ?_⟩
  by_cases c : sLt a.Key b.Key = true
  · have hne : ¬ a.Key = b.Key := fun e => by rw [e, sLt_irrefl] at c; cases c
    simp [c, hne]
  · have c' : sLt a.Key b.Key = false := by simpa using c
    rw [if_neg c, c']
    by_cases c2 : a.Key = b.Key
    · rw [decide_eq_true c2]
      by_cases c3 : b.Seq < a.Seq
      · have : ¬ a.Seq = b.Seq := by omega
        simp [c2, c3, this]
      · by_cases c4 : b.Seq > a.Seq
        · have : ¬ a.Seq = b.Seq := by omega
          simp [c2, c3, c4, this]
        · have : a.Seq = b.Seq := by omega
          simp [c2, this]
    · rw [decide_eq_false c2]
      simp [c2]
def insE (l : List Ent) (e : Ent) (j : Nat) : List Ent := l.take j ++ (e :: l.drop j)
theorem insE_mem {l : List Ent} {e x : Ent} {j : Nat} : x ∈ insE l e j ↔ x = e ∨ x ∈ l := by
  unfold insE
  rw [List.mem_append, List.mem_cons]
  conv => rhs; rw [← List.take_append_drop j l, List.mem_append]
  constructor
  · rintro (h | h | h)
    · exact .inr (.inl h)
    · exact .inl h
    · exact .inr (.inr h)
  · rintro (h | h | h)
    · exact .inr (.inl h)
    · exact .inl h
    · exact .inr (.inr h)
theorem insE_len (l : List Ent) (e : Ent) (j : Nat) (h : j ≤ l.length) : (insE l e j).length = l.length + 1 := by
  unfold insE; simp; omega
def ordE (l : List Ent) : Prop := l.Pairwise fun a b => entLt a b = true
theorem ordE_ins {l : List Ent} {e : Ent} {j : Nat} (hl : ordE l) (h1 : ∀ i (hi : i < l.length), i < j → entLt l[i] e = true) (h2 : ∀ i (hi : i < l.length), j ≤ i → entLt e l[i] = true) : ordE (insE l e j) := by
  unfold ordE insE at *
  have hl2 := hl
  rw [← List.take_append_drop j l, List.pairwise_append] at hl2
  have m1 : ∀ x ∈ l.take j, entLt x e = true := by
    intro x hx
    obtain ⟨i, hi, rfl⟩ := List.getElem_of_mem hx
    rw [List.getElem_take]
    exact h1 i _ (by simp at hi; omega)
  have m2 : ∀ x ∈ l.drop j, entLt e x = true := by
    intro x hx
    obtain ⟨i, hi, rfl⟩ := List.getElem_of_mem hx
    rw [List.getElem_drop]
    exact h2 _ _ (by omega)
  rw [List.pairwise_append, List.pairwise_cons]
  refine ⟨hl2.1, ⟨m2, hl2.2.1⟩, fun x hx y hy => ?_⟩
  rcases List.mem_cons.1 hy with rfl | hy
  · exact m1 x hx
  · exact hl2.2.2 x hx y hy
theorem entsV_iff (l : List Ent) : entsV l = true ↔ (∀ x ∈ l, entV x = true) ∧ ordE l := by
  constructor
  · intro h
    refine ⟨fun x hx => ?_, ?_⟩
    · obtain ⟨k, hk, rfl⟩ := List.getElem_of_mem hx
      unfold entsV at h
      rw [List.all_eq_true] at h
      have := h k (by simpa using hk)
      rw [entP_at l k hk, Bool.and_eq_true] at this
      exact this.1
    · unfold ordE
      rw [List.pairwise_iff_getElem]
      intro i j hi hj hij
      unfold entLt
      simp only [Bool.or_eq_true, Bool.and_eq_true, decide_eq_true_eq]
      exact ents_lt h j hj i hij
  · rintro ⟨h1, h2⟩
    unfold ordE at h2
    rw [List.pairwise_iff_getElem] at h2
    unfold entsV
    rw [List.all_eq_true]
    intro k hk
    have hk' : k < l.length := by simpa using hk
    rw [entP_at l k hk', h1 _ (List.getElem_mem hk')]
    by_cases h0 : 0 < k
    · rw [dif_pos h0, h2 (k - 1) k (by omega) hk' (by omega)]
      rfl
    · rw [dif_neg h0]
      rfl
def putF (l : List Ent) (f : Ent) (j k : Nat) : Bool × Int × List Ent := bif Nat.ble k j then (false, (k : Int), l.take k) else (true, (k : Int), l.take j ++ (f :: (l.drop j).take (k - j)))
theorem putF_le (l : List Ent) (f : Ent) (j k : Nat) (h : k ≤ j) : putF l f j k = (false, (k : Int), l.take k) := by
  unfold putF
  rw [Nat.ble_eq_true_of_le h]
  rfl
theorem putF_gt (l : List Ent) (f : Ent) (j k : Nat) (h : j < k) : putF l f j k = (true, (k : Int), l.take j ++ (f :: (l.drop j).take (k - j))) := by
  unfold putF
  have : Nat.ble k j = false := by
    cases hb : Nat.ble k j
    · rfl
    · exact absurd (Nat.le_of_ble_eq_true hb) (by omega)
  rw [this]
  rfl
theorem spec_l9Put_at (l : List Ent) (f : Ent) (j : Nat) (hl : l.length ≤ 1048576) (hj : j ≤ l.length) (h1 : ∀ i (hi : i < l.length), i < j → entLt f l[i] = false) (h2 : ∀ hi : j < l.length, entLt f l[j] = true) :
    spec_l9Put l f = some (insE l f j) := by
  unfold spec_l9Put
  rw [loopO_count (putF l f j) l.length (r := Ctl.go ((putF l f j l.length).1, (putF l f j l.length).2.2)) ?h0]
  case h0 => rw [putF_le _ _ _ _ (Nat.zero_le _)]; rfl
  · by_cases hjl : j = l.length
    · subst hjl
      rw [putF_le _ _ _ _ (Nat.le_refl _)]
      simp only [bindC_go, Bool.not_false, if_true]
      rw [app_ok (by simp; omega) (by simp; omega)]
      simp [insE]
    · rw [putF_gt _ _ _ _ (by omega)]
      simp only [bindC_go, Bool.not_true, Bool.false_eq_true, if_false]
      unfold insE
      rw [List.take_of_length_le (l := l.drop j) (by simp)]
  · intro k hk
    have hw := wrap_ok (n := (k : Int) + 1) (by omega) (by omega)
    rcases Nat.lt_trichotomy k j with hkj | hkj | hkj
    · have ht : l.take (k + 1) = l.take k ++ [l[k]] := by rw [List.take_add_one, List.getElem?_eq_getElem hk]; rfl
      rw [putF_le _ _ _ _ (by omega), putF_le _ _ _ _ (by omega)]
      simp only [idx_nat l k hk, Option.bind_some, Bool.not_false, if_true, hw, spec_l9Ahead_eq, h1 k hk hkj, Bool.false_eq_true, if_false, bindC_go]
      rw [if_pos (by simpa using hk), app_ok (by simp; omega) (by simp; omega), ht]
      rfl
    · subst hkj
      rw [putF_le _ _ _ _ (Nat.le_refl _), putF_gt _ _ _ _ (by omega)]
      simp only [idx_nat l k hk, Option.bind_some, Bool.not_false, if_true, hw, spec_l9Ahead_eq, h2 hk]
      rw [if_pos (by simpa using hk), app_ok (by simp; omega) (by simp; omega)]
      simp only [Option.bind_some, bindC_go]
      rw [app_ok (by simp; omega) (by simp; omega)]
      have : (l.drop k).take (k + 1 - k) = [l[k]] := by
        rw [List.drop_eq_getElem_cons hk, show k + 1 - k = 1 by omega]; rfl
      rw [this]
      simp
    · rw [putF_gt _ _ _ _ (by omega), putF_gt _ _ _ _ (by omega)]
      simp only [idx_nat l k hk, Option.bind_some, Bool.not_true, Bool.false_eq_true, if_false, hw, bindC_go]
      rw [if_pos (by simpa using hk), app_ok (by simp; omega) (by simp; omega)]
      have hkd : k - j < (l.drop j).length := by simp; omega
      have ht : (l.drop j).take (k + 1 - j) = (l.drop j).take (k - j) ++ [l[k]] := by
        rw [show k + 1 - j = (k - j) + 1 by omega, List.take_add_one, List.getElem?_eq_getElem hkd, List.getElem_drop]
        congr 2
        simp only [Option.toList_some]
        congr 2
        omega
      rw [ht]
      simp
  · have hi : (putF l f j l.length).2.1 = (l.length : Int) := by unfold putF; cases Nat.ble l.length j <;> rfl
    rw [hi, if_neg (by simp)]
theorem insEnts_eq (l : List Ent) (x : Ent) (j : Nat) (hj : j ≤ l.length) (h : l.length ≤ 1048576) : slices_Insert_94167 l (j : Int) [x] = some (insE l x j) := by
  unfold slices_Insert_94167 ins insE
  rw [if_pos ⟨by omega, by omega, by simp; omega, by simp; omega⟩, Int.toNat_natCast]
  rfl
theorem put_both (l : List Ent) (e : Ent) (hl : ordE l) (h : l.length ≤ 1048576) (hne : ∀ x ∈ l, ¬ (x.Key = e.Key ∧ x.Seq = e.Seq)) :
    ∃ j, j ≤ l.length ∧ impl_put l e = some (insE l e j, true) ∧ spec_l9Put l e = some (insE l e j) ∧ ordE (insE l e j) := by
  have hcf : ∀ x ∈ l, impl_compareEnts x e = some ((impl_compareEnts x e).getD 0) := by
    intro x _
    obtain ⟨r, hr, _⟩ := compareEnts_sign x e
    rw [hr]; rfl
  have hsg : ∀ x : Ent, (((impl_compareEnts x e).getD 0 < 0) ↔ entLt x e = true) ∧ ((impl_compareEnts x e).getD 0 = 0 ↔ (x.Key = e.Key ∧ x.Seq = e.Seq)) := by
    intro x
    obtain ⟨r, hr, h1, h2⟩ := compareEnts_sign x e
    rw [hr]
    refine ⟨?_, h2⟩
    show r < 0 ↔ _
    rw [← h1]; simp
  obtain ⟨j, hj, hb, h1, h2⟩ := bisect (ρ := Int × Bool) l (fun x => impl_compareEnts x e) (fun x => (impl_compareEnts x e).getD 0) hcf h
  have hp : ∀ a b (ha : a < l.length) (hb : b < l.length), a < b → entLt l[a] l[b] = true := by
    unfold ordE at hl
    rw [List.pairwise_iff_getElem] at hl
    exact fun a b ha hb hab => hl a b ha hb hab
  have a1 : ∀ i (hi : i < l.length), i < j → entLt l[i] e = true := by
    intro i hi hij
    have h3 := ((hsg _).1.1 (h1 (j - 1) (by omega) (by omega)))
    by_cases e1 : i = j - 1
    · subst e1; exact h3
    · exact entLt_trans (hp i (j - 1) hi (by omega) (by omega)) h3
  have a2 : ∀ i (hi : i < l.length), j ≤ i → entLt e l[i] = true := by
    intro i hi hij
    have hjl : j < l.length := by omega
    have h3 := h2 hjl
    have h4 : entLt e l[j] = true := by
      refine entLt_total (hne _ (List.getElem_mem hjl)) ?_
      cases hc : entLt l[j] e with
      | false => rfl
      | true => have := (hsg _).1.2 hc; omega
    by_cases e1 : j = i
    · subst e1; exact h4
    · exact entLt_trans h4 (hp j i hjl hi (by omega))
  have asym : ∀ a b : Ent, entLt a b = true → entLt b a = false := by
    intro a b hab
    cases hc : entLt b a with
    | false => rfl
    | true =>
      have := entLt_trans hab hc
      unfold entLt at this
      rw [sLt_irrefl] at this
      simp at this
  refine ⟨j, hj, ?_, spec_l9Put_at l e j h hj (fun i hi hij => asym _ _ (a1 i hi hij)) (fun hi => a2 j hi (Nat.le_refl _)), ordE_ins hl a1 a2⟩
  unfold impl_put slices_BinarySearchFunc_39542_at_impl_compareEnts
  rw [hb]
  simp only [bindC_go]
  have hfound : (if (decide ((j : Int) < ((l.length : Nat) : Int))) = true then ((idx l (j : Int)).bind fun E18 => (impl_compareEnts E18 e).bind fun R20 => some (decide (R20 = (0 : Int)))) else (some false)) = some false := by
    by_cases hjl : j < l.length
    · rw [if_pos (by simpa using hjl), idx_nat l j hjl]
      obtain ⟨r, hr, _, hr2⟩ := compareEnts_sign l[j] e
      simp only [Option.bind_some, hr]
      rw [decide_eq_false fun h0 => hne _ (List.getElem_mem hjl) (hr2.1 h0)]
    · rw [if_neg (by simpa using hjl)]
  rw [hfound]
  simp only [Option.bind_some, Bool.false_eq_true, if_false, insEnts_eq l e j hj h]
def opV (o : Op) : Bool := decide (1 ≤ (o.Key.length : Int) ∧ (o.Key.length : Int) ≤ 10) && (decide ((o.Val.length : Int) ≤ 16) && (!o.Del || decide (o.Val = [])))
theorem spec_l7Op_eq (o : Op) : spec_l7Op o = some (opV o) := by
  unfold spec_l7Op opV
  simp only [l1In_eq, Option.bind_some]
  by_cases h1 : 1 ≤ (o.Key.length : Int) ∧ (o.Key.length : Int) ≤ 10 <;> by_cases h3 : (o.Val.length : Int) ≤ 16 <;> cases h4 : o.Del <;>
    simp only [h1, h3, and_self, decide_true, decide_false, if_true, if_false, Option.bind_some, Bool.true_and, Bool.false_and, Bool.not_true, Bool.not_false, Bool.false_eq_true, Bool.true_or, Bool.false_or, Bool.and_true, Bool.and_false]
theorem impl_opOk_eq (o : Op) : ((impl_isKey o.Key).bind fun R11 => if (!R11) = true then (some true) else ((impl_isVal o.Del o.Val).bind fun R15 => some (!R15))) = some (!opV o) := by
  unfold impl_isKey impl_isVal opV
  simp only [inRange_eq, Option.bind_some]
  by_cases h1 : 1 ≤ (o.Key.length : Int) ∧ (o.Key.length : Int) ≤ 10 <;> by_cases h3 : (o.Val.length : Int) ≤ 16 <;> cases h4 : o.Del <;>
    simp only [h1, h3, and_self, decide_true, decide_false, if_true, if_false, Option.bind_some, Bool.true_and, Bool.false_and, Bool.not_true, Bool.not_false, Bool.false_eq_true, Bool.true_or, Bool.false_or, Bool.and_true, Bool.and_false, Bool.not_not]
def batchV (l : List Op) : Bool := decide (1 ≤ l.length ∧ l.length ≤ 6) && l.all opV
theorem batchI (l : List Op) : decide (1 ≤ ((l.length : Nat) : Int) ∧ ((l.length : Nat) : Int) ≤ 6) = decide (1 ≤ l.length ∧ l.length ≤ 6) := decide_eq_decide.2 (by omega)
theorem spec_BatchOk_eq (l : List Op) (h : l.length ≤ 1048576) : spec_BatchOk l = some (batchV l) := by
  unfold spec_BatchOk batchV
  simp only [l1In_eq, Option.bind_some, batchI]
  by_cases h6 : 1 ≤ l.length ∧ l.length ≤ 6
  · rw [decide_eq_true h6]
    simp only [Bool.not_true, Bool.false_eq_true, if_false, Bool.true_and]
    rw [loopO_is (fun k s => s = (k : Int) ∧ l.all opV = (l.drop k).all opV) l.length (if l.all opV = true then Ctl.go () else Ctl.done false) ?h0 ?h1 ?h2]
    · cases l.all opV <;> rfl
    case h0 => exact ⟨rfl, rfl⟩
    · rintro k s hk ⟨rfl, he⟩
      simp only [idx_nat l k hk, Option.bind_some, spec_l7Op_eq]
      rw [if_pos (by simpa using hk), wrap_ok (n := (k : Int) + 1) (by omega) (by omega), he, List.drop_eq_getElem_cons hk, List.all_cons]
      cases hc : opV l[k] with
      | false => right; rfl
      | true => left; exact ⟨(k : Int) + 1, rfl, by omega, by simp⟩
    · rintro s ⟨rfl, he⟩
      rw [he, List.drop_length]
      simp
  · rw [decide_eq_false h6]
    rfl
theorem impl_BatchOk_eq (l : List Op) (h : l.length ≤ 1048576) : impl_BatchOk l = some (batchV l) := by
  unfold impl_BatchOk batchV
  rw [loopO_is (fun k s => s = (k : Int) ∧ l.all opV = (l.drop k).all opV) l.length (if l.all opV = true then Ctl.go () else Ctl.done false) ?h0 ?h1 ?h2]
  · cases l.all opV with
    | false => simp
    | true => simp only [if_true, bindC_go, inRange_eq, Option.bind_some, batchI, Bool.and_true]
  case h0 => exact ⟨rfl, rfl⟩
  · rintro k s hk ⟨rfl, he⟩
    simp only [idx_nat l k hk, Option.bind_some, impl_opOk_eq]
    rw [if_pos (by simpa using hk), wrap_ok (n := (k : Int) + 1) (by omega) (by omega), he, List.drop_eq_getElem_cons hk, List.all_cons]
    cases hc : opV l[k] with
    | false => right; rfl
    | true => left; exact ⟨(k : Int) + 1, rfl, by omega, by simp⟩
  · rintro s ⟨rfl, he⟩
    rw [he, List.drop_length]
    simp
def laterV (l : List Op) (k : Nat) (key : List UInt8) : Bool := (l.drop (k + 1)).any fun x => decide (x.Key = key)
theorem containsOp_eq (s : List Op) (c : Op) (h : s.length ≤ 1048576) : slices_ContainsFunc_6733_at_impl_Eng_engPut_1 s c = some (s.any fun x => decide (x.Key = c.Key)) := by
  unfold slices_ContainsFunc_6733_at_impl_Eng_engPut_1
  have key : ∃ r : Int, slices_IndexFunc_6733_at_impl_Eng_engPut_1 s c = some r ∧ decide (r ≥ 0) = s.any fun x => decide (x.Key = c.Key) := by
    unfold slices_IndexFunc_6733_at_impl_Eng_engPut_1 impl_Eng_engPut_1
    obtain ⟨r, hr, hq⟩ := loopO_total (ρ := Ctl Unit Int) (s0 := (0 : Int)) (body := fun (S1 : Int) => if (decide (S1 < ((s.length : Nat) : Int))) = true then ((idx s S1).bind fun E6 =>
      (some (decide (E6.Key = c.Key))).bind fun R8 =>
      if R8 = true then (some (.done (.done S1)))
      else (some (.go (IntKind.i64.wrap (S1 + (1 : Int))))))
      else (some (.done (.go ()))))
      (fun k t => t = (k : Int) ∧ (s.any fun x => decide (x.Key = c.Key)) = (s.drop k).any fun x => decide (x.Key = c.Key)) s.length
      (fun r => (∃ i : Nat, r = .done (i : Int) ∧ (s.any fun x => decide (x.Key = c.Key)) = true) ∨ (r = .go () ∧ (s.any fun x => decide (x.Key = c.Key)) = false))
      ⟨rfl, rfl⟩ (by
        rintro k t hk ⟨rfl, he⟩
        rw [List.drop_eq_getElem_cons hk, List.any_cons] at he
        simp only [idx_nat s k hk, Option.bind_some]
        rw [if_pos (by simpa using hk), wrap_ok (n := (k : Int) + 1) (by omega) (by omega)]
        cases hc : decide (s[k].Key = c.Key) with
        | true =>
          right
          rw [hc] at he
          exact ⟨_, rfl, .inl ⟨k, rfl, he⟩⟩
        | false =>
          left
          rw [hc] at he
          exact ⟨(k : Int) + 1, rfl, by omega, he⟩) (by
        rintro t ⟨rfl, he⟩
        rw [List.drop_length] at he
        exact ⟨.go (), by simp, .inr ⟨rfl, he⟩⟩)
    rw [hr]
    rcases hq with ⟨i, rfl, h2⟩ | ⟨rfl, h2⟩
    · exact ⟨(i : Int), rfl, by rw [h2]; simp⟩
    · exact ⟨-1, rfl, by rw [h2]; rfl⟩
  obtain ⟨r, hr, h2⟩ := key
  rw [hr]
  simp only [Option.bind_some, h2]
theorem last_loop {ρ : Type} (l : List Op) (k : Nat) (hk : k < l.length) (h : l.length ≤ 1048576) :
    loopO (ρ := Ctl Bool ρ) (fun (S23 : Bool × Int) => if (decide (S23.2 < ((l.length : Nat) : Int))) = true then ((if S23.1 = true then ((idx l S23.2).bind fun E31 =>
  (idx l (k : Int)).bind fun E33 =>
  some (!(decide (E31.Key = E33.Key))))
  else (some false)).bind (fun (T28 : Bool) =>
  some (.go (T28, IntKind.i64.wrap (S23.2 + (1 : Int))))))
  else (some (.done (.go S23.1))))
  (true, IntKind.i64.wrap ((k : Int) + (1 : Int))) = some (.go (!laterV l k l[k].Key)) := by
  rw [loopO_count (fun d => (!(((l.drop (k + 1)).take d).any fun x => decide (x.Key = l[k].Key)), ((k + 1 + d : Nat) : Int))) (l.length - (k + 1)) (r := Ctl.go (!laterV l k l[k].Key)) ?h0]
  case h0 => rw [wrap_ok (by omega) (by omega)]; simp
  · intro d hd
    have hkd : k + 1 + d < l.length := by omega
    have hdd : d < (l.drop (k + 1)).length := by simp; omega
    have ht : (l.drop (k + 1)).take (d + 1) = (l.drop (k + 1)).take d ++ [l[k + 1 + d]] := by
      rw [List.take_add_one, List.getElem?_eq_getElem hdd, List.getElem_drop]; rfl
    simp only [idx_nat l _ hkd, idx_nat l k hk, Option.bind_some, ht, List.any_append, List.any_cons, List.any_nil, Bool.or_false]
    rw [if_pos (by simp only [decide_eq_true_eq]; omega), wrap_ok (by omega) (by omega)]
    cases ((l.drop (k + 1)).take d).any fun x => decide (x.Key = l[k].Key) with
    | false => simp; omega
    | true => simp; omega
  · rw [show k + 1 + (l.length - (k + 1)) = l.length by omega, List.take_of_length_le (by simp)]
    simp [laterV]
def entO (o : Op) (seq : Int) : Ent := { Key := o.Key, Seq := seq, Del := o.Del, Val := o.Val }
noncomputable def memB (l : List Op) (seq : Int) (m : List Ent) : Nat → List Ent
  | 0 => m
  | k + 1 => match l[k]? with
    | some o => bif laterV l k o.Key then memB l seq m k else (spec_l9Put (memB l seq m k) (entO o seq)).getD []
    | none => memB l seq m k
theorem memB_later (l : List Op) (seq : Int) (m : List Ent) (k : Nat) (hk : k < l.length) (h : laterV l k l[k].Key = true) : memB l seq m (k + 1) = memB l seq m k := by
  show (match l[k]? with | some o => _ | none => _) = _
  rw [List.getElem?_eq_getElem hk]
  simp only [h, cond_true]
theorem memB_put (l : List Op) (seq : Int) (m : List Ent) (k : Nat) (hk : k < l.length) (h : laterV l k l[k].Key = false) : memB l seq m (k + 1) = (spec_l9Put (memB l seq m k) (entO l[k] seq)).getD [] := by
  show (match l[k]? with | some o => _ | none => _) = _
  rw [List.getElem?_eq_getElem hk]
  simp only [h, cond_false]
def invB (l : List Op) (seq : Int) (m : List Ent) (k : Nat) (x : Ent) : Prop := x ∈ m ∨ ∃ i, ∃ hi : i < l.length, i < k ∧ laterV l i l[i].Key = false ∧ x = entO l[i] seq
theorem memB_new (l : List Op) (seq : Int) (m M : List Ent) (k : Nat) (hk : k < l.length) (hs : ∀ x ∈ m, x.Seq < seq) (hM : ∀ x ∈ M, invB l seq m k x) : ∀ x ∈ M, ¬ (x.Key = (entO l[k] seq).Key ∧ x.Seq = (entO l[k] seq).Seq) := by
  rintro x hx ⟨h1, h2⟩
  rcases hM x hx with h | ⟨i, hi, hik, hla, rfl⟩
  · have := hs x h
    have h3 : x.Seq = seq := h2
    omega
  · unfold laterV at hla
    rw [List.any_eq_false] at hla
    have hm : l[k] ∈ l.drop (i + 1) := by
      have : (l.drop (i + 1))[k - (i + 1)]'(by simp; omega) = l[k] := by
        rw [List.getElem_drop]
        congr 1
        omega
      rw [← this]
      exact List.getElem_mem _
    refine hla _ hm ?_
    have h3 : l[i].Key = l[k].Key := h1
    rw [h3]
    simp
theorem memB_step (l : List Op) (seq : Int) (m : List Ent) (hm : ordE m) (hs : ∀ x ∈ m, x.Seq < seq) (hl : m.length + l.length ≤ 1048576) : ∀ k, k ≤ l.length → ordE (memB l seq m k) ∧ (memB l seq m k).length ≤ m.length + k ∧ (∀ x ∈ memB l seq m k, invB l seq m k x) ∧ (∀ x ∈ m, x ∈ memB l seq m k) := by
  intro k
  induction k with
  | zero => intro _; exact ⟨hm, Nat.le_refl _, fun x hx => .inl hx, fun x hx => hx⟩
  | succ k ih =>
    intro hk
    obtain ⟨i1, i2, i3, i4⟩ := ih (by omega)
    have hk' : k < l.length := by omega
    cases hla : laterV l k l[k].Key with
    | true =>
      rw [memB_later l seq m k hk' hla]
      refine ⟨i1, by omega, fun x hx => ?_, i4⟩
      rcases i3 x hx with h | ⟨i, hi, hik, h⟩
      · exact .inl h
      · exact .inr ⟨i, hi, by omega, h⟩
    | false =>
      obtain ⟨j, hj, _, h2, h3⟩ := put_both (memB l seq m k) (entO l[k] seq) i1 (by omega) (memB_new l seq m _ k hk' hs i3)
      rw [memB_put l seq m k hk' hla, h2]
      refine ⟨h3, ?_, fun x hx => ?_, fun x hx => ?_⟩
      · rw [Option.getD_some, insE_len _ _ _ hj]; omega
      · rcases insE_mem.1 hx with rfl | hx
        · exact .inr ⟨k, hk', by omega, hla, rfl⟩
        · rcases i3 x hx with h | ⟨i, hi, hik, h⟩
          · exact .inl h
          · exact .inr ⟨i, hi, by omega, h⟩
      · exact insE_mem.2 (.inr (i4 x hx))
theorem memB_both (l : List Op) (seq : Int) (m : List Ent) (hm : ordE m) (hs : ∀ x ∈ m, x.Seq < seq) (hl : m.length + l.length ≤ 1048576) (k : Nat) (hk : k < l.length) (hla : laterV l k l[k].Key = false) :
    impl_put (memB l seq m k) (entO l[k] seq) = some (memB l seq m (k + 1), true) ∧ spec_l9Put (memB l seq m k) (entO l[k] seq) = some (memB l seq m (k + 1)) := by
  obtain ⟨i1, i2, i3, _⟩ := memB_step l seq m hm hs hl k (by omega)
  obtain ⟨j, hj, h1, h2, _⟩ := put_both (memB l seq m k) (entO l[k] seq) i1 (by omega) (memB_new l seq m _ k hk hs i3)
  rw [memB_put l seq m k hk hla, h1, h2]
  exact ⟨rfl, rfl⟩
theorem rangeV_bounds (m : Int) : ∀ (l : List Ent) (s : Int × Int), (m ≤ (l.foldl (fun s e => (goMin s.1 e.Seq, goMax s.2 e.Seq)) s).1 ↔ m ≤ s.1 ∧ ∀ x ∈ l, m ≤ x.Seq) ∧ ((l.foldl (fun s e => (goMin s.1 e.Seq, goMax s.2 e.Seq)) s).2 ≤ m ↔ s.2 ≤ m ∧ ∀ x ∈ l, x.Seq ≤ m)
  | [], s => by simp
  | e :: l, s => by
    obtain ⟨h1, h2⟩ := rangeV_bounds m l (goMin s.1 e.Seq, goMax s.2 e.Seq)
    simp only [List.foldl_cons]
    rw [h1, h2]
    have e1 : m ≤ goMin s.1 e.Seq ↔ m ≤ s.1 ∧ m ≤ e.Seq := by unfold goMin; split <;> omega
    have e2 : goMax s.2 e.Seq ≤ m ↔ s.2 ≤ m ∧ e.Seq ≤ m := by unfold goMax; split <;> omega
    rw [e1, e2]
    exact ⟨by simp only [List.mem_cons, forall_eq_or_imp, and_assoc], by simp only [List.mem_cons, forall_eq_or_imp, and_assoc]⟩
theorem rangeV_lo (l : List Ent) (m : Int) : m ≤ (rangeV l).1 ↔ m ≤ 1000001 ∧ ∀ x ∈ l, m ≤ x.Seq := (rangeV_bounds m l _).1
theorem rangeV_hi (l : List Ent) (m : Int) : (rangeV l).2 ≤ m ↔ -1 ≤ m ∧ ∀ x ∈ l, x.Seq ≤ m := (rangeV_bounds m l _).2
theorem tabsV_up {seq seq' low low' : Int} (h1 : low ≤ low' ∨ seq < low') (h2 : seq ≤ seq') : ∀ t : List (List Ent), tabsV seq low t = true → tabsV seq' low' t = true := by
  have go : ∀ (t : List (List Ent)) (low : Int), tabsV seq low t = true → tabsV seq' low t = true := by
    intro t
    induction t with
    | nil => intro _ _; rfl
    | cons x t ih =>
      intro low h
      simp only [tabsV, Bool.and_eq_true, decide_eq_true_eq] at h ⊢
      exact ⟨⟨h.1.1, h.1.2.1, h.1.2.2.1, by omega⟩, ih _ h.2⟩
  intro t h
  cases t with
  | nil => rfl
  | cons x t =>
    simp only [tabsV, Bool.and_eq_true, decide_eq_true_eq] at h ⊢
    exact ⟨⟨h.1.1, h.1.2.1, by omega, by omega⟩, go _ _ h.2⟩
theorem snapsV_up {seq seq' : Int} {l : List Int} (h2 : seq ≤ seq') (h : snapsV seq l = true) : snapsV seq' l = true := by
  unfold snapsV
  rw [List.all_eq_true]
  intro k hk
  have hk' : k < l.length := by simpa using hk
  obtain ⟨a, b⟩ := snaps_at h k hk'
  rw [snapP_at seq' l k hk', Bool.and_eq_true]
  refine ⟨decide_eq_true ⟨a.1, by omega⟩, ?_⟩
  by_cases h0 : 0 < k
  · rw [dif_pos h0]; exact decide_eq_true (b h0)
  · rw [dif_neg h0]
noncomputable def engB (e : Eng) (l : List Op) : Eng := { Mem := memB l (e.Seq + 1) e.Mem l.length, Tables := e.Tables, Seq := e.Seq + 1, Snaps := e.Snaps }
noncomputable def okB (e : Eng) (l : List Op) : Bool := decide (e.Seq + 1 ≤ 1000000) && (decide ((memB l (e.Seq + 1) e.Mem l.length).length ≤ 60) && decide (totalV e.Tables + (memB l (e.Seq + 1) e.Mem l.length).length ≤ 400))
theorem engV_all {e : Eng} (h : engV e = true) : (0 ≤ e.Seq ∧ e.Seq ≤ 1000000) ∧ e.Snaps.length ≤ 4 ∧ e.Tables.length ≤ 6 ∧ totalV e.Tables + e.Mem.length ≤ 400 ∧ (e.Mem.length ≤ 60 ∧ entsV e.Mem = true) ∧ (rangeV e.Mem).2 ≤ e.Seq ∧ tabsV e.Seq (rangeV e.Mem).1 e.Tables = true ∧ snapsV e.Seq e.Snaps = true := by
  unfold engV memV at h
  simp only [Bool.and_eq_true, decide_eq_true_eq] at h
  obtain ⟨⟨h1, h2, h3, h4, h5, h6, h7⟩, h8⟩ := h
  exact ⟨h1, h2, h3, h4, h5, h6, h7, h8⟩
theorem engB_mem {e : Eng} {l : List Op} (h : engV e = true) (hb : batchV l = true) : ordE e.Mem ∧ (∀ x ∈ e.Mem, x.Seq < e.Seq + 1) ∧ e.Mem.length + l.length ≤ 66 := by
  obtain ⟨h1, h2, h3, h4, h5, h6, h7, h8⟩ := engV_all h
  unfold batchV at hb
  rw [Bool.and_eq_true, decide_eq_true_eq] at hb
  refine ⟨((entsV_iff _).1 h5.2).2, fun x hx => ?_, by omega⟩
  have := ((rangeV_hi _ _).1 h6).2 x hx
  omega
theorem engB_ok {e : Eng} {l : List Op} (h : engV e = true) (hb : batchV l = true) : engV (engB e l) = okB e l := by
  obtain ⟨h1, h2, h3, h4, h5, h6, h7, h8⟩ := engV_all h
  obtain ⟨g1, g2, g3⟩ := engB_mem h hb
  obtain ⟨i1, i2, i3, i4⟩ := memB_step l (e.Seq + 1) e.Mem g1 g2 (by omega) l.length (Nat.le_refl _)
  unfold batchV at hb
  rw [Bool.and_eq_true, decide_eq_true_eq, List.all_eq_true] at hb
  unfold okB engB engV memV
  simp only
  rw [decide_eq_true h2, decide_eq_true h3, snapsV_up (by omega) h8]
  by_cases c1 : e.Seq + 1 ≤ 1000000
  · have c1' : 0 ≤ e.Seq + 1 ∧ e.Seq + 1 ≤ 1000000 := by omega
    rw [decide_eq_true c1, decide_eq_true c1']
    have hents : entsV (memB l (e.Seq + 1) e.Mem l.length) = true := by
      rw [entsV_iff]
      refine ⟨fun x hx => ?_, i1⟩
      rcases i3 x hx with hx | ⟨i, hi, _, _, rfl⟩
      · exact ((entsV_iff _).1 h5.2).1 x hx
      · have := hb.2 _ (List.getElem_mem hi)
        unfold opV at this
        rw [Bool.and_eq_true, Bool.and_eq_true] at this
        unfold entV entO
        simp only
        rw [this.1, this.2.1, this.2.2, decide_eq_true c1']
        rfl
    have hhi : (rangeV (memB l (e.Seq + 1) e.Mem l.length)).2 ≤ e.Seq + 1 := by
      rw [rangeV_hi]
      refine ⟨by omega, fun x hx => ?_⟩
      rcases i3 x hx with hx | ⟨i, hi, _, _, rfl⟩
      · have := g2 x hx; omega
      · exact Int.le_refl _
    have hlo : (rangeV e.Mem).1 ≤ (rangeV (memB l (e.Seq + 1) e.Mem l.length)).1 ∨ e.Seq < (rangeV (memB l (e.Seq + 1) e.Mem l.length)).1 := by
      by_cases c : (rangeV e.Mem).1 ≤ e.Seq + 1
      · left
        rw [rangeV_lo]
        have := (rangeV_lo e.Mem (rangeV e.Mem).1).1 (Int.le_refl _)
        refine ⟨this.1, fun x hx => ?_⟩
        rcases i3 x hx with hx | ⟨i, hi, _, _, rfl⟩
        · exact this.2 x hx
        · exact c
      · right
        have : e.Seq + 1 ≤ (rangeV (memB l (e.Seq + 1) e.Mem l.length)).1 := by
          rw [rangeV_lo]
          have h9 := (rangeV_lo e.Mem (rangeV e.Mem).1).1 (Int.le_refl _)
          refine ⟨by omega, fun x hx => ?_⟩
          rcases i3 x hx with hx | ⟨i, hi, _, _, rfl⟩
          · have := h9.2 x hx; omega
          · exact Int.le_refl _
        omega
    rw [hents, decide_eq_true hhi, tabsV_up hlo (by omega) _ h7]
    cases decide ((memB l (e.Seq + 1) e.Mem l.length).length ≤ 60) <;> cases decide (totalV e.Tables + (memB l (e.Seq + 1) e.Mem l.length).length ≤ 400) <;> rfl
  · have c1' : ¬ (0 ≤ e.Seq + 1 ∧ e.Seq + 1 ≤ 1000000) := by omega
    rw [decide_eq_false c1, decide_eq_false c1']
    rfl
noncomputable def putR (e : Eng) (l : List Op) : Eng × Bool := bif engV e then (bif batchV l then (bif okB e l then (engB e l, true) else (e, false)) else (e, false)) else ({ Mem := [], Tables := [], Seq := 0, Snaps := [] }, false)
theorem spec_EngPut_eq (e : Eng) (l : List Op) (h1 : e.Mem.length ≤ 1048576) (h2 : e.Tables.length ≤ 1048576) (h3 : totalV e.Tables ≤ 1048576) (h4 : e.Snaps.length ≤ 1048576) (h5 : l.length ≤ 1048576) : spec_EngPut e l = some (putR e l) := by
  have hlen : ∀ t ∈ e.Tables, t.length ≤ 1048576 := fun t ht => Nat.le_trans (sum_mem List.length ht) h3
  unfold spec_EngPut putR
  rw [spec_EngOk_eq e h1 h2 h3 h4]
  cases hv : engV e with
  | false => rfl
  | true =>
    simp only [Option.bind_some, Bool.not_true, Bool.false_eq_true, if_false, spec_l20Copy_eq e h1 h2 hlen h4, cond_true, spec_BatchOk_eq l h5]
    cases hb : batchV l with
    | false => rfl
    | true =>
      have hseq := (engV_all hv).1
      obtain ⟨g1, g2, g3⟩ := engB_mem hv hb
      have hw : IntKind.i64.wrap (e.Seq + (1 : Int)) = e.Seq + 1 := wrap_ok (by omega) (by omega)
      obtain ⟨i1, i2, i3, i4⟩ := memB_step l (e.Seq + 1) e.Mem g1 g2 (by omega) l.length (Nat.le_refl _)
      simp only [Bool.not_true, Bool.false_eq_true, if_false, cond_true, hw]
      rw [loopO_count (fun k => ((k : Int), memB l (e.Seq + 1) e.Mem k)) l.length (r := Ctl.go (memB l (e.Seq + 1) e.Mem l.length)) ?h0]
      case h0 => rfl
      · simp only [bindC_go]
        have hx := spec_EngOk_eq (engB e l) (by show (memB l (e.Seq + 1) e.Mem l.length).length ≤ _; omega) h2 h3 h4
        rw [engB_ok hv hb] at hx
        unfold engB at hx ⊢
        rw [hx]
        cases okB e l <;> rfl
      · intro k hk
        rw [if_pos (by simpa using hk), last_loop l k hk h5]
        simp only [bindC_go, idx_nat l k hk, Option.bind_some]
        rw [wrap_ok (n := (k : Int) + 1) (by omega) (by omega)]
        cases hla : laterV l k l[k].Key with
        | true =>
          rw [memB_later l _ _ k hk hla]
          rfl
        | false =>
          have hp := (memB_both l (e.Seq + 1) e.Mem g1 g2 (by omega) k hk hla).2
          unfold entO at hp
          simp only [Bool.not_false, if_true, hp, Option.bind_some, bindC_go]
          rfl
      · simp
theorem impl_engPut_eq (e : Eng) (l : List Op) (hv : engV e = true) (hb : batchV l = true) : impl_Eng_engPut e l = some (okB e l, engB e l) := by
  obtain ⟨hseq, s2, s3, s4, s5, _⟩ := engV_all hv
  obtain ⟨g1, g2, g3⟩ := engB_mem hv hb
  have hw : IntKind.i64.wrap (e.Seq + (1 : Int)) = e.Seq + 1 := wrap_ok (by omega) (by omega)
  obtain ⟨i1, i2, i3, i4⟩ := memB_step l (e.Seq + 1) e.Mem g1 g2 (by omega) l.length (Nat.le_refl _)
  unfold impl_Eng_engPut
  simp only [hw]
  rw [loopO_count (fun k => (true, (k : Int), memB l (e.Seq + 1) e.Mem k)) l.length (r := Ctl.go (true, memB l (e.Seq + 1) e.Mem l.length)) ?h0]
  case h0 => rfl
  · simp only [bindC_go, if_true, impl_totalOf_eq e.Tables (by omega) (by omega), Option.bind_some]
    rw [wrap_ok (by omega) (by omega)]
    unfold okB engB
    have d1 : decide ((((memB l (e.Seq + 1) e.Mem l.length).length : Nat) : Int) ≤ 60) = decide ((memB l (e.Seq + 1) e.Mem l.length).length ≤ 60) := decide_eq_decide.2 (by omega)
    have d2 : decide ((totalV e.Tables : Int) + (((memB l (e.Seq + 1) e.Mem l.length).length : Nat) : Int) ≤ 400) = decide (totalV e.Tables + (memB l (e.Seq + 1) e.Mem l.length).length ≤ 400) := decide_eq_decide.2 (by omega)
    rw [d1, d2]
    cases decide (e.Seq + 1 ≤ 1000000) <;> cases decide ((memB l (e.Seq + 1) e.Mem l.length).length ≤ 60) <;> cases decide (totalV e.Tables + (memB l (e.Seq + 1) e.Mem l.length).length ≤ 400) <;> rfl
  · intro k hk
    have hpc : piece l (IntKind.i64.wrap ((k : Int) + (1 : Int))) ((l.length : Nat) : Int) = some (l.drop (k + 1)) := by
      rw [wrap_ok (by omega) (by omega), piece_nat l (k + 1) l.length _ _ (by omega) rfl (by omega) (Nat.le_refl _), List.take_of_length_le (by simp)]
    simp only [idx_nat l k hk, Option.bind_some, hpc, containsOp_eq _ l[k] (by simp; omega : (l.drop (k + 1)).length ≤ 1048576)]
    rw [if_pos (by simpa using hk), wrap_ok (n := (k : Int) + 1) (by omega) (by omega)]
    have hlv : ((l.drop (k + 1)).any fun x => decide (x.Key = l[k].Key)) = laterV l k l[k].Key := rfl
    rw [hlv]
    cases hla : laterV l k l[k].Key with
    | true =>
      rw [memB_later l _ _ k hk hla]
      rfl
    | false =>
      have hp := (memB_both l (e.Seq + 1) e.Mem g1 g2 (by omega) k hk hla).1
      unfold entO at hp
      simp only [Bool.not_false, if_true, hp, Option.bind_some, bindC_go]
      rfl
  · simp
theorem impl_EngPut_eq (e : Eng) (l : List Op) (h1 : e.Mem.length ≤ 1048576) (h2 : e.Tables.length ≤ 1048576) (h3 : totalV e.Tables ≤ 1048576) (h4 : e.Snaps.length ≤ 1048576) (h5 : l.length ≤ 1048576) : impl_EngPut e l = some (putR e l) := by
  have hlen : ∀ t ∈ e.Tables, t.length ≤ 1048576 := fun t ht => Nat.le_trans (sum_mem List.length ht) h3
  unfold impl_EngPut putR
  rw [impl_EngOk_eq e h1 h2 h3 h4]
  cases hv : engV e with
  | false => rfl
  | true =>
    simp only [Option.bind_some, Bool.not_true, Bool.false_eq_true, if_false, impl_copyEng_eq e h1 h2 hlen h4, cond_true, impl_BatchOk_eq l h5]
    cases hb : batchV l with
    | false => rfl
    | true =>
      simp only [Bool.not_true, Bool.false_eq_true, if_false, cond_true, impl_engPut_eq e l hv hb, Option.bind_some]
      cases okB e l <;> rfl
/-! words of bits -/
/-! draws -/
theorem iand255 (p : Int) : 0 ≤ iand .i64 p (255 : Int) ∧ iand .i64 p (255 : Int) ≤ 255 := by
  unfold iand
  have e : (BitVec.ofInt IntKind.i64.bits p &&& BitVec.ofInt IntKind.i64.bits (255 : Int)).toNat ≤ 255 := by
    show (BitVec.ofInt 64 p &&& BitVec.ofInt 64 ((255 : Nat) : Int)).toNat ≤ 255
    rw [BitVec.ofInt_natCast, BitVec.toNat_and, BitVec.toNat_ofNat]
    exact Nat.and_le_right
  generalize (BitVec.ofInt IntKind.i64.bits p &&& BitVec.ofInt IntKind.i64.bits (255 : Int)).toNat = z at e
  rw [wrap_ok (by omega) (by omega)]
  omega
theorem l1New_ok (code : List UInt8) (h : code.length ≤ 1048576) : ∃ q, spec_l1New code = some { b := code, i := 0, h := q } := by
  unfold spec_l1New
  obtain ⟨r, hr, q, rfl⟩ := loopO_total (ρ := Ctl Int L1Cur) (s0 := (IntKind.i64.wrap ((10101 : Int) + ((code.length : Nat) : Int)), (0 : Int))) (body := fun (S1 : Int × Int) => (if (decide (S1.2 < ((code.length : Nat) : Int))) = true then (some (decide (S1.2 < (4000 : Int))))
  else (some false)).bind (fun (T5 : Bool) =>
  if T5 = true then ((idx code S1.2).bind fun E9 =>
  some (.go (iand .i64 (IntKind.i64.wrap (IntKind.i64.wrap (IntKind.i64.wrap (S1.1 * (131 : Int)) + (IntKind.i64.wrap ((E9.toNat : Nat) : Int))) + (7 : Int))) (1073741823 : Int), IntKind.i64.wrap (S1.2 + (1 : Int)))))
  else (some (.done (.go S1.1))))) (fun k S => S.2 = (k : Int)) code.length (fun r => ∃ q, r = .go q) rfl (by
    rintro k ⟨p, i⟩ hk rfl
    simp only
    rw [decide_eq_true (by omega : (k : Int) < ((code.length : Nat) : Int))]
    by_cases c : (k : Int) < 4000
    · left
      rw [decide_eq_true c]
      simp only [if_true, Option.bind_some, idx_nat code k hk]
      exact ⟨_, rfl, by simp only; rw [wrap_ok (by omega) (by omega)]; omega⟩
    · right
      rw [decide_eq_false c]
      exact ⟨.go p, rfl, p, rfl⟩) (by
    rintro ⟨p, i⟩ rfl
    simp only
    rw [decide_eq_false (by omega : ¬ ((code.length : Nat) : Int) < ((code.length : Nat) : Int))]
    exact ⟨.go p, rfl, p, rfl⟩)
  rw [hr]
  exact ⟨q, rfl⟩
theorem l1Byte_ok (b : List UInt8) (i h : Int) (hi : 0 ≤ i ∧ i ≤ b.length) (hb : b.length ≤ 1048576) : ∃ x i' h', spec_l1Byte { b := b, i := i, h := h } = some (x, { b := b, i := i', h := h' }) ∧ (0 ≤ x ∧ x ≤ 255) ∧ (0 ≤ i' ∧ i' ≤ b.length) := by
  unfold spec_l1Byte
  simp only
  by_cases c : i < ((b.length : Nat) : Int)
  · rw [decide_eq_true c]
    simp only [if_true]
    rw [idx_some' hi.1 c]
    simp only [Option.bind_some, bindC_go]
    exact ⟨_, _, _, rfl, iand255 _, by rw [wrap_ok (by omega) (by omega)]; omega⟩
  · rw [decide_eq_false c]
    simp only [Bool.false_eq_true, if_false, bindC_go]
    exact ⟨_, _, _, rfl, iand255 _, hi⟩
theorem l1Below_ok (b : List UInt8) (i h n : Int) (hi : 0 ≤ i ∧ i ≤ b.length) (hb : b.length ≤ 1048576) : ∃ x i' h', spec_l1Below { b := b, i := i, h := h } n = some (x, { b := b, i := i', h := h' }) ∧ (0 ≤ x ∧ (0 < n → x < n) ∧ (n ≤ 0 → x = 0)) ∧ (0 ≤ i' ∧ i' ≤ b.length) := by
  unfold spec_l1Below
  by_cases c : n ≤ 0
  · rw [decide_eq_true c]
    simp only [if_true]
    exact ⟨_, _, _, rfl, ⟨Int.le_refl _, fun h => by omega, fun _ => rfl⟩, hi⟩
  · rw [decide_eq_false c]
    have hnz : nz n = some () := by unfold nz; rw [if_neg (by omega)]
    have hm : ∀ x : Int, 0 ≤ x → 0 ≤ Int.tmod x n ∧ Int.tmod x n < n := fun x hx => ⟨Int.tmod_nonneg _ hx, Int.tmod_lt_of_pos _ (by omega)⟩
    obtain ⟨x1, i1, h1, e1, g1, k1⟩ := l1Byte_ok b i h hi hb
    simp only [Bool.false_eq_true, if_false, e1, Option.bind_some, hnz]
    by_cases c2 : n ≤ 256
    · rw [decide_eq_true c2]
      simp only [if_true]
      have := hm x1 g1.1
      exact ⟨_, _, _, rfl, ⟨this.1, fun _ => this.2, fun h => by omega⟩, k1⟩
    · rw [decide_eq_false c2]
      simp only [Bool.false_eq_true, if_false]
      obtain ⟨x2, i2, h2, e2, g2, k2⟩ := l1Byte_ok b i1 h1 k1 hb
      simp only [e2, Option.bind_some]
      obtain ⟨x3, i3, h3, e3, g3, k3⟩ := l1Byte_ok b i2 h2 k2 hb
      simp only [e3, Option.bind_some]
      obtain ⟨x4, i4, h4, e4, g4, k4⟩ := l1Byte_ok b i3 h3 k3 hb
      simp only [e4, Option.bind_some]
      rw [wrap_ok (n := x1 * 16777216) (by omega) (by omega), wrap_ok (n := x2 * 65536) (by omega) (by omega), wrap_ok (n := x1 * 16777216 + x2 * 65536) (by omega) (by omega), wrap_ok (n := x3 * 256) (by omega) (by omega), wrap_ok (n := x1 * 16777216 + x2 * 65536 + x3 * 256) (by omega) (by omega), wrap_ok (by omega) (by omega)]
      have := hm (x1 * 16777216 + x2 * 65536 + x3 * 256 + x4) (by omega)
      exact ⟨_, _, _, rfl, ⟨this.1, fun _ => this.2, fun h => by omega⟩, k4⟩
theorem l1Once_ok (b : List UInt8) (i h n : Int) (hi : 0 ≤ i ∧ i ≤ b.length) (hb : b.length ≤ 1048576) : ∃ x i' h', spec_l1Once { b := b, i := i, h := h } n = some (x, { b := b, i := i', h := h' }) ∧ (0 ≤ i' ∧ i' ≤ b.length) := by
  unfold spec_l1Once
  obtain ⟨x, i1, h1, e, _, k⟩ := l1Below_ok b i h n hi hb
  simp only [e, Option.bind_some]
  exact ⟨_, _, _, rfl, k⟩
theorem l1PickInt_ok (b : List UInt8) (i h : Int) (l : List Int) (hl : l ≠ []) (hi : 0 ≤ i ∧ i ≤ b.length) (hb : b.length ≤ 1048576) : ∃ x i' h', spec_l1PickInt { b := b, i := i, h := h } l = some (x, { b := b, i := i', h := h' }) ∧ x ∈ l ∧ (0 ≤ i' ∧ i' ≤ b.length) := by
  unfold spec_l1PickInt
  have hp := List.length_pos_iff.2 hl
  obtain ⟨x, i1, h1, e, g, k⟩ := l1Below_ok b i h ((l.length : Nat) : Int) hi hb
  simp only [e, Option.bind_some]
  rw [idx_some' g.1 (g.2.1 (by omega))]
  simp only [Option.bind_some]
  exact ⟨_, _, _, rfl, List.getElem_mem _, k⟩
theorem at_ok (code : List UInt8) (i : Int) (hi : 0 ≤ i ∧ i ≤ 255) (h : code.length ≤ 1048576) : ∃ x, laws_at code i = some x ∧ 0 ≤ x ∧ x ≤ 255 := by
  unfold laws_at
  by_cases c : i < ((code.length : Nat) : Int)
  · rw [decide_eq_true c]
    simp only [if_true]
    rw [idx_some' hi.1 c]
    simp only [Option.bind_some]
    have := (code[i.toNat]'(by omega)).toNat_lt
    exact ⟨_, rfl, by rw [wrap_ok (by omega) (by omega)]; omega⟩
  · rw [decide_eq_false c]
    simp only [Bool.false_eq_true, if_false]
    rw [wrap_ok (n := i * 37) (by omega) (by omega), wrap_ok (n := ((code.length : Nat) : Int) * 11) (by omega) (by omega), wrap_ok (by omega) (by omega)]
    have h1 : 0 ≤ Int.tmod (i * 37 + ((code.length : Nat) : Int) * 11) 256 := Int.tmod_nonneg _ (by omega)
    have h2 : Int.tmod (i * 37 + ((code.length : Nat) : Int) * 11) 256 < 256 := Int.tmod_lt_of_pos _ (by omega)
    exact ⟨_, rfl, h1, by omega⟩
theorem big_eq (code : List UInt8) : laws_big code = some (decide (((code.length : Nat) : Int) > 1048576)) := rfl
theorem l1Text_ok (b : List UInt8) (i h most : Int) (hm : 0 ≤ most ∧ most ≤ 1000) (hi : 0 ≤ i ∧ i ≤ b.length) (hb : b.length ≤ 1048576) : ∃ s i' h', spec_l1Text { b := b, i := i, h := h } most = some (s, { b := b, i := i', h := h' }) ∧ s.length ≤ 1000 ∧ (0 ≤ i' ∧ i' ≤ b.length) := by
  unfold spec_l1Text
  obtain ⟨x1, i1, h1, e1, _, k1⟩ := l1Below_ok b i h 4 hi hb
  simp only [e1, Option.bind_some]
  rw [wrap_ok (n := most + 1) (by omega) (by omega)]
  obtain ⟨x2, i2, h2, e2, g2, k2⟩ := l1Below_ok b i1 h1 (most + 1) k1 hb
  simp only [e2, Option.bind_some]
  have hx2 := g2.2.1 (by omega)
  obtain ⟨r, hr, p, q, s, rfl, hq⟩ := loopO_total (ρ := Ctl (Int × Int × List UInt8) (List UInt8 × L1Cur)) (s0 := (i2, h2, x2, ([] : List UInt8))) (body := fun (S8 : Int × Int × Int × List UInt8) => if (decide (S8.2.2.1 > (0 : Int))) = true then ((spec_l1Byte ({ b := b, i := S8.1, h := S8.2.1 : L1Cur })).bind fun R13 =>
  bindC (if (decide (x1 = (1 : Int))) = true then (some (.go (Int.tmod R13.1 (2 : Int))))
  else (some (.go R13.1)))
  (fun (T16 : Int) => bindC (if (decide (x1 = (2 : Int))) = true then (some (.go (IntKind.i64.wrap ((97 : Int) + (Int.tmod T16 (4 : Int))))))
  else (some (.go T16)))
  (fun (T19 : Int) => (app 1 S8.2.2.2 ([toU8 T19])).bind fun E24 =>
  some (.go (R13.2.i, R13.2.h, IntKind.i64.wrap (S8.2.2.1 - (1 : Int)), E24)))))
  else (some (.done (.go (S8.1, S8.2.1, S8.2.2.2)))))
    (fun k S => (0 ≤ S.1 ∧ S.1 ≤ b.length) ∧ S.2.2.1 = x2 - (k : Int) ∧ S.2.2.2.length = k) x2.toNat (fun r => ∃ p q s, r = .go (p, q, s) ∧ (s.length ≤ 1000 ∧ 0 ≤ p ∧ p ≤ b.length)) ⟨k2, by simp, rfl⟩ (by
      rintro k ⟨p, q, m, s⟩ hk ⟨h3, h4, h5⟩
      simp only at h3 h4 h5
      subst h4
      left
      simp only
      rw [if_pos (by simp only [decide_eq_true_eq]; omega)]
      obtain ⟨x3, i3, h3', e3, _, k3⟩ := l1Byte_ok b p q h3 hb
      rw [e3]
      simp only [Option.bind_some]
      have key : ∃ t : Int, (bindC (if (decide (x1 = (1 : Int))) = true then (some (Ctl.go (Int.tmod x3 (2 : Int)))) else (some (Ctl.go x3)))
        (fun (T16 : Int) => bindC (if (decide (x1 = (2 : Int))) = true then (some (Ctl.go (IntKind.i64.wrap ((97 : Int) + (Int.tmod T16 (4 : Int)))))) else (some (Ctl.go T16)))
        (fun (T19 : Int) => (app 1 s ([toU8 T19])).bind fun E24 => some (Ctl.go (ρ := Ctl (Int × Int × List UInt8) (List UInt8 × L1Cur)) (i3, h3', IntKind.i64.wrap (x2 - (k : Int) - (1 : Int)), E24))))) = some (.go (i3, h3', IntKind.i64.wrap (x2 - (k : Int) - (1 : Int)), s ++ [toU8 t])) := by
        cases decide (x1 = 1) <;> cases decide (x1 = 2) <;> simp only [Bool.false_eq_true, if_false, if_true, bindC_go] <;> rw [app_ok (by simp; omega) (by simp; omega)] <;> exact ⟨_, rfl⟩
      obtain ⟨t, ht⟩ := key
      rw [ht]
      exact ⟨_, rfl, k3, by simp only; rw [wrap_ok (by omega) (by omega)]; omega, by simp; omega⟩) (by
      rintro ⟨p, q, m, s⟩ ⟨h3, h4, h5⟩
      simp only at h3 h4 h5
      subst h4
      simp only
      rw [if_neg (by simp only [decide_eq_true_eq]; omega)]
      exact ⟨_, rfl, p, q, s, rfl, by omega, h3⟩)
  rw [hr]
  exact ⟨s, p, q, rfl, hq.1, hq.2⟩
/-! draws of files and edits -/
theorem loopO_G {τ ρ R : Type} {body : τ → Option (Ctl τ (Ctl ρ R))} {s0 : τ} {f : ρ → Option R} (G : Option R → Prop) (I : Nat → τ → Prop) (n : Nat) (Q : Ctl ρ R → Prop) (h0 : I 0 s0)
    (h : ∀ k s, k < n → I k s → (∃ s', body s = some (.go s') ∧ I (k + 1) s') ∨ (∃ r, body s = some (.done r) ∧ Q r)) (hn : ∀ s, I n s → ∃ r, body s = some (.done r) ∧ Q r)
    (hk : ∀ r, Q r → G (bindC (some r) f)) : G (bindC (loopO body s0) f) := by
  obtain ⟨r, hr, hq⟩ := loopO_total I n Q h0 h hn
  rw [hr]
  exact hk r hq
theorem l1Pick_ok (b : List UInt8) (i h : Int) (l : List (List UInt8)) (hl : l ≠ []) (hi : 0 ≤ i ∧ i ≤ b.length) (hb : b.length ≤ 1048576) : ∃ x i' h', spec_l1Pick { b := b, i := i, h := h } l = some (x, { b := b, i := i', h := h' }) ∧ x ∈ l ∧ (0 ≤ i' ∧ i' ≤ b.length) := by
  unfold spec_l1Pick
  have hp := List.length_pos_iff.2 hl
  obtain ⟨x, i1, h1, e, g, k⟩ := l1Below_ok b i h ((l.length : Nat) : Int) hi hb
  simp only [e, Option.bind_some]
  rw [idx_some' g.1 (g.2.1 (by omega))]
  simp only [Option.bind_some]
  exact ⟨_, _, _, rfl, List.getElem_mem _, k⟩
theorem l7Key_ok (b : List UInt8) (i h : Int) (hi : 0 ≤ i ∧ i ≤ b.length) (hb : b.length ≤ 1048576) : ∃ x i' h', spec_l7Key { b := b, i := i, h := h } = some (x, { b := b, i := i', h := h' }) ∧ x.length ≤ 3 ∧ (0 ≤ i' ∧ i' ≤ b.length) := by
  unfold spec_l7Key
  obtain ⟨x, i1, h1, e, g, k⟩ := l1Pick_ok b i h [[97], [98], [97, 98], [97, 98, 99], [98, 48], [99], [0], [122, 122]] (by simp) hi hb
  simp only [e, Option.bind_some]
  have : ∀ x ∈ ([[97], [98], [97, 98], [97, 98, 99], [98, 48], [99], [0], [122, 122]] : List (List UInt8)), x.length ≤ 3 := by decide
  exact ⟨_, _, _, rfl, this x g, k⟩
/-! reservations: what fits -/
/-! rows of a log -/
/-! streams -/
/-! files sealed -/
/-! a known block -/
/-! all that an iterator meets -/
theorem l7Batch_ok (b : List UInt8) (i h : Int) (hi : 0 ≤ i ∧ i ≤ b.length) (hb : b.length ≤ 1048576) : ∃ l i' h', spec_l7Batch { b := b, i := i, h := h } = some (l, { b := b, i := i', h := h' }) ∧ l.length ≤ 8 ∧ (0 ≤ i' ∧ i' ≤ b.length) := by
  unfold spec_l7Batch
  obtain ⟨x1, i1, h1, e1, g1, k1⟩ := l1Below_ok b i h 4 hi hb
  have hx1 := g1.2.1 (by omega)
  simp only [e1, Option.bind_some]
  rw [wrap_ok (n := 1 + x1) (by omega) (by omega)]
  refine loopO_G (τ := Int × Int × Int × List Op) (ρ := Int × Int × List Op) (R := List Op × L1Cur) (G := fun o => ∃ l i' h', o = some (l, { b := b, i := i', h := h' }) ∧ l.length ≤ 8 ∧ (0 ≤ i' ∧ i' ≤ b.length)) (I := fun k S => (0 ≤ S.1 ∧ S.1 ≤ b.length) ∧ S.2.2.1 = 1 + x1 - (k : Int) ∧ S.2.2.2.length = k) (1 + x1).toNat (Q := fun r => ∃ p q a, r = .go (p, q, a) ∧ (0 ≤ p ∧ p ≤ b.length) ∧ 1 ≤ a.length ∧ a.length ≤ 4) ⟨k1, by simp, by simp⟩ ?_ ?_ ?_
  · rintro k ⟨p, q, c, d⟩ hk ⟨b1, b2, b3⟩
    simp only at b1 b2 b3
    subst b2
    left
    obtain ⟨x3, i3, h3, e3, g3, k3⟩ := l7Key_ok b p q b1 hb
    obtain ⟨x4, i4, h4, e4, k4⟩ := l1Once_ok b i3 h3 3 k3 hb
    simp only [e3, e4, Option.bind_some]
    rw [if_pos (by simp only [decide_eq_true_eq]; omega), wrap_ok (n := 1 + x1 - (k : Int) - 1) (by omega) (by omega)]
    cases x4 with
    | true =>
      simp only [if_true, bindC_go]
      rw [app_ok (by simp only [List.length_singleton]; omega) (by simp only [List.length_singleton]; omega)]
      exact ⟨_, rfl, k4, by simp only; omega, by simp only [List.length_append, List.length_singleton]; omega⟩
    | false =>
      obtain ⟨x5, i5, h5, e5, g5, k5⟩ := l1Text_ok b i4 h4 5 (by omega) k4 hb
      simp only [Bool.false_eq_true, if_false, e5, Option.bind_some, bindC_go]
      rw [app_ok (by simp only [List.length_singleton]; omega) (by simp only [List.length_singleton]; omega)]
      exact ⟨_, rfl, k5, by simp only; omega, by simp only [List.length_append, List.length_singleton]; omega⟩
  · rintro ⟨p, q, c, d⟩ ⟨b1, b2, b3⟩
    simp only at b1 b2 b3
    exact ⟨_, by simp only; rw [if_neg (by simp only [decide_eq_true_eq]; omega)], p, q, d, rfl, b1, by omega, by omega⟩
  rintro _ ⟨p, q, d, rfl, b1, b2, b3⟩
  obtain ⟨x5, i5, h5, e5, k5⟩ := l1Once_ok b p q 10 b1 hb
  simp only [bindC_go, e5, Option.bind_some]
  cases x5 with
  | false =>
    simp only [Bool.false_eq_true, if_false, bindC_go]
    exact ⟨_, _, _, rfl, by omega, k5⟩
  | true =>
    obtain ⟨x6, i6, h6, e6, g6, k6⟩ := l1Below_ok b i5 h5 ((d.length : Nat) : Int) k5 hb
    have hx6 := g6.2.1 (by omega)
    obtain ⟨x7, i7, h7, e7, g7, k7⟩ := l1Below_ok b i6 h6 4 k6 hb
    have hid := idx_some' (l := d) g6.1 hx6
    simp only [if_true, e6, e7, Option.bind_some, hid]
    by_cases c0 : x7 = 0
    · rw [decide_eq_true c0]
      obtain ⟨x8, i8, h8, e8, g8, k8⟩ := l1Pick_ok b i7 h7 [[], [97, 97, 97, 97, 97, 97, 97, 97, 97, 97], [97, 97, 97, 97, 97, 97, 97, 97, 97, 97, 97]] (by simp) k7 hb
      simp only [if_true, e8, Option.bind_some, bindC_go]
      exact ⟨_, _, _, rfl, by simp only [List.length_set]; omega, k8⟩
    · rw [decide_eq_false c0]
      simp only [Bool.false_eq_true, if_false]
      by_cases c1 : x7 = 1
      · rw [decide_eq_true c1]
        obtain ⟨x8, i8, h8, e8, g8, k8⟩ := l1Text_ok b i7 h7 1 (by omega) k7 hb
        simp only [if_true, e8, Option.bind_some]
        rw [cat_ok (by simp only [List.length_cons, List.length_nil]; omega)]
        simp only [Option.bind_some, bindC_go]
        exact ⟨_, _, _, rfl, by simp only [List.length_set]; omega, k8⟩
      · rw [decide_eq_false c1]
        simp only [Bool.false_eq_true, if_false]
        by_cases c2 : x7 = 2
        · rw [decide_eq_true c2]
          simp only [if_true]
          rw [app_ok (by omega) (by omega)]
          simp only [Option.bind_some, bindC_go]
          exact ⟨_, _, _, rfl, by simp only [List.length_append]; omega, k7⟩
        · rw [decide_eq_false c2]
          simp only [Bool.false_eq_true, if_false, bindC_go]
          exact ⟨_, _, _, rfl, by simp, k7⟩
theorem sameMap_eq (a b : List KV) (h : a.length ≤ 1048576) : laws_sameMap a b = some (decide (a = b)) := by
  unfold laws_sameMap
  have := eqS_of a b (fun x y => some (decide (x.Key = y.Key) && (decide (x.Val = y.Val) && true))) (fun x y _ _ => by
    congr 1
    obtain ⟨x1, x2⟩ := x
    obtain ⟨y1, y2⟩ := y
    simp only [KV.mk.injEq, Bool.and_true, Bool.decide_and]) (by omega)
  simp only [Option.bind_some] at this
  exact this
/-! compaction keeps what is seen -/
theorem entsV_pw (l : List Ent) : entsV l = true ↔ (∀ e ∈ l, entV e = true) ∧ l.Pairwise (fun a b => entLt a b = true) := by
  constructor
  · intro hv
    refine ⟨fun e he => ?_, ?_⟩
    · obtain ⟨k, hk, rfl⟩ := List.getElem_of_mem he
      have := entP_of hv k hk
      rw [entP_at l k hk, Bool.and_eq_true] at this
      exact this.1
    · rw [List.pairwise_iff_getElem]
      intro i j hi hj hij
      unfold entLt
      rcases ents_lt hv j hj i hij with h | ⟨h1, h2⟩
      · rw [h]; rfl
      · rw [decide_eq_true h1, decide_eq_true h2]; simp
  · rintro ⟨h1, h2⟩
    rw [List.pairwise_iff_getElem] at h2
    unfold entsV
    rw [List.all_eq_true]
    intro k hk
    have hk' : k < l.length := by simpa using hk
    rw [entP_at l k hk', h1 _ (List.getElem_mem hk'), Bool.true_and]
    by_cases h0 : 0 < k
    · rw [dif_pos h0]; exact h2 (k - 1) k (by omega) hk' (by omega)
    · rw [dif_neg h0]
def visG (seq : Int) : Option (List UInt8) → List Ent → List KV
  | _, [] => []
  | last, e :: r => bif decide (e.Seq ≤ seq) && !decide (last = some e.Key) then (bif e.Del then visG seq (some e.Key) r else { Key := e.Key, Val := e.Val } :: visG seq (some e.Key) r) else visG seq last r
def lastO (p : List UInt8 × Bool) : Option (List UInt8) := bif p.2 then some p.1 else none
theorem vis_eq {l : List Ent} (ho : entsV l = true) (seq : Int) : ∀ (d k : Nat), k + d = l.length → visL l seq l.length = visL l seq k ++ visG seq (lastO (lastS l seq k)) (l.drop k)
  | 0, k, h => by
    have : k = l.length := by omega
    subst this
    rw [List.drop_length]
    simp [visG]
  | d + 1, k, h => by
    have hk : k < l.length := by omega
    rw [vis_eq ho seq d (k + 1) (by omega), visL_succ l seq k hk, lastS_succ l seq k hk, List.drop_eq_getElem_cons hk, List.append_assoc]
    congr 1
    rw [visG]
    by_cases hs : l[k].Seq ≤ seq
    · have hsk := skip_iff ho hk hs
      rw [decide_eq_true hs, Bool.true_and]
      have e : decide (lastO (lastS l seq k) = some l[k].Key) = ((lastS l seq k).2 && decide (l[k].Key = (lastS l seq k).1)) := by
        unfold lastO
        cases (lastS l seq k).2 with
        | false => simp
        | true =>
          simp only [cond_true, Bool.true_and, Option.some.injEq]
          exact decide_eq_decide.2 eq_comm
      rw [e, ← hsk]
      cases visE l seq k with
      | false => simp
      | true => cases l[k].Del <;> simp [lastO]
    · have hv : visE l seq k = false := by rw [visE_at l seq k hk, decide_eq_false hs, Bool.false_and]
      rw [decide_eq_false hs, hv]
      simp
theorem visL_G {l : List Ent} (ho : entsV l = true) (seq : Int) : visL l seq l.length = visG seq none l := by
  rw [vis_eq ho seq l.length 0 (by omega)]
  rfl
def stayG (snaps : List Int) : Option Ent → Ent → Bool
  | none, _ => true
  | some d, e => !decide (d.Key = e.Key) || snaps.any (fun s => decide (e.Seq ≤ s) && decide (s < d.Seq))
def keepG (snaps : List Int) : Option Ent → List Ent → List Ent
  | _, [] => []
  | p, e :: r => bif stayG snaps p e then e :: keepG snaps (some e) r else keepG snaps (some e) r
theorem stayG_some (snaps : List Int) (d e : Ent) : stayG snaps (some d) e = (!decide (d.Key = e.Key) || snaps.any (fun s => decide (e.Seq ≤ s) && decide (s < d.Seq))) := rfl
def prevG (l : List Ent) : Nat → Option Ent
  | 0 => none
  | k + 1 => l[k]?
theorem prevG_succ (l : List Ent) (k : Nat) : prevG l (k + 1) = l[k]? := rfl
theorem stayV_G (snaps : List Int) (l : List Ent) (k : Nat) (hk : k < l.length) : stayV snaps l k = stayG snaps (prevG l k) l[k] := by
  cases k with
  | zero => rfl
  | succ j =>
    rw [stayV_succ snaps l j hk]
    rw [prevG_succ, List.getElem?_eq_getElem (by omega)]
    rfl
theorem keepT_G (snaps : List Int) (l : List Ent) : ∀ (d k : Nat), k + d = l.length → keepT snaps l k d = keepG snaps (prevG l k) (l.drop k)
  | 0, k, h => by
    rw [List.drop_of_length_le (by omega)]
    rfl
  | d + 1, k, h => by
    have hk : k < l.length := by omega
    have h1 : keepT snaps l k 1 = if stayV snaps l k = true then [l[k]] else [] := by
      rw [keepT_succ snaps l k 0 hk]
      simp [keepT]
    have hp : prevG l (k + 1) = some l[k] := by rw [prevG_succ, List.getElem?_eq_getElem hk]
    rw [Nat.add_comm d 1, keepT_add, h1, keepT_G snaps l d (k + 1) (by omega), List.drop_eq_getElem_cons hk, keepG, stayV_G snaps l k hk, hp]
    cases stayG snaps (prevG l k) l[k] <;> simp
theorem compactR_G {l : List Ent} (snaps : List Int) (bottom : Bool) (h1 : l.length ≤ 400) (h2 : entsV l = true) : compactR l snaps bottom = finE bottom (keepG snaps none l) := by
  unfold compactR
  rw [if_pos ⟨h1, h2⟩, keepT_G snaps l l.length 0 (by omega)]
  rfl
theorem keepG_sub (snaps : List Int) : ∀ (p : Option Ent) (l : List Ent), (keepG snaps p l).Sublist l
  | _, [] => List.Sublist.slnil
  | p, e :: r => by
    rw [keepG]
    cases stayG snaps p e with
    | true => exact (keepG_sub snaps (some e) r).cons_cons e
    | false => exact (keepG_sub snaps (some e) r).cons e
theorem tid_sub : ∀ l : List Ent, (tid l).2.Sublist l
  | [] => List.Sublist.slnil
  | e :: t => by
    rw [tid_cons]
    cases ((tid t).1 && sameK e t) || !e.Del with
    | true => exact (tid_sub t).cons_cons e
    | false => exact (tid_sub t).cons e
theorem finE_sub (b : Bool) (l : List Ent) : (finE b l).Sublist l := by
  unfold finE
  cases b with
  | true => exact tid_sub l
  | false => exact List.Sublist.refl l
theorem entsV_sublist {l x : List Ent} (h : x.Sublist l) (hv : entsV l = true) : entsV x = true := by
  rw [entsV_pw] at hv ⊢
  exact ⟨fun e he => hv.1 e (h.mem he), hv.2.sublist h⟩
theorem keep_vis (snaps : List Int) (seq : Int) (hs : ∀ d e : Ent, entV d = true → entV e = true → d.Key = e.Key → e.Seq ≤ seq → seq < d.Seq → stayG snaps (some d) e = true) :
    ∀ (l : List Ent) (p : Option Ent) (last : Option (List UInt8)), (∀ e ∈ l, entV e = true) → (∀ d, p = some d → entV d = true ∧ (d.Seq ≤ seq → last = some d.Key)) → visG seq last (keepG snaps p l) = visG seq last l
  | [], _, _, _, _ => rfl
  | e :: r, p, last, hv, hp => by
    have hve := hv e (by simp)
    have hvr : ∀ x ∈ r, entV x = true := fun x hx => hv x (by simp [hx])
    rw [keepG]
    -- what is met behind e
    have next : ∀ last', (e.Seq ≤ seq → last' = some e.Key) → visG seq last' (keepG snaps (some e) r) = visG seq last' r := fun last' h => keep_vis snaps seq hs r (some e) last' hvr (fun d hd => by cases hd; exact ⟨hve, h⟩)
    cases hst : stayG snaps p e with
    | true =>
      simp only [cond_true]
      rw [visG, visG]
      cases hc : decide (e.Seq ≤ seq) && !decide (last = some e.Key) with
      | true =>
        simp only [cond_true]
        rw [next (some e.Key) (fun _ => rfl)]
      | false =>
        simp only [cond_false]
        refine next last fun h => ?_
        rw [decide_eq_true h, Bool.true_and, Bool.not_eq_false', decide_eq_true_eq] at hc
        exact hc
    | false =>
      simp only [cond_false]
      rw [visG]
      have hskip : e.Seq ≤ seq → last = some e.Key := by
        intro h
        cases p with
        | none => cases hst
        | some d =>
          obtain ⟨hd1, hd2⟩ := hp d rfl
          by_cases hk : d.Key = e.Key
          · rw [← hk]
            refine hd2 ?_
            rcases Int.lt_or_le seq d.Seq with h3 | h3
            · rw [hs d e hd1 hve hk h h3] at hst; cases hst
            · exact h3
          · rw [stayG_some] at hst
            rw [decide_eq_false hk] at hst
            cases hst
      have hc : (decide (e.Seq ≤ seq) && !decide (last = some e.Key)) = false := by
        by_cases h : e.Seq ≤ seq
        · rw [hskip h]; simp
        · rw [decide_eq_false h, Bool.false_and]
      rw [hc]
      simp only [cond_false]
      exact next last hskip
theorem visG_other (seq : Int) : ∀ (l : List Ent) (a b : Option (List UInt8)), (∀ e ∈ l, a ≠ some e.Key) → (∀ e ∈ l, b ≠ some e.Key) → visG seq a l = visG seq b l
  | [], _, _, _, _ => rfl
  | e :: r, a, b, ha, hb => by
    rw [visG, visG, decide_eq_false (ha e (by simp)), decide_eq_false (hb e (by simp))]
    cases decide (e.Seq ≤ seq) with
    | true => rfl
    | false => exact visG_other seq r a b (fun x hx => ha x (by simp [hx])) (fun x hx => hb x (by simp [hx]))
theorem key_le {a b : Ent} (h : entLt a b = true) : sLt a.Key b.Key = true ∨ a.Key = b.Key := by
  unfold entLt at h
  rw [Bool.or_eq_true, Bool.and_eq_true, decide_eq_true_eq] at h
  rcases h with h | h
  · exact .inl h
  · exact .inr h.1
theorem tid_none : ∀ (e : Ent) (t : List Ent), (e :: t).Pairwise (fun a b => entLt a b = true) → (tid (e :: t)).1 = false → ∀ x ∈ (tid (e :: t)).2, e.Key ≠ x.Key
  | e, [], _, h, x, hx => by
    rw [tid_cons] at h hx
    cases hc : ((tid []).1 && sameK e []) || !e.Del with
    | true => rw [hc] at h; cases h
    | false => rw [hc] at hx; simp [tid] at hx
  | e, y :: t, hp, h, x, hx => by
    rw [tid_cons] at h hx
    cases hc : ((tid (y :: t)).1 && sameK e (y :: t)) || !e.Del with
    | true => rw [hc] at h; cases h
    | false =>
      rw [hc] at hx
      simp only [cond_false] at hx
      rw [Bool.or_eq_false_iff] at hc
      obtain ⟨hp1, hp2⟩ := List.pairwise_cons.1 hp
      by_cases hk : e.Key = y.Key
      · have : sameK e (y :: t) = true := decide_eq_true hk
        rw [this, Bool.and_true] at hc
        rw [hk]
        exact tid_none y t hp2 hc.1 x hx
      · intro he
        have hy := key_le (hp1 y (by simp))
        have hlt : sLt e.Key y.Key = true := hy.resolve_right hk
        have hxm := (tid_sub (y :: t)).mem hx
        rcases List.mem_cons.1 hxm with rfl | hxt
        · rw [he, sLt_irrefl] at hlt; cases hlt
        · rcases key_le ((List.pairwise_cons.1 hp2).1 x hxt) with h3 | h3
          · have := sLt_trans hlt h3
            rw [he, sLt_irrefl] at this; cases this
          · rw [he, ← h3, sLt_irrefl] at hlt; cases hlt
theorem tid_vis (seq : Int) : ∀ (l : List Ent) (last : Option (List UInt8)), l.Pairwise (fun a b => entLt a b = true) → (∀ k, last = some k → ∀ e ∈ l, sLt k e.Key = true ∨ k = e.Key) → visG seq last (tid l).2 = visG seq last l
  | [], _, _, _ => rfl
  | e :: t, last, hp, hl => by
    obtain ⟨hp1, hp2⟩ := List.pairwise_cons.1 hp
    have hle : ∀ x ∈ t, sLt e.Key x.Key = true ∨ e.Key = x.Key := fun x hx => key_le (hp1 x hx)
    have ih1 := tid_vis seq t (some e.Key) hp2 (fun k hk x hx => by cases hk; exact hle x hx)
    have ih2 := tid_vis seq t last hp2 (fun k hk x hx => hl k hk x (by simp [hx]))
    have hno := tid_none e t hp
    rw [tid_cons] at hno ⊢
    cases hc : ((tid t).1 && sameK e t) || !e.Del with
    | true =>
      simp only [cond_true]
      rw [visG, visG, ih1, ih2]
    | false =>
      rw [hc] at hno
      simp only [cond_false] at hno ⊢
      have hno := hno trivial
      rw [visG]
      cases hv : decide (e.Seq ≤ seq) && !decide (last = some e.Key) with
      | false => simp only [cond_false]; exact ih2
      | true =>
        rw [Bool.or_eq_false_iff, Bool.not_eq_false'] at hc
        simp only [cond_true, hc.2]
        rw [← ih1]
        rw [Bool.and_eq_true, Bool.not_eq_true', decide_eq_false_iff_not] at hv
        refine visG_other seq _ _ _ ?_ ?_
        · intro x hx hx2
          have hxt := (tid_sub t).mem hx
          rcases hl x.Key hx2 e (by simp) with h3 | h3
          · rcases hle x hxt with h4 | h4
            · have := sLt_trans h3 h4
              rw [sLt_irrefl] at this; cases this
            · rw [h4, sLt_irrefl] at h3; cases h3
          · exact hv.2 (by rw [hx2, h3])
        · intro x hx hx2
          exact hno x hx (Option.some.inj hx2)
theorem fin_vis (seq : Int) (b : Bool) (l : List Ent) (hp : l.Pairwise (fun a b => entLt a b = true)) : visG seq none (finE b l) = visG seq none l := by
  unfold finE
  cases b with
  | true => exact tid_vis seq l none hp (fun k hk => by cases hk)
  | false => rfl
theorem compact_seen {l : List Ent} (snaps : List Int) (bottom : Bool) (h1 : l.length ≤ 400) (h2 : entsV l = true) : entsV (compactR l snaps bottom) = true ∧ seenV (compactR l snaps bottom) snaps = seenV l snaps := by
  have hx := compactR_G snaps bottom h1 h2
  have hsub : (compactR l snaps bottom).Sublist l := by rw [hx]; exact (finE_sub _ _).trans (keepG_sub _ _ _)
  have hv := entsV_sublist hsub h2
  have hkv := entsV_sublist (keepG_sub snaps none l) h2
  refine ⟨hv, ?_⟩
  have key : ∀ seq : Int, (∀ d e : Ent, entV d = true → entV e = true → d.Key = e.Key → e.Seq ≤ seq → seq < d.Seq → stayG snaps (some d) e = true) → visL (compactR l snaps bottom) seq (compactR l snaps bottom).length = visL l seq l.length := by
    intro seq hs
    rw [visL_G hv, visL_G h2, hx, fin_vis seq bottom _ ((entsV_pw _).1 hkv).2]
    exact keep_vis snaps seq hs l none none ((entsV_pw l).1 h2).1 (fun d hd => by cases hd)
  unfold seenV
  congr 1
  · refine List.map_congr_left fun s hs => key s ?_
    intro d e _ _ hk h3 h4
    rw [stayG_some]
    rw [Bool.or_eq_true, List.any_eq_true]
    exact .inr ⟨s, hs, by rw [decide_eq_true h3, decide_eq_true h4]; rfl⟩
  · rw [key 1000000 fun d e hd _ _ _ h4 => by
      unfold entV at hd
      simp only [Bool.and_eq_true, decide_eq_true_eq] at hd
      omega]
/-! draws of entries -/
theorem l9Put_ok (m : List Ent) (o : Ent) (hm : m.length ≤ 1000000) : ∃ r, spec_l9Put m o = some r ∧ r.length ≤ m.length + 1 := by
  unfold spec_l9Put
  refine loopO_G (τ := Bool × Int × List Ent) (ρ := Bool × List Ent) (R := List Ent) (G := fun o => ∃ r, o = some r ∧ r.length ≤ m.length + 1) (I := fun k S => S.2.1 = (k : Int) ∧ S.2.2.length = k + if S.1 = true then 1 else 0) m.length (Q := fun r => ∃ b a, r = .go (b, a) ∧ a.length = m.length + if b = true then 1 else 0) ⟨rfl, by simp⟩ ?_ ?_ ?_
  · rintro k ⟨b, c, a⟩ hk ⟨h1, h2⟩
    simp only at h1 h2
    subst h1
    left
    simp only
    rw [if_pos (by simpa using hk), idx_nat m k hk, wrap_ok (n := (k : Int) + 1) (by omega) (by omega)]
    simp only [Option.bind_some, spec_l9Ahead_eq]
    have key : ∀ (b : Bool) (a : List Ent), a.length = k + (if b = true then 1 else 0) → ∃ s' : Bool × Int × List Ent, ((app 48 a ([m[k]])).bind fun E27 =>
        some (Ctl.go (ρ := Ctl (Bool × List Ent) (List Ent)) (b, (k : Int) + 1, E27))) = some (Ctl.go s') ∧ s'.2.1 = ((k + 1 : Nat) : Int) ∧ s'.2.2.length = k + 1 + if s'.1 = true then 1 else 0 := by
      intro b a ha
      have ha2 : a.length ≤ k + 1 := by split at ha <;> omega
      rw [app_ok (by simp only [List.length_singleton]; omega) (by simp only [List.length_singleton]; omega)]
      exact ⟨_, rfl, by simp, by simp only [List.length_append, List.length_singleton]; omega⟩
    cases b with
    | true =>
      simp only [Bool.not_true, Bool.false_eq_true, if_false, Option.bind_some, bindC_go]
      exact key true a h2
    | false =>
      simp only [Bool.not_false, if_true, Option.bind_some]
      simp only [Bool.false_eq_true, if_false] at h2
      cases entLt o m[k] with
      | false =>
        simp only [Bool.false_eq_true, if_false, bindC_go]
        exact key false a (by simpa using h2)
      | true =>
        simp only [if_true]
        rw [app_ok (by simp only [List.length_singleton]; omega) (by simp only [List.length_singleton]; omega)]
        simp only [Option.bind_some, bindC_go]
        exact key true _ (by simp only [List.length_append, List.length_singleton, if_true]; omega)
  · rintro ⟨b, c, a⟩ ⟨h1, h2⟩
    simp only at h1 h2
    subst h1
    exact ⟨_, by simp only; rw [if_neg (by simp)], b, a, rfl, h2⟩
  rintro _ ⟨b, a, rfl, ha⟩
  simp only [bindC_go]
  cases b with
  | true => exact ⟨_, rfl, by simp at ha; omega⟩
  | false =>
    simp only [Bool.false_eq_true, if_false] at ha
    simp only [Bool.not_false, if_true]
    rw [app_ok (by simp only [List.length_singleton]; omega) (by simp only [List.length_singleton]; omega)]
    exact ⟨_, rfl, by simp only [List.length_append, List.length_singleton]; omega⟩
theorem MemPut_ok (m : List Ent) (o : Ent) (hm : m.length ≤ 1000000) : ∃ r, spec_MemPut m o = some r ∧ r.1.length ≤ m.length + 1 := by
  unfold spec_MemPut
  obtain ⟨r, hr, hl⟩ := l9Put_ok m o hm
  rw [spec_MemOk_eq m (by omega)]
  cases memV m with
  | false => exact ⟨_, rfl, by simp⟩
  | true =>
    simp only [Option.bind_some, Bool.not_true, Bool.false_eq_true, if_false, hr]
    rw [spec_MemOk_eq r (by omega)]
    cases memV r with
    | true => exact ⟨_, rfl, hl⟩
    | false =>
      simp only [Option.bind_some, Bool.not_false, if_true]
      rw [app_ok (by simp only [List.length_nil]; omega) (by simp only [List.length_nil]; omega)]
      exact ⟨_, rfl, by simp⟩
theorem l9Some_ok (b : List UInt8) (i h most : Int) (hmo : 0 < most ∧ most ≤ 1000) (hi : 0 ≤ i ∧ i ≤ b.length) (hb : b.length ≤ 1048576) : ∃ l i' h', spec_l9Some { b := b, i := i, h := h } most = some (l, { b := b, i := i', h := h' }) ∧ l.length ≤ 1000 ∧ (0 ≤ i' ∧ i' ≤ b.length) := by
  unfold spec_l9Some
  obtain ⟨x1, i1, h1, e1, g1, k1⟩ := l1Below_ok b i h most hi hb
  have hx1 := g1.2.1 (by omega)
  simp only [e1, Option.bind_some]
  refine loopO_G (τ := Int × Int × Int × List Ent) (ρ := Int × Int × List Ent) (R := List Ent × L1Cur) (G := fun o => ∃ l i' h', o = some (l, { b := b, i := i', h := h' }) ∧ l.length ≤ 1000 ∧ (0 ≤ i' ∧ i' ≤ b.length)) (I := fun k S => (0 ≤ S.1 ∧ S.1 ≤ b.length) ∧ S.2.2.1 = x1 - (k : Int) ∧ S.2.2.2.length ≤ k) x1.toNat (Q := fun r => ∃ p q a, r = .go (p, q, a) ∧ (0 ≤ p ∧ p ≤ b.length) ∧ a.length ≤ 1000) ⟨k1, by simp, by simp⟩ ?_ ?_ ?_
  · rintro k ⟨p, q, c, d⟩ hk ⟨b1, b2, b3⟩
    simp only at b1 b2 b3
    subst b2
    left
    obtain ⟨x3, i3, h3, e3, g3, k3⟩ := l7Key_ok b p q b1 hb
    obtain ⟨x4, i4, h4, e4, g4, k4⟩ := l1Below_ok b i3 h3 20 k3 hb
    obtain ⟨x5, i5, h5, e5, k5⟩ := l1Once_ok b i4 h4 4 k4 hb
    simp only [e3, e4, e5, Option.bind_some]
    rw [if_pos (by simp only [decide_eq_true_eq]; omega), wrap_ok (n := x1 - (k : Int) - 1) (by omega) (by omega)]
    cases x5 with
    | true =>
      obtain ⟨r, hr, hrl⟩ := MemPut_ok d { Key := x3, Seq := x4, Del := true, Val := [] } (by omega)
      simp only [if_true, bindC_go, hr, Option.bind_some]
      cases r.2 with
      | true => exact ⟨_, rfl, k5, by simp only; omega, by simp only; omega⟩
      | false => exact ⟨_, rfl, k5, by simp only; omega, by simp only; omega⟩
    | false =>
      obtain ⟨x6, i6, h6, e6, g6, k6⟩ := l1Text_ok b i5 h5 4 (by omega) k5 hb
      obtain ⟨r, hr, hrl⟩ := MemPut_ok d { Key := x3, Seq := x4, Del := false, Val := x6 } (by omega)
      simp only [Bool.false_eq_true, if_false, e6, Option.bind_some, bindC_go, hr]
      cases r.2 with
      | true => exact ⟨_, rfl, k6, by simp only; omega, by simp only; omega⟩
      | false => exact ⟨_, rfl, k6, by simp only; omega, by simp only; omega⟩
  · rintro ⟨p, q, c, d⟩ ⟨b1, b2, b3⟩
    simp only at b1 b2 b3
    exact ⟨_, by simp only; rw [if_neg (by simp only [decide_eq_true_eq]; omega)], p, q, d, rfl, b1, by omega⟩
  rintro _ ⟨p, q, d, rfl, b1, b3⟩
  exact ⟨_, _, _, rfl, b3, b1⟩
theorem ents_grow {ρ : Type} (b : List UInt8) (d : List Ent) (p q : Int) (hp : 0 ≤ p ∧ p ≤ b.length) (hb : b.length ≤ 1048576) (hd : d.length ≤ 1000) : ∃ r, loopO (ρ := Ctl (Int × Int × List Ent) ρ) (fun (S42 : Int × Int × Int × List Ent) => (spec_l1Below ({ b := b, i := S42.1, h := S42.2.1 : L1Cur }) (3 : Int)).bind fun R46 =>
    if (decide (((S42.2.2.2.length : Nat) : Int) < IntKind.i64.wrap ((59 : Int) + R46.1))) = true then ((app 48 S42.2.2.2 ([{ Key := [122, 122, 122], Seq := IntKind.i64.wrap ((500 : Int) - S42.2.2.1), Del := false, Val := [] : Ent }])).bind fun E52 =>
    some (.go (R46.2.i, R46.2.h, IntKind.i64.wrap (S42.2.2.1 + (1 : Int)), E52)))
    else (some (.done (.go (R46.2.i, R46.2.h, S42.2.2.2))))) (p, q, (0 : Int), d) = some r ∧ ∃ p2 q2 a2, r = .go (p2, q2, a2) ∧ (0 ≤ p2 ∧ p2 ≤ b.length) ∧ a2.length ≤ 2000 := by
  refine loopO_total (fun (k : Nat) (S : Int × Int × Int × List Ent) => (0 ≤ S.1 ∧ S.1 ≤ (b.length : Int)) ∧ S.2.2.2.length = d.length + k) 100 _ ⟨hp, rfl⟩ ?_ ?_
  · rintro k ⟨p, q, c, a⟩ hk ⟨b1, b2⟩
    simp only at b1 b2
    obtain ⟨x, i1, h1, e1, g1, k1⟩ := l1Below_ok b p q 3 b1 hb
    have hx := g1.2.1 (by omega)
    simp only [e1, Option.bind_some]
    rw [wrap_ok (n := 59 + x) (by omega) (by omega)]
    by_cases c1 : ((a.length : Nat) : Int) < 59 + x
    · left
      rw [decide_eq_true c1, app_ok (by simp only [List.length_singleton]; omega) (by simp only [List.length_singleton]; omega)]
      exact ⟨_, rfl, k1, by simp only [List.length_append, List.length_singleton]; omega⟩
    · right
      rw [decide_eq_false c1]
      exact ⟨_, rfl, _, _, _, rfl, k1, by omega⟩
  · rintro ⟨p, q, c, a⟩ ⟨b1, b2⟩
    simp only at b1 b2
    obtain ⟨x, i1, h1, e1, g1, k1⟩ := l1Below_ok b p q 3 b1 hb
    have hx := g1.2.1 (by omega)
    simp only [e1, Option.bind_some]
    rw [wrap_ok (n := 59 + x) (by omega) (by omega), decide_eq_false (by omega)]
    exact ⟨_, rfl, _, _, _, rfl, k1, by omega⟩
theorem l9Any_ok (b : List UInt8) (i h most : Int) (hmo : 0 < most ∧ most ≤ 1000) (hi : 0 ≤ i ∧ i ≤ b.length) (hb : b.length ≤ 1048576) : ∃ l i' h', spec_l9Any { b := b, i := i, h := h } most = some (l, { b := b, i := i', h := h' }) ∧ l.length ≤ 2000 ∧ (0 ≤ i' ∧ i' ≤ b.length) := by
  unfold spec_l9Any
  obtain ⟨d, p, q, e1, g1, b1⟩ := l9Some_ok b i h most hmo hi hb
  simp only [e1, Option.bind_some]
  have key : ∀ (p q : Int) (x : Bool), (x = true → 0 < d.length) → (0 ≤ p ∧ p ≤ b.length) → ∃ l i' h', bindC (if x = true then ((spec_l1Below ({ b := b, i := p, h := q : L1Cur }) ((d.length : Nat) : Int)).bind fun R13 =>
        (spec_l1Below ({ b := b, i := R13.2.i, h := R13.2.h : L1Cur }) (4 : Int)).bind fun R16 =>
        bindC (if (decide (R16.1 = (0 : Int))) = true then ((spec_l1Pick ({ b := b, i := R16.2.i, h := R16.2.h : L1Cur }) ([[], [98], [97, 97, 97, 97, 97, 97, 97, 97, 97, 97, 97]])).bind fun R23 =>
        (idx d R13.1).bind fun E26 =>
        some (.go (R23.2.i, R23.2.h, (d.set R13.1.toNat ({ Key := R23.1, Seq := E26.Seq, Del := E26.Del, Val := E26.Val : Ent })))))
        else (bindC (if (decide (R16.1 = (1 : Int))) = true then ((spec_l1PickInt ({ b := b, i := R16.2.i, h := R16.2.h : L1Cur }) ([(-1 : Int), (5 : Int), (1000000 : Int), (1000001 : Int)])).bind fun R32 =>
        (idx d R13.1).bind fun E35 =>
        some (.go (R32.2.i, R32.2.h, (d.set R13.1.toNat ({ Key := E35.Key, Seq := R32.1, Del := E35.Del, Val := E35.Val : Ent })))))
        else (bindC (if (decide (R16.1 = (2 : Int))) = true then ((idx d R13.1).bind fun E40 =>
        some (.go (R16.2.i, R16.2.h, (d.set R13.1.toNat ({ Key := E40.Key, Seq := E40.Seq, Del := !E40.Del, Val := E40.Val : Ent })))))
        else (bindC (loopO (fun (S42 : Int × Int × Int × List Ent) => (spec_l1Below ({ b := b, i := S42.1, h := S42.2.1 : L1Cur }) (3 : Int)).bind fun R46 =>
        if (decide (((S42.2.2.2.length : Nat) : Int) < IntKind.i64.wrap ((59 : Int) + R46.1))) = true then ((app 48 S42.2.2.2 ([{ Key := [122, 122, 122], Seq := IntKind.i64.wrap ((500 : Int) - S42.2.2.1), Del := false, Val := [] : Ent }])).bind fun E52 =>
        some (.go (R46.2.i, R46.2.h, IntKind.i64.wrap (S42.2.2.1 + (1 : Int)), E52)))
        else (some (.done (.go (R46.2.i, R46.2.h, S42.2.2.2)))))
        (R16.2.i, R16.2.h, (0 : Int), d))
        (fun (T44 : Int × Int × List Ent) => some (.go (T44.1, T44.2.1, T44.2.2)))))
        (fun (T37 : Int × Int × List Ent) => some (.go (T37.1, T37.2.1, T37.2.2)))))
        (fun (T28 : Int × Int × List Ent) => some (.go (T28.1, T28.2.1, T28.2.2)))))
        (fun (T19 : Int × Int × List Ent) => some (.go (T19.1, T19.2.1, T19.2.2))))
        else (some (.go (p, q, d))))
        (fun (T10 : Int × Int × List Ent) => some (T10.2.2, { b := b, i := T10.1, h := T10.2.1 : L1Cur })) = some (l, { b := b, i := i', h := h' }) ∧ l.length ≤ 2000 ∧ (0 ≤ i' ∧ i' ≤ b.length) := by
    intro p q x hx hp
    cases x with
    | false => exact ⟨_, _, _, rfl, (by omega : d.length ≤ 2000), hp⟩
    | true =>
      have hpos := hx rfl
      obtain ⟨x6, i6, h6, e6, g6, k6⟩ := l1Below_ok b p q ((d.length : Nat) : Int) hp hb
      have hx6 := g6.2.1 (by omega)
      obtain ⟨x7, i7, h7, e7, g7, k7⟩ := l1Below_ok b i6 h6 4 k6 hb
      have hid := idx_some' (l := d) g6.1 hx6
      simp only [if_true, e6, e7, Option.bind_some, hid]
      by_cases c0 : x7 = 0
      · rw [decide_eq_true c0]
        obtain ⟨x8, i8, h8, e8, g8, k8⟩ := l1Pick_ok b i7 h7 [[], [98], [97, 97, 97, 97, 97, 97, 97, 97, 97, 97, 97]] (by simp) k7 hb
        simp only [if_true, e8, Option.bind_some, bindC_go]
        exact ⟨_, _, _, rfl, by simp only [List.length_set]; omega, k8⟩
      · rw [decide_eq_false c0]
        simp only [Bool.false_eq_true, if_false]
        by_cases c1 : x7 = 1
        · rw [decide_eq_true c1]
          obtain ⟨x8, i8, h8, e8, g8, k8⟩ := l1PickInt_ok b i7 h7 [-1, 5, 1000000, 1000001] (by simp) k7 hb
          simp only [if_true, e8, Option.bind_some, bindC_go]
          exact ⟨_, _, _, rfl, by simp only [List.length_set]; omega, k8⟩
        · rw [decide_eq_false c1]
          simp only [Bool.false_eq_true, if_false]
          by_cases c2 : x7 = 2
          · rw [decide_eq_true c2]
            simp only [if_true, bindC_go]
            exact ⟨_, _, _, rfl, by simp only [List.length_set]; omega, k7⟩
          · rw [decide_eq_false c2]
            simp only [Bool.false_eq_true, if_false]
            obtain ⟨r, hr, p2, q2, a2, rfl, r1, r2⟩ := ents_grow b d i7 h7 k7 hb (by omega)
            rw [hr]
            simp only [bindC_go]
            exact ⟨_, _, _, rfl, r2, r1⟩
  by_cases c : ((d.length : Nat) : Int) > 0
  · rw [decide_eq_true c]
    obtain ⟨x4, i4, h4, e4, k4⟩ := l1Once_ok b p q 10 b1 hb
    simp only [if_true, e4, Option.bind_some]
    exact key i4 h4 x4 (fun _ => by omega) k4
  · rw [decide_eq_false c]
    simp only [Bool.false_eq_true, if_false, Option.bind_some]
    exact key p q false (fun h => by cases h) b1
/-! stable order: lists in order, class by class -/
structure Ord3 {α κ : Type} (lt : α → α → Bool) (K : α → κ) : Prop where
  tri : ∀ a b, lt a b = true ∨ K a = K b ∨ lt b a = true
  irr : ∀ a b, K a = K b → lt a b = false
  trans : ∀ a b c, lt a b = true → lt b c = true → lt a c = true
theorem Ord3.asym {α κ : Type} {lt : α → α → Bool} {K : α → κ} (o : Ord3 lt K) {a b : α} (h : lt a b = true) : lt b a = false := by
  cases hb : lt b a with
  | false => rfl
  | true => have := o.irr a a rfl; rw [o.trans a b a h hb] at this; cases this
theorem Ord3.le_trans {α κ : Type} {lt : α → α → Bool} {K : α → κ} (o : Ord3 lt K) {a b c : α} (h1 : lt b a = false) (h2 : lt c b = false) : lt c a = false := by
  cases hc : lt c a with
  | false => rfl
  | true =>
    rcases o.tri a b with h | h | h
    · rw [o.trans c a b hc h] at h2; cases h2
    · rcases o.tri c b with h' | h' | h'
      · rw [h'] at h2; cases h2
      · rw [o.irr c a (by rw [h', h])] at hc; cases hc
      · have := o.trans b c a h' hc; rw [this] at h1; cases h1
    · rw [h] at h1; cases h1
theorem Ord3.lt_le {α κ : Type} {lt : α → α → Bool} {K : α → κ} (o : Ord3 lt K) {a b c : α} (h1 : lt a b = true) (h2 : lt c b = false) : lt a c = true := by
  rcases o.tri b c with h | h | h
  · exact o.trans a b c h1 h
  · rcases o.tri a c with h' | h' | h'
    · exact h'
    · rw [o.irr a b (by rw [h', h])] at h1; cases h1
    · have := o.trans c a b h' h1; rw [this] at h2; cases h2
  · rw [h] at h2; cases h2
theorem Ord3.le_lt {α κ : Type} {lt : α → α → Bool} {K : α → κ} (o : Ord3 lt K) {a b c : α} (h1 : lt b a = false) (h2 : lt b c = true) : lt a c = true := by
  rcases o.tri a b with h | h | h
  · exact o.trans a b c h h2
  · rcases o.tri a c with h' | h' | h'
    · exact h'
    · rw [o.irr b c (by rw [← h, h'])] at h2; cases h2
    · have := o.trans b c a h2 h'; rw [this] at h1; cases h1
  · rw [h] at h1; cases h1
def SrtL {α : Type} (lt : α → α → Bool) (l : List α) : Prop := l.Pairwise fun a b => lt b a = false
def ClsL {α κ : Type} [DecidableEq κ] (K : α → κ) (r l : List α) : Prop := ∀ c, r.filter (fun x => decide (K x = c)) = l.filter (fun x => decide (K x = c))
theorem ClsL.refl {α κ : Type} [DecidableEq κ] (K : α → κ) (l : List α) : ClsL K l l := fun _ => rfl
theorem ClsL.trans {α κ : Type} [DecidableEq κ] {K : α → κ} {a b c : List α} (h1 : ClsL K a b) (h2 : ClsL K b c) : ClsL K a c := fun k => (h1 k).trans (h2 k)
theorem ClsL.append {α κ : Type} [DecidableEq κ] {K : α → κ} {a b c d : List α} (h1 : ClsL K a b) (h2 : ClsL K c d) : ClsL K (a ++ c) (b ++ d) := fun k => by rw [List.filter_append, List.filter_append, h1 k, h2 k]
theorem ClsL.perm {α κ : Type} [DecidableEq κ] [DecidableEq α] {K : α → κ} {r l : List α} (h : ClsL K r l) : r.Perm l := by
  rw [List.perm_iff_count]
  intro a
  have h1 := congrArg (List.count a) (h (K a))
  rwa [List.count_filter (by simp), List.count_filter (by simp)] at h1
theorem ClsL.length {α κ : Type} [DecidableEq κ] [DecidableEq α] {K : α → κ} {r l : List α} (h : ClsL K r l) : r.length = l.length := h.perm.length_eq
theorem ClsL.swap {α κ : Type} [DecidableEq κ] {K : α → κ} {lt : α → α → Bool} (o : Ord3 lt K) {u v : List α} (h : ∀ x ∈ v, ∀ y ∈ u, lt x y = true) : ClsL K (v ++ u) (u ++ v) := by
  intro c
  rw [List.filter_append, List.filter_append]
  by_cases hu : ∃ y ∈ u, K y = c
  · obtain ⟨y, hy, rfl⟩ := hu
    have : v.filter (fun x => decide (K x = K y)) = [] := by
      rw [List.filter_eq_nil_iff]
      intro x hx hk
      have := o.irr x y (by simpa using hk)
      rw [h x hx y hy] at this
      cases this
    rw [this]; simp
  · have : u.filter (fun x => decide (K x = c)) = [] := by
      rw [List.filter_eq_nil_iff]
      intro y hy hk
      exact hu ⟨y, hy, by simpa using hk⟩
    rw [this]; simp
theorem SrtL.append {α : Type} {lt : α → α → Bool} {a b : List α} (h1 : SrtL lt a) (h2 : SrtL lt b) (h : ∀ x ∈ a, ∀ y ∈ b, lt y x = false) : SrtL lt (a ++ b) := List.pairwise_append.2 ⟨h1, h2, h⟩
theorem SrtL.left {α : Type} {lt : α → α → Bool} {a b : List α} (h : SrtL lt (a ++ b)) : SrtL lt a := (List.pairwise_append.1 h).1
theorem SrtL.right {α : Type} {lt : α → α → Bool} {a b : List α} (h : SrtL lt (a ++ b)) : SrtL lt b := (List.pairwise_append.1 h).2.1
theorem SrtL.cross {α : Type} {lt : α → α → Bool} {a b : List α} (h : SrtL lt (a ++ b)) : ∀ x ∈ a, ∀ y ∈ b, lt y x = false := (List.pairwise_append.1 h).2.2
theorem SrtL.last {α κ : Type} {lt : α → α → Bool} {K : α → κ} (o : Ord3 lt K) {a : List α} (h : SrtL lt a) (hne : 0 < a.length) : ∀ x ∈ a, lt (a[a.length - 1]'(by omega)) x = false := by
  intro x hx
  obtain ⟨i, hi, rfl⟩ := List.getElem_of_mem hx
  rcases Nat.lt_or_ge i (a.length - 1) with h' | h'
  · exact (List.pairwise_iff_getElem.1 h) i (a.length - 1) hi (by omega) h'
  · have : i = a.length - 1 := by omega
    subst this
    exact o.irr _ _ rfl
theorem SrtL.first {α κ : Type} {lt : α → α → Bool} {K : α → κ} (o : Ord3 lt K) {a : List α} (h : SrtL lt a) (hne : 0 < a.length) : ∀ x ∈ a, lt x (a[0]'hne) = false := by
  intro x hx
  obtain ⟨i, hi, rfl⟩ := List.getElem_of_mem hx
  rcases Nat.eq_zero_or_pos i with h' | h'
  · subst h'; exact o.irr _ _ rfl
  · exact (List.pairwise_iff_getElem.1 h) 0 i (by omega) hi h'
theorem mergeParts {α κ : Type} [DecidableEq κ] [DecidableEq α] {lt : α → α → Bool} {K : α → κ} (o : Ord3 lt K) {a1 a2 b1 b2 r1 r2 : List α} (hA : SrtL lt (a1 ++ a2)) (hB : SrtL lt (b1 ++ b2))
    (h1 : ∀ x ∈ b1, ∀ y ∈ a2, lt x y = true) (h2 : ∀ x ∈ a1, ∀ y ∈ b2, lt y x = false) (s1 : SrtL lt r1) (c1 : ClsL K r1 (a1 ++ b1)) (s2 : SrtL lt r2) (c2 : ClsL K r2 (a2 ++ b2)) :
    SrtL lt (r1 ++ r2) ∧ ClsL K (r1 ++ r2) ((a1 ++ a2) ++ (b1 ++ b2)) := by
  refine ⟨s1.append s2 ?_, ?_⟩
  · intro x hx y hy
    have hx' := c1.perm.mem_iff.1 hx
    have hy' := c2.perm.mem_iff.1 hy
    rcases List.mem_append.1 hx' with hx1 | hx1 <;> rcases List.mem_append.1 hy' with hy1 | hy1
    · exact hA.cross x hx1 y hy1
    · exact h2 x hx1 y hy1
    · exact o.asym (h1 x hx1 y hy1)
    · exact hB.cross x hx1 y hy1
  · refine (c1.append c2).trans ?_
    have e1 : (a1 ++ b1) ++ (a2 ++ b2) = a1 ++ ((b1 ++ a2) ++ b2) := by simp
    have e2 : (a1 ++ a2) ++ (b1 ++ b2) = a1 ++ ((a2 ++ b1) ++ b2) := by simp
    rw [e1, e2]
    exact (ClsL.refl K a1).append ((ClsL.swap o h1).append (ClsL.refl K b2))
theorem halve {ρ : Type} {body : Int × Int → Option (Ctl (Int × Int) (Ctl Int ρ))} (p : Nat → Bool) (i0 j0 : Nat) (hij : i0 ≤ j0)
    (hb : ∀ i j : Nat, i0 ≤ i → i < j → j ≤ j0 → body ((i : Int), (j : Int)) = some (.go (if p ((i + j) / 2) then ((((i + j) / 2 + 1 : Nat) : Int), (j : Int)) else ((i : Int), (((i + j) / 2 : Nat) : Int)))))
    (hd : ∀ i : Nat, i0 ≤ i → i ≤ j0 → body ((i : Int), (i : Int)) = some (.done (.go (i : Int)))) :
    ∃ c : Nat, i0 ≤ c ∧ c ≤ j0 ∧ (i0 < c → p (c - 1) = true) ∧ (c < j0 → p c = false) ∧ loopO body ((i0 : Int), (j0 : Int)) = some (.go (c : Int)) := by
  have key : ∀ d i j : Nat, j - i ≤ d → i0 ≤ i → i ≤ j → j ≤ j0 → (i0 < i → p (i - 1) = true) → (j < j0 → p j = false) →
      ∃ c : Nat, i0 ≤ c ∧ c ≤ j0 ∧ (i0 < c → p (c - 1) = true) ∧ (c < j0 → p c = false) ∧ loopO body ((i : Int), (j : Int)) = some (.go (c : Int)) := by
    intro d
    induction d with
    | zero =>
      intro i j h1 h2 h3 h4 h5 h6
      obtain rfl : i = j := by omega
      exact ⟨i, h2, h4, h5, h6, by rw [loopO_eq, hd i h2 h4]⟩
    | succ d ih =>
      intro i j h1 h2 h3 h4 h5 h6
      rcases Nat.lt_or_ge i j with h | h
      · cases hp : p ((i + j) / 2) with
        | true =>
          obtain ⟨c, g⟩ := ih ((i + j) / 2 + 1) j (by omega) (by omega) (by omega) h4 (fun _ => by rw [Nat.add_sub_cancel]; exact hp) h6
          refine ⟨c, g.1, g.2.1, g.2.2.1, g.2.2.2.1, ?_⟩
          rw [loopO_eq, hb i j h2 h h4, hp]
          exact g.2.2.2.2
        | false =>
          obtain ⟨c, g⟩ := ih i ((i + j) / 2) (by omega) h2 (by omega) (by omega) h5 (fun _ => hp)
          refine ⟨c, g.1, g.2.1, g.2.2.1, g.2.2.2.1, ?_⟩
          rw [loopO_eq, hb i j h2 h h4, hp]
          exact g.2.2.2.2
      · obtain rfl : i = j := by omega
        exact ⟨i, h2, h4, h5, h6, by rw [loopO_eq, hd i h2 h4]⟩
  exact key (j0 - i0) i0 j0 (Nat.le_refl _) (Nat.le_refl _) hij (Nat.le_refl _) (fun h => by omega) (fun h => by omega)
/-! two elements change places -/
theorem swap_at {α : Type} (X Y Z : List α) (a b : α) (i j : Int) (hi : i = ((X.length : Nat) : Int)) (hj : j = ((X.length + 1 + Y.length : Nat) : Int)) :
    idx (X ++ a :: (Y ++ b :: Z)) i = some a ∧ idx (X ++ a :: (Y ++ b :: Z)) j = some b ∧ idx ((X ++ a :: (Y ++ b :: Z)).set i.toNat b) j = some b ∧ idx ((X ++ a :: (Y ++ b :: Z)).set j.toNat a) i = some a ∧
    ((X ++ a :: (Y ++ b :: Z)).set i.toNat b).set j.toNat a = X ++ b :: (Y ++ a :: Z) ∧ ((X ++ a :: (Y ++ b :: Z)).set j.toNat a).set i.toNat b = X ++ b :: (Y ++ a :: Z) := by
  subst hi hj
  have e1 : ∀ (c : α) (T : List α), idx (X ++ c :: T) ((X.length : Nat) : Int) = some c := by
    intro c T
    unfold idx
    rw [if_pos (by omega), Int.toNat_natCast, List.getElem?_append_right (Nat.le_refl _), Nat.sub_self]; rfl
  have e2 : ∀ (c d : α), idx (X ++ c :: (Y ++ d :: Z)) ((X.length + 1 + Y.length : Nat) : Int) = some d := by
    intro c d
    unfold idx
    rw [if_pos (by omega), Int.toNat_natCast, List.getElem?_append_right (by omega), show X.length + 1 + Y.length - X.length = Y.length + 1 by omega, List.getElem?_cons_succ, List.getElem?_append_right (Nat.le_refl _), Nat.sub_self]; rfl
  have s1 : ∀ (c d : α) (T : List α), (X ++ c :: T).set X.length d = X ++ d :: T := by
    intro c d T
    rw [List.set_append_right _ _ (Nat.le_refl _), Nat.sub_self]; rfl
  have s2 : ∀ (c d e : α), (X ++ c :: (Y ++ d :: Z)).set (X.length + 1 + Y.length) e = X ++ c :: (Y ++ e :: Z) := by
    intro c d e
    rw [List.set_append_right _ _ (by omega), show X.length + 1 + Y.length - X.length = Y.length + 1 by omega, List.set_cons_succ, List.set_append_right _ _ (Nat.le_refl _), Nat.sub_self]; rfl
  simp only [Int.toNat_natCast]
  refine ⟨e1 _ _, e2 _ _, ?_, ?_, ?_, ?_⟩
  · rw [s1]; exact e2 _ _
  · rw [s2]; exact e1 _ _
  · rw [s1, s2]
  · rw [s2, s1]
theorem idx_mid {α : Type} (X Z : List α) (a : α) (i : Int) (hi : i = ((X.length : Nat) : Int)) : idx (X ++ a :: Z) i = some a := by
  subst hi
  unfold idx
  rw [if_pos (by omega), Int.toNat_natCast, List.getElem?_append_right (Nat.le_refl _), Nat.sub_self]; rfl
theorem loopO_bind {τ ρ R : Type} {body : τ → Option (Ctl τ (Ctl ρ R))} {s0 : τ} {k : ρ → Option R} {res : R} (I : Nat → τ → Prop) (n : Nat) (Q : Ctl ρ R → Prop) (h0 : I 0 s0)
    (h : ∀ k s, k < n → I k s → (∃ s', body s = some (.go s') ∧ I (k + 1) s') ∨ (∃ r, body s = some (.done r) ∧ Q r)) (hn : ∀ s, I n s → ∃ r, body s = some (.done r) ∧ Q r)
    (hk : ∀ r, Q r → bindC (some r) k = some res) : bindC (loopO body s0) k = some res := by
  obtain ⟨r, hr, hq⟩ := loopO_total I n Q h0 h hn
  rw [hr]
  exact hk r hq
theorem take_snoc {α : Type} (l : List α) (t : Nat) (h : t < l.length) : l.take (t + 1) = l.take t ++ [l[t]] := by
  rw [List.take_add_one, List.getElem?_eq_getElem h]; rfl
theorem swapRange_eq (P A Q B S : List Ent) (a b n : Int) (ha : a = ((P.length : Nat) : Int)) (hb : b = ((P.length + A.length + Q.length : Nat) : Int)) (hn : n = ((A.length : Nat) : Int)) (hAB : B.length = A.length)
    (hl : P.length + A.length + Q.length + B.length ≤ 4611686018427387904) :
    slices_swapRangeCmpFunc_57869_at_impl_compareEnts (P ++ (A ++ (Q ++ (B ++ S)))) a b n = some (P ++ (B ++ (Q ++ (A ++ S)))) := by
  subst ha hb hn
  unfold slices_swapRangeCmpFunc_57869_at_impl_compareEnts
  rw [loopO_count (fun t => ((t : Int), P ++ (B.take t ++ (A.drop t ++ (Q ++ (A.take t ++ (B.drop t ++ S))))))) A.length (r := .go (P ++ (B ++ (Q ++ (A ++ S))))) ?h0]
  case h0 => simp
  · rfl
  · intro t ht
    have htB : t < B.length := by omega
    have e1 : P ++ (B.take t ++ (A.drop t ++ (Q ++ (A.take t ++ (B.drop t ++ S))))) = (P ++ B.take t) ++ A[t] :: ((A.drop (t + 1) ++ (Q ++ A.take t)) ++ B[t] :: (B.drop (t + 1) ++ S)) := by
      rw [List.drop_eq_getElem_cons ht, List.drop_eq_getElem_cons htB]; simp only [List.append_assoc, List.cons_append, List.nil_append]
    have e2 : P ++ (B.take (t + 1) ++ (A.drop (t + 1) ++ (Q ++ (A.take (t + 1) ++ (B.drop (t + 1) ++ S))))) = (P ++ B.take t) ++ B[t] :: ((A.drop (t + 1) ++ (Q ++ A.take t)) ++ A[t] :: (B.drop (t + 1) ++ S)) := by
      rw [take_snoc B t htB, take_snoc A t ht]; simp only [List.append_assoc, List.cons_append, List.nil_append]
    have w1 : IntKind.i64.wrap (((P.length : Nat) : Int) + (t : Int)) = ((P.length + t : Nat) : Int) := by rw [wrap_ok (by omega) (by omega)]; omega
    have w2 : IntKind.i64.wrap (((P.length + A.length + Q.length : Nat) : Int) + (t : Int)) = ((P.length + A.length + Q.length + t : Nat) : Int) := by rw [wrap_ok (by omega) (by omega)]; omega
    have w3 : IntKind.i64.wrap ((t : Int) + 1) = ((t + 1 : Nat) : Int) := by rw [wrap_ok (by omega) (by omega)]; omega
    obtain ⟨h1, h2, h3, h4, h5, h6⟩ := swap_at (P ++ B.take t) (A.drop (t + 1) ++ (Q ++ A.take t)) (B.drop (t + 1) ++ S) A[t] B[t] ((P.length + t : Nat) : Int) ((P.length + A.length + Q.length + t : Nat) : Int)
      (by rw [List.length_append, List.length_take]; omega) (by simp only [List.length_append, List.length_take, List.length_drop]; omega)
    simp only [w1, w2, w3]
    rw [if_pos (by simp; omega), e1, e2]
    simp only [h1, h2, h3, h5, Option.bind_some]
  · simp [hAB, List.take_of_length_le, List.drop_of_length_le, Nat.le_of_eq hAB]
theorem rotate_eq (P U V S : List Ent) (a m b : Int) (ha : a = ((P.length : Nat) : Int)) (hm : m = ((P.length + U.length : Nat) : Int)) (hb : b = ((P.length + U.length + V.length : Nat) : Int)) (hU : 0 < U.length) (hV : 0 < V.length)
    (hl : P.length + U.length + V.length ≤ 4611686018427387904) :
    slices_rotateCmpFunc_57869_at_impl_compareEnts (P ++ (U ++ (V ++ S))) a m b = some (P ++ (V ++ (U ++ S))) := by
  subst ha hm hb
  unfold slices_rotateCmpFunc_57869_at_impl_compareEnts
  have w1 : IntKind.i64.wrap (((P.length + U.length : Nat) : Int) - ((P.length : Nat) : Int)) = ((U.length : Nat) : Int) := by rw [wrap_ok (by omega) (by omega)]; omega
  have w2 : IntKind.i64.wrap (((P.length + U.length + V.length : Nat) : Int) - ((P.length + U.length : Nat) : Int)) = ((V.length : Nat) : Int) := by rw [wrap_ok (by omega) (by omega)]; omega
  rw [w1, w2]
  refine loopO_bind (fun k s => ∃ (i j : Nat) (P' U' V' S' : List Ent), s = ((i : Int), (j : Int), P' ++ (U' ++ (V' ++ S'))) ∧ U'.length = i ∧ V'.length = j ∧ 0 < i ∧ 0 < j ∧ P'.length + i = P.length + U.length ∧ P'.length + i + j ≤ P.length + U.length + V.length ∧ i + j + k ≤ U.length + V.length ∧ P' ++ (V' ++ (U' ++ S')) = P ++ (V ++ (U ++ S)))
    (U.length + V.length)
    (fun r => ∃ (i : Nat) (P' U' V' S' : List Ent), r = .go ((i : Int), P' ++ (U' ++ (V' ++ S'))) ∧ U'.length = i ∧ V'.length = i ∧ P'.length + i = P.length + U.length ∧ P'.length + i + i ≤ P.length + U.length + V.length ∧ P' ++ (V' ++ (U' ++ S')) = P ++ (V ++ (U ++ S)))
    ⟨U.length, V.length, P, U, V, S, rfl, rfl, rfl, hU, hV, rfl, Nat.le_refl _, Nat.le_refl _, rfl⟩ ?hs ?hf ?hk
  case hs =>
    rintro k _ hk ⟨i, j, P', U', V', S', rfl, q1, q2, q3, q4, q5, q6, q7, q8⟩
    rcases Nat.lt_trichotomy i j with h | h | h
    · left
      obtain ⟨Q, B, rfl, hB⟩ : ∃ Q B, V' = Q ++ B ∧ B.length = i := ⟨V'.take (j - i), V'.drop (j - i), (List.take_append_drop _ _).symm, by rw [List.length_drop]; omega⟩
      rw [List.length_append] at q2
      have w3 : IntKind.i64.wrap (((P.length + U.length : Nat) : Int) - (i : Int)) = ((P'.length : Nat) : Int) := by rw [wrap_ok (by omega) (by omega)]; omega
      have w4 : IntKind.i64.wrap (IntKind.i64.wrap (((P.length + U.length : Nat) : Int) + (j : Int)) - (i : Int)) = ((P'.length + U'.length + Q.length : Nat) : Int) := by
        rw [wrap_ok (n := ((P.length + U.length : Nat) : Int) + (j : Int)) (by omega) (by omega), wrap_ok (by omega) (by omega)]; omega
      have w5 : IntKind.i64.wrap ((j : Int) - (i : Int)) = ((j - i : Nat) : Int) := by rw [wrap_ok (by omega) (by omega)]; omega
      refine ⟨((i : Int), ((j - i : Nat) : Int), P' ++ (B ++ (Q ++ (U' ++ S')))), ?_, i, j - i, P', B, Q, U' ++ S', rfl, hB, by omega, q3, by omega, q5, by omega, by omega, ?_⟩
      · have hsw := swapRange_eq P' U' Q B S' _ _ _ w3 w4 (show (i : Int) = ((U'.length : Nat) : Int) by omega) (by omega) (by omega)
        have e : P' ++ (U' ++ (Q ++ B ++ S')) = P' ++ (U' ++ (Q ++ (B ++ S'))) := by simp
        simp only [e, hsw, w5, Option.bind_some]
        rw [if_pos (by simp; omega), if_neg (by simp; omega)]
        rfl
      · rw [← q8]; simp
    · right
      subst h
      refine ⟨.go ((i : Int), P' ++ (U' ++ (V' ++ S'))), ?_, i, P', U', V', S', rfl, q1, q2, q5, q6, q8⟩
      simp
    · left
      obtain ⟨A, Q, rfl, hA⟩ : ∃ A Q, U' = A ++ Q ∧ A.length = j := ⟨U'.take j, U'.drop j, (List.take_append_drop _ _).symm, by rw [List.length_take]; omega⟩
      rw [List.length_append] at q1
      have w3 : IntKind.i64.wrap (((P.length + U.length : Nat) : Int) - (i : Int)) = ((P'.length : Nat) : Int) := by rw [wrap_ok (by omega) (by omega)]; omega
      have w5 : IntKind.i64.wrap ((i : Int) - (j : Int)) = ((i - j : Nat) : Int) := by rw [wrap_ok (by omega) (by omega)]; omega
      refine ⟨(((i - j : Nat) : Int), (j : Int), (P' ++ V') ++ (Q ++ (A ++ S'))), ?_, i - j, j, P' ++ V', Q, A, S', rfl, by omega, hA, by omega, q4, by rw [List.length_append]; omega, by rw [List.length_append]; omega, by omega, ?_⟩
      · have hsw := swapRange_eq P' A Q V' S' _ ((P.length + U.length : Nat) : Int) (j : Int) w3 (by omega) (by omega) (by omega) (by omega)
        have e : P' ++ (A ++ Q ++ (V' ++ S')) = P' ++ (A ++ (Q ++ (V' ++ S'))) := by simp
        simp only [e, hsw, w5, Option.bind_some]
        rw [if_pos (by simp; omega), if_pos (by simp; omega)]
        simp
      · rw [← q8]; simp
  case hf =>
    rintro _ ⟨i, j, P', U', V', S', rfl, q1, q2, q3, q4, q5, q6, q7, q8⟩
    omega
  case hk =>
    rintro _ ⟨i, P', U', V', S', rfl, q1, q2, q3, q4, q5⟩
    simp only [bindC_go]
    have w3 : IntKind.i64.wrap (((P.length + U.length : Nat) : Int) - (i : Int)) = ((P'.length : Nat) : Int) := by rw [wrap_ok (by omega) (by omega)]; omega
    have hsw := swapRange_eq P' U' [] V' S' _ ((P.length + U.length : Nat) : Int) (i : Int) w3 (by simp; omega) (by omega) (by omega) (by simp; omega)
    simp only [List.nil_append] at hsw
    rw [hsw, ← q5]
    rfl
theorem entOrd3 : Ord3 entLt (fun e : Ent => (e.Key, e.Seq)) where
  tri a b := by
    cases h : entLt a b with
    | true => exact .inl rfl
    | false =>
      by_cases he : a.Key = b.Key ∧ a.Seq = b.Seq
      · exact .inr (.inl (by rw [he.1, he.2]))
      · exact .inr (.inr (entLt_total he h))
  irr a b h := by
    have h1 : a.Key = b.Key := congrArg Prod.fst h
    have h2 : a.Seq = b.Seq := congrArg Prod.snd h
    unfold entLt
    rw [h1, h2, sLt_irrefl]
    simp
  trans a b c h1 h2 := entLt_trans h1 h2
abbrev keyE (e : Ent) : List UInt8 × Int := (e.Key, e.Seq)
theorem cmpE_lt (a b : Ent) : ((impl_compareEnts a b).bind fun R => some (decide (R < (0 : Int)))) = some (entLt a b) := by
  obtain ⟨r, hr, h1, _⟩ := compareEnts_sign a b
  rw [hr]
  simp [h1]
theorem insSort_eq (P M S : List Ent) (a b : Int) (ha : a = ((P.length : Nat) : Int)) (hb : b = ((P.length + M.length : Nat) : Int)) (hl : P.length + M.length + S.length ≤ 4611686018427387904) :
    ∃ R, slices_insertionSortCmpFunc_57869_at_impl_compareEnts (P ++ (M ++ S)) a b = some (P ++ (R ++ S)) ∧ SrtL entLt R ∧ ClsL keyE R M := by
  subst ha hb
  unfold slices_insertionSortCmpFunc_57869_at_impl_compareEnts
  have w0 : IntKind.i64.wrap (((P.length : Nat) : Int) + (1 : Int)) = ((P.length + 1 : Nat) : Int) := by rw [wrap_ok (by omega) (by omega)]; omega
  rw [w0]
  refine loopO_G (τ := Int × List Ent) (ρ := List Ent) (R := List Ent) (fun x => ∃ R, x = some (P ++ (R ++ S)) ∧ SrtL entLt R ∧ ClsL keyE R M)
    (fun k s => ∃ R, s = (((P.length + (k + 1) : Nat) : Int), P ++ (R ++ (M.drop (k + 1) ++ S))) ∧ SrtL entLt R ∧ ClsL keyE R (M.take (k + 1))) (M.length - 1)
    (fun r => ∃ R, r = .go (P ++ (R ++ S)) ∧ SrtL entLt R ∧ ClsL keyE R M) ⟨M.take 1, ?_, ?_, ClsL.refl _ _⟩ ?_ ?_ ?_
  · have e : M.take 1 ++ (M.drop 1 ++ S) = M ++ S := by rw [← List.append_assoc, List.take_append_drop]
    show _ = (_, P ++ (M.take 1 ++ (M.drop 1 ++ S)))
    rw [e]
  · cases M with
    | nil => exact List.Pairwise.nil
    | cons x M0 => simp [SrtL]
  · rintro k _ hk ⟨R, rfl, hs, hc⟩
    left
    have hk1 : k + 1 < M.length := by omega
    have hRl : R.length = k + 1 := by rw [hc.length, List.length_take]; omega
    have hd : M.drop (k + 1) = M[k + 1] :: M.drop (k + 2) := List.drop_eq_getElem_cons hk1
    have hcond : decide (((P.length + (k + 1) : Nat) : Int) < ((P.length + M.length : Nat) : Int)) = true := decide_eq_true (by omega)
    simp only [hcond, if_true]
    refine loopO_G (τ := Int × List Ent) (ρ := List Ent) (R := Ctl (Int × List Ent) (Ctl (List Ent) (List Ent)))
      (fun x => ∃ s', x = some (.go s') ∧ ∃ R', s' = (((P.length + (k + 1 + 1) : Nat) : Int), P ++ (R' ++ (M.drop (k + 1 + 1) ++ S))) ∧ SrtL entLt R' ∧ ClsL keyE R' (M.take (k + 1 + 1)))
      (fun t s => ∃ R1 R2, R = R1 ++ R2 ∧ R1.length + t = k + 1 ∧ s = (((P.length + R1.length : Nat) : Int), P ++ (R1 ++ (M[k + 1] :: (R2 ++ (M.drop (k + 2) ++ S))))) ∧ ∀ y ∈ R2, entLt M[k + 1] y = true) (k + 1)
      (fun r => ∃ R1 R2, R = R1 ++ R2 ∧ r = .go (P ++ (R1 ++ (M[k + 1] :: (R2 ++ (M.drop (k + 2) ++ S))))) ∧ (∀ y ∈ R2, entLt M[k + 1] y = true) ∧ ∀ y ∈ R1, entLt M[k + 1] y = false)
      ⟨R, [], by simp, by omega, by rw [hd, hRl]; rfl, by simp⟩ ?_ ?_ ?_
    · rintro t _ ht ⟨R1, R2, rfl, h1, rfl, h2⟩
      have hR1 : 0 < R1.length := by omega
      obtain ⟨R1', y, rfl⟩ : ∃ R1' y, R1 = R1' ++ [y] := ⟨R1.dropLast, R1.getLast (by intro e; rw [e] at hR1; simp at hR1), (List.dropLast_concat_getLast _).symm⟩
      rw [List.length_append, List.length_singleton] at h1 hR1
      have e : P ++ (R1' ++ [y] ++ (M[k + 1] :: (R2 ++ (M.drop (k + 2) ++ S)))) = (P ++ R1') ++ y :: ([] ++ M[k + 1] :: (R2 ++ (M.drop (k + 2) ++ S))) := by simp only [List.append_assoc, List.cons_append, List.nil_append]
      have w1 : IntKind.i64.wrap (((P.length + (R1' ++ [y]).length : Nat) : Int) - 1) = ((P.length + R1'.length : Nat) : Int) := by
        rw [List.length_append, List.length_singleton, wrap_ok (by omega) (by omega)]; omega
      obtain ⟨g1, g2, g3, g4, g5, g6⟩ := swap_at (P ++ R1') [] (R2 ++ (M.drop (k + 2) ++ S)) y M[k + 1] ((P.length + R1'.length : Nat) : Int) ((P.length + (R1' ++ [y]).length : Nat) : Int) (by simp) (by simp; omega)
      have hcond : decide (((P.length + (R1' ++ [y]).length : Nat) : Int) > ((P.length : Nat) : Int)) = true := by rw [List.length_append, List.length_singleton]; exact decide_eq_true (by omega)
      cases hlt : entLt M[k + 1] y with
      | true =>
        left
        refine ⟨(((P.length + R1'.length : Nat) : Int), P ++ (R1' ++ (M[k + 1] :: ((y :: R2) ++ (M.drop (k + 2) ++ S))))), ?_, R1', y :: R2, by simp, by omega, rfl, ?_⟩
        · have hc2 := cmpE_lt M[k + 1] y
          rw [hlt] at hc2
          simp only [e, w1, hcond, if_true, g1, g2, Option.bind_some, hc2, g4, g6]
          simp only [List.append_assoc, List.cons_append, List.nil_append]
        · intro z hz
          rcases List.mem_cons.1 hz with rfl | hz
          · exact hlt
          · exact h2 z hz
      | false =>
        right
        refine ⟨.go (P ++ (R1' ++ [y] ++ (M[k + 1] :: (R2 ++ (M.drop (k + 2) ++ S))))), ?_, R1' ++ [y], R2, rfl, rfl, h2, ?_⟩
        · have hc2 := cmpE_lt M[k + 1] y
          rw [hlt] at hc2
          simp only [e, w1, hcond, if_true, g1, g2, Option.bind_some, hc2]
          rfl
        · intro z hz
          have hlast := SrtL.last entOrd3 hs.left (by simp)
          have : entLt y z = false := by
            have := hlast z hz
            simpa using this
          exact entOrd3.le_trans this hlt
    · rintro _ ⟨R1, R2, rfl, h1, rfl, h2⟩
      have hR1 : R1 = [] := List.eq_nil_of_length_eq_zero (by omega)
      subst hR1
      refine ⟨.go (P ++ ([] ++ (M[k + 1] :: (R2 ++ (M.drop (k + 2) ++ S))))), ?_, [], R2, rfl, rfl, h2, by simp⟩
      simp
    · rintro _ ⟨R1, R2, rfl, rfl, hlt, hle⟩
      refine ⟨(((P.length + (k + 2) : Nat) : Int), P ++ ((R1 ++ M[k + 1] :: R2) ++ (M.drop (k + 2) ++ S))), ?_, R1 ++ M[k + 1] :: R2, rfl, ?_, ?_⟩
      · have w1 : IntKind.i64.wrap (((P.length + (k + 1) : Nat) : Int) + 1) = ((P.length + (k + 2) : Nat) : Int) := by rw [wrap_ok (by omega) (by omega)]; omega
        simp only [w1, bindC_go]
        simp only [List.append_assoc, List.cons_append, List.nil_append]
      · refine hs.left.append ?_ ?_
        · exact List.pairwise_cons.2 ⟨fun y hy => entOrd3.asym (hlt y hy), hs.right⟩
        · intro x hx y hy
          rcases List.mem_cons.1 hy with rfl | hy
          · exact hle x hx
          · exact hs.cross x hx y hy
      · have ht : M.take (k + 2) = M.take (k + 1) ++ [M[k + 1]] := take_snoc M (k + 1) hk1
        rw [show k + 1 + 1 = k + 2 from rfl, ht]
        have e2 : R1 ++ M[k + 1] :: R2 = R1 ++ ([M[k + 1]] ++ R2) := rfl
        rw [e2]
        refine ((ClsL.refl keyE R1).append (ClsL.swap (K := keyE) entOrd3 (u := R2) (v := [M[k + 1]]) ?_)).trans ?_
        · intro x hx y hy
          rw [List.mem_singleton.1 hx]
          exact hlt y hy
        · rw [← List.append_assoc]
          exact hc.append (ClsL.refl _ _)
  · rintro _ ⟨R, rfl, hs, hc⟩
    have e1 : M.length - 1 + 1 ≥ M.length := by omega
    rw [List.take_of_length_le e1] at hc
    rw [List.drop_of_length_le e1]
    refine ⟨.go (P ++ (R ++ S)), ?_, R, rfl, hs, hc⟩
    have hcond : decide (((P.length + (M.length - 1 + 1) : Nat) : Int) < ((P.length + M.length : Nat) : Int)) = false := decide_eq_false (by omega)
    simp only [hcond]
    rfl
  · rintro _ ⟨R, rfl, hs, hc⟩
    exact ⟨R, rfl, hs, hc⟩
/-! the merge of two parts beside each other -/
theorem idx_part {α : Type} (X V S : List α) (k : Nat) (i : Int) (hi : i = (k : Int)) (h1 : X.length ≤ k) (h2 : k - X.length < V.length) : idx (X ++ (V ++ S)) i = some V[k - X.length] := by
  subst hi
  unfold idx
  rw [if_pos (by omega), Int.toNat_natCast, List.getElem?_append_right h1, List.getElem?_append_left h2, List.getElem?_eq_getElem h2]
theorem part_down {α : Type} {lt : α → α → Bool} {V : List α} (hV : SrtL lt V) (q : α → Bool) (hq : ∀ x y, lt y x = false → q y = true → q x = true) (hi : ∀ x, lt x x = false) (k : Nat) (hk : k ≤ V.length) :
    ((∀ h : 0 < k, q (V[k - 1]'(by omega)) = true) → ∀ x ∈ V.take k, q x = true) ∧ ((∀ h : k < V.length, q V[k] = false) → ∀ x ∈ V.drop k, q x = false) := by
  have hp := List.pairwise_iff_getElem.1 hV
  constructor
  · intro h x hx
    obtain ⟨i, hi', rfl⟩ := List.getElem_of_mem hx
    rw [List.length_take] at hi'
    rw [List.getElem_take]
    rcases Nat.lt_or_ge i (k - 1) with h' | h'
    · exact hq _ _ (hp i (k - 1) (by omega) (by omega) h') (h (by omega))
    · have e : i = k - 1 := by omega
      subst e
      exact h (by omega)
  · intro h x hx
    obtain ⟨i, hi', rfl⟩ := List.getElem_of_mem hx
    rw [List.length_drop] at hi'
    rw [List.getElem_drop]
    have h0 := h (by omega)
    cases hc : q V[k + i] with
    | false => rfl
    | true =>
      rw [← h0]
      rcases Nat.eq_zero_or_pos i with h' | h'
      · subst h'; exact hc.symm
      · exact (hq _ _ (hp k (k + i) (by omega) (by omega) (by omega)) hc).symm
theorem halve_G {R : Type} {body : Int × Int → Option (Ctl (Int × Int) (Ctl Int R))} {f : Int → Option R} (G : Option R → Prop) (p : Nat → Bool) (i0 j0 : Nat) (i j : Int) (hi : i = (i0 : Int)) (hj : j = (j0 : Int)) (hij : i0 ≤ j0)
    (hb : ∀ i j : Nat, i0 ≤ i → i < j → j ≤ j0 → body ((i : Int), (j : Int)) = some (.go (if p ((i + j) / 2) then ((((i + j) / 2 + 1 : Nat) : Int), (j : Int)) else ((i : Int), (((i + j) / 2 : Nat) : Int)))))
    (hd : ∀ i : Nat, i0 ≤ i → i ≤ j0 → body ((i : Int), (i : Int)) = some (.done (.go (i : Int))))
    (hk : ∀ c : Nat, i0 ≤ c → c ≤ j0 → (i0 < c → p (c - 1) = true) → (c < j0 → p c = false) → G (f (c : Int))) : G (bindC (loopO body (i, j)) f) := by
  subst hi hj
  obtain ⟨c, h1, h2, h3, h4, h5⟩ := halve p i0 j0 hij hb hd
  rw [h5]
  exact hk c h1 h2 h3 h4
theorem half_nat (i j : Nat) (h : i + j ≤ 4611686018427387904) : IntKind.i64.wrap (ishr .u64 (IntKind.u64.wrap (IntKind.i64.wrap ((i : Int) + (j : Int)))) (1 : Int)) = (((i + j) / 2 : Nat) : Int) := by
  rw [half_eq (by omega) (by omega)]; omega
theorem bind_cmp {τ : Type} (a b : Ent) (k : Bool → Option τ) : ((impl_compareEnts a b).bind fun R => k (decide (R < (0 : Int)))) = k (entLt a b) := by
  obtain ⟨r, hr, h1, _⟩ := compareEnts_sign a b
  rw [hr]
  simp [h1]
theorem sym_left (f_ : Nat) (P V S : List Ent) (u : Ent) (a m b : Int) (ha : a = ((P.length : Nat) : Int)) (hm : m = ((P.length + 1 : Nat) : Int)) (hb : b = ((P.length + 1 + V.length : Nat) : Int))
    (hl : P.length + 1 + V.length + S.length ≤ 1048576) (hV : SrtL entLt V) :
    ∃ R, slices_symMergeCmpFunc_57869_at_impl_compareEntsF (f_ + 1) (P ++ (u :: (V ++ S))) a m b = some (P ++ (R ++ S)) ∧ SrtL entLt R ∧ ClsL keyE R ([u] ++ V) := by
  subst ha hm hb
  rw [slices_symMergeCmpFunc_57869_at_impl_compareEntsF]
  have w0 : decide (IntKind.i64.wrap (((P.length + 1 : Nat) : Int) - ((P.length : Nat) : Int)) = (1 : Int)) = true := by
    rw [wrap_ok (by omega) (by omega)]; exact decide_eq_true (by omega)
  simp only [w0, if_true]
  have eX : P ++ (u :: (V ++ S)) = (P ++ [u]) ++ (V ++ S) := by simp
  have lX : (P ++ [u]).length = P.length + 1 := by simp
  refine halve_G (fun x => ∃ R, x = some (P ++ (R ++ S)) ∧ SrtL entLt R ∧ ClsL keyE R ([u] ++ V)) (fun h => if hh : h - (P.length + 1) < V.length then entLt V[h - (P.length + 1)] u else false) (P.length + 1) (P.length + 1 + V.length) _ _ rfl rfl (by omega) ?_ ?_ ?_
  · intro i j h1 h2 h3
    have c1 : decide ((i : Int) < (j : Int)) = true := decide_eq_true (by omega)
    have hh : (i + j) / 2 - (P.length + 1) < V.length := by omega
    have e1 : idx (P ++ (u :: (V ++ S))) (((i + j) / 2 : Nat) : Int) = some V[(i + j) / 2 - (P.length + 1)] := by
      rw [eX, idx_part (P ++ [u]) V S ((i + j) / 2) _ rfl (by omega) (by omega)]
      congr 2
      omega
    have e2 : idx (P ++ (u :: (V ++ S))) ((P.length : Nat) : Int) = some u := idx_mid _ _ _ _ rfl
    have w1 : IntKind.i64.wrap ((((i + j) / 2 : Nat) : Int) + 1) = (((i + j) / 2 + 1 : Nat) : Int) := by rw [wrap_ok (by omega) (by omega)]; omega
    simp only [c1, if_true, half_nat i j (by omega), e1, e2, Option.bind_some, w1, dif_pos hh]
    rw [bind_cmp _ _ (fun q => bindC (if q = true then _ else _) _)]
    cases entLt V[(i + j) / 2 - (P.length + 1)] u <;> rfl
  · intro i h1 h2
    have c1 : decide ((i : Int) < (i : Int)) = false := decide_eq_false (by omega)
    simp only [c1]; rfl
  · intro c h1 h2 h3 h4
    obtain ⟨k, rfl⟩ : ∃ k, c = P.length + 1 + k := ⟨c - (P.length + 1), by omega⟩
    have hk : k ≤ V.length := by omega
    obtain ⟨p1, p2⟩ := part_down hV (fun x => entLt x u) (fun x y h h' => entOrd3.le_lt h h') (fun x => entOrd3.irr x x rfl) k hk
    have g1 := p1 (fun h0 => by
      have := h3 (by omega)
      have e : P.length + 1 + k - 1 - (P.length + 1) = k - 1 := by omega
      simp only [e] at this
      rwa [dif_pos (by omega)] at this)
    have g2 := p2 (fun h0 => by
      have := h4 (by omega)
      have e : P.length + 1 + k - (P.length + 1) = k := by omega
      simp only [e] at this
      rwa [dif_pos (by omega)] at this)
    generalize hV1 : V.take k = V1 at g1
    generalize hV2 : V.drop k = V2 at g2
    have hVe : V = V1 ++ V2 := by rw [← hV1, ← hV2, List.take_append_drop]
    have hV1l : V1.length = k := by rw [← hV1, List.length_take]; omega
    clear hV1 hV2 h3 h4 p1 p2
    subst hVe
    have w2 : IntKind.i64.wrap (((P.length + 1 + k : Nat) : Int) - (1 : Int)) = ((P.length + k : Nat) : Int) := by rw [wrap_ok (by omega) (by omega)]; omega
    simp only [w2]
    refine loopO_G (τ := Int × List Ent) (ρ := List Ent) (R := List Ent) (fun x => ∃ R, x = some (P ++ (R ++ S)) ∧ SrtL entLt R ∧ ClsL keyE R ([u] ++ (V1 ++ V2)))
      (fun t s => s = (((P.length + t : Nat) : Int), P ++ (V1.take t ++ (u :: (V1.drop t ++ (V2 ++ S)))))) k (fun r => r = .go (P ++ ((V1 ++ u :: V2) ++ S))) ?_ ?_ ?_ ?_
    · show _ = _
      simp
    · rintro t _ ht rfl
      left
      have ht1 : t < V1.length := by omega
      have e1 : P ++ (V1.take t ++ (u :: (V1.drop t ++ (V2 ++ S)))) = (P ++ V1.take t) ++ u :: ([] ++ V1[t] :: (V1.drop (t + 1) ++ (V2 ++ S))) := by
        rw [List.drop_eq_getElem_cons ht1]; simp only [List.append_assoc, List.cons_append, List.nil_append]
      have e2 : P ++ (V1.take (t + 1) ++ (u :: (V1.drop (t + 1) ++ (V2 ++ S)))) = (P ++ V1.take t) ++ V1[t] :: ([] ++ u :: (V1.drop (t + 1) ++ (V2 ++ S))) := by
        rw [take_snoc V1 t ht1]; simp only [List.append_assoc, List.cons_append, List.nil_append]
      have w3 : IntKind.i64.wrap (((P.length + t : Nat) : Int) + 1) = ((P.length + (t + 1) : Nat) : Int) := by rw [wrap_ok (by omega) (by omega)]; omega
      obtain ⟨q1, q2, q3, q4, q5, q6⟩ := swap_at (P ++ V1.take t) [] (V1.drop (t + 1) ++ (V2 ++ S)) u V1[t] ((P.length + t : Nat) : Int) ((P.length + (t + 1) : Nat) : Int)
        (by rw [List.length_append, List.length_take]; omega) (by simp only [List.length_append, List.length_take, List.length_nil]; omega)
      have c1 : decide (((P.length + t : Nat) : Int) < ((P.length + k : Nat) : Int)) = true := decide_eq_true (by omega)
      refine ⟨_, ?_, rfl⟩
      simp only [c1, if_true, w3]
      rw [e1, e2]
      simp only [q1, q2, q3, q5, Option.bind_some]
    · rintro _ rfl
      refine ⟨_, ?_, rfl⟩
      have c1 : decide (((P.length + k : Nat) : Int) < ((P.length + k : Nat) : Int)) = false := decide_eq_false (by omega)
      simp only [c1]
      rw [List.take_of_length_le (by omega), List.drop_of_length_le (by omega)]
      simp
    · rintro _ rfl
      refine ⟨V1 ++ u :: V2, rfl, ?_, ?_⟩
      · refine hV.left.append (List.pairwise_cons.2 ⟨fun y hy => g2 y hy, hV.right⟩) ?_
        intro x hx y hy
        rcases List.mem_cons.1 hy with rfl | hy
        · exact entOrd3.asym (g1 x hx)
        · exact hV.cross x hx y hy
      · have e2 : V1 ++ u :: V2 = (V1 ++ [u]) ++ V2 := by simp
        have e3 : [u] ++ (V1 ++ V2) = ([u] ++ V1) ++ V2 := by simp
        rw [e2, e3]
        refine (ClsL.swap entOrd3 (u := [u]) (v := V1) ?_).append (ClsL.refl _ _)
        intro x hx y hy
        rw [List.mem_singleton.1 hy]
        exact g1 x hx
theorem sym_right (f_ : Nat) (P U S : List Ent) (v : Ent) (a m b : Int) (ha : a = ((P.length : Nat) : Int)) (hm : m = ((P.length + U.length : Nat) : Int)) (hb : b = ((P.length + U.length + 1 : Nat) : Int)) (hU1 : 1 < U.length)
    (hl : P.length + 1 + U.length + S.length ≤ 1048576) (hU : SrtL entLt U) :
    ∃ R, slices_symMergeCmpFunc_57869_at_impl_compareEntsF (f_ + 1) (P ++ (U ++ (v :: S))) a m b = some (P ++ (R ++ S)) ∧ SrtL entLt R ∧ ClsL keyE R (U ++ [v]) := by
  subst ha hm hb
  rw [slices_symMergeCmpFunc_57869_at_impl_compareEntsF]
  have w0 : decide (IntKind.i64.wrap (((P.length + U.length : Nat) : Int) - ((P.length : Nat) : Int)) = (1 : Int)) = false := by
    rw [wrap_ok (by omega) (by omega)]; exact decide_eq_false (by omega)
  have w1 : decide (IntKind.i64.wrap (((P.length + U.length + 1 : Nat) : Int) - ((P.length + U.length : Nat) : Int)) = (1 : Int)) = true := by
    rw [wrap_ok (by omega) (by omega)]; exact decide_eq_true (by omega)
  simp only [w0, w1, if_true, Bool.false_eq_true, if_false]
  refine halve_G (fun x => ∃ R, x = some (P ++ (R ++ S)) ∧ SrtL entLt R ∧ ClsL keyE R (U ++ [v])) (fun h => if hh : h - P.length < U.length then !entLt v U[h - P.length] else false) P.length (P.length + U.length) _ _ rfl rfl (by omega) ?_ ?_ ?_
  · intro i j h1 h2 h3
    have c1 : decide ((i : Int) < (j : Int)) = true := decide_eq_true (by omega)
    have hh : (i + j) / 2 - P.length < U.length := by omega
    have e1 : idx (P ++ (U ++ (v :: S))) (((i + j) / 2 : Nat) : Int) = some U[(i + j) / 2 - P.length] := idx_part P U (v :: S) ((i + j) / 2) _ rfl (by omega) (by omega)
    have e2 : idx (P ++ (U ++ (v :: S))) ((P.length + U.length : Nat) : Int) = some v := by
      rw [← List.append_assoc]; exact idx_mid _ _ _ _ (by simp)
    have w1 : IntKind.i64.wrap ((((i + j) / 2 : Nat) : Int) + 1) = (((i + j) / 2 + 1 : Nat) : Int) := by rw [wrap_ok (by omega) (by omega)]; omega
    simp only [c1, if_true, half_nat i j (by omega), e1, e2, Option.bind_some, w1, dif_pos hh]
    rw [bind_cmp _ _ (fun q => bindC (if (!q) = true then _ else _) _)]
    cases entLt v U[(i + j) / 2 - P.length] <;> rfl
  · intro i h1 h2
    have c1 : decide ((i : Int) < (i : Int)) = false := decide_eq_false (by omega)
    simp only [c1]; rfl
  · intro c h1 h2 h3 h4
    obtain ⟨k, rfl⟩ : ∃ k, c = P.length + k := ⟨c - P.length, by omega⟩
    have hk : k ≤ U.length := by omega
    obtain ⟨p1, p2⟩ := part_down hU (fun x => !entLt v x) (fun x y h h' => by
      simp only [Bool.not_eq_true'] at h' ⊢
      exact entOrd3.le_trans h h') (fun x => entOrd3.irr x x rfl) k hk
    have g1 := p1 (fun h0 => by
      have := h3 (by omega)
      have e : P.length + k - 1 - P.length = k - 1 := by omega
      simp only [e] at this
      rwa [dif_pos (by omega)] at this)
    have g2 := p2 (fun h0 => by
      have := h4 (by omega)
      have e : P.length + k - P.length = k := by omega
      simp only [e] at this
      rwa [dif_pos (by omega)] at this)
    generalize hU1 : U.take k = U1 at g1
    generalize hU2 : U.drop k = U2 at g2
    have hUe : U = U1 ++ U2 := by rw [← hU1, ← hU2, List.take_append_drop]
    have hU1l : U1.length = k := by rw [← hU1, List.length_take]; omega
    clear hU1 hU2 h3 h4 p1 p2
    subst hUe
    rw [List.length_append] at *
    refine loopO_G (τ := Int × List Ent) (ρ := List Ent) (R := List Ent) (fun x => ∃ R, x = some (P ++ (R ++ S)) ∧ SrtL entLt R ∧ ClsL keyE R ((U1 ++ U2) ++ [v]))
      (fun t s => s = (((P.length + (U1.length + (U2.length - t)) : Nat) : Int), P ++ (U1 ++ (U2.take (U2.length - t) ++ (v :: (U2.drop (U2.length - t) ++ S)))))) U2.length (fun r => r = .go (P ++ ((U1 ++ v :: U2) ++ S))) ?_ ?_ ?_ ?_
    · show _ = _
      simp
    · rintro t _ ht rfl
      left
      obtain ⟨d, hd⟩ : ∃ d, U2.length - t = d + 1 := ⟨U2.length - t - 1, by omega⟩
      have hd2 : U2.length - (t + 1) = d := by omega
      have ht1 : d < U2.length := by omega
      rw [hd]
      have e1 : P ++ (U1 ++ (U2.take (d + 1) ++ (v :: (U2.drop (d + 1) ++ S)))) = (P ++ (U1 ++ U2.take d)) ++ U2[d] :: ([] ++ v :: (U2.drop (d + 1) ++ S)) := by
        rw [take_snoc U2 d ht1]; simp only [List.append_assoc, List.cons_append, List.nil_append]
      have e2 : P ++ (U1 ++ (U2.take d ++ (v :: (U2.drop d ++ S)))) = (P ++ (U1 ++ U2.take d)) ++ v :: ([] ++ U2[d] :: (U2.drop (d + 1) ++ S)) := by
        rw [List.drop_eq_getElem_cons ht1]; simp only [List.append_assoc, List.cons_append, List.nil_append]
      have w3 : IntKind.i64.wrap (((P.length + (U1.length + (d + 1)) : Nat) : Int) - 1) = ((P.length + (U1.length + d) : Nat) : Int) := by rw [wrap_ok (by omega) (by omega)]; omega
      obtain ⟨q1, q2, q3, q4, q5, q6⟩ := swap_at (P ++ (U1 ++ U2.take d)) [] (U2.drop (d + 1) ++ S) U2[d] v ((P.length + (U1.length + d) : Nat) : Int) ((P.length + (U1.length + (d + 1)) : Nat) : Int)
        (by simp only [List.length_append, List.length_take]; omega) (by simp only [List.length_append, List.length_take, List.length_nil]; omega)
      have c1 : decide (((P.length + (U1.length + (d + 1)) : Nat) : Int) > ((P.length + k : Nat) : Int)) = true := decide_eq_true (by omega)
      refine ⟨_, ?_, rfl⟩
      simp only [c1, if_true, w3, hd2]
      rw [e1, e2]
      simp only [q1, q2, q4, q6, Option.bind_some]
    · rintro _ rfl
      refine ⟨_, ?_, rfl⟩
      rw [Nat.sub_self]
      have c1 : decide (((P.length + (U1.length + 0) : Nat) : Int) > ((P.length + k : Nat) : Int)) = false := decide_eq_false (by omega)
      simp only [c1]
      simp
    · rintro _ rfl
      refine ⟨U1 ++ v :: U2, rfl, ?_, ?_⟩
      · refine hU.left.append (List.pairwise_cons.2 ⟨fun y hy => entOrd3.asym (by simpa using g2 y hy), hU.right⟩) ?_
        intro x hx y hy
        rcases List.mem_cons.1 hy with rfl | hy
        · simpa using g1 x hx
        · exact hU.cross x hx y hy
      · have e2 : U1 ++ v :: U2 = U1 ++ ([v] ++ U2) := by simp
        have e3 : (U1 ++ U2) ++ [v] = U1 ++ (U2 ++ [v]) := by simp
        rw [e2, e3]
        refine (ClsL.refl _ _).append (ClsL.swap entOrd3 (u := U2) (v := [v]) ?_)
        intro x hx y hy
        rw [List.mem_singleton.1 hx]
        simpa using g2 y hy
theorem guard_go {R : Type} (x y : Bool) (act : Option (List Ent)) (D D' : List Ent) (k : List Ent → Option R) (h1 : x = true → y = true → act = some D') (h2 : ¬ (x = true ∧ y = true) → D = D') :
    ((if x = true then some y else some false).bind fun T => bindC (if T = true then (act.bind fun R => some (.go R)) else some (.go D)) k) = k D' := by
  cases x with
  | false => rw [h2 (by simp)]; rfl
  | true =>
    cases y with
    | false => rw [h2 (by simp)]; rfl
    | true => rw [h1 rfl rfl]; rfl
theorem symMerge_eq : ∀ (f_ : Nat) (P U V S : List Ent) (a m b : Int) (A M B : Nat) (ha : a = (A : Int)) (hm : m = (M : Int)) (hb : b = (B : Int)) (hA : A = P.length) (hM : M = A + U.length) (hB : B = M + V.length) (hU0 : 0 < U.length) (hV0 : 0 < V.length)
    (hf : U.length + V.length ≤ 2 ^ f_) (hl : P.length + U.length + V.length + S.length ≤ 1048576) (hU : SrtL entLt U) (hV : SrtL entLt V),
    ∃ R, slices_symMergeCmpFunc_57869_at_impl_compareEntsF f_ (P ++ (U ++ (V ++ S))) a m b = some (P ++ (R ++ S)) ∧ SrtL entLt R ∧ ClsL keyE R (U ++ V) := by
  intro f_
  induction f_ with
  | zero =>
    intros
    omega
  | succ f_ ih =>
    intro P U V S a m b A M B ha hm hb hA hM hB hU0 hV0 hf hl hU hV
    rcases Nat.lt_or_ge 1 U.length with hU1 | hU1
    rcases Nat.lt_or_ge 1 V.length with hV1 | hV1
    · -- both of two or more
      rw [slices_symMergeCmpFunc_57869_at_impl_compareEntsF]
      subst ha hm hb
      have w0 : decide (IntKind.i64.wrap ((M : Int) - (A : Int)) = (1 : Int)) = false := by
        rw [wrap_ok (by omega) (by omega)]; exact decide_eq_false (by omega)
      have w1 : decide (IntKind.i64.wrap ((B : Int) - (M : Int)) = (1 : Int)) = false := by
        rw [wrap_ok (by omega) (by omega)]; exact decide_eq_false (by omega)
      obtain ⟨D, hD⟩ : ∃ D, D = (A + B) / 2 := ⟨_, rfl⟩
      have w2 := half_nat A B (by omega)
      rw [← hD] at w2
      have w3 : IntKind.i64.wrap ((D : Int) + (M : Int)) = ((D + M : Nat) : Int) := by rw [wrap_ok (by omega) (by omega)]; omega
      have w4 : IntKind.i64.wrap (((D + M : Nat) : Int) - (1 : Int)) = ((D + M - 1 : Nat) : Int) := by rw [wrap_ok (by omega) (by omega)]; omega
      simp only [w0, w1, w2, w3, w4, Bool.false_eq_true, if_false]
      obtain ⟨s0, r0, hs, b1, b2, b3, b4, b5, b6, b7⟩ : ∃ s0 r0 : Nat, (if (decide ((M : Int) > (D : Int))) = true then (some (Ctl.go (ρ := List Ent) (IntKind.i64.wrap (((D + M : Nat) : Int) - (B : Int)), (D : Int)))) else (some (.go ((A : Int), (M : Int))))) = some (.go ((s0 : Int), (r0 : Int))) ∧
          A ≤ s0 ∧ s0 ≤ r0 ∧ r0 ≤ M ∧ r0 ≤ D ∧ D + M ≤ s0 + B ∧ (r0 = D ∨ r0 = M) ∧ (s0 = A ∨ s0 + B = D + M) := by
        rcases Nat.lt_or_ge D M with h | h
        · refine ⟨D + M - B, D, ?_, by omega, by omega, by omega, by omega, by omega, by omega, by omega⟩
          rw [if_pos (decide_eq_true (by omega)), wrap_ok (by omega) (by omega)]
          congr 3
          omega
        · refine ⟨A, M, ?_, by omega, by omega, by omega, by omega, by omega, by omega, by omega⟩
          rw [if_neg (by simp; omega)]
      rw [hs, bindC_go]
      clear hs
      refine halve_G (fun x => ∃ R, x = some (P ++ (R ++ S)) ∧ SrtL entLt R ∧ ClsL keyE R (U ++ V)) (fun c => if hh : c - A < U.length ∧ D - 1 - c < V.length then !entLt (V[D - 1 - c]'hh.2) (U[c - A]'hh.1) else false) s0 r0 _ _ rfl rfl b2 ?_ ?_ ?_
      · intro i j h1 h2 h3
        have c1 : decide ((i : Int) < (j : Int)) = true := decide_eq_true (by omega)
        have hh : (i + j) / 2 - A < U.length ∧ D - 1 - (i + j) / 2 < V.length := by omega
        have w5 : IntKind.i64.wrap (((D + M - 1 : Nat) : Int) - (((i + j) / 2 : Nat) : Int)) = ((D + M - 1 - (i + j) / 2 : Nat) : Int) := by rw [wrap_ok (by omega) (by omega)]; omega
        have e1 : idx (P ++ (U ++ (V ++ S))) (((i + j) / 2 : Nat) : Int) = some (U[(i + j) / 2 - A]'hh.1) := by
          rw [idx_part P U (V ++ S) ((i + j) / 2) _ rfl (by omega) (by omega)]
          congr 2
          omega
        have e2 : idx (P ++ (U ++ (V ++ S))) ((D + M - 1 - (i + j) / 2 : Nat) : Int) = some (V[D - 1 - (i + j) / 2]'hh.2) := by
          rw [← List.append_assoc, idx_part (P ++ U) V S (D + M - 1 - (i + j) / 2) _ rfl (by rw [List.length_append]; omega) (by rw [List.length_append]; omega)]
          congr 2
          rw [List.length_append]
          omega
        have w1 : IntKind.i64.wrap ((((i + j) / 2 : Nat) : Int) + 1) = (((i + j) / 2 + 1 : Nat) : Int) := by rw [wrap_ok (by omega) (by omega)]; omega
        simp only [c1, if_true, half_nat i j (by omega), w5, e1, e2, Option.bind_some, w1, dif_pos hh]
        rw [bind_cmp _ _ (fun q => bindC (if (!q) = true then _ else _) _)]
        cases entLt (V[D - 1 - (i + j) / 2]'hh.2) (U[(i + j) / 2 - A]'hh.1) <;> rfl
      · intro i h1 h2
        have c1 : decide ((i : Int) < (i : Int)) = false := decide_eq_false (by omega)
        simp only [c1]; rfl
      · intro c h1 h2 h3 h4
        -- what lies in each part
        have hk1 : c - A ≤ U.length := by omega
        have hk2 : D - c ≤ V.length := by omega
        have x1 : ∀ x ∈ V.take (D - c), ∀ y ∈ U.drop (c - A), entLt x y = true := by
          rcases Nat.lt_or_ge c r0 with hc | hc
          · have hh : c - A < U.length ∧ D - 1 - c < V.length := by omega
            have h4 := h4 hc
            rw [dif_pos hh] at h4
            simp only [Bool.not_eq_false'] at h4
            have t1 := (part_down hV (fun x => entLt x (U[c - A]'hh.1)) (fun x y h h' => entOrd3.le_lt h h') (fun x => entOrd3.irr x x rfl) (D - c) hk2).1 (fun h0 => by
              have e : D - c - 1 = D - 1 - c := by omega
              simp only [e]; exact h4)
            intro x hx y hy
            have t2 := (part_down hU (fun y => !entLt x y) (fun y1 y2 h h' => by
              simp only [Bool.not_eq_true'] at h' ⊢
              cases hq : entLt x y1 with
              | false => rfl
              | true => rw [entOrd3.lt_le hq h] at h'; cases h') (fun x => entOrd3.irr x x rfl) (c - A) hk1).2 (fun h0 => by rw [t1 x hx]; rfl) y hy
            simpa using t2
          · intro x hx y hy
            rcases b6 with e | e
            · have : D - c = 0 := by omega
              rw [this] at hx; simp at hx
            · rw [List.drop_of_length_le (by omega)] at hy; simp at hy
        have x2 : ∀ x ∈ U.take (c - A), ∀ y ∈ V.drop (D - c), entLt y x = false := by
          rcases Nat.lt_or_ge s0 c with hc | hc
          · have h3 := h3 hc
            have hh : c - 1 - A < U.length ∧ D - 1 - (c - 1) < V.length := by
              refine Decidable.byContradiction fun hn => ?_
              rw [dif_neg hn] at h3; cases h3
            rw [dif_pos hh] at h3
            simp only [Bool.not_eq_true'] at h3
            have t1 := (part_down hV (fun y => entLt y (U[c - 1 - A]'hh.1)) (fun x y h h' => entOrd3.le_lt h h') (fun x => entOrd3.irr x x rfl) (D - c) hk2).2 (fun h0 => by
              have e : D - c = D - 1 - (c - 1) := by omega
              simp only [e]; exact h3)
            intro x hx y hy
            have t2 := (part_down hU (fun x => !entLt y x) (fun y1 y2 h h' => by
              simp only [Bool.not_eq_true'] at h' ⊢
              cases hq : entLt y y1 with
              | false => rfl
              | true => rw [entOrd3.lt_le hq h] at h'; cases h') (fun x => entOrd3.irr x x rfl) (c - A) hk1).1 (fun h0 => by
                have e : c - A - 1 = c - 1 - A := by omega
                simp only [e]; rw [t1 y hy]; rfl) x hx
            simpa using t2
          · intro x hx y hy
            rcases b7 with e | e
            · have : c - A = 0 := by omega
              rw [this] at hx; simp at hx
            · rw [List.drop_of_length_le (by omega)] at hy; simp at hy
        have hUe : U = U.take (c - A) ++ U.drop (c - A) := (List.take_append_drop _ _).symm
        have hVe : V = V.take (D - c) ++ V.drop (D - c) := (List.take_append_drop _ _).symm
        have l1 : (U.take (c - A)).length = c - A := by rw [List.length_take]; omega
        have l2 : (U.drop (c - A)).length = M - c := by rw [List.length_drop]; omega
        have l3 : (V.take (D - c)).length = D - c := by rw [List.length_take]; omega
        have l4 : (V.drop (D - c)).length = B + c - (D + M) := by rw [List.length_drop]; omega
        generalize U.take (c - A) = U1 at *
        generalize U.drop (c - A) = U2 at *
        generalize V.take (D - c) = V1 at *
        generalize V.drop (D - c) = V2 at *
        subst hUe hVe
        clear h3 h4 hk1 hk2
        have w6 : IntKind.i64.wrap (((D + M : Nat) : Int) - (c : Int)) = ((D + M - c : Nat) : Int) := by rw [wrap_ok (by omega) (by omega)]; omega
        simp only [List.length_append] at hM hB hl hf
        -- the left half
        obtain ⟨R1, s1, k1, q1, q2⟩ : ∃ R1, SrtL entLt R1 ∧ ClsL keyE R1 (U1 ++ V1) ∧
            (decide ((A : Int) < (c : Int)) = true → decide ((c : Int) < (D : Int)) = true → slices_symMergeCmpFunc_57869_at_impl_compareEntsF f_ (P ++ (U1 ++ (V1 ++ (U2 ++ (V2 ++ S))))) (A : Int) (c : Int) (D : Int) = some (P ++ (R1 ++ (U2 ++ (V2 ++ S))))) ∧
            (¬ (decide ((A : Int) < (c : Int)) = true ∧ decide ((c : Int) < (D : Int)) = true) → P ++ (U1 ++ (V1 ++ (U2 ++ (V2 ++ S)))) = P ++ (R1 ++ (U2 ++ (V2 ++ S)))) := by
          by_cases hc : A < c ∧ c < D
          · obtain ⟨R1, e1, e2, e3⟩ := ih P U1 V1 (U2 ++ (V2 ++ S)) (A : Int) (c : Int) (D : Int) A c D rfl rfl rfl hA (by omega) (by omega) (by omega) (by omega) (by rw [Nat.pow_succ] at hf; omega) (by simp only [List.length_append]; omega) hU.left hV.left
            exact ⟨R1, e2, e3, fun _ _ => e1, fun h => absurd ⟨decide_eq_true (by omega), decide_eq_true (by omega)⟩ h⟩
          · refine ⟨U1 ++ V1, ?_, ClsL.refl _ _, fun h h' => absurd ⟨by have := of_decide_eq_true h; omega, by have := of_decide_eq_true h'; omega⟩ hc, fun _ => by simp⟩
            have : U1 = [] ∨ V1 = [] := by
              rcases Nat.lt_or_ge A c with h | h
              · exact .inr (List.eq_nil_of_length_eq_zero (by omega))
              · exact .inl (List.eq_nil_of_length_eq_zero (by omega))
            rcases this with e | e
            · subst e; exact hV.left
            · subst e; rw [List.append_nil]; exact hU.left
        have hR1 : R1.length = D - A := by rw [k1.length, List.length_append]; omega
        -- the right half
        obtain ⟨R2, s2, k2, q3, q4⟩ : ∃ R2, SrtL entLt R2 ∧ ClsL keyE R2 (U2 ++ V2) ∧
            (decide ((D : Int) < ((D + M - c : Nat) : Int)) = true → decide (((D + M - c : Nat) : Int) < (B : Int)) = true → slices_symMergeCmpFunc_57869_at_impl_compareEntsF f_ (P ++ (R1 ++ (U2 ++ (V2 ++ S)))) (D : Int) ((D + M - c : Nat) : Int) (B : Int) = some (P ++ (R1 ++ R2 ++ S))) ∧
            (¬ (decide ((D : Int) < ((D + M - c : Nat) : Int)) = true ∧ decide (((D + M - c : Nat) : Int) < (B : Int)) = true) → P ++ (R1 ++ (U2 ++ (V2 ++ S))) = P ++ (R1 ++ R2 ++ S)) := by
          by_cases hc : D < D + M - c ∧ D + M - c < B
          · obtain ⟨R2, e1, e2, e3⟩ := ih (P ++ R1) U2 V2 S (D : Int) ((D + M - c : Nat) : Int) (B : Int) D (D + M - c) B rfl rfl rfl (by rw [List.length_append]; omega) (by omega) (by omega) (by omega) (by omega) (by rw [Nat.pow_succ] at hf; omega) (by simp only [List.length_append]; omega) hU.right hV.right
            refine ⟨R2, e2, e3, fun _ _ => ?_, fun h => absurd ⟨decide_eq_true (by omega), decide_eq_true (by omega)⟩ h⟩
            simp only [List.append_assoc] at e1 ⊢
            exact e1
          · refine ⟨U2 ++ V2, ?_, ClsL.refl _ _, fun h h' => absurd ⟨by have := of_decide_eq_true h; omega, by have := of_decide_eq_true h'; omega⟩ hc, fun _ => by simp⟩
            have : U2 = [] ∨ V2 = [] := by
              rcases Nat.lt_or_ge D (D + M - c) with h | h
              · exact .inr (List.eq_nil_of_length_eq_zero (by omega))
              · exact .inl (List.eq_nil_of_length_eq_zero (by omega))
            rcases this with e | e
            · subst e; exact hV.right
            · subst e; rw [List.append_nil]; exact hU.right
        refine ⟨R1 ++ R2, ?_, mergeParts entOrd3 hU hV x1 x2 s1 k1 s2 k2⟩
        simp only [w6]
        rw [guard_go _ _ _ _ (P ++ (U1 ++ (V1 ++ (U2 ++ (V2 ++ S))))), guard_go _ _ _ _ _ _ q1 q2, guard_go _ _ _ _ _ _ q3 q4]
        · intro h h'
          have h := of_decide_eq_true h
          have h' := of_decide_eq_true h'
          have := rotate_eq (P ++ U1) U2 V1 (V2 ++ S) (c : Int) (M : Int) ((D + M - c : Nat) : Int) (by rw [List.length_append]; omega) (by rw [List.length_append]; omega) (by rw [List.length_append]; omega) (by omega) (by omega) (by rw [List.length_append]; omega)
          simp only [List.append_assoc] at this ⊢
          exact this
        · intro h
          have : U2 = [] ∨ V1 = [] := by
            rcases Nat.lt_or_ge c M with h1 | h1
            · refine .inr (List.eq_nil_of_length_eq_zero ?_)
              rcases Nat.lt_or_ge M (D + M - c) with h2 | h2
              · exact absurd ⟨decide_eq_true (by omega), decide_eq_true (by omega)⟩ h
              · omega
            · exact .inl (List.eq_nil_of_length_eq_zero (by omega))
          rcases this with e | e
          · subst e; simp
          · subst e; simp
    · obtain ⟨v, rfl⟩ : ∃ v, V = [v] := by
        match V, hV0, hV1 with
        | [v], _, _ => exact ⟨v, rfl⟩
      exact sym_right f_ P U S v a m b (by omega) (by omega) (by simp only [List.length_singleton] at hB; omega) hU1 (by simp only [List.length_singleton] at hl; omega) hU
    · obtain ⟨u, rfl⟩ : ∃ u, U = [u] := by
        match U, hU0, hU1 with
        | [u], _, _ => exact ⟨u, rfl⟩
      simp only [List.length_singleton] at hl hM
      exact sym_left f_ P V S u a m b (by omega) (by omega) (by omega) (by omega) hV
theorem blk_left {α : Type} (P Y Y' : List α) (i z : Nat) (h : i + z ≤ P.length) : ((P ++ Y).drop i).take z = ((P ++ Y').drop i).take z := by
  rw [List.drop_append_of_le_length (by omega), List.take_append_of_le_length (by rw [List.length_drop]; omega), List.drop_append_of_le_length (by omega), List.take_append_of_le_length (by rw [List.length_drop]; omega)]
theorem blk_right {α : Type} (W W' S : List α) (i z : Nat) (h : W.length ≤ i) (h' : W'.length = W.length) : ((W ++ S).drop i).take z = ((W' ++ S).drop i).take z := by
  rw [List.drop_append, List.drop_append, List.drop_of_length_le h, List.drop_of_length_le (l := W') (by omega), h']
theorem blk_mid {α : Type} (P R S : List α) (i z : Nat) (h : P.length = i) (h' : R.length = z) : ((P ++ (R ++ S)).drop i).take z = R := by
  rw [List.drop_append_of_le_length (by omega), List.drop_of_length_le (by omega), List.nil_append, List.take_append_of_le_length (by omega), List.take_of_length_le (by omega)]
theorem cut3 {α : Type} (X : List α) (i z : Nat) : X = X.take i ++ ((X.drop i).take z ++ X.drop (i + z)) := by
  rw [show X.drop (i + z) = (X.drop i).drop z by rw [List.drop_drop], List.take_append_drop, List.take_append_drop]
theorem SrtL.nil {α : Type} {lt : α → α → Bool} : SrtL lt ([] : List α) := List.Pairwise.nil
theorem symMerge64_eq (P U V S : List Ent) (a m b : Int) (A M B : Nat) (ha : a = (A : Int)) (hm : m = (M : Int)) (hb : b = (B : Int)) (hA : A = P.length) (hM : M = A + U.length) (hB : B = M + V.length) (hU0 : 0 < U.length) (hV0 : 0 < V.length)
    (hl : P.length + U.length + V.length + S.length ≤ 1048576) (hU : SrtL entLt U) (hV : SrtL entLt V) :
    ∃ R, slices_symMergeCmpFunc_57869_at_impl_compareEnts (P ++ (U ++ (V ++ S))) a m b = some (P ++ (R ++ S)) ∧ SrtL entLt R ∧ ClsL keyE R (U ++ V) :=
  symMerge_eq 64 P U V S a m b A M B ha hm hb hA hM hB hU0 hV0 (Nat.le_trans (show U.length + V.length ≤ 1048576 by omega) (by decide)) hl hU hV
theorem stable_blocks (X0 : List Ent) (hl : X0.length ≤ 1048576) {R : Type} {f : Int × List Ent → Option R} (G : Option R → Prop)
    (hk : ∀ (t : Nat) (X : List Ent), X.length = X0.length → ClsL keyE X X0 → t * 20 ≤ X0.length → X0.length < t * 20 + 20 → (∀ i, i < t → SrtL entLt ((X.drop (i * 20)).take 20)) → G (f (((t * 20 : Nat) : Int), X))) :
    G (bindC (loopO (fun (S1 : Int × Int × List Ent) => if (decide (S1.2.1 ≤ ((X0.length : Nat) : Int))) = true then ((slices_insertionSortCmpFunc_57869_at_impl_compareEnts S1.2.2 S1.1 S1.2.1).bind fun R6 =>
  some (.go (S1.2.1, IntKind.i64.wrap (S1.2.1 + (20 : Int)), R6)))
  else (some (.done (.go (S1.1, S1.2.2)))))
  ((0 : Int), (20 : Int), X0)) f) := by
  refine loopO_G (τ := Int × Int × List Ent) (ρ := Int × List Ent) (R := R) G
    (fun t s => ∃ X : List Ent, s = (((t * 20 : Nat) : Int), ((t * 20 + 20 : Nat) : Int), X) ∧ X.length = X0.length ∧ ClsL keyE X X0 ∧ t * 20 ≤ X0.length ∧ (∀ i, i < t → SrtL entLt ((X.drop (i * 20)).take 20)))
    (X0.length + 1) (fun r => ∃ (t : Nat) (X : List Ent), r = .go (((t * 20 : Nat) : Int), X) ∧ X.length = X0.length ∧ ClsL keyE X X0 ∧ t * 20 ≤ X0.length ∧ X0.length < t * 20 + 20 ∧ (∀ i, i < t → SrtL entLt ((X.drop (i * 20)).take 20)))
    ⟨X0, rfl, rfl, ClsL.refl _ _, by omega, fun i h => by omega⟩ ?_ ?_ ?_
  · rintro t _ ht ⟨X, rfl, hx, hc, h1, h2⟩
    rcases Nat.lt_or_ge X0.length (t * 20 + 20) with h | h
    · right
      refine ⟨_, ?_, t, X, rfl, hx, hc, h1, h, h2⟩
      rw [if_neg (by simp; omega)]
    · left
      have hX := cut3 X (t * 20) 20
      have lP : (X.take (t * 20)).length = t * 20 := by rw [List.length_take]; omega
      have lM : ((X.drop (t * 20)).take 20).length = 20 := by rw [List.length_take, List.length_drop]; omega
      have lS : (X.drop (t * 20 + 20)).length = X0.length - (t * 20 + 20) := by rw [List.length_drop]; omega
      generalize X.take (t * 20) = P at *
      generalize (X.drop (t * 20)).take 20 = M at *
      generalize X.drop (t * 20 + 20) = S at *
      subst hX
      obtain ⟨N, hN, hs, hcl⟩ := insSort_eq P M S ((t * 20 : Nat) : Int) ((t * 20 + 20 : Nat) : Int) (by omega) (by omega) (by omega)
      have lN : N.length = 20 := by rw [hcl.length, lM]
      have w1 : IntKind.i64.wrap (((t * 20 + 20 : Nat) : Int) + 20) = (((t + 1) * 20 + 20 : Nat) : Int) := by rw [wrap_ok (by omega) (by omega)]; omega
      have w2 : ((t + 1) * 20 : Nat) = t * 20 + 20 := by omega
      refine ⟨(((t * 20 + 20 : Nat) : Int), (((t + 1) * 20 + 20 : Nat) : Int), P ++ (N ++ S)), ?_, P ++ (N ++ S), by rw [w2], ?_, ?_, by omega, ?_⟩
      · rw [if_pos (decide_eq_true (by show ((t * 20 + 20 : Nat) : Int) ≤ _; omega))]
        simp only [hN, Option.bind_some, w1]
      · simp only [List.length_append] at hx ⊢; omega
      · exact ((ClsL.refl keyE P).append (hcl.append (ClsL.refl _ _))).trans hc
      · intro i hi
        rcases Nat.lt_or_ge i t with h' | h'
        · rw [blk_left P _ (M ++ S) _ _ (by omega)]; exact h2 i h'
        · obtain rfl : i = t := by omega
          rw [blk_mid P N S _ _ lP lN]; exact hs
  · rintro _ ⟨X, rfl, hx, hc, h1, h2⟩
    omega
  · rintro _ ⟨t, X, rfl, hx, hc, h1, h3, h2⟩
    exact hk t X hx hc h1 h3 h2
theorem stable_pass (X0 : List Ent) (n z : Nat) (hn : X0.length = n) (hz : 0 < z) (hzn : z < n) (hl : n ≤ 262144) (hb : ∀ i, SrtL entLt ((X0.drop (i * z)).take z)) {R : Type} {f : List Ent → Option R} (G : Option R → Prop)
    (hk : ∀ (X : List Ent), X.length = n → ClsL keyE X X0 → (∀ i, SrtL entLt ((X.drop (i * (2 * z))).take (2 * z))) → G (f X)) :
    G (bindC (loopO (fun (S17 : Int × Int × List Ent) => if (decide (S17.2.1 ≤ (n : Int))) = true then ((slices_symMergeCmpFunc_57869_at_impl_compareEnts S17.2.2 S17.1 (IntKind.i64.wrap (S17.1 + (z : Int))) S17.2.1).bind fun R22 =>
  some (.go (S17.2.1, IntKind.i64.wrap (S17.2.1 + (IntKind.i64.wrap ((2 : Int) * (z : Int)))), R22)))
  else (some (.done (.go (S17.1, S17.2.2)))))
  ((0 : Int), IntKind.i64.wrap ((2 : Int) * (z : Int)), X0))
  (fun (T19 : Int × List Ent) => bindC (if (decide (IntKind.i64.wrap (T19.1 + (z : Int)) < (n : Int))) = true then ((slices_symMergeCmpFunc_57869_at_impl_compareEnts T19.2 T19.1 (IntKind.i64.wrap (T19.1 + (z : Int))) (n : Int)).bind fun R28 =>
  some (.go R28))
  else (some (.go T19.2))) f)) := by
  have w0 : IntKind.i64.wrap ((2 : Int) * (z : Int)) = ((2 * z : Nat) : Int) := by rw [wrap_ok (by omega) (by omega)]; omega
  rw [w0]
  refine loopO_G (τ := Int × Int × List Ent) (ρ := Int × List Ent) (R := R) G
    (fun t s => ∃ (c : Nat) (X : List Ent), c = t * (2 * z) ∧ s = ((c : Int), ((c + 2 * z : Nat) : Int), X) ∧ X.length = n ∧ ClsL keyE X X0 ∧ c ≤ n ∧ (∀ i, i < t → SrtL entLt ((X.drop (i * (2 * z))).take (2 * z))) ∧ (∀ i, c ≤ i * z → SrtL entLt ((X.drop (i * z)).take z)))
    (n + 1) (fun r => ∃ (t c : Nat) (X : List Ent), c = t * (2 * z) ∧ r = .go ((c : Int), X) ∧ X.length = n ∧ ClsL keyE X X0 ∧ c ≤ n ∧ n < c + 2 * z ∧ (∀ i, i < t → SrtL entLt ((X.drop (i * (2 * z))).take (2 * z))) ∧ (∀ i, c ≤ i * z → SrtL entLt ((X.drop (i * z)).take z)))
    ⟨0, X0, by omega, by simp, hn, ClsL.refl _ _, by omega, fun i h => by omega, fun i _ => hb i⟩ ?_ ?_ ?_
  · rintro t _ ht ⟨c, X, hct, rfl, hx, hc, h1, h2, h3⟩
    rcases Nat.lt_or_ge n (c + 2 * z) with h | h
    · right
      refine ⟨_, ?_, t, c, X, hct, rfl, hx, hc, h1, h, h2, h3⟩
      rw [if_neg (by simp; omega)]
    · left
      have hX := cut3 X c z
      have hX2 := cut3 (X.drop (c + z)) 0 z
      rw [List.take_zero, List.nil_append, List.drop_zero, List.drop_drop] at hX2
      rw [hX2] at hX
      have lP : (X.take c).length = c := by rw [List.length_take]; omega
      have lU : ((X.drop c).take z).length = z := by rw [List.length_take, List.length_drop]; omega
      have lV : ((X.drop (c + z)).take z).length = z := by rw [List.length_take, List.length_drop]; omega
      have lS : (X.drop (c + z + (0 + z))).length = n - (c + 2 * z) := by rw [List.length_drop]; omega
      have sU : SrtL entLt ((X.drop c).take z) := by
        have := h3 (2 * t) (by rw [hct, Nat.mul_left_comm, Nat.mul_assoc]; exact Nat.le_refl _)
        rwa [show 2 * t * z = c by rw [hct, Nat.mul_left_comm, Nat.mul_assoc]] at this
      have sV : SrtL entLt ((X.drop (c + z)).take z) := by
        have := h3 (2 * t + 1) (by rw [hct, Nat.mul_left_comm, Nat.add_mul, Nat.mul_assoc]; omega)
        rwa [show (2 * t + 1) * z = c + z by rw [hct, Nat.mul_left_comm, Nat.add_mul, Nat.mul_assoc, Nat.one_mul]] at this
      generalize X.take c = P at *
      generalize (X.drop c).take z = U at *
      generalize (X.drop (c + z)).take z = V at *
      generalize X.drop (c + z + (0 + z)) = S at *
      clear hX2
      subst hX
      obtain ⟨N, hN, hs, hcl⟩ := symMerge64_eq P U V S (c : Int) ((c + z : Nat) : Int) ((c + 2 * z : Nat) : Int) c (c + z) (c + 2 * z) rfl rfl rfl (by omega) (by omega) (by omega) (by omega) (by omega) (by omega) sU sV
      have lN : N.length = 2 * z := by rw [hcl.length, List.length_append, lU, lV]; omega
      have w1 : IntKind.i64.wrap (((c + 2 * z : Nat) : Int) + ((2 * z : Nat) : Int)) = ((c + 2 * z + 2 * z : Nat) : Int) := by rw [wrap_ok (by omega) (by omega)]; omega
      have w2 : IntKind.i64.wrap ((c : Int) + (z : Int)) = ((c + z : Nat) : Int) := by rw [wrap_ok (by omega) (by omega)]; omega
      refine ⟨(((c + 2 * z : Nat) : Int), ((c + 2 * z + 2 * z : Nat) : Int), P ++ (N ++ S)), ?_, c + 2 * z, P ++ (N ++ S), by rw [hct, Nat.add_mul, Nat.one_mul], rfl, ?_, ?_, h, ?_, ?_⟩
      · rw [if_pos (decide_eq_true (by show ((c + 2 * z : Nat) : Int) ≤ _; omega))]
        simp only [w2, hN, Option.bind_some, w1]
      · simp only [List.length_append] at hx ⊢; omega
      · refine ClsL.trans ?_ hc
        rw [← List.append_assoc U V S]
        exact (ClsL.refl keyE P).append (hcl.append (ClsL.refl _ _))
      · intro i hi
        rcases Nat.lt_or_ge i t with h' | h'
        · rw [blk_left P _ (U ++ (V ++ S)) _ _ (by have := Nat.mul_le_mul_right (2 * z) h'; rw [Nat.succ_mul] at this; omega)]; exact h2 i h'
        · obtain rfl : i = t := by omega
          rw [blk_mid P N S _ _ (by omega) lN]; exact hs
      · intro i hi
        have := h3 i (by omega)
        rw [← List.append_assoc, blk_right (P ++ N) (P ++ (U ++ V)) S _ _ (by rw [List.length_append]; omega) (by simp only [List.length_append]; omega)]
        simp only [List.append_assoc] at this ⊢
        exact this
  · rintro _ ⟨c, X, hct, rfl, hx, hc, h1, h2, h3⟩
    have : (n + 1) * 1 ≤ (n + 1) * (2 * z) := Nat.mul_le_mul_left _ (by omega)
    omega
  · rintro _ ⟨t, c, X, hct, rfl, hx, hc, h1, h4, h2, h3⟩
    rw [bindC_go]
    have w2 : IntKind.i64.wrap ((c : Int) + (z : Int)) = ((c + z : Nat) : Int) := by rw [wrap_ok (by omega) (by omega)]; omega
    have sU : SrtL entLt ((X.drop c).take z) := by
      have := h3 (2 * t) (by rw [hct, Nat.mul_left_comm, Nat.mul_assoc]; exact Nat.le_refl _)
      rwa [show 2 * t * z = c by rw [hct, Nat.mul_left_comm, Nat.mul_assoc]] at this
    have sV : SrtL entLt ((X.drop (c + z)).take z) := by
      have := h3 (2 * t + 1) (by rw [hct, Nat.mul_left_comm, Nat.add_mul, Nat.mul_assoc]; omega)
      rwa [show (2 * t + 1) * z = c + z by rw [hct, Nat.mul_left_comm, Nat.add_mul, Nat.mul_assoc, Nat.one_mul]] at this
    -- what stands behind
    have hout : ∀ (P N : List Ent), P = X.take c → N.length = n - c → SrtL entLt N → ∀ i, SrtL entLt (((P ++ N).drop (i * (2 * z))).take (2 * z)) := by
      intro P N hP lN hs i
      have lP : P.length = c := by rw [hP, List.length_take]; omega
      rcases Nat.lt_trichotomy i t with h' | h' | h'
      · have := h2 i h'
        rw [show X = X.take c ++ X.drop c from (List.take_append_drop _ _).symm, ← hP] at this
        rw [blk_left P N (X.drop c) _ _ (by have := Nat.mul_le_mul_right (2 * z) h'; rw [Nat.succ_mul] at this; omega)]
        exact this
      · subst h'
        rw [List.drop_append_of_le_length (by omega), List.drop_of_length_le (by omega), List.nil_append, List.take_of_length_le (by omega)]
        exact hs
      · have := Nat.mul_le_mul_right (2 * z) h'
        rw [Nat.succ_mul] at this
        rw [List.drop_of_length_le (by rw [List.length_append]; omega), List.take_nil]
        exact SrtL.nil
    rcases Nat.lt_or_ge (c + z) n with h | h
    · rw [w2, if_pos (decide_eq_true (by omega))]
      have hX := cut3 X c z
      have lP : (X.take c).length = c := by rw [List.length_take]; omega
      have lU : ((X.drop c).take z).length = z := by rw [List.length_take, List.length_drop]; omega
      have lV : (X.drop (c + z)).length = n - (c + z) := by rw [List.length_drop]; omega
      have lV2 : (X.drop (c + z)).take z = X.drop (c + z) := List.take_of_length_le (by omega)
      rw [lV2] at sV
      generalize hP : X.take c = P at *
      generalize (X.drop c).take z = U at *
      generalize X.drop (c + z) = V at *
      obtain ⟨N, hN, hs, hcl⟩ := symMerge64_eq P U V [] (c : Int) ((c + z : Nat) : Int) (n : Int) c (c + z) n rfl rfl rfl (by omega) (by omega) (by omega) (by omega) (by omega) (by simp only [List.length_nil]; omega) sU sV
      simp only [List.append_nil] at hN
      have lN : N.length = n - c := by rw [hcl.length, List.length_append, lU, lV]; omega
      rw [← hX] at hN
      simp only [hN, Option.bind_some, bindC_go]
      refine hk (P ++ N) (by rw [List.length_append]; omega) ?_ (hout P N rfl lN hs)
      refine ClsL.trans ?_ hc
      rw [hX]
      exact (ClsL.refl keyE P).append hcl
    · rw [w2, if_neg (by simp; omega), bindC_go]
      refine hk X hx hc ?_
      have := hout (X.take c) (X.drop c) rfl (by rw [List.length_drop]; omega) (by rwa [List.take_of_length_le (by rw [List.length_drop]; omega)] at sU)
      rwa [List.take_append_drop] at this
theorem stable_eq (X0 : List Ent) (hl : X0.length ≤ 262144) : ∃ R, slices_SortStableFunc_94167_at_impl_compareEnts X0 = some R ∧ SrtL entLt R ∧ ClsL keyE R X0 := by
  unfold slices_SortStableFunc_94167_at_impl_compareEnts
  suffices h : ∃ R, slices_stableCmpFunc_57869_at_impl_compareEnts X0 ((X0.length : Nat) : Int) = some R ∧ SrtL entLt R ∧ ClsL keyE R X0 by
    obtain ⟨R, h1, h2⟩ := h
    exact ⟨R, by rw [h1]; rfl, h2⟩
  unfold slices_stableCmpFunc_57869_at_impl_compareEnts
  refine stable_blocks X0 (by omega) (fun x => ∃ R, x = some R ∧ SrtL entLt R ∧ ClsL keyE R X0) ?_
  intro t X hx hc h1 h2 h3
  have hX : X = X.take (t * 20) ++ (X.drop (t * 20) ++ []) := by rw [List.append_nil, List.take_append_drop]
  have lP : (X.take (t * 20)).length = t * 20 := by rw [List.length_take]; omega
  have lM : (X.drop (t * 20)).length = X0.length - t * 20 := by rw [List.length_drop]; omega
  generalize X.take (t * 20) = P at *
  generalize X.drop (t * 20) = M at *
  subst hX
  obtain ⟨N, hN, hs, hcl⟩ := insSort_eq P M [] ((t * 20 : Nat) : Int) ((X0.length : Nat) : Int) (by omega) (by simp only [List.append_nil, List.length_append] at hx; omega) (by simp only [List.length_nil]; omega)
  have lN : N.length = X0.length - t * 20 := by rw [hcl.length]; omega
  simp only [hN, Option.bind_some]
  have hb1 : ∀ i, SrtL entLt (((P ++ (N ++ [])).drop (i * 20)).take 20) := by
    intro i
    rcases Nat.lt_trichotomy i t with h' | h' | h'
    · rw [blk_left P _ (M ++ []) _ _ (by omega)]; exact h3 i h'
    · subst h'
      rw [List.append_nil, List.drop_append_of_le_length (by omega), List.drop_of_length_le (by omega), List.nil_append, List.take_of_length_le (by omega)]
      exact hs
    · rw [List.drop_of_length_le (by simp only [List.length_append, List.length_nil]; omega), List.take_nil]
      exact SrtL.nil
  have hc1 : ClsL keyE (P ++ (N ++ [])) X0 := ((ClsL.refl keyE P).append (hcl.append (ClsL.refl _ _))).trans hc
  have hx1 : (P ++ (N ++ [])).length = X0.length := by simp only [List.length_append, List.length_nil]; omega
  generalize P ++ (N ++ []) = Y at hb1 hc1 hx1
  refine loopO_G (τ := Int × List Ent) (ρ := List Ent) (R := List Ent) (fun x => ∃ R, x = some R ∧ SrtL entLt R ∧ ClsL keyE R X0)
    (fun k s => ∃ (z : Nat) (X : List Ent), 20 + k ≤ z ∧ z ≤ 1048576 ∧ s = ((z : Int), X) ∧ X.length = X0.length ∧ ClsL keyE X X0 ∧ (∀ i, SrtL entLt ((X.drop (i * z)).take z))) X0.length
    (fun r => ∃ X, r = .go X ∧ SrtL entLt X ∧ ClsL keyE X X0) ⟨20, Y, by omega, by omega, rfl, hx1, hc1, hb1⟩ ?_ ?_ ?_
  · rintro k _ hk ⟨z, X, q1, q2, rfl, q3, q4, q5⟩
    rcases Nat.lt_or_ge z X0.length with h | h
    · left
      simp only
      rw [if_pos (decide_eq_true (by omega))]
      refine stable_pass (R := Ctl (Int × List Ent) (Ctl (List Ent) (List Ent))) X X0.length z q3 (by omega) h hl q5 (fun x => ∃ s', x = some (.go s') ∧ ∃ (z : Nat) (X : List Ent), 20 + (k + 1) ≤ z ∧ z ≤ 1048576 ∧ s' = ((z : Int), X) ∧ X.length = X0.length ∧ ClsL keyE X X0 ∧ (∀ i, SrtL entLt ((X.drop (i * z)).take z))) ?_
      intro X' e1 e2 e3
      have w1 : IntKind.i64.wrap ((z : Int) * 2) = ((2 * z : Nat) : Int) := by rw [wrap_ok (by omega) (by omega)]; omega
      refine ⟨_, rfl, 2 * z, X', by omega, by omega, by rw [w1], e1, e2.trans q4, e3⟩
    · right
      refine ⟨.go X, by simp only; rw [if_neg (by simp; omega)], X, rfl, ?_, q4⟩
      have := q5 0
      rwa [Nat.zero_mul, List.drop_zero, List.take_of_length_le (by omega)] at this
  · rintro _ ⟨z, X, q1, q2, rfl, q3, q4, q5⟩
    refine ⟨.go X, by simp only; rw [if_neg (by simp; omega)], X, rfl, ?_, q4⟩
    have := q5 0
    rwa [Nat.zero_mul, List.drop_zero, List.take_of_length_le (by omega)] at this
  · rintro _ ⟨X, rfl, h⟩
    exact ⟨X, rfl, h⟩
/-! the first of each class, in order -/
theorem srt_ext {α κ : Type} [DecidableEq κ] [DecidableEq α] {lt : α → α → Bool} {K : α → κ} (o : Ord3 lt K) : ∀ (a b : List α), SrtL lt a → SrtL lt b → ClsL K a b → a = b := by
  intro a
  induction a with
  | nil => intro b _ _ h; exact (List.eq_nil_of_length_eq_zero h.length.symm).symm
  | cons x a ih =>
    intro b ha hb h
    match b, hb, h with
    | [], _, h => exact absurd h.length (by simp)
    | y :: b, hb, h =>
      have hk : K x = K y := by
        have h1 : lt x y = false := by
          rcases List.mem_cons.1 (h.perm.mem_iff.1 (List.mem_cons_self)) with e | e
          · rw [e]; exact o.irr y y rfl
          · exact (List.pairwise_cons.1 hb).1 x e
        have h2 : lt y x = false := by
          rcases List.mem_cons.1 (h.perm.mem_iff.2 (List.mem_cons_self)) with e | e
          · rw [e]; exact o.irr x x rfl
          · exact (List.pairwise_cons.1 ha).1 y e
        rcases o.tri x y with t | t | t
        · rw [t] at h1; cases h1
        · exact t
        · rw [t] at h2; cases h2
      have hxy : x = y := by
        have := h (K x)
        rw [List.filter_cons_of_pos (by simp), List.filter_cons_of_pos (by simp [hk])] at this
        exact (List.cons.inj this).1
      subst hxy
      rw [ih b (List.pairwise_cons.1 ha).2 (List.pairwise_cons.1 hb).2]
      intro c
      have := h c
      by_cases hc : K x = c
      · rw [List.filter_cons_of_pos (by simp [hc]), List.filter_cons_of_pos (by simp [hc])] at this
        exact (List.cons.inj this).2
      · rwa [List.filter_cons_of_neg (by simp [hc]), List.filter_cons_of_neg (by simp [hc])] at this
end Go.Proofs.YtkikmcdmklkdpaaGreat
