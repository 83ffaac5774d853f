/-
  The plain laws: what the pure functions come to, and the statements. Conditions: none.
-/
import Derived.Test.YtahennbogdbnmaaPm
import Derived.Test.YtahennbogdbnmaaI3
set_option linter.unusedVariables false
set_option linter.unusedSimpArgs false
namespace Go.Proofs.Ytahennbogdbnmaa
open Go Sl

theorem inRange_eq (n a b : Int) : impl_inRange n a b = some (decide (a ≤ n ∧ n ≤ b)) := by
  unfold impl_inRange
  by_cases h : n ≥ a <;> simp [h]
theorem l1In_eq (n a b : Int) : spec_l1In n a b = some (decide (a ≤ n ∧ n ≤ b)) := by
  unfold spec_l1In
  by_cases h : n ≥ a <;> simp [h]
/-! ### SpaceOk -/
theorem all_range (l : List Int) (p : Int → Bool) (f : Int → Option Bool) (hf : ∀ x, f x = some (p x)) (hl : l.length ≤ 1048576) :
    loopO (ρ := Ctl Unit Bool) (fun (S6 : Int) => if (decide (S6 < ((l.length : Nat) : Int))) = true then ((idx l S6).bind fun E11 =>
  (f E11).bind fun R13 =>
  if (!R13) = true then (some (.done (.done false)))
  else (some (.go (IntKind.i64.wrap (S6 + (1 : Int))))))
  else (some (.done (.go ())))) (0 : Int) = some (if l.all p then .go () else .done false) := by
  rw [loopO_list l (fun k (_ : Unit) => (k : Int)) (fun _ x _ => if p x then some (Ctl.go ()) else some (Ctl.done (Ctl.done false))) (fun _ => some (Ctl.go ())) () ?h0 ?hs ?hf]
  case h0 => rfl
  case hs =>
    intro k hk _
    simp only [idx_nat l k hk, Option.bind_some, hf]
    rw [wrap_ok (by omega) (by omega)]
    by_cases he : p l[k] = true
    · simp [he, Ctl.mapGo, hk]
    · simp [he, Ctl.mapGo, hk]
  case hf => intro _; simp
  rw [runL_all p (Ctl.done false) _ _ (by intro k x _; rfl)]
  split <;> rfl
/-- giving blocks back, one by one -/
def giveV (who : Int) : List Int → List Int → Option (List Int)
  | [], s => some s
  | b :: bs, s => if 0 ≤ b ∧ b < s.length ∧ s[b.toNat]? = some who ∧ 1 ≤ who then giveV who bs (s.set b.toNat 0) else none
theorem giveV_cons (who b : Int) (bs s : List Int) : giveV who (b :: bs) s = if 0 ≤ b ∧ b < s.length ∧ s[b.toNat]? = some who ∧ 1 ≤ who then giveV who bs (s.set b.toNat 0) else none := rfl
theorem giveV_nil (who : Int) (s : List Int) : giveV who [] s = some s := rfl
theorem giveV_length (who : Int) : ∀ (bs s r : List Int), giveV who bs s = some r → r.length = s.length
  | [], s, r, h => by simp [giveV] at h; rw [h]
  | b :: bs, s, r, h => by
    unfold giveV at h
    split at h
    · rw [giveV_length who bs _ r h, List.length_set]
    · cases h
theorem idx_some' {α : Type} {l : List α} {i : Int} (h0 : 0 ≤ i) (h1 : i < l.length) : idx l i = some (l[i.toNat]'(by omega)) := by
  unfold idx; rw [if_pos h0, List.getElem?_eq_getElem]
/-- what a quota needs -/
def needV (q : Int) : Int := if 0 ≤ q ∧ q ≤ 1000 then 2 + 2 * ((q + 49) / 50) else 0
theorem needV_range (q : Int) : 0 ≤ needV q ∧ needV q ≤ 42 := by
  unfold needV; split <;> omega
theorem markText_loop (m : Nat) : ∀ s : List UInt8, s.length + m ≤ 9223372036854775806 → ∃ r : List UInt8, loopO (ρ := Ctl (List UInt8) (List UInt8)) (fun (S2 : Int × List UInt8) => if (decide (S2.1 > (0 : Int))) = true then ((cat ([toU8 (IntKind.i64.wrap ((48 : Int) + (Int.tmod S2.1 (10 : Int))))]) S2.2).bind fun E8 =>
  some (.go (IntKind.i64.wrap (Int.tdiv S2.1 (10 : Int)), E8)))
  else (some (.done (.go S2.2)))) ((m : Int), s) = some (.go r) ∧ r.length ≤ s.length + m := by
  induction m using Nat.strongRecOn with
  | _ m ih =>
    intro s hs
    rw [loopO_eq]
    by_cases h0 : m = 0
    · subst h0
      exact ⟨s, by simp, by omega⟩
    · simp only
      rw [if_pos (by simp; omega), cat_ok (by simp; omega)]
      have hd : Int.tdiv (m : Int) 10 = ((m / 10 : Nat) : Int) := rfl
      rw [hd, wrap_ok (n := ((m / 10 : Nat) : Int)) (by omega) (by omega)]
      simp only [Option.bind_some]
      obtain ⟨r, hr, hl⟩ := ih (m / 10) (by omega) ([toU8 (IntKind.i64.wrap ((48 : Int) + (Int.tmod (m : Int) (10 : Int))))] ++ s) (by simp; omega)
      exact ⟨r, hr, by simp at hl; omega⟩
def wgt_L1Cur (x : L1Cur) : Nat := x.b.length + 0
def wgt_Op (x : Op) : Nat := x.Key.length + (x.Val.length + 0)
def wgt_KV (x : KV) : Nat := x.Key.length + (x.Val.length + 0)
def wgt_Iter (x : Iter) : Nat := wS wgt_KV x.List + (x.From.length + (x.To.length + 0))
def bnd_Iter (x : Iter) : Prop := x.List.length ≤ 4611686018427387904
theorem bnd_of_Iter (x : Iter) (h : wgt_Iter x ≤ 1048576) : bnd_Iter x := by
  have h0 : wS wgt_KV x.List + (x.From.length + (x.To.length + 0)) ≤ 1048576 := h
  exact Nat.le_trans (wS_len (w := wgt_KV) (n := 1048576) (by omega)) (by decide)

/-- a list turned up to a place -/
def preM {α : Type} (f : α → α) (l : List α) (k : Nat) : List α := (l.take k).map f ++ l.drop k
theorem preM_length {α : Type} (f : α → α) (l : List α) (k : Nat) : (preM f l k).length = l.length := by unfold preM; simp; omega
theorem preM_get {α : Type} (f : α → α) (l : List α) (k : Nat) (h : k < l.length) : idx (preM f l k) (k : Int) = some l[k] := by
  rw [idx_nat _ k (by rw [preM_length]; exact h)]
  congr 1
  have hl : ((l.take k).map f).length = k := by rw [List.length_map, List.length_take]; omega
  unfold preM
  rw [List.getElem_append_right (by omega)]
  simp only [hl, Nat.sub_self]
  simp
theorem preM_set {α : Type} (f : α → α) (l : List α) (k : Nat) (h : k < l.length) : (preM f l k).set k (f l[k]) = preM f l (k + 1) := by
  have hl : ((l.take k).map f).length = k := by rw [List.length_map, List.length_take]; omega
  have htk : l.take (k + 1) = l.take k ++ [l[k]] := by rw [List.take_add_one, List.getElem?_eq_getElem h]; rfl
  unfold preM
  rw [List.set_append_right _ _ (by omega), hl, Nat.sub_self, htk, List.drop_eq_getElem_cons h, List.set_cons_zero, List.map_append, List.append_assoc]
  rfl
theorem preM_same {α : Type} (f : α → α) (l : List α) (k : Nat) (h : k < l.length) (hf : f l[k] = l[k]) : preM f l (k + 1) = preM f l k := by
  rw [← preM_set f l k h, hf]
  apply List.ext_getElem?
  intro j
  rw [List.getElem?_set]
  split
  · rename_i he
    subst he
    have := preM_get f l k h
    unfold idx at this
    rw [if_pos (by omega), Int.toNat_natCast] at this
    rw [if_pos (by rw [preM_length]; exact h), this]
  · rfl
theorem preM_all {α : Type} (f : α → α) (l : List α) : preM f l l.length = l.map f := by unfold preM; simp
/-- a tenant's blocks, wiped -/
def wipeV (who : Int) (l : List Int) : List Int := l.map fun x => if x = who then 0 else x
/-- the first n free blocks of the first k -/
def freeIx (l : List Int) (n : Int) : Nat → List Nat
  | 0 => []
  | k + 1 => if l[k]? = some 0 ∧ ((freeIx l n k).length : Int) < n then freeIx l n k ++ [k] else freeIx l n k
theorem freeIx_lt (l : List Int) (n : Int) : ∀ k, ∀ i ∈ freeIx l n k, i < k
  | 0, i, h => by simp [freeIx] at h
  | k + 1, i, h => by
    unfold freeIx at h
    split at h
    · rcases List.mem_append.1 h with h | h
      · have := freeIx_lt l n k i h; omega
      · have : i = k := by simpa using h
        omega
    · have := freeIx_lt l n k i h; omega
theorem freeIx_length (l : List Int) (n : Int) : ∀ k, (freeIx l n k).length ≤ k
  | 0 => by simp [freeIx]
  | k + 1 => by
    have := freeIx_length l n k
    unfold freeIx
    split
    · simp; omega
    · omega
theorem freeIx_sat (l : List Int) (n : Int) (k : Nat) (h : ¬ ((freeIx l n k).length : Int) < n) : ∀ d, freeIx l n (k + d) = freeIx l n k
  | 0 => rfl
  | d + 1 => by
    have := freeIx_sat l n k h d
    have e : freeIx l n (k + (d + 1)) = if l[k + d]? = some 0 ∧ ((freeIx l n (k + d)).length : Int) < n then freeIx l n (k + d) ++ [k + d] else freeIx l n (k + d) := rfl
    rw [e, this, if_neg (fun h2 => h h2.2)]
theorem freeIx_count (l : List Int) (n : Int) (hn : 1 ≤ n) : ∀ k, k ≤ l.length → (((freeIx l n k).length : Int) < n ↔ (((l.take k).countP fun x => decide (x = 0) : Nat) : Int) < n) ∧ ((((l.take k).countP fun x => decide (x = 0) : Nat) : Int) < n → (freeIx l n k).length = ((l.take k).countP fun x => decide (x = 0))) ∧
    ((((l.take k).countP fun x => decide (x = 0) : Nat) : Int) = n → ((freeIx l n k).length : Int) = n)
  | 0, _ => by simp [freeIx]
  | k + 1, hk => by
    obtain ⟨h1, h2, h3⟩ := freeIx_count l n hn k (by omega)
    have hk' : k < l.length := by omega
    have htk : l.take (k + 1) = l.take k ++ [l[k]] := by rw [List.take_add_one, List.getElem?_eq_getElem hk']; rfl
    unfold freeIx
    rw [htk, List.countP_append, List.getElem?_eq_getElem hk']
    by_cases hx : l[k] = 0
    · simp only [hx, true_and, List.countP_cons, List.countP_nil, decide_true, if_true, Nat.zero_add]
      by_cases hc : ((freeIx l n k).length : Int) < n
      · rw [if_pos hc]
        have := h2 (h1.1 hc)
        simp only [List.length_append, List.length_cons, List.length_nil]
        omega
      · rw [if_neg hc]
        have : ¬ (((l.take k).countP fun x => decide (x = 0) : Nat) : Int) < n := fun h => hc (h1.2 h)
        omega
    · simp only [List.countP_cons, List.countP_nil, hx, decide_false, Bool.false_eq_true, if_false, Nat.add_zero]
      rw [if_neg (by simp [hx])]
      exact ⟨h1, h2, h3⟩
/-- blocks given to somebody -/
def setAll (who : Int) (l : List Int) (g : List Nat) : List Int := g.foldl (fun s i => s.set i who) l
theorem setAll_length (who : Int) (g : List Nat) : ∀ l, (setAll who l g).length = l.length := by
  induction g with
  | nil => intro l; rfl
  | cons i g ih => intro l; show (setAll who (l.set i who) g).length = _; rw [ih, List.length_set]
theorem setAll_snoc (who : Int) (l : List Int) (g : List Nat) (i : Nat) : setAll who l (g ++ [i]) = (setAll who l g).set i who := by
  unfold setAll; rw [List.foldl_append]; rfl
theorem sLt_nil (a : List UInt8) : sLt a [] = false := by cases a <;> rfl
theorem sLt_compl : ∀ a b : List UInt8, (sLt b a || decide (b = a)) = !sLt a b
  | [], [] => rfl
  | [], b :: y => by simp [sLt, Op.bytesLess]
  | a :: x, [] => by simp [sLt, Op.bytesLess]
  | a :: x, b :: y => by
    have ih := sLt_compl x y
    simp only [sLt] at ih
    simp only [sLt, Op.bytesLess]
    by_cases h1 : a < b
    · have h2 : ¬ b < a := fun h => absurd (UInt8.lt_trans h1 h) (UInt8.lt_irrefl _)
      have h3 : ¬ b = a := fun h => by subst h; exact UInt8.lt_irrefl _ h1
      simp [h1, h2, h3]
    · by_cases h2 : b < a
      · have h3 : ¬ a = b := fun h => by subst h; exact UInt8.lt_irrefl _ h2
        simp [h1, h2, h3]
      · have h3 : a = b := by
          rw [UInt8.lt_iff_toNat_lt] at h1 h2
          apply UInt8.toNat_inj.1
          omega
        subst h3
        simp only [h1, decide_false, Bool.false_or, beq_self_eq_true, Bool.true_and, List.cons.injEq, true_and]
        exact ih
theorem isKey_eq (s : List UInt8) : impl_isKey s = some (decide (1 ≤ (s.length : Int) ∧ (s.length : Int) ≤ 10)) := by
  unfold impl_isKey; rw [inRange_eq]; rfl
theorem MapOk_spec (m : List KV) : impl_MapOk m = spec_MapOk m := by
  unfold impl_MapOk spec_MapOk
  congr 2
  funext i
  split
  · cases he : idx m i with
    | none => rfl
    | some e =>
      simp only [Option.bind_some]
      congr 1
      unfold spec_l7Op
      simp only [isKey_eq, l1In_eq, Option.bind_some]
      by_cases h1 : 1 ≤ (e.Key.length : Int) ∧ (e.Key.length : Int) ≤ 10
      · by_cases h2 : (e.Val.length : Int) ≤ 16
        · have h3 : ¬ (e.Val.length : Int) > 16 := by omega
          simp only [h1, h2, h3, and_self, decide_true, decide_false, Bool.not_true, Bool.not_false, Bool.false_eq_true, if_false, if_true, Option.bind_some]
          split
          · congr 1
            funext p
            rw [sLt_compl]
          · rfl
        · have h3 : (e.Val.length : Int) > 16 := by omega
          simp [h1, h2, h3]
      · simp [h1]
  · rfl
theorem spec_MapOk_some (m : List KV) (h : m.length ≤ 1048576) : ∃ r, spec_MapOk m = some r := by
  unfold spec_MapOk
  refine bindC_ends (loopO_ends (fun k i => i = (k : Int)) m.length rfl ?_ ?_) (fun _ => ⟨_, rfl⟩)
  · rintro k i hk rfl
    simp only [idx_nat m k hk, Option.bind_some]
    rw [if_pos (by simpa using hk), wrap_ok (n := (k : Int) + 1) (by omega) (by omega)]
    have key : ∀ q : Option Bool, (∃ b, q = some b) → (∃ s' : Int, (q.bind fun T17 => if T17 = true then some (Ctl.done (Ctl.done false)) else some (Ctl.go ((k : Int) + 1))) = some (Ctl.go s' : Ctl Int (Ctl Unit Bool)) ∧ s' = ((k + 1 : Nat) : Int)) ∨
        ∃ r, (q.bind fun T17 => if T17 = true then some (Ctl.done (Ctl.done false)) else some (Ctl.go ((k : Int) + 1))) = some (Ctl.done r : Ctl Int (Ctl Unit Bool)) := by
      rintro q ⟨b, rfl⟩
      cases b
      · left; exact ⟨_, rfl, by omega⟩
      · right; exact ⟨_, rfl⟩
    apply key
    have h7 : ∃ b, spec_l7Op ({ Key := m[k].Key, Del := false, Val := m[k].Val : Op }) = some b := by
      unfold spec_l7Op
      rw [l1In_eq]
      simp only [Option.bind_some]
      split <;> (try split) <;> exact ⟨_, rfl⟩
    obtain ⟨b, hb⟩ := h7
    rw [hb]
    simp only [Option.bind_some]
    split
    · exact ⟨_, rfl⟩
    · split
      · rename_i hk0
        have hk0' : (k : Int) > 0 := by simpa using hk0
        have hw : IntKind.i64.wrap ((k : Int) - 1) = ((k - 1 : Nat) : Int) := by rw [wrap_ok (by omega) (by omega)]; omega
        rw [hw, idx_nat m (k - 1) (by omega)]
        exact ⟨_, rfl⟩
      · exact ⟨_, rfl⟩
  · rintro i rfl
    exact ⟨.go (), by simp⟩
theorem IterOk_both (x : Iter) (h : x.List.length ≤ 1048576) : ∃ r, spec_IterOk x = some r ∧ impl_IterOk x = some r ∧ (r = true → -1 ≤ x.At ∧ x.At ≤ x.List.length) := by
  unfold spec_IterOk impl_IterOk
  rw [MapOk_spec]
  obtain ⟨b, hb⟩ := spec_MapOk_some x.List h
  rw [hb, l1In_eq, inRange_eq]
  cases b <;> by_cases c : -1 ≤ x.At ∧ x.At ≤ (x.List.length : Int) <;> simp [c]
theorem within_eq (k f t : List UInt8) : impl_within k f t = some (!sLt k f && (decide (t = []) || sLt k t)) := by
  unfold impl_within
  by_cases h1 : sLt k f = true <;> by_cases h2 : t = [] <;> simp [h1, h2]
theorem l9Within_eq (k f t : List UInt8) : spec_l9Within k f t = some (!sLt k f && (decide (t = []) || sLt k t)) := by
  unfold spec_l9Within
  by_cases h1 : sLt k f = true <;> by_cases h2 : t = [] <;> simp [h1, h2]
theorem scan_up (p : Nat → Bool) (n : Nat) : ∀ d a, a + d = n → ∃ j, a ≤ j ∧ j ≤ n ∧ (∀ i, a ≤ i → i < j → p i = false) ∧ (j < n → p j = true)
  | 0, a, h => ⟨a, Nat.le_refl _, by omega, fun i h1 h2 => by omega, fun h => by omega⟩
  | d + 1, a, h => by
    cases hp : p a with
    | true => exact ⟨a, Nat.le_refl _, by omega, fun i h1 h2 => by omega, fun _ => hp⟩
    | false =>
      obtain ⟨j, h1, h2, h3, h4⟩ := scan_up p n d (a + 1) (by omega)
      refine ⟨j, by omega, h2, fun i h5 h6 => ?_, h4⟩
      by_cases e : i = a
      · rw [e]; exact hp
      · exact h3 i (by omega) h6
theorem cloneKV_eq (l : List KV) (h : l.length ≤ 1048576) : slices_Clone_74624 l = some l := by
  unfold slices_Clone_74624
  rw [app_ok (by simp; omega) (by simp; omega)]
  rfl
theorem moveTo_eq (x : Iter) (at_ : Int) (h : x.List.length ≤ 1048576) (h1 : -1 ≤ at_) (h2 : at_ ≤ x.List.length) : impl_moveTo x at_ = some (match idx x.List at_ with | some e => ({ x with At := at_ }, e, true) | none => ({ x with At := at_ }, { Key := [], Val := [] }, false)) := by
  unfold impl_moveTo
  rw [cloneKV_eq _ h]
  simp only [Option.bind_some]
  rw [wrap_ok (by omega) (by omega), inRange_eq]
  simp only [Option.bind_some]
  by_cases c : 0 ≤ at_ ∧ at_ ≤ (x.List.length : Int) - 1
  · have e : idx x.List at_ = some (x.List[at_.toNat]'(by omega)) := idx_of x.List at_ at_.toNat (by omega) (by omega)
    rw [e]
    simp [c]
  · have e : idx x.List at_ = none := by
      unfold idx
      by_cases h0 : 0 ≤ at_
      · rw [if_pos h0, List.getElem?_eq_none (by omega)]
      · rw [if_neg h0]
    rw [e]
    simp [c]
/-- where an iterator comes to rest -/
def restV (x : Iter) (at_ : Int) : Iter × KV × Bool := match idx x.List at_ with | some e => ({ x with At := at_ }, e, true) | none => ({ x with At := at_ }, { Key := [], Val := [] }, false)
theorem l14Go_up (x : Iter) (a : Nat) (key : List UInt8) (h : x.List.length ≤ 1048576) (ha : a ≤ x.List.length + 1) (j : Nat) (hj1 : a ≤ j ∨ j = x.List.length) (hj2 : j ≤ x.List.length) (hlo : ∀ i (hi : i < x.List.length), a ≤ i → i < j → (!sLt x.List[i].Key x.From && (decide (x.To = []) || sLt x.List[i].Key x.To) && !sLt x.List[i].Key key) = false)
    (hhi : ∀ hi : j < x.List.length, a ≤ j ∧ (!sLt x.List[j].Key x.From && (decide (x.To = []) || sLt x.List[j].Key x.To) && !sLt x.List[j].Key key) = true) : spec_l14Go x (a : Int) 1 key = some (restV x j) := by
  unfold spec_l14Go spec_l14Copy
  rw [app_ok (by simp; omega) (by simp; omega)]
  simp only [Option.bind_some, List.nil_append]
  by_cases hjn : j < x.List.length
  · obtain ⟨haj, hp⟩ := hhi hjn
    rw [loopO_count (fun k => ((a + k : Nat) : Int)) (j - a) (r := Ctl.done ({ List := x.List, From := x.From, To := x.To, At := (j : Int) : Iter }, x.List[j], true)) ?h0]
    case h0 => rfl
    · simp only [bindC_done]
      unfold restV
      rw [idx_nat x.List j hjn]
    · intro k hk
      have hik : a + k < x.List.length := by omega
      have hpk := hlo (a + k) hik (by omega) (by omega)
      simp only [idx_nat x.List (a + k) hik, Option.bind_some, l9Within_eq]
      rw [if_pos (by simp; omega)]
      simp only [Option.bind_some]
      rw [if_pos (by simp; omega), wrap_ok (by omega) (by omega)]
      by_cases c : (!sLt x.List[a + k].Key x.From && (decide (x.To = []) || sLt x.List[a + k].Key x.To)) = true
      · rw [c, Bool.true_and] at hpk
        simp only [c, if_true, hpk, Option.bind_some, Bool.false_eq_true, if_false]
        congr 2
      · simp only [c, if_false, Option.bind_some, Bool.false_eq_true]
        congr 2
    · rw [show a + (j - a) = j by omega]
      simp only [idx_nat x.List j hjn, Option.bind_some, l9Within_eq]
      rw [if_pos (by simp)]
      simp only [Option.bind_some]
      rw [if_pos (by simpa using hjn)]
      rw [Bool.and_eq_true] at hp
      simp only [hp.1, if_true, hp.2, Option.bind_some]
  · have hje : j = x.List.length := by omega
    subst hje
    have hrest : restV x (x.List.length : Int) = ({ List := x.List, From := x.From, To := x.To, At := (x.List.length : Int) : Iter }, { Key := [], Val := [] : KV }, false) := by
      unfold restV
      have : idx x.List (x.List.length : Int) = none := by unfold idx; rw [if_pos (by omega)]; simp
      rw [this]
    rw [hrest]
    rw [loopO_count (fun k => ((a + k : Nat) : Int)) (x.List.length - a) (r := Ctl.go ()) ?h0]
    case h0 => rfl
    · simp
    · intro k hk
      have hik : a + k < x.List.length := by omega
      have hpk := hlo (a + k) hik (by omega) (by omega)
      simp only [idx_nat x.List (a + k) hik, Option.bind_some, l9Within_eq]
      rw [if_pos (by simp; omega)]
      simp only [Option.bind_some]
      rw [if_pos (by simp; omega), wrap_ok (by omega) (by omega)]
      by_cases c : (!sLt x.List[a + k].Key x.From && (decide (x.To = []) || sLt x.List[a + k].Key x.To)) = true
      · rw [c, Bool.true_and] at hpk
        simp only [c, if_true, hpk, Option.bind_some, Bool.false_eq_true, if_false]
        congr 2
      · simp only [c, if_false, Option.bind_some, Bool.false_eq_true]
        congr 2
    · have : ¬ ((a + (x.List.length - a) : Nat) : Int) < (x.List.length : Int) := by omega
      rw [if_pos (by simp; omega)]
      simp only [this, decide_false, Option.bind_some, Bool.false_eq_true, if_false]

/-- within the bounds, and not less than the key -/
def goodV (x : Iter) (key : List UInt8) (i : Nat) : Bool := match x.List[i]? with | some e => (!sLt e.Key x.From && (decide (x.To = []) || sLt e.Key x.To)) && !sLt e.Key key | none => false
theorem goodV_at (x : Iter) (key : List UInt8) (i : Nat) (h : i < x.List.length) : goodV x key i = ((!sLt x.List[i].Key x.From && (decide (x.To = []) || sLt x.List[i].Key x.To)) && !sLt x.List[i].Key key) := by
  unfold goodV; rw [List.getElem?_eq_getElem h]
theorem isWithin_eq (x : Iter) (i : Nat) (h : i < x.List.length) : impl_Iter_isWithin x (i : Int) = some (goodV x [] i) := by
  unfold impl_Iter_isWithin
  rw [idx_nat _ i h]
  simp only [Option.bind_some, within_eq, goodV_at x [] i h, sLt_nil, Bool.not_false, Bool.and_true]
theorem up_stop (x : Iter) (key : List UInt8) (a : Nat) : ∃ j, (a ≤ j ∨ j = x.List.length) ∧ j ≤ x.List.length ∧ (∀ i, i < x.List.length → a ≤ i → i < j → goodV x key i = false) ∧ (j < x.List.length → a ≤ j ∧ goodV x key j = true) := by
  by_cases ha : a ≤ x.List.length
  · obtain ⟨j, h1, h2, h3, h4⟩ := scan_up (goodV x key) x.List.length (x.List.length - a) a (by omega)
    exact ⟨j, .inl h1, h2, fun i _ h5 h6 => h3 i h5 h6, fun h => ⟨h1, h4 h⟩⟩
  · exact ⟨x.List.length, .inr rfl, Nat.le_refl _, fun i h1 h2 _ => by omega, fun h => by omega⟩
theorem l14Go_up' (x : Iter) (a : Nat) (key : List UInt8) (h : x.List.length ≤ 1048576) (ha : a ≤ x.List.length + 1) (j : Nat) (hj1 : a ≤ j ∨ j = x.List.length) (hj2 : j ≤ x.List.length) (hlo : ∀ i, i < x.List.length → a ≤ i → i < j → goodV x key i = false) (hhi : j < x.List.length → a ≤ j ∧ goodV x key j = true) :
    spec_l14Go x (a : Int) 1 key = some (restV x j) := by
  refine l14Go_up x a key h ha j hj1 hj2 (fun i hi h1 h2 => ?_) fun hi => ?_
  · rw [← goodV_at x key i hi]; exact hlo i hi h1 h2
  · rw [← goodV_at x key j hi]; exact hhi hi
theorem IterSeek_both (x : Iter) (key : List UInt8) (h : x.List.length ≤ 1048576) : ∃ r, spec_IterSeek x key = some r ∧ impl_IterSeek x key = some r ∧ r.1.List.length ≤ 1048576 := by
  unfold spec_IterSeek impl_IterSeek
  obtain ⟨b, hb1, hb2, hb3⟩ := IterOk_both x h
  rw [hb1, hb2]
  cases b with
  | false => exact ⟨_, rfl, rfl, by simp⟩
  | true =>
    simp only [Option.bind_some, Bool.not_true, Bool.false_eq_true, if_false]
    obtain ⟨j, k1, k2, k3, k4⟩ := up_stop x key 0
    have hgo := l14Go_up' x 0 key h (by omega) j k1 k2 k3 k4
    rw [Int.natCast_zero] at hgo
    rw [hgo]
    have hl : (restV x j).1.List = x.List := by unfold restV; split <;> rfl
    refine ⟨restV x j, rfl, ?_, by rw [hl]; exact h⟩
    rw [loopO_count (fun k => (k : Int)) j (r := Ctl.go (j : Int)) ?h0]
    case h0 => rfl
    · simp only [bindC_go]
      rw [moveTo_eq x j h (by omega) (by omega)]
      rfl
    · intro k hk
      have hik : k < x.List.length := by omega
      have hp := k3 k hik (by omega) hk
      rw [goodV_at x key k hik] at hp
      rw [isWithin_eq x k hik, idx_nat x.List k hik, if_pos (by simpa using hik), wrap_ok (by omega) (by omega)]
      have hg := goodV_at x [] k hik
      simp only [sLt_nil, Bool.not_false, Bool.and_true] at hg
      rw [hg]
      simp only [Option.bind_some]
      by_cases c : sLt x.List[k].Key key = true
      · simp [c]
      · have c' : sLt x.List[k].Key key = false := by simpa using c
        rw [c', Bool.not_false, Bool.and_true] at hp
        simp only [c', hp, Bool.false_eq_true, if_false, Option.bind_some, Bool.not_false, if_true]
        congr 2
    · by_cases hjn : j < x.List.length
      · obtain ⟨haj, hp⟩ := k4 hjn
        rw [goodV_at x key j hjn, Bool.and_eq_true] at hp
        rw [isWithin_eq x j hjn, idx_nat x.List j hjn, if_pos (by simpa using hjn)]
        have hg := goodV_at x [] j hjn
        simp only [sLt_nil, Bool.not_false, Bool.and_true] at hg
        rw [hg]
        have c' : sLt x.List[j].Key key = false := by simpa using hp.2
        simp only [c', hp.1, Option.bind_some, Bool.false_eq_true, if_false, Bool.not_true]
      · rw [if_neg (by simp; omega)]
        rfl

theorem down_stop (p : Nat → Bool) : ∀ n : Nat, ∃ j : Nat, j ≤ n ∧ (∀ i, j ≤ i → i < n → p i = false) ∧ (0 < j → p (j - 1) = true)
  | 0 => ⟨0, Nat.le_refl _, fun i h1 h2 => by omega, fun h => by omega⟩
  | n + 1 => by
    cases hp : p n with
    | true => exact ⟨n + 1, Nat.le_refl _, fun i h1 h2 => by omega, fun _ => by simpa using hp⟩
    | false =>
      obtain ⟨j, h1, h2, h3⟩ := down_stop p n
      refine ⟨j, by omega, fun i h4 h5 => ?_, h3⟩
      by_cases e : i = n
      · rw [e]; exact hp
      · exact h2 i h4 (by omega)
theorem restV_none (x : Iter) (a : Int) (h : a < 0) : restV x a = ({ List := x.List, From := x.From, To := x.To, At := a : Iter }, { Key := [], Val := [] : KV }, false) := by
  unfold restV
  have : idx x.List a = none := by unfold idx; rw [if_neg (by omega)]
  rw [this]
theorem all_loop {body : Int → Option (Ctl Int (Ctl Unit Bool))} (pass : Nat → Bool) (n : Nat) (h : ∀ k, k < n → body (k : Int) = some (if pass k = true then .go ((k : Int) + 1) else .done (.done false))) (hn : body (n : Int) = some (.done (.go ()))) :
    loopO body 0 = some (if (List.range n).all pass = true then .go () else .done false) := by
  have key : ∀ d k, k + d = n → loopO body (k : Int) = some (if ((List.range n).drop k).all pass = true then .go () else .done false) := by
    intro d
    induction d with
    | zero =>
      intro k hk
      obtain rfl : k = n := by omega
      rw [loopO_eq, hn, List.drop_of_length_le (by simp)]
      rfl
    | succ d ih =>
      intro k hk
      have hd : (List.range n).drop k = k :: (List.range n).drop (k + 1) := by rw [List.drop_eq_getElem_cons (by simp; omega)]; simp
      rw [loopO_eq, h k (by omega), hd, List.all_cons]
      cases hp : pass k with
      | true =>
        have := ih (k + 1) (by omega)
        rw [show ((k + 1 : Nat) : Int) = (k : Int) + 1 by omega] at this
        simpa using this
      | false => simp
  have := key n 0 (by omega)
  simpa using this
theorem sLt_compl' (a b : List UInt8) : (!sLt a b) = (sLt b a || decide (b = a)) := (sLt_compl a b).symm
theorem sLt_nil_iff (b : List UInt8) : sLt [] b = !decide (b = []) := by cases b <;> rfl
theorem len0 (out : List Int) : decide (((out.length : Nat) : Int) = 0) = decide (out = []) := by
  cases out with
  | nil => rfl
  | cons a l => simp; omega
theorem sMin_eq (a b : List UInt8) : sMin a b = if sLt b a = true then b else a := by
  unfold sMin
  rw [sLt_compl]
  cases sLt b a <;> simp
theorem sMax_eq (a b : List UInt8) : sMax a b = if sLt a b = true then b else a := by
  unfold sMax
  cases sLt a b <;> simp
theorem sLt_irr (a : List UInt8) : sLt a a = false := by
  have := sLt_compl a a
  simpa using this
theorem sLt_trans : ∀ {a b c : List UInt8}, sLt a b = true → sLt b c = true → sLt a c = true
  | [], [], _, h, _ => by simp [sLt, Op.bytesLess] at h
  | [], _ :: _, [], _, h => by simp [sLt, Op.bytesLess] at h
  | [], _ :: _, _ :: _, _, _ => rfl
  | _ :: _, [], _, h, _ => by simp [sLt, Op.bytesLess] at h
  | _ :: _, _ :: _, [], _, h => by simp [sLt, Op.bytesLess] at h
  | x :: a, y :: b, z :: c, h1, h2 => by
    simp only [sLt, Op.bytesLess, Bool.or_eq_true, decide_eq_true_eq, Bool.and_eq_true, beq_iff_eq] at h1 h2 ⊢
    rcases h1 with h1 | ⟨rfl, h1⟩
    · rcases h2 with h2 | ⟨rfl, _⟩
      · exact .inl (UInt8.lt_trans h1 h2)
      · exact .inl h1
    · rcases h2 with h2 | ⟨rfl, h2⟩
      · exact .inl h2
      · exact .inr ⟨rfl, sLt_trans h1 h2⟩
theorem sLt_irrefl (a : List UInt8) : sLt a a = false := by
  have := sLt_compl a a
  simpa using this
theorem all_loop' {body : Int → Option (Ctl Int (Ctl Unit Bool))} (pass : Nat → Bool) (n : Nat) (h : ∀ k, k < n → body (k : Int) = some (if pass k = true then .go ((k : Int) + 1) else .done (.done false))) (hn : body (n : Int) = some (.done (.go ()))) :
    bindC (loopO body 0) (fun (_ : Unit) => some true) = some ((List.range n).all pass) := by
  rw [all_loop pass n h hn]
  cases (List.range n).all pass <;> rfl
/-- snapshots in order -/
def snapP (seq : Int) (l : List Int) (k : Nat) : Bool := match l[k]? with
  | some s => decide (0 ≤ s ∧ s ≤ seq) && (match k with | 0 => true | j + 1 => match l[j]? with | some d => decide (d < s) | none => true)
  | none => true
theorem snapP_at (seq : Int) (l : List Int) (k : Nat) (h : k < l.length) : snapP seq l k = (decide (0 ≤ l[k] ∧ l[k] ≤ seq) && (if h0 : 0 < k then decide (l[k - 1]'(by omega) < l[k]) else true)) := by
  unfold snapP
  rw [List.getElem?_eq_getElem h]
  cases k with
  | zero => rfl
  | succ j =>
    simp only [Nat.zero_lt_succ, dif_pos, Nat.add_sub_cancel]
    rw [List.getElem?_eq_getElem (by omega)]
def snapsV (seq : Int) (l : List Int) : Bool := (List.range l.length).all (snapP seq l)
theorem snaps_at {seq : Int} {l : List Int} (hv : snapsV seq l = true) (k : Nat) (hk : k < l.length) : (0 ≤ l[k] ∧ l[k] ≤ seq) ∧ (0 < k → l[k - 1]'(by omega) < l[k]) := by
  unfold snapsV at hv
  rw [List.all_eq_true] at hv
  have := hv k (by simpa using hk)
  rw [snapP_at seq l k hk, Bool.and_eq_true] at this
  refine ⟨of_decide_eq_true this.1, fun h0 => ?_⟩
  have h2 := this.2
  rw [dif_pos h0] at h2
  exact of_decide_eq_true h2
theorem snaps_last {seq : Int} {l : List Int} (hv : snapsV seq l = true) (h0 : 0 < l.length) : (seq ∈ l) ↔ l[l.length - 1]'(by omega) = seq := by
  constructor
  · intro hm
    obtain ⟨i, hi, he⟩ := List.getElem_of_mem hm
    by_cases e : i = l.length - 1
    · subst e; exact he
    · have h1 := (snaps_at hv (i + 1) (by omega)).2 (by omega)
      have h2 := (snaps_at hv (i + 1) (by omega)).1
      simp only [Nat.add_sub_cancel] at h1
      omega
  · intro h
    rw [← h]
    exact List.getElem_mem _
theorem piece_nat {α : Type} (l : List α) (a b : Nat) (lo hi : Int) (h1 : lo = (a : Int)) (h2 : hi = (b : Int)) (h3 : a ≤ b) (h4 : b ≤ l.length) : piece l lo hi = some ((l.drop a).take (b - a)) := by
  subst h1 h2
  unfold piece
  rw [if_pos ⟨by omega, by omega, by omega⟩, Int.toNat_natCast, Int.toNat_natCast]
theorem filter_one {α : Type} (l : List α) (p : α → Bool) (j : Nat) (hj : j < l.length) (h1 : p l[j] = false) (h2 : ∀ i (h : i < l.length), i ≠ j → p l[i] = true) : l.filter p = l.take j ++ l.drop (j + 1) := by
  have hs : l = l.take j ++ l[j] :: l.drop (j + 1) := by rw [← List.drop_eq_getElem_cons hj, List.take_append_drop]
  have ha : (l.take j).filter p = l.take j := by
    rw [List.filter_eq_self]
    intro x hx
    obtain ⟨i, hi, rfl⟩ := List.getElem_of_mem hx
    have hi' : i < j := by simp at hi; omega
    simp only [List.getElem_take]
    exact h2 i (by omega) (by omega)
  have hb : (l.drop (j + 1)).filter p = l.drop (j + 1) := by
    rw [List.filter_eq_self]
    intro x hx
    obtain ⟨i, hi, rfl⟩ := List.getElem_of_mem hx
    have hi' : j + 1 + i < l.length := by simp at hi; omega
    simp only [List.getElem_drop]
    exact h2 (j + 1 + i) hi' (by omega)
  conv => lhs; rw [hs]
  rw [List.filter_append, List.filter_cons_of_neg (by simpa using h1), ha, hb]
theorem filter_take {α : Type} (p : α → Bool) (l : List α) (k : Nat) (h : k < l.length) : (l.take (k + 1)).filter p = (l.take k).filter p ++ if p l[k] = true then [l[k]] else [] := by
  rw [show l.take (k + 1) = l.take k ++ [l[k]] by rw [List.take_add_one, List.getElem?_eq_getElem h]; rfl, List.filter_append]
  congr 1
  by_cases c : p l[k] = true
  · rw [if_pos c, List.filter_cons_of_pos c]; rfl
  · rw [if_neg c, List.filter_cons_of_neg c]; rfl
theorem filter_len {α : Type} (p : α → Bool) (l : List α) (k : Nat) : ((l.take k).filter p).length ≤ k := Nat.le_trans (List.length_filter_le _ _) (by simp; omega)
theorem snaps_lt {seq : Int} {l : List Int} (hv : snapsV seq l = true) : ∀ (j : Nat) (hj : j < l.length) (i : Nat) (hi : i < j), l[i]'(by omega) < l[j] := by
  intro j
  induction j with
  | zero => intro _ i hi; omega
  | succ j ih =>
    intro hj i hi
    have h1 := (snaps_at hv (j + 1) hj).2 (by omega)
    simp only [Nat.add_sub_cancel] at h1
    by_cases e : i = j
    · subst e; exact h1
    · have := ih (by omega) i (by omega); omega
def dropS (l : List Int) (x : Int) : List Int := l.filter fun s => !decide (s = x)
theorem dropS_at {seq : Int} {l : List Int} (hv : snapsV seq l = true) (j : Nat) (hj : j < l.length) : dropS l l[j] = l.take j ++ l.drop (j + 1) := by
  unfold dropS
  refine filter_one l _ j hj (by simp) fun i hi hij => ?_
  have : ¬ l[i] = l[j] := by
    rcases Nat.lt_or_ge i j with h | h
    · have := snaps_lt hv j hj i h; omega
    · have := snaps_lt hv i hi j (by omega); omega
  simp [this]
theorem sLt_asymm {a b : List UInt8} (h : sLt a b = true) : sLt b a = false := by
  have := sLt_compl a b
  rw [h] at this
  simp only [Bool.not_true, Bool.or_eq_false_iff] at this
  exact this.1
theorem sLt_same {a b : List UInt8} (h1 : sLt a b = false) (h2 : sLt b a = false) : a = b := by
  have := sLt_compl a b
  rw [h1, h2] at this
  have h : decide (b = a) = true := by simpa using this
  exact (of_decide_eq_true h).symm
theorem any_loop {α : Type} {body : Int → Option (Ctl Int (Ctl Unit Bool))} (l : List α) (p : α → Bool) (h : ∀ k (hk : k < l.length), body (k : Int) = some (if p l[k] = true then .done (.done true) else .go ((k : Int) + 1))) (hn : body (l.length : Int) = some (.done (.go ()))) :
    bindC (loopO body 0) (fun (_ : Unit) => some false) = some (l.any p) := by
  rw [loopO_is (fun k s => s = (k : Int) ∧ l.any p = (l.drop k).any p) l.length (if l.any p = true then Ctl.done true else Ctl.go ()) ?h0 ?h1 ?h2]
  · cases l.any p <;> rfl
  case h0 => exact ⟨rfl, rfl⟩
  · rintro k s hk ⟨rfl, he⟩
    rw [h k hk, he, List.drop_eq_getElem_cons hk, List.any_cons]
    cases hp : p l[k] with
    | true => right; rfl
    | false =>
      left
      refine ⟨(k : Int) + 1, rfl, by omega, ?_⟩
      rw [Bool.false_or]
  · rintro s ⟨rfl, he⟩
    rw [he, List.drop_length, hn]
    rfl
theorem half_eq {a : Int} (h0 : 0 ≤ a) (h1 : a ≤ 4611686018427387904) : IntKind.i64.wrap (ishr .u64 (IntKind.u64.wrap (IntKind.i64.wrap a)) (1 : Int)) = a / 2 := by
  have hu : IntKind.u64.wrap a = a := by simp [IntKind.wrap, IntKind.bits, IntKind.signed]; omega
  have hs : ishr .u64 a (1 : Int) = a / 2 := by
    unfold ishr
    show a.fdiv (2 ^ 1) = a / 2
    rw [Int.fdiv_eq_ediv_of_nonneg a (by decide)]
    rfl
  rw [wrap_ok (n := a) (by omega) (by omega), hu, hs, wrap_ok (by omega) (by omega)]
/-- a search by halves: the place where it ends -/
theorem bisect {α ρ : Type} (x : List α) (cf : α → Option Int) (c : α → Int) (hcf : ∀ e ∈ x, cf e = some (c e)) (hx : x.length ≤ 1048576) :
    ∃ j, j ≤ x.length ∧ loopO (ρ := Ctl Int ρ) (fun (S2 : Int × Int) => if (decide (S2.1 < S2.2)) = true then ((idx x (IntKind.i64.wrap (ishr .u64 (IntKind.u64.wrap (IntKind.i64.wrap (S2.1 + S2.2))) (1 : Int)))).bind fun E7 =>
  (cf E7).bind fun R9 =>
  bindC (if (decide (R9 < (0 : Int))) = true then (some (.go (IntKind.i64.wrap (IntKind.i64.wrap (ishr .u64 (IntKind.u64.wrap (IntKind.i64.wrap (S2.1 + S2.2))) (1 : Int)) + (1 : Int)), S2.2)))
  else (some (.go (S2.1, IntKind.i64.wrap (ishr .u64 (IntKind.u64.wrap (IntKind.i64.wrap (S2.1 + S2.2))) (1 : Int))))))
  (fun (T12 : Int × Int) => some (.go (T12.1, T12.2))))
  else (some (.done (.go S2.1)))) ((0 : Int), ((x.length : Nat) : Int)) = some (.go (j : Int)) ∧ (∀ i (hi : i < x.length), i + 1 = j → c x[i] < 0) ∧ (∀ hj : j < x.length, 0 ≤ c x[j]) := by
  obtain ⟨r, hr, j, rfl, h1, h2, h3⟩ := loopO_total (ρ := Ctl Int ρ) (s0 := ((0 : Int), ((x.length : Nat) : Int))) (body := fun (S2 : Int × Int) => if (decide (S2.1 < S2.2)) = true then ((idx x (IntKind.i64.wrap (ishr .u64 (IntKind.u64.wrap (IntKind.i64.wrap (S2.1 + S2.2))) (1 : Int)))).bind fun E7 =>
  (cf E7).bind fun R9 =>
  bindC (if (decide (R9 < (0 : Int))) = true then (some (.go (IntKind.i64.wrap (IntKind.i64.wrap (ishr .u64 (IntKind.u64.wrap (IntKind.i64.wrap (S2.1 + S2.2))) (1 : Int)) + (1 : Int)), S2.2)))
  else (some (.go (S2.1, IntKind.i64.wrap (ishr .u64 (IntKind.u64.wrap (IntKind.i64.wrap (S2.1 + S2.2))) (1 : Int))))))
  (fun (T12 : Int × Int) => some (.go (T12.1, T12.2))))
  else (some (.done (.go S2.1))))
    (fun k s => ∃ a b : Nat, s = ((a : Int), (b : Int)) ∧ a ≤ b ∧ b ≤ x.length ∧ b - a + k ≤ x.length ∧ (∀ i (hi : i < x.length), i + 1 = a → c x[i] < 0) ∧ (∀ hj : b < x.length, 0 ≤ c x[b])) x.length
    (fun r => ∃ j : Nat, r = .go (j : Int) ∧ j ≤ x.length ∧ (∀ i (hi : i < x.length), i + 1 = j → c x[i] < 0) ∧ (∀ hj : j < x.length, 0 ≤ c x[j]))
    ⟨0, x.length, rfl, Nat.zero_le _, Nat.le_refl _, by omega, fun i hi h => by omega, fun h => by omega⟩ (by
      rintro k s hk ⟨a, b, rfl, hab, hb, hd, h1, h2⟩
      by_cases hlt : a < b
      · left
        have hm : ((a : Int) + (b : Int)) / 2 = (((a + b) / 2 : Nat) : Int) := by omega
        have hmx : (a + b) / 2 < x.length := by omega
        simp only [half_eq (a := (a : Int) + (b : Int)) (by omega) (by omega), hm, idx_nat x _ hmx, Option.bind_some, hcf _ (List.getElem_mem hmx)]
        rw [if_pos (by simpa using hlt)]
        by_cases hc : c x[(a + b) / 2] < 0
        · rw [if_pos (by simpa using hc), wrap_ok (by omega) (by omega)]
          refine ⟨_, rfl, (a + b) / 2 + 1, b, rfl, by omega, hb, by omega, fun i hi h => ?_, h2⟩
          obtain rfl : i = (a + b) / 2 := by omega
          exact hc
        · rw [if_neg (by simpa using hc)]
          exact ⟨_, rfl, a, (a + b) / 2, rfl, by omega, by omega, by omega, h1, fun _ => by omega⟩
      · right
        obtain rfl : a = b := by omega
        exact ⟨.go (a : Int), by simp, a, rfl, hb, h1, h2⟩) (by
      rintro s ⟨a, b, rfl, hab, hb, hd, h1, h2⟩
      obtain rfl : a = b := by omega
      exact ⟨.go (a : Int), by simp, a, rfl, hb, h1, h2⟩)
  exact ⟨j, h1, hr, h2, h3⟩
/-- an op as required -/
def opV (o : Op) : Bool := decide (1 ≤ (o.Key.length : Int) ∧ (o.Key.length : Int) ≤ 10) && (decide ((o.Val.length : Int) ≤ 16) && (!o.Del || decide (o.Val = [])))
theorem spec_l7Op_eq (o : Op) : spec_l7Op o = some (opV o) := by
  unfold spec_l7Op opV
  simp only [l1In_eq, Option.bind_some]
  by_cases h1 : 1 ≤ (o.Key.length : Int) ∧ (o.Key.length : Int) ≤ 10 <;> by_cases h3 : (o.Val.length : Int) ≤ 16 <;> cases h4 : o.Del <;>
    simp only [h1, h3, and_self, decide_true, decide_false, if_true, if_false, Option.bind_some, Bool.true_and, Bool.false_and, Bool.not_true, Bool.not_false, Bool.false_eq_true, Bool.true_or, Bool.false_or, Bool.and_true, Bool.and_false]
/-- a batch as required -/
def batchV (l : List Op) : Bool := decide (1 ≤ l.length ∧ l.length ≤ 6) && l.all opV
theorem batchI (l : List Op) : decide (1 ≤ ((l.length : Nat) : Int) ∧ ((l.length : Nat) : Int) ≤ 6) = decide (1 ≤ l.length ∧ l.length ≤ 6) := decide_eq_decide.2 (by omega)
theorem spec_BatchOk_eq (l : List Op) (h : l.length ≤ 1048576) : spec_BatchOk l = some (batchV l) := by
  unfold spec_BatchOk batchV
  simp only [l1In_eq, Option.bind_some, batchI]
  by_cases h6 : 1 ≤ l.length ∧ l.length ≤ 6
  · rw [decide_eq_true h6]
    simp only [Bool.not_true, Bool.false_eq_true, if_false, Bool.true_and]
    rw [loopO_is (fun k s => s = (k : Int) ∧ l.all opV = (l.drop k).all opV) l.length (if l.all opV = true then Ctl.go () else Ctl.done false) ?h0 ?h1 ?h2]
    · cases l.all opV <;> rfl
    case h0 => exact ⟨rfl, rfl⟩
    · rintro k s hk ⟨rfl, he⟩
      simp only [idx_nat l k hk, Option.bind_some, spec_l7Op_eq]
      rw [if_pos (by simpa using hk), wrap_ok (n := (k : Int) + 1) (by omega) (by omega), he, List.drop_eq_getElem_cons hk, List.all_cons]
      cases hc : opV l[k] with
      | false => right; rfl
      | true => left; exact ⟨(k : Int) + 1, rfl, by omega, by simp⟩
    · rintro s ⟨rfl, he⟩
      rw [he, List.drop_length]
      simp
  · rw [decide_eq_false h6]
    rfl
/-- is there a later op with this key -/
def laterV (l : List Op) (k : Nat) (key : List UInt8) : Bool := (l.drop (k + 1)).any fun x => decide (x.Key = key)
theorem last_loop {ρ : Type} (l : List Op) (k : Nat) (hk : k < l.length) (h : l.length ≤ 1048576) :
    loopO (ρ := Ctl Bool ρ) (fun (S23 : Bool × Int) => if (decide (S23.2 < ((l.length : Nat) : Int))) = true then ((if S23.1 = true then ((idx l S23.2).bind fun E31 =>
  (idx l (k : Int)).bind fun E33 =>
  some (!(decide (E31.Key = E33.Key))))
  else (some false)).bind (fun (T28 : Bool) =>
  some (.go (T28, IntKind.i64.wrap (S23.2 + (1 : Int))))))
  else (some (.done (.go S23.1))))
  (true, IntKind.i64.wrap ((k : Int) + (1 : Int))) = some (.go (!laterV l k l[k].Key)) := by
  rw [loopO_count (fun d => (!(((l.drop (k + 1)).take d).any fun x => decide (x.Key = l[k].Key)), ((k + 1 + d : Nat) : Int))) (l.length - (k + 1)) (r := Ctl.go (!laterV l k l[k].Key)) ?h0]
  case h0 => rw [wrap_ok (by omega) (by omega)]; simp
  · intro d hd
    have hkd : k + 1 + d < l.length := by omega
    have hdd : d < (l.drop (k + 1)).length := by simp; omega
    have ht : (l.drop (k + 1)).take (d + 1) = (l.drop (k + 1)).take d ++ [l[k + 1 + d]] := by
      rw [List.take_add_one, List.getElem?_eq_getElem hdd, List.getElem_drop]; rfl
    simp only [idx_nat l _ hkd, idx_nat l k hk, Option.bind_some, ht, List.any_append, List.any_cons, List.any_nil, Bool.or_false]
    rw [if_pos (by simp only [decide_eq_true_eq]; omega), wrap_ok (by omega) (by omega)]
    cases ((l.drop (k + 1)).take d).any fun x => decide (x.Key = l[k].Key) with
    | false => simp; omega
    | true => simp; omega
  · rw [show k + 1 + (l.length - (k + 1)) = l.length by omega, List.take_of_length_le (by simp)]
    simp [laterV]
theorem snapsV_up {seq seq' : Int} {l : List Int} (h2 : seq ≤ seq') (h : snapsV seq l = true) : snapsV seq' l = true := by
  unfold snapsV
  rw [List.all_eq_true]
  intro k hk
  have hk' : k < l.length := by simpa using hk
  obtain ⟨a, b⟩ := snaps_at h k hk'
  rw [snapP_at seq' l k hk', Bool.and_eq_true]
  refine ⟨decide_eq_true ⟨a.1, by omega⟩, ?_⟩
  by_cases h0 : 0 < k
  · rw [dif_pos h0]; exact decide_eq_true (b h0)
  · rw [dif_neg h0]
/-! words of bits -/
theorem iand64 {a b : Nat} (ha : a < 2 ^ 63) (hb : b < 2 ^ 63) : iand .i64 (a : Int) (b : Int) = ((a &&& b : Nat) : Int) := by
  unfold iand
  have h1 : a &&& b ≤ a := Nat.and_le_left
  have e : (BitVec.ofInt IntKind.i64.bits (a : Int) &&& BitVec.ofInt IntKind.i64.bits (b : Int)).toNat = a &&& b := by
    show (BitVec.ofInt 64 (a : Int) &&& BitVec.ofInt 64 (b : Int)).toNat = a &&& b
    rw [BitVec.ofInt_natCast, BitVec.ofInt_natCast, BitVec.toNat_and, BitVec.toNat_ofNat, BitVec.toNat_ofNat, Nat.mod_eq_of_lt (by omega), Nat.mod_eq_of_lt (by omega)]
  rw [e]
  exact wrap_ok (by omega) (by omega)
theorem ior64 {a b : Nat} (ha : a < 2 ^ 63) (hb : b < 2 ^ 63) : ior .i64 (a : Int) (b : Int) = ((a ||| b : Nat) : Int) := by
  unfold ior
  have h1 : a ||| b < 2 ^ 63 := Nat.or_lt_two_pow ha hb
  have e : (BitVec.ofInt IntKind.i64.bits (a : Int) ||| BitVec.ofInt IntKind.i64.bits (b : Int)).toNat = a ||| b := by
    show (BitVec.ofInt 64 (a : Int) ||| BitVec.ofInt 64 (b : Int)).toNat = a ||| b
    rw [BitVec.ofInt_natCast, BitVec.ofInt_natCast, BitVec.toNat_or, BitVec.toNat_ofNat, BitVec.toNat_ofNat, Nat.mod_eq_of_lt (by omega), Nat.mod_eq_of_lt (by omega)]
  rw [e]
  exact wrap_ok (by omega) (by omega)
theorem ixor64 {a b : Nat} (ha : a < 2 ^ 63) (hb : b < 2 ^ 63) : ixor .i64 (a : Int) (b : Int) = ((a ^^^ b : Nat) : Int) := by
  unfold ixor
  have h1 : a ^^^ b < 2 ^ 63 := Nat.xor_lt_two_pow ha hb
  have e : (BitVec.ofInt IntKind.i64.bits (a : Int) ^^^ BitVec.ofInt IntKind.i64.bits (b : Int)).toNat = a ^^^ b := by
    show (BitVec.ofInt 64 (a : Int) ^^^ BitVec.ofInt 64 (b : Int)).toNat = a ^^^ b
    rw [BitVec.ofInt_natCast, BitVec.ofInt_natCast, BitVec.toNat_xor, BitVec.toNat_ofNat, BitVec.toNat_ofNat, Nat.mod_eq_of_lt (by omega), Nat.mod_eq_of_lt (by omega)]
  rw [e]
  exact wrap_ok (by omega) (by omega)
theorem wrap32 (n : Int) : IntKind.u32.wrap n = n % 4294967296 := by simp [IntKind.wrap, IntKind.bits, IntKind.signed]
theorem wrap64u (n : Int) : IntKind.u64.wrap n = n % 18446744073709551616 := by simp [IntKind.wrap, IntKind.bits, IntKind.signed]
theorem ior32 {a b : Nat} (ha : a < 2 ^ 32) (hb : b < 2 ^ 32) : ior .u32 (a : Int) (b : Int) = ((a ||| b : Nat) : Int) := by
  unfold ior
  have h1 : a ||| b < 2 ^ 32 := Nat.or_lt_two_pow ha hb
  have e : (BitVec.ofInt IntKind.u32.bits (a : Int) ||| BitVec.ofInt IntKind.u32.bits (b : Int)).toNat = a ||| b := by
    show (BitVec.ofInt 32 (a : Int) ||| BitVec.ofInt 32 (b : Int)).toNat = a ||| b
    rw [BitVec.ofInt_natCast, BitVec.ofInt_natCast, BitVec.toNat_or, BitVec.toNat_ofNat, BitVec.toNat_ofNat, Nat.mod_eq_of_lt (by omega), Nat.mod_eq_of_lt (by omega)]
  rw [e, wrap32]
  omega
theorem ixor32 {a b : Nat} (ha : a < 2 ^ 32) (hb : b < 2 ^ 32) : ixor .u32 (a : Int) (b : Int) = ((a ^^^ b : Nat) : Int) := by
  unfold ixor
  have h1 : a ^^^ b < 2 ^ 32 := Nat.xor_lt_two_pow ha hb
  have e : (BitVec.ofInt IntKind.u32.bits (a : Int) ^^^ BitVec.ofInt IntKind.u32.bits (b : Int)).toNat = a ^^^ b := by
    show (BitVec.ofInt 32 (a : Int) ^^^ BitVec.ofInt 32 (b : Int)).toNat = a ^^^ b
    rw [BitVec.ofInt_natCast, BitVec.ofInt_natCast, BitVec.toNat_xor, BitVec.toNat_ofNat, BitVec.toNat_ofNat, Nat.mod_eq_of_lt (by omega), Nat.mod_eq_of_lt (by omega)]
  rw [e, wrap32]
  omega
theorem iand8 {a b : Nat} (ha : a < 2 ^ 8) (hb : b < 2 ^ 8) : iand .u8 (a : Int) (b : Int) = ((a &&& b : Nat) : Int) := by
  unfold iand
  have h1 : a &&& b ≤ a := Nat.and_le_left
  have e : (BitVec.ofInt IntKind.u8.bits (a : Int) &&& BitVec.ofInt IntKind.u8.bits (b : Int)).toNat = a &&& b := by
    show (BitVec.ofInt 8 (a : Int) &&& BitVec.ofInt 8 (b : Int)).toNat = a &&& b
    rw [BitVec.ofInt_natCast, BitVec.ofInt_natCast, BitVec.toNat_and, BitVec.toNat_ofNat, BitVec.toNat_ofNat, Nat.mod_eq_of_lt (by omega), Nat.mod_eq_of_lt (by omega)]
  rw [e]
  simp [IntKind.wrap, IntKind.bits, IntKind.signed]
  omega
theorem ishr_nat {k : IntKind} {a n : Nat} (hn : n ≤ k.bits) : ishr k (a : Int) (n : Int) = ((a / 2 ^ n : Nat) : Int) := by
  unfold ishr
  rw [Int.toNat_natCast, Nat.min_eq_left hn, Int.fdiv_eq_ediv_of_nonneg _ (by exact_mod_cast Nat.zero_le _)]
  norm_cast
theorem ishl64 {a n : Nat} (hn : n ≤ 64) (h : a * 2 ^ n < 2 ^ 63) : ishl .i64 (a : Int) (n : Int) = ((a * 2 ^ n : Nat) : Int) := by
  unfold ishl
  have hb : IntKind.i64.bits = 64 := rfl
  rw [Int.toNat_natCast, hb, Nat.min_eq_left hn]
  have e : (a : Int) * 2 ^ n = ((a * 2 ^ n : Nat) : Int) := by norm_cast
  rw [e]
  exact wrap_ok (by omega) (by omega)
theorem ishl32 {a n : Nat} (hn : n ≤ 32) : ishl .u32 (a : Int) (n : Int) = ((a * 2 ^ n % 4294967296 : Nat) : Int) := by
  unfold ishl
  have hb : IntKind.u32.bits = 32 := rfl
  have e : (a : Int) * 2 ^ n = ((a * 2 ^ n : Nat) : Int) := by norm_cast
  rw [Int.toNat_natCast, hb, Nat.min_eq_left hn, wrap32, e]
  generalize a * 2 ^ n = z
  omega
/-- the bits of a word turned to the left -/
def rotN (x n : Nat) : Nat := x * 2 ^ n % 4294967296 ||| x / 2 ^ (32 - n)
theorem rotN_lt {x n : Nat} (h : x < 4294967296) : rotN x n < 4294967296 := by
  unfold rotN
  refine Nat.or_lt_two_pow (n := 32) (Nat.mod_lt _ (by decide)) ?_
  exact Nat.lt_of_le_of_lt (Nat.div_le_self _ _) h
theorem ior_same {p q : Int} (hp : 0 ≤ p ∧ p < 4294967296) (hq : 0 ≤ q ∧ q < 4294967296) : ior .u32 p q = ior .i64 p q ∧ 0 ≤ ior .i64 p q ∧ ior .i64 p q < 4294967296 := by
  have e1 : p = (p.toNat : Int) := by omega
  have e2 : q = (q.toNat : Int) := by omega
  have h1 : p.toNat < 2 ^ 32 := by omega
  have h2 : q.toNat < 2 ^ 32 := by omega
  have h3 := Nat.or_lt_two_pow h1 h2
  rw [e1, e2, ior32 h1 h2, ior64 (by omega) (by omega)]
  generalize p.toNat ||| q.toNat = z at h3
  exact ⟨rfl, by omega, by omega⟩
theorem ishl_same (x : UInt8) (n : Nat) (hn : n ≤ 24) : ishl .u32 (IntKind.u32.wrap ((x.toNat : Nat) : Int)) (n : Int) = ishl .i64 (IntKind.i64.wrap ((x.toNat : Nat) : Int)) (n : Int) ∧ 0 ≤ ishl .i64 (IntKind.i64.wrap ((x.toNat : Nat) : Int)) (n : Int) ∧ ishl .i64 (IntKind.i64.wrap ((x.toNat : Nat) : Int)) (n : Int) < 4294967296 := by
  have hx := x.toNat_lt
  have w1 : IntKind.u32.wrap ((x.toNat : Nat) : Int) = ((x.toNat : Nat) : Int) := by rw [wrap32]; omega
  have w2 : IntKind.i64.wrap ((x.toNat : Nat) : Int) = ((x.toNat : Nat) : Int) := wrap_ok (by omega) (by omega)
  have hp : 2 ^ n ≤ 2 ^ 24 := Nat.pow_le_pow_right (by decide) hn
  have hm : x.toNat * 2 ^ n ≤ x.toNat * 2 ^ 24 := Nat.mul_le_mul_left _ hp
  rw [w1, w2, ishl32 (by omega), ishl64 (by omega) (by omega)]
  generalize x.toNat * 2 ^ n = z at hm
  have hz : z < 4294967296 := by omega
  rw [Nat.mod_eq_of_lt hz]
  exact ⟨rfl, by omega, by omega⟩
theorem ishl_samei (x : UInt8) (n : Int) (hn : 0 ≤ n ∧ n ≤ 24) : ishl .u32 (IntKind.u32.wrap ((x.toNat : Nat) : Int)) n = ishl .i64 (IntKind.i64.wrap ((x.toNat : Nat) : Int)) n ∧ 0 ≤ ishl .i64 (IntKind.i64.wrap ((x.toNat : Nat) : Int)) n ∧ ishl .i64 (IntKind.i64.wrap ((x.toNat : Nat) : Int)) n < 4294967296 := by
  have e : n = (n.toNat : Int) := by omega
  rw [e]
  exact ishl_same x n.toNat (by omega)
theorem bind_same {α β : Type} {x : Option α} {f g : α → Option β} (h : ∀ a, f a = g a) : x.bind f = x.bind g := by
  cases x with
  | none => rfl
  | some a => exact h a
theorem little_val (a b c d : UInt8) : ior .u32 (ior .u32 (ior .u32 (IntKind.u32.wrap ((a.toNat : Nat) : Int)) (ishl .u32 (IntKind.u32.wrap ((b.toNat : Nat) : Int)) (8 : Int))) (ishl .u32 (IntKind.u32.wrap ((c.toNat : Nat) : Int)) (16 : Int))) (ishl .u32 (IntKind.u32.wrap ((d.toNat : Nat) : Int)) (24 : Int)) =
      ior .i64 (ior .i64 (ior .i64 (IntKind.i64.wrap ((a.toNat : Nat) : Int)) (ishl .i64 (IntKind.i64.wrap ((b.toNat : Nat) : Int)) (8 : Int))) (ishl .i64 (IntKind.i64.wrap ((c.toNat : Nat) : Int)) (16 : Int))) (ishl .i64 (IntKind.i64.wrap ((d.toNat : Nat) : Int)) (24 : Int)) ∧
      0 ≤ ior .i64 (ior .i64 (ior .i64 (IntKind.i64.wrap ((a.toNat : Nat) : Int)) (ishl .i64 (IntKind.i64.wrap ((b.toNat : Nat) : Int)) (8 : Int))) (ishl .i64 (IntKind.i64.wrap ((c.toNat : Nat) : Int)) (16 : Int))) (ishl .i64 (IntKind.i64.wrap ((d.toNat : Nat) : Int)) (24 : Int)) ∧
      ior .i64 (ior .i64 (ior .i64 (IntKind.i64.wrap ((a.toNat : Nat) : Int)) (ishl .i64 (IntKind.i64.wrap ((b.toNat : Nat) : Int)) (8 : Int))) (ishl .i64 (IntKind.i64.wrap ((c.toNat : Nat) : Int)) (16 : Int))) (ishl .i64 (IntKind.i64.wrap ((d.toNat : Nat) : Int)) (24 : Int)) < 4294967296 := by
  have ha := a.toNat_lt
  have a1 : IntKind.u32.wrap ((a.toNat : Nat) : Int) = IntKind.i64.wrap ((a.toNat : Nat) : Int) := by rw [wrap32, wrap_ok (by omega) (by omega)]; omega
  have a2 : 0 ≤ IntKind.i64.wrap ((a.toNat : Nat) : Int) ∧ IntKind.i64.wrap ((a.toNat : Nat) : Int) < 4294967296 := by rw [wrap_ok (by omega) (by omega)]; omega
  obtain ⟨b1, b2⟩ := ishl_samei b 8 (by omega)
  obtain ⟨c1, c2⟩ := ishl_samei c 16 (by omega)
  obtain ⟨d1, d2⟩ := ishl_samei d 24 (by omega)
  obtain ⟨o1, o2⟩ := ior_same a2 b2
  obtain ⟨p1, p2⟩ := ior_same o2 c2
  obtain ⟨q1, q2⟩ := ior_same p2 d2
  refine ⟨?_, q2⟩
  rw [a1, b1, c1, d1, o1, p1, q1]
theorem sidx_nat (s : List UInt8) (i : Nat) (h : i < s.length) : sidx s (i : Int) = some s[i] := by
  unfold sidx
  rw [if_pos (by omega), Int.toNat_natCast, List.getElem?_eq_getElem h]
/-- words of 32 bits -/
def okW (l : List Wrd) : Prop := ∀ x ∈ l, 0 ≤ x.v ∧ x.v < 4294967296
theorem okW_set {l : List Wrd} {i : Nat} {x : Wrd} (h : okW l) (hx : 0 ≤ x.v ∧ x.v < 4294967296) : okW (l.set i x) := by
  intro y hy
  rcases List.mem_or_eq_of_mem_set hy with h1 | h1
  · exact h y h1
  · rw [h1]; exact hx
theorem okW_nat {l : List Wrd} (h : okW l) (k : Nat) (hk : k < l.length) : ∃ n : Nat, l[k].v = (n : Int) ∧ n < 4294967296 := by
  obtain ⟨h1, h2⟩ := h _ (List.getElem_mem hk)
  exact ⟨l[k].v.toNat, by omega, by omega⟩
/-- sixteen words -/
def goodW (l : List Wrd) : Prop := l.length = 16 ∧ okW l
noncomputable def selW (k : Nat) (i : Nat) (n : Nat) : Wrd := bif Nat.blt i k then Wrd.mk (n : Int) else Wrd.mk 0
def bytes4 (n : Nat) : List UInt8 := [toU8 (n : Int), toU8 ((n / 256 : Nat) : Int), toU8 ((n / 65536 : Nat) : Int), toU8 ((n / 16777216 : Nat) : Int)]
/-- the bytes of the first k words -/
noncomputable def outW (w s : List Wrd) : Nat → List UInt8
  | 0 => []
  | k + 1 => outW w s k ++ (match w[k]?, s[k]? with | some x, some y => bytes4 ((x.v + y.v).toNat % 4294967296) | _, _ => [])
theorem outW_succ (w s : List Wrd) (k : Nat) (hw : k < w.length) (hs : k < s.length) : outW w s (k + 1) = outW w s k ++ bytes4 ((w[k].v + s[k].v).toNat % 4294967296) := by
  show outW w s k ++ (match w[k]?, s[k]? with | some x, some y => _ | _, _ => _) = _
  rw [List.getElem?_eq_getElem hw, List.getElem?_eq_getElem hs]
theorem outW_len (w s : List Wrd) (hw : w.length = 16) (hs : s.length = 16) : ∀ k, k ≤ 16 → (outW w s k).length = 4 * k
  | 0, _ => rfl
  | k + 1, hk => by
    rw [outW_succ w s k (by omega) (by omega), List.length_append, outW_len w s hw hs k (by omega)]
    show 4 * k + 4 = _
    omega
theorem toU8_mod (n : Nat) : toU8 ((n % 256 : Nat) : Int) = toU8 (n : Int) := by
  unfold toU8
  congr 1
  omega
def chaOk (key : List UInt8) (counter : Int) (nonce : List UInt8) : Bool := decide (key.length = 32) && (decide (nonce.length = 12) && decide (0 ≤ counter ∧ counter ≤ 4294967295))
theorem chaOk_iff {key : List UInt8} {counter : Int} {nonce : List UInt8} (h : chaOk key counter nonce = true) : key.length = 32 ∧ nonce.length = 12 ∧ 0 ≤ counter ∧ counter ≤ 4294967295 := by
  unfold chaOk at h
  simp only [Bool.and_eq_true, decide_eq_true_eq] at h
  exact h
theorem bind_of {α β : Type} {x : Option α} {a : α} {f : α → Option β} {r : Option β} (h : x = some a) (h2 : f a = r) : x.bind f = r := by rw [h]; exact h2
/-- bytes of a number, the highest first -/
def fixV (n : Nat) : Nat → List UInt8
  | 0 => []
  | j + 1 => toU8 ((n / 256 ^ j : Nat) : Int) :: fixV n j
theorem fixV_len (n : Nat) : ∀ j, (fixV n j).length = j
  | 0 => rfl
  | j + 1 => by rw [fixV, List.length_cons, fixV_len n j]
theorem div_pow_succ (n b j : Nat) : n / b ^ j / b = n / b ^ (j + 1) := by rw [Nat.div_div_eq_div_mul, Nat.pow_succ]
def fixedV (n w : Int) : List UInt8 := bif decide (1 ≤ w ∧ w ≤ 7) && (decide (0 ≤ n) && decide (n.toNat / 256 ^ w.toNat = 0)) then fixV n.toNat w.toNat else []
/-- a number in bytes of seven bits, the lowest first -/
def varN : Nat → Nat → List UInt8
  | 0, n => [toU8 (n : Int)]
  | f + 1, n => bif decide (n < 128) then [toU8 (n : Int)] else toU8 ((128 + n % 128 : Nat) : Int) :: varN f (n / 128)
theorem varN_lt {f n : Nat} (h : n < 128) : varN f n = [toU8 (n : Int)] := by
  cases f with
  | zero => rfl
  | succ f => rw [varN, decide_eq_true h]; rfl
theorem varN_ge {f n : Nat} (h : 128 ≤ n) : varN (f + 1) n = toU8 ((128 + n % 128 : Nat) : Int) :: varN f (n / 128) := by
  rw [varN, decide_eq_false (by omega)]; rfl
/-- a loop that takes seven bits at a time -/
theorem var_loop {body : Int × List UInt8 → Option (Ctl (Int × List UInt8) (Ctl (Int × List UInt8) (List UInt8)))}
    (h1 : ∀ (n : Nat) (out : List UInt8), 128 ≤ n → n < 562949953421312 → out.length ≤ 100 → body ((n : Int), out) = some (.go (((n / 128 : Nat) : Int), out ++ [toU8 ((128 + n % 128 : Nat) : Int)])))
    (h2 : ∀ (n : Nat) (out : List UInt8), n < 128 → body ((n : Int), out) = some (.done (.go ((n : Int), out)))) :
    ∀ (f n : Nat) (out : List UInt8), n < 128 ^ (f + 1) → n < 562949953421312 → out.length + f ≤ 100 → ∃ (m : Nat) (out' : List UInt8), loopO body ((n : Int), out) = some (.go ((m : Int), out')) ∧ out' ++ [toU8 (m : Int)] = out ++ varN f n ∧ out'.length ≤ 100 := by
  intro f
  induction f with
  | zero =>
    intro n out hn _ ho
    have hn' : n < 128 := by simpa using hn
    exact ⟨n, out, by rw [loopO_eq, h2 n out hn'], by rw [varN_lt hn'], by omega⟩
  | succ f ih =>
    intro n out hn hb ho
    by_cases h : n < 128
    · exact ⟨n, out, by rw [loopO_eq, h2 n out h], by rw [varN_lt h], by omega⟩
    · have hn2 : n / 128 < 128 ^ (f + 1) := by
        rw [Nat.div_lt_iff_lt_mul (by decide)]
        rw [Nat.pow_succ] at hn
        exact hn
      obtain ⟨m, out', e1, e2, e3⟩ := ih (n / 128) (out ++ [toU8 ((128 + n % 128 : Nat) : Int)]) hn2 (by omega) (by simp; omega)
      refine ⟨m, out', ?_, ?_, e3⟩
      · rw [loopO_eq, h1 n out (by omega) hb (by omega)]
        exact e1
      · rw [e2, varN_ge (by omega), List.append_assoc]; rfl
def varV (n : Int) : List UInt8 := bif decide (0 ≤ n ∧ n ≤ 562949953421311) then varN 6 n.toNat else []
theorem or128 (m : Nat) (h : m < 128) : 128 ||| m = 128 + m := by
  have := Nat.two_pow_add_eq_or_of_lt (i := 7) (b := m) h 1
  rw [show 2 ^ 7 * 1 = 128 from rfl] at this
  exact this.symm
/-- the number that bytes of seven bits come to -/
def numV : List UInt8 → Nat
  | [] => 0
  | x :: l => x.toNat % 128 + 128 * numV l
theorem numV_lt : ∀ (l : List UInt8), numV l < 128 ^ l.length
  | [] => by decide
  | x :: l => by
    have := numV_lt l
    have hx : x.toNat % 128 < 128 := Nat.mod_lt _ (by decide)
    rw [numV, List.length_cons, Nat.pow_succ]
    omega
theorem numV_snoc : ∀ (l : List UInt8) (x : UInt8), numV (l ++ [x]) = numV l + 128 ^ l.length * (x.toNat % 128)
  | [], x => by simp [numV]
  | y :: l, x => by
    rw [List.cons_append, numV, numV, numV_snoc l x, List.length_cons, Nat.pow_succ, Nat.mul_add, Nat.mul_comm (128 ^ l.length) 128, Nat.mul_assoc]
    omega
/-- reading: the number and how many bytes -/
def readN : Nat → List UInt8 → Option (Nat × Nat)
  | 0, _ => none
  | _ + 1, [] => none
  | f + 1, x :: l => bif decide (x.toNat < 128) then some (x.toNat, 1) else match readN f l with
    | some (m, k) => bif decide (m = 0) then none else some (x.toNat % 128 + 128 * m, k + 1)
    | none => none
theorem toU8_toNat (n : Nat) : (toU8 (n : Int)).toNat = n % 256 := by
  unfold toU8
  rw [UInt8.toNat_ofNat']
  omega
theorem toU8_of (x : UInt8) : toU8 ((x.toNat : Nat) : Int) = x := by
  have := x.toNat_lt
  apply UInt8.toNat_inj.1
  rw [toU8_toNat]
  omega
/-- a beginning that is the form of its number -/
def goodN (l : List UInt8) : Prop := ∃ f, l.length ≤ f + 1 ∧ varN f (numV l) = l
theorem varN_more : ∀ (f g n : Nat), n < 128 ^ (f + 1) → n < 128 ^ (g + 1) → varN f n = varN g n
  | f, g, n, h1, h2 => by
    by_cases h : n < 128
    · rw [varN_lt h, varN_lt h]
    · cases f with
      | zero => simp at h1; omega
      | succ f =>
        cases g with
        | zero => simp at h2; omega
        | succ g =>
          rw [varN_ge (by omega), varN_ge (by omega), varN_more f g (n / 128) ?_ ?_]
          · rw [Nat.div_lt_iff_lt_mul (by decide)]; rw [Nat.pow_succ] at h1; exact h1
          · rw [Nat.div_lt_iff_lt_mul (by decide)]; rw [Nat.pow_succ] at h2; exact h2
theorem take_ne {α : Type} {l : List α} {j : Nat} (h1 : 1 ≤ j) (h2 : j ≤ l.length) : l.take j ≠ [] := by
  intro e
  have := congrArg List.length e
  rw [List.length_take, List.length_nil] at this
  omega
theorem good_one (f : Nat) (x : UInt8) : varN f (numV [x]) = [x] ↔ x.toNat < 128 := by
  have hx : x.toNat % 128 < 128 := Nat.mod_lt _ (by decide)
  rw [show numV [x] = x.toNat % 128 by simp [numV], varN_lt hx]
  constructor
  · intro h
    have h2 : toU8 ((x.toNat % 128 : Nat) : Int) = x := by simpa using h
    have h3 := congrArg UInt8.toNat h2
    rw [toU8_toNat] at h3
    omega
  · intro h
    rw [Nat.mod_eq_of_lt h, toU8_of]
theorem good_more (f : Nat) (x : UInt8) (l : List UInt8) (hl : l ≠ []) : varN (f + 1) (numV (x :: l)) = x :: l ↔ 128 ≤ x.toNat ∧ numV l ≠ 0 ∧ varN f (numV l) = l := by
  have hx : x.toNat % 128 < 128 := Nat.mod_lt _ (by decide)
  have hx2 := x.toNat_lt
  have hm : (x.toNat % 128 + 128 * numV l) % 128 = x.toNat % 128 := by omega
  have hd : (x.toNat % 128 + 128 * numV l) / 128 = numV l := by omega
  by_cases h0 : numV l = 0
  · rw [numV, h0, varN_lt (by omega)]
    constructor
    · intro h
      have : [] = l := by simpa using (List.cons.inj h).2
      exact absurd this.symm hl
    · rintro ⟨_, h, _⟩
      exact absurd rfl h
  · rw [numV, varN_ge (by omega), hm, hd]
    constructor
    · intro h
      obtain ⟨h1, h2⟩ := List.cons.inj h
      have h3 := congrArg UInt8.toNat h1
      rw [toU8_toNat] at h3
      exact ⟨by omega, h0, h2⟩
    · rintro ⟨h1, _, h2⟩
      rw [h2, show 128 + x.toNat % 128 = x.toNat by omega, toU8_of]
theorem readN_some : ∀ (f : Nat) (s : List UInt8) (n k : Nat), readN f s = some (n, k) → 1 ≤ k ∧ k ≤ f ∧ k ≤ s.length ∧ n = numV (s.take k) ∧ varN (f - 1) n = s.take k ∧ ∀ g j, 1 ≤ j → j ≤ g + 1 → j ≤ s.length → varN g (numV (s.take j)) = s.take j → j = k
  | 0, s, n, k, h => by cases h
  | f + 1, [], n, k, h => by cases h
  | f + 1, x :: l, n, k, h => by
    rw [readN] at h
    by_cases hx : x.toNat < 128
    · rw [decide_eq_true hx] at h
      simp only [cond_true, Option.some.injEq, Prod.mk.injEq] at h
      obtain ⟨rfl, rfl⟩ := h
      have hm : x.toNat % 128 = x.toNat := Nat.mod_eq_of_lt hx
      refine ⟨Nat.le_refl _, by omega, by simp, by simp [numV, hm], ?_, fun g j hj1 hjg hjl he => ?_⟩
      · have := (good_one (f + 1 - 1) x).2 hx
        rw [show numV [x] = x.toNat by simp [numV, hm]] at this
        exact this
      · cases j with
        | zero => omega
        | succ j =>
          cases j with
          | zero => rfl
          | succ j =>
            cases g with
            | zero => omega
            | succ g =>
              rw [List.take_succ_cons] at he
              have := (good_more g x (l.take (j + 1)) (take_ne (by omega) (by rw [List.length_cons] at hjl; omega))).1 he
              omega
    · rw [decide_eq_false hx] at h
      simp only [cond_false] at h
      cases hr : readN f l with
      | none => rw [hr] at h; cases h
      | some p =>
        obtain ⟨m, k'⟩ := p
        rw [hr] at h
        simp only at h
        by_cases hm : m = 0
        · rw [decide_eq_true hm] at h; cases h
        · rw [decide_eq_false hm] at h
          simp only [cond_false, Option.some.injEq, Prod.mk.injEq] at h
          obtain ⟨rfl, rfl⟩ := h
          obtain ⟨h1, h2, h3, h4, h5, h6⟩ := readN_some f l m k' hr
          have hne : l.take k' ≠ [] := take_ne h1 h3
          refine ⟨by omega, by omega, by simp; omega, by rw [List.take_succ_cons, numV, ← h4], ?_, fun g j hj1 hjg hjl he => ?_⟩
          · rw [List.take_succ_cons, Nat.add_sub_cancel]
            obtain ⟨f', rfl⟩ : ∃ f', f = f' + 1 := ⟨f - 1, by omega⟩
            rw [Nat.add_sub_cancel] at h5
            have := (good_more f' x (l.take k') hne).2 ⟨by omega, by rw [← h4]; exact hm, by rw [← h4]; exact h5⟩
            rw [numV, ← h4] at this
            exact this
          · cases j with
            | zero => omega
            | succ j =>
              cases j with
              | zero =>
                rw [List.take_succ_cons, List.take_zero] at he
                exact absurd ((good_one g x).1 he) hx
              | succ j =>
                cases g with
                | zero => omega
                | succ g =>
                  rw [List.take_succ_cons] at he
                  have hjl' : j + 1 ≤ l.length := by simp at hjl; omega
                  have := (good_more g x (l.take (j + 1)) (take_ne (by omega) hjl')).1 he
                  have := h6 g (j + 1) (by omega) (by omega) hjl' this.2.2
                  omega
theorem readN_none : ∀ (f : Nat) (s : List UInt8), readN f s = none → ∀ g j, 1 ≤ j → j ≤ f → j ≤ g + 1 → j ≤ s.length → varN g (numV (s.take j)) ≠ s.take j
  | 0, s, h => fun g j h1 h2 => by omega
  | f + 1, [], h => fun g j h1 h2 h3 h4 => by simp at h4; omega
  | f + 1, x :: l, h => by
    intro g j hj1 hjf hjg hjl he
    rw [readN] at h
    by_cases hx : x.toNat < 128
    · rw [decide_eq_true hx] at h; cases h
    · rw [decide_eq_false hx] at h
      simp only [cond_false] at h
      cases j with
      | zero => omega
      | succ j =>
        cases j with
        | zero =>
          rw [List.take_succ_cons, List.take_zero] at he
          exact hx ((good_one g x).1 he)
        | succ j =>
          cases g with
          | zero => omega
          | succ g =>
            rw [List.take_succ_cons] at he
            have hjl' : j + 1 ≤ l.length := by simp at hjl; omega
            obtain ⟨q1, q2, q3⟩ := (good_more g x (l.take (j + 1)) (take_ne (by omega) hjl')).1 he
            cases hr : readN f l with
            | none => exact readN_none f l hr g (j + 1) (by omega) (by omega) (by omega) hjl' q3
            | some p =>
              obtain ⟨m, k'⟩ := p
              rw [hr] at h
              simp only at h
              by_cases hm : m = 0
              · obtain ⟨h1, h2, h3, h4, h5, h6⟩ := readN_some f l m k' hr
                have := h6 g (j + 1) (by omega) (by omega) hjl' q3
                rw [← this] at h4
                exact q2 (by rw [← h4]; exact hm)
              · rw [decide_eq_false hm] at h; cases h
def readR : Option (Nat × Nat) → Int × Int
  | some (n, k) => ((n : Int), (k : Int))
  | none => (0, 0)
/-- reading of what comes behind i bytes -/
def readI (n i : Nat) : Option (Nat × Nat) → Int × Int
  | some (m, k) => bif decide (m = 0 ∧ 0 < i) then (0, 0) else (((n + 128 ^ i * m : Nat) : Int), ((i + k : Nat) : Int))
  | none => (0, 0)
theorem readI_zero (p : Option (Nat × Nat)) : readI 0 0 p = readR p := by
  cases p with
  | none => rfl
  | some p => simp [readI, readR]
theorem readI_step (n i f : Nat) (x : UInt8) (l : List UInt8) (hx : ¬ x.toNat < 128) : readI n i (readN (f + 1) (x :: l)) = readI (n + 128 ^ i * (x.toNat % 128)) (i + 1) (readN f l) := by
  rw [readN, decide_eq_false hx]
  simp only [cond_false]
  cases readN f l with
  | none => rfl
  | some p =>
    obtain ⟨m, k⟩ := p
    simp only
    by_cases hm : m = 0
    · simp [hm, readI]
    · rw [decide_eq_false hm]
      simp only [cond_false, readI]
      rw [decide_eq_false (by omega), decide_eq_false (by omega)]
      simp only [cond_false]
      have e : n + 128 ^ i * (x.toNat % 128 + 128 * m) = n + 128 ^ i * (x.toNat % 128) + 128 ^ i * 128 * m := by rw [Nat.mul_add, Nat.mul_assoc, Nat.add_assoc]
      rw [Nat.pow_succ, e, show i + (k + 1) = i + 1 + k by omega]
theorem or_add (n d i : Nat) (h : n < 2 ^ (7 * i)) : n ||| d * 2 ^ (7 * i) = n + 2 ^ (7 * i) * d := by
  rw [Nat.or_comm, Nat.mul_comm, ← Nat.two_pow_add_eq_or_of_lt h]
  omega
theorem pow128 (i : Nat) : 128 ^ i = 2 ^ (7 * i) := by rw [Nat.pow_mul]
theorem ssub_nat (s : List UInt8) (a b : Nat) (h1 : a ≤ b) (h2 : b ≤ s.length) : ssub s (a : Int) (b : Int) = some ((s.drop a).take (b - a)) := by
  unfold ssub
  rw [if_pos ⟨by omega, by omega, by omega⟩, Int.toNat_natCast, Int.toNat_natCast]
theorem ssub_end (s : List UInt8) (a : Nat) (h : a ≤ s.length) : ssub s (a : Int) (s.length : Int) = some (s.drop a) := by
  rw [ssub_nat s a s.length h (Nat.le_refl _), List.take_of_length_le (by simp)]
theorem num_loop {ρ : Type} (s : List UInt8) (k : Nat) (h1 : 1 ≤ k) (h7 : k ≤ 7) (hk : k ≤ s.length) :
    loopO (ρ := Ctl Int ρ) (fun (S9 : Int × Int) => if (decide (S9.2 ≥ (0 : Int))) = true then ((sidx s S9.2).bind fun E14 =>
  some (.go (IntKind.i64.wrap (IntKind.i64.wrap (S9.1 * (128 : Int)) + (Int.tmod (IntKind.i64.wrap ((E14.toNat : Nat) : Int)) (128 : Int))), IntKind.i64.wrap (S9.2 - (1 : Int)))))
  else (some (.done (.go S9.1))))
  ((0 : Int), (k : Int) - 1) = some (.go (numV (s.take k) : Int)) := by
  have hlen : (s.take k).length = k := by rw [List.length_take]; omega
  rw [loopO_count (fun t => ((numV ((s.take k).drop (k - t)) : Int), (k : Int) - 1 - (t : Int))) k (r := Ctl.go (numV (s.take k) : Int)) ?h0]
  case h0 => rw [show k - 0 = k by omega, List.drop_of_length_le (by omega)]; simp [numV]
  · intro t ht
    have hi : (k : Int) - 1 - (t : Int) = ((k - 1 - t : Nat) : Int) := by omega
    have hd : (s.take k).drop (k - (t + 1)) = s[k - 1 - t] :: (s.take k).drop (k - t) := by
      rw [show k - (t + 1) = k - 1 - t by omega, List.drop_eq_getElem_cons (by omega), List.getElem_take]
      rw [show k - 1 - t + 1 = k - t by omega]
    have hx := (s[k - 1 - t]).toNat_lt
    have hn := numV_lt ((s.take k).drop (k - t))
    have hl : ((s.take k).drop (k - t)).length = t := by rw [List.length_drop, hlen]; omega
    rw [hl] at hn
    have hp : 128 ^ t ≤ 128 ^ 6 := Nat.pow_le_pow_right (by decide) (by omega)
    have hm : Int.tmod (((s[k - 1 - t]).toNat : Nat) : Int) (128 : Int) = (((s[k - 1 - t]).toNat % 128 : Nat) : Int) := by rw [show (128 : Int) = ((128 : Nat) : Int) from rfl, ← Int.ofNat_tmod]
    simp only [hi, sidx_nat s (k - 1 - t) (by omega), Option.bind_some]
    rw [if_pos (by simp only [decide_eq_true_eq]; omega), wrap_ok (n := (((s[k - 1 - t]).toNat : Nat) : Int)) (by omega) (by omega), hm, hd, numV]
    generalize numV ((s.take k).drop (k - t)) = z at hn
    rw [wrap_ok (n := (z : Int) * 128) (by omega) (by omega), wrap_ok (by omega) (by omega), wrap_ok (by omega) (by omega)]
    congr 3
    · omega
    · omega
  · rw [if_neg (by simp only [decide_eq_true_eq]; omega)]
    simp
/-- so many numbers read from a place on -/
def l6V (s : List UInt8) : Nat → Nat → List Int × Int
  | 0, a => ([], (a : Int))
  | n + 1, a => bif decide (s.length < a) then ([], -1) else match readN 7 (s.drop a) with
    | some (x, k) => ((x : Int) :: (l6V s n (a + k)).1, (l6V s n (a + k)).2)
    | none => ([], -1)
def nonceV (kind n : Int) : List UInt8 := bif decide (0 ≤ kind ∧ kind ≤ 255) && decide (0 ≤ n ∧ n ≤ 562949953421311) then [toU8 kind, 0, 0, 0, 0] ++ fixedV n 7 else []
theorem fixedV_len (n : Int) (w : Nat) : (fixedV n w).length ≤ w := by
  unfold fixedV
  cases decide (1 ≤ (w : Int) ∧ (w : Int) ≤ 7) && (decide (0 ≤ n) && decide (n.toNat / 256 ^ (w : Int).toNat = 0))
  · simp
  · rw [cond_true, fixV_len]; simp
theorem fixedV_len7 (n : Int) (h : 0 ≤ n ∧ n ≤ 562949953421311) : (fixedV n 7).length = 7 := by
  unfold fixedV
  have h1 : n.toNat / 256 ^ (7 : Int).toNat = 0 := Nat.div_eq_of_lt (by show n.toNat < 256 ^ 7; omega)
  rw [decide_eq_true h.1, decide_eq_true h1]
  show (fixV n.toNat 7).length = 7
  exact fixV_len _ 7
theorem varN_len : ∀ (f n : Nat), (varN f n).length ≤ f + 1
  | 0, n => Nat.le_refl _
  | f + 1, n => by
    by_cases h : n < 128
    · rw [varN_lt h]; simp
    · rw [varN_ge (by omega), List.length_cons]
      have := varN_len f (n / 128)
      omega
theorem varV_len (n : Int) : (varV n).length ≤ 7 := by
  unfold varV
  cases decide (0 ≤ n ∧ n ≤ 562949953421311)
  · simp
  · exact varN_len 6 _
def mintOk (secret : List UInt8) (t e : Int) : Bool := decide (secret.length = 32) && (decide (1 ≤ t ∧ t ≤ 99) && decide (0 ≤ e ∧ e ≤ 1000000))
theorem mintOk_iff {secret : List UInt8} {t e : Int} (h : mintOk secret t e = true) : secret.length = 32 ∧ (1 ≤ t ∧ t ≤ 99) ∧ 0 ≤ e ∧ e ≤ 1000000 := by
  unfold mintOk at h
  simp only [Bool.and_eq_true, decide_eq_true_eq] at h
  exact h
theorem readN_var {s : List UInt8} {n k : Nat} (h : readN 7 s = some (n, k)) : varV (n : Int) = s.take k ∧ k ≤ s.length ∧ 1 ≤ k ∧ k ≤ 7 := by
  obtain ⟨h1, h2, h3, h4, h5, _⟩ := readN_some 7 s n k h
  have hn := numV_lt (s.take k)
  rw [List.length_take, Nat.min_eq_left h3, ← h4] at hn
  have hp : 128 ^ k ≤ 128 ^ 7 := Nat.pow_le_pow_right (by decide) h2
  refine ⟨?_, h3, h1, h2⟩
  unfold varV
  rw [decide_eq_true (by omega), cond_true, Int.toNat_natCast]
  exact h5
theorem skip_eq (w tenant k t : Int) : (if (!(decide (w = (0 : Int)))) = true then (if (!(decide (w = tenant))) = true then (some true)
  else (if (decide (k = (13 : Int))) = true then (some (!(decide (t = tenant))))
  else (some false)))
  else (if (decide (k = (13 : Int))) = true then (some (!(decide (t = tenant))))
  else (some false))) = some ((!decide (w = 0) && !decide (w = tenant)) || (decide (k = 13) && !decide (t = tenant))) := by
  cases decide (w = 0) <;> cases decide (w = tenant) <;> cases decide (k = 13) <;> cases decide (t = tenant) <;> rfl
theorem iand32 {a b : Nat} (ha : a < 2 ^ 32) (hb : b < 2 ^ 32) : iand .u32 (a : Int) (b : Int) = ((a &&& b : Nat) : Int) := by
  unfold iand
  have h1 : a &&& b ≤ a := Nat.and_le_left
  have e : (BitVec.ofInt IntKind.u32.bits (a : Int) &&& BitVec.ofInt IntKind.u32.bits (b : Int)).toNat = a &&& b := by
    show (BitVec.ofInt 32 (a : Int) &&& BitVec.ofInt 32 (b : Int)).toNat = a &&& b
    rw [BitVec.ofInt_natCast, BitVec.ofInt_natCast, BitVec.toNat_and, BitVec.toNat_ofNat, BitVec.toNat_ofNat, Nat.mod_eq_of_lt (by omega), Nat.mod_eq_of_lt (by omega)]
  rw [e, wrap32]
  omega
/-- a step of the checksum -/
def crcS (c : Nat) : Nat := bif decide (c % 2 = 1) then (c / 2) ^^^ 2197175160 else c / 2
theorem crcS_lt {c : Nat} (h : c < 2 ^ 32) : crcS c < 2 ^ 32 := by
  unfold crcS
  have h2 : c / 2 < 2 ^ 32 := by omega
  cases decide (c % 2 = 1)
  · exact h2
  · exact Nat.xor_lt_two_pow h2 (by decide)
def crcR : Nat → Nat → Nat
  | 0, c => c
  | k + 1, c => crcS (crcR k c)
theorem crcR_lt {c : Nat} (h : c < 2 ^ 32) : ∀ k, crcR k c < 2 ^ 32
  | 0 => h
  | k + 1 => crcS_lt (crcR_lt h k)
def crcN (s : List UInt8) : Nat → Nat
  | 0 => 4294967295
  | k + 1 => match s[k]? with
    | some x => crcR 8 (crcN s k ^^^ x.toNat)
    | none => crcN s k
theorem crcN_succ (s : List UInt8) (k : Nat) (h : k < s.length) : crcN s (k + 1) = crcR 8 (crcN s k ^^^ s[k].toNat) := by
  show (match s[k]? with | some x => _ | none => _) = _
  rw [List.getElem?_eq_getElem h]
theorem byte_lt (x : UInt8) : x.toNat < 2 ^ 32 := by have := x.toNat_lt; omega
theorem crcN_lt (s : List UInt8) : ∀ k, k ≤ s.length → crcN s k < 2 ^ 32
  | 0, _ => by show 4294967295 < 2 ^ 32; decide
  | k + 1, h => by rw [crcN_succ s k (by omega)]; exact crcR_lt (Nat.xor_lt_two_pow (crcN_lt s k (by omega)) (byte_lt _)) 8
def crcV (s : List UInt8) : Int := 4294967295 - (crcN s s.length : Int)
theorem crcV_range (s : List UInt8) : 0 ≤ crcV s ∧ crcV s ≤ 4294967295 := by
  have := crcN_lt s s.length (Nat.le_refl _)
  unfold crcV
  omega
/-- an edit as required -/
def numV1 (n : Int) : Bool := decide (0 ≤ n ∧ n ≤ 1000000)
theorem passes {ρ α : Type} (l : List α) (p : α → Bool) (body : Int → Option (Ctl Int (Ctl Unit Bool))) (h : ∀ k (hk : k < l.length), body (k : Int) = some (if p l[k] = true then .go ((k : Int) + 1) else .done (.done false))) (hn : body (l.length : Int) = some (.done (.go ()))) :
    loopO body 0 = some (if l.all p = true then .go () else .done false) := by
  rw [loopO_is (fun k s => s = (k : Int) ∧ l.all p = (l.drop k).all p) l.length (if l.all p = true then Ctl.go () else Ctl.done false) ?h0 ?h1 ?h2]
  case h0 => exact ⟨rfl, rfl⟩
  · rintro k s hk ⟨rfl, he⟩
    rw [h k hk, he, List.drop_eq_getElem_cons hk, List.all_cons]
    cases p l[k] with
    | false => right; rfl
    | true => left; exact ⟨(k : Int) + 1, rfl, by omega, by simp⟩
  · rintro s ⟨rfl, he⟩
    rw [he, List.drop_length, hn]
    rfl
theorem lens_eq (a b : Nat) : (if (decide ((a : Int) > (12 : Int))) = true then (some true) else (some (decide ((b : Int) > (12 : Int))))) = some (!(decide (a ≤ 12) && decide (b ≤ 12))) := by
  by_cases h : a ≤ 12
  · rw [decide_eq_true h, decide_eq_false (by omega : ¬ (a : Int) > 12)]
    by_cases h2 : b ≤ 12
    · rw [decide_eq_true h2, decide_eq_false (by omega : ¬ (b : Int) > 12)]; rfl
    · rw [decide_eq_false h2, decide_eq_true (by omega : (b : Int) > 12)]; rfl
  · rw [decide_eq_false h, decide_eq_true (by omega : (a : Int) > 12)]; rfl
/-- a string behind its length -/
def pieceV (s : List UInt8) : List UInt8 := varV (s.length : Int) ++ s
theorem pieceV_len (s : List UInt8) : (pieceV s).length ≤ 7 + s.length := by
  have := varV_len (s.length : Int)
  unfold pieceV
  rw [List.length_append]; omega
theorem flat_len {α : Type} (g : α → List UInt8) (m : Nat) : ∀ (l : List α), (∀ x ∈ l, (g x).length ≤ m) → (l.flatMap g).length ≤ m * l.length
  | [], _ => by simp
  | x :: l, h => by
    have h1 := h x (by simp)
    have h2 := flat_len g m l fun y hy => h y (by simp [hy])
    rw [List.flatMap_cons, List.length_append, List.length_cons, Nat.mul_succ]
    omega
theorem flat_take {α : Type} (g : α → List UInt8) (l : List α) (k : Nat) (h : k < l.length) : (l.take (k + 1)).flatMap g = (l.take k).flatMap g ++ g l[k] := by
  rw [List.take_add_one, List.getElem?_eq_getElem h, List.flatMap_append]
  simp
theorem flat_take_len {α : Type} (g : α → List UInt8) (m : Nat) (l : List α) (k : Nat) (h : ∀ x ∈ l, (g x).length ≤ m) : ((l.take k).flatMap g).length ≤ m * l.length := by
  have h1 := flat_len g m (l.take k) fun x hx => h x (List.mem_of_mem_take hx)
  have h2 : m * (l.take k).length ≤ m * l.length := Nat.mul_le_mul_left _ (by simp; omega)
  omega
theorem varN_ne (f n : Nat) : varN f n ≠ [] := by
  by_cases h : n < 128
  · rw [varN_lt h]; simp
  · cases f with
    | zero => simp [varN]
    | succ f => rw [varN_ge (by omega)]; simp
theorem varV_ne {n : Int} (h : 0 ≤ n ∧ n ≤ 562949953421311) : varV n ≠ [] := by
  unfold varV
  rw [decide_eq_true h]
  exact varN_ne 6 _
theorem readN_enc : ∀ (f n : Nat) (rest : List UInt8), n < 128 ^ (f + 1) → readN (f + 1) (varN f n ++ rest) = some (n, (varN f n).length)
  | 0, n, rest, h => by
    have hn : n < 128 := by simpa using h
    rw [varN_lt hn]
    show readN 1 (toU8 (n : Int) :: rest) = _
    rw [readN, toU8_toNat, Nat.mod_eq_of_lt (by omega), decide_eq_true hn]
    rfl
  | f + 1, n, rest, h => by
    by_cases hn : n < 128
    · rw [varN_lt hn]
      show readN (f + 2) (toU8 (n : Int) :: rest) = _
      rw [readN, toU8_toNat, Nat.mod_eq_of_lt (by omega), decide_eq_true hn]
      rfl
    · have h2 : n / 128 < 128 ^ (f + 1) := by
        rw [Nat.div_lt_iff_lt_mul (by decide)]; rw [Nat.pow_succ] at h; exact h
      rw [varN_ge (by omega), List.cons_append, readN, toU8_toNat, Nat.mod_eq_of_lt (by omega), decide_eq_false (by omega), readN_enc f (n / 128) rest h2]
      simp only [cond_false]
      rw [decide_eq_false (by omega)]
      simp only [cond_false, List.length_cons]
      congr 2
      omega
theorem readV_enc (n : Int) (h : 0 ≤ n ∧ n ≤ 562949953421311) (rest : List UInt8) : readN 7 (varV n ++ rest) = some (n.toNat, (varV n).length) := by
  unfold varV
  rw [decide_eq_true h]
  exact readN_enc 6 n.toNat rest (by show n.toNat < 562949953421312; omega)
theorem readN_range {s : List UInt8} {n k : Nat} (h : readN 7 s = some (n, k)) : n < 562949953421312 ∧ 1 ≤ k ∧ k ≤ s.length := by
  obtain ⟨h1, h2, h3, h4, _, _⟩ := readN_some 7 s n k h
  have hn := numV_lt (s.take k)
  rw [List.length_take, Nat.min_eq_left h3, ← h4] at hn
  have hp : 128 ^ k ≤ 128 ^ 7 := Nat.pow_le_pow_right (by decide) h2
  exact ⟨Nat.lt_of_lt_of_le hn hp, h1, h3⟩
/-- a number read on -/
def rdN (t : List UInt8) (a : Nat) (bad : Bool) : Int × Nat × Bool := bif bad then (0, a, true) else match readN 7 (t.drop a) with
  | none => (0, a, true)
  | some (x, k) => ((x : Int), a + k, false)
theorem rdN_range (t : List UInt8) (a : Nat) (bad : Bool) (h : a ≤ t.length) : (0 ≤ (rdN t a bad).1 ∧ (rdN t a bad).1 ≤ 562949953421311) ∧ (rdN t a bad).2.1 ≤ t.length ∧ ((rdN t a bad).2.2 = false → bad = false ∧ a < (rdN t a bad).2.1) := by
  unfold rdN
  cases bad with
  | true => exact ⟨⟨by simp, by simp⟩, h, fun e => by cases e⟩
  | false =>
    simp only [cond_false]
    cases hr : readN 7 (t.drop a) with
    | none => exact ⟨⟨by simp, by simp⟩, h, fun e => by cases e⟩
    | some p =>
      obtain ⟨x, k⟩ := p
      obtain ⟨h1, h2, h3⟩ := readN_range hr
      rw [List.length_drop] at h3
      refine ⟨⟨by simp, by simp only; omega⟩, by simp only; omega, fun _ => ?_⟩
      exact ⟨trivial, show a < a + k by omega⟩
/-- bytes read on -/
def rdB (t : List UInt8) (a : Nat) (bad : Bool) (n : Int) : List UInt8 × Nat × Bool := bif bad || decide (t.length < a + n.toNat) then ([], a, true) else ((t.drop a).take n.toNat, a + n.toNat, false)
theorem rdB_range (t : List UInt8) (a : Nat) (bad : Bool) (n : Int) (h : a ≤ t.length) : (rdB t a bad n).2.1 ≤ t.length ∧ a ≤ (rdB t a bad n).2.1 ∧ ((rdB t a bad n).2.2 = false → bad = false) := by
  unfold rdB
  cases bad with
  | true => exact ⟨h, Nat.le_refl _, fun e => by cases e⟩
  | false =>
    by_cases c : t.length < a + n.toNat
    · rw [decide_eq_true c]; exact ⟨h, Nat.le_refl _, fun e => by cases e⟩
    · rw [decide_eq_false c]; exact ⟨by simp only [Bool.or_self, cond_false]; omega, by simp, fun _ => rfl⟩
def rdS (t : List UInt8) (a : Nat) (bad : Bool) : List UInt8 × Nat × Bool := rdB t (rdN t a bad).2.1 (rdN t a bad).2.2 (rdN t a bad).1
theorem rdS_range (t : List UInt8) (a : Nat) (bad : Bool) (h : a ≤ t.length) : (rdS t a bad).2.1 ≤ t.length ∧ ((rdS t a bad).2.2 = false → bad = false ∧ a < (rdS t a bad).2.1) := by
  obtain ⟨h1, h2, h3⟩ := rdN_range t a bad h
  obtain ⟨h4, h5, h6⟩ := rdB_range t (rdN t a bad).2.1 (rdN t a bad).2.2 (rdN t a bad).1 h2
  unfold rdS
  refine ⟨h4, fun e => ?_⟩
  obtain ⟨h7, h8⟩ := h3 (h6 e)
  exact ⟨h7, by omega⟩
/-- items read on, as many as are said, up to one that is bad -/
def itemsI {α : Type} (g : Nat → α × Nat × Bool) : Nat → Nat → Bool → Int → List α → Nat × Bool × List α
  | 0, a, bad, _, out => (a, bad, out)
  | f + 1, a, bad, n, out => bif decide (n > 0) && !bad then itemsI g f (g a).2.1 (g a).2.2 (n - 1) (out ++ [(g a).1]) else (a, bad, out)
theorem items_loop {α ρ : Type} (t : List UInt8) (g : Nat → α × Nat × Bool) (body : List UInt8 × Int × Bool × Int × List α → Option (Ctl (List UInt8 × Int × Bool × Int × List α) (Ctl (List UInt8 × Int × Bool × List α) ρ)))
    (hg : ∀ a, a ≤ t.length → (g a).2.1 ≤ t.length ∧ ((g a).2.2 = false → a < (g a).2.1))
    (h1 : ∀ (a : Nat) (n : Int) (out : List α), a ≤ t.length → 0 < n → n ≤ 562949953421311 → out.length ≤ 4194304 → body (t, (a : Int), false, n, out) = some (.go (t, ((g a).2.1 : Int), (g a).2.2, n - 1, out ++ [(g a).1])))
    (h2 : ∀ (a : Nat) (bad : Bool) (n : Int) (out : List α), n ≤ 0 ∨ bad = true → body (t, (a : Int), bad, n, out) = some (.done (.go (t, (a : Int), bad, out)))) :
    ∀ (f a : Nat) (bad : Bool) (n : Int) (out : List α), a ≤ t.length → n ≤ 562949953421311 → (bad = true ∨ t.length - a + 1 ≤ f) → out.length + f ≤ 4194304 →
      loopO body (t, (a : Int), bad, n, out) = some (.go (t, ((itemsI g (f + 1) a bad n out).1 : Int), (itemsI g (f + 1) a bad n out).2.1, (itemsI g (f + 1) a bad n out).2.2)) := by
  intro f
  induction f with
  | zero =>
    intro a bad n out ha hn hf ho
    obtain rfl : bad = true := by rcases hf with h | h; exact h; omega
    rw [loopO_eq, h2 a true n out (.inr rfl)]
    simp [itemsI]
  | succ f ih =>
    intro a bad n out ha hn hf ho
    rw [loopO_eq]
    by_cases c : 0 < n ∧ bad = false
    · obtain ⟨c1, rfl⟩ := c
      obtain ⟨g1, g2⟩ := hg a ha
      rw [h1 a n out ha c1 hn (by omega)]
      simp only
      rw [itemsI, decide_eq_true (by omega : n > 0)]
      simp only [Bool.not_false, Bool.and_self, cond_true]
      refine ih _ _ _ _ g1 (by omega) ?_ (by simp; omega)
      cases hb : (g a).2.2 with
      | true => exact .inl rfl
      | false =>
        have := g2 hb
        rcases hf with h | h
        · cases h
        · right; omega
    · have c2 : n ≤ 0 ∨ bad = true := by
        cases bad with
        | true => exact .inr rfl
        | false => left; have : ¬ 0 < n := fun h => c ⟨h, rfl⟩; omega
      rw [h2 a bad n out c2, itemsI]
      have : (decide (n > 0) && !bad) = false := by
        rcases c2 with h | h
        · rw [decide_eq_false (by omega)]; rfl
        · rw [h]; simp
      rw [this]
      rfl
theorem itemsI_out {α : Type} (g : Nat → α × Nat × Bool) (t : List UInt8) (hg : ∀ a, a ≤ t.length → (g a).2.1 ≤ t.length ∧ ((g a).2.2 = false → a < (g a).2.1)) : ∀ (f a : Nat) (bad : Bool) (n : Int) (out : List α), a ≤ t.length → (itemsI g f a bad n out).1 ≤ t.length
  | 0, a, bad, n, out, h => h
  | f + 1, a, bad, n, out, h => by
    rw [itemsI]
    cases decide (n > 0) && !bad
    · exact h
    · exact itemsI_out g t hg f _ _ _ _ (hg a h).1
theorem drop_enc {t x rest : List UInt8} {a : Nat} (h : t.drop a = x ++ rest) : t.drop (a + x.length) = rest := by
  rw [← List.drop_drop, h, List.drop_left]
/-- .. of what was written so -/
theorem items_enc {α : Type} (g : Nat → α × Nat × Bool) (enc : α → List UInt8) (t : List UInt8) : ∀ (l : List α) (f a : Nat) (out : List α) (rest : List UInt8), (∀ x ∈ l, ∀ a rest, t.drop a = enc x ++ rest → g a = (x, a + (enc x).length, false)) →
    t.drop a = l.flatMap enc ++ rest → l.length ≤ f → itemsI g f a false (l.length : Int) out = (a + (l.flatMap enc).length, false, out ++ l)
  | [], f, a, out, rest, _, _, _ => by
    cases f with
    | zero => simp [itemsI]
    | succ f => simp [itemsI]
  | x :: l, f, a, out, rest, hg, hd, hf => by
    cases f with
    | zero => simp at hf
    | succ f =>
      have h1 : t.drop a = enc x ++ (l.flatMap enc ++ rest) := by rw [hd, List.flatMap_cons, List.append_assoc]
      rw [itemsI, hg x (by simp) a _ h1, decide_eq_true (by simp only [List.length_cons]; omega : ((x :: l).length : Int) > 0)]
      simp only [Bool.not_false, Bool.and_self, cond_true]
      rw [show (((x :: l).length : Nat) : Int) - 1 = ((l.length : Nat) : Int) by simp only [List.length_cons]; omega, items_enc g enc t l f (a + (enc x).length) (out ++ [x]) rest (fun y hy => hg y (by simp [hy])) (drop_enc h1) (by simpa using hf)]
      simp only [List.flatMap_cons, List.length_append, List.append_assoc, List.cons_append, List.nil_append, Nat.add_assoc]
theorem rdN_enc {t rest : List UInt8} {a : Nat} {n : Int} (h : t.drop a = varV n ++ rest) (hn : 0 ≤ n ∧ n ≤ 562949953421311) : rdN t a false = (n, a + (varV n).length, false) := by
  unfold rdN
  rw [h, readV_enc n hn rest]
  simp only [cond_false]
  rw [show ((n.toNat : Nat) : Int) = n by omega]
theorem rdS_enc {t rest x : List UInt8} {a : Nat} (h : t.drop a = pieceV x ++ rest) (hx : x.length ≤ 1048576) (ha : a ≤ t.length) : rdS t a false = (x, a + (pieceV x).length, false) := by
  have h1 : t.drop a = varV (x.length : Int) ++ (x ++ rest) := by rw [h]; unfold pieceV; rw [List.append_assoc]
  have h2 := drop_enc h1
  have hl := congrArg List.length h2
  rw [List.length_drop, List.length_append] at hl
  unfold rdS
  rw [rdN_enc h1 (by omega)]
  unfold rdB
  simp only [Bool.false_or, Int.toNat_natCast]
  by_cases hx0 : x.length = 0
  · have h0 : x = [] := List.eq_nil_of_length_eq_zero hx0
    have hl2 := congrArg List.length h1
    rw [List.length_drop, List.length_append] at hl2
    rw [decide_eq_false (by omega)]
    simp only [cond_false]
    subst h0
    simp [pieceV]
  · rw [decide_eq_false (by omega)]
    simp only [cond_false]
    rw [h2, List.take_left]
    simp only [pieceV, List.length_append, Nat.add_assoc]
theorem fixed4_len (n : Int) (h : 0 ≤ n ∧ n ≤ 4294967295) : (fixedV n 4).length = 4 := by
  unfold fixedV
  have h1 : n.toNat / 256 ^ (4 : Int).toNat = 0 := Nat.div_eq_of_lt (by show n.toNat < 256 ^ 4; omega)
  rw [decide_eq_true h.1, decide_eq_true h1]
  show (fixV n.toNat 4).length = 4
  exact fixV_len _ 4
/-- what the program reads -/
noncomputable def readD (t : List UInt8) : Nat × Bool × List Int := itemsI (fun a => rdN t a false) (t.length + 2) (rdN t 0 false).2.1 (rdN t 0 false).2.2 (rdN t 0 false).1 []
theorem l6V_range (s : List UInt8) : ∀ (n a : Nat), a ≤ s.length → ((l6V s n a).2 = -1 ∨ ∃ b : Nat, (l6V s n a).2 = (b : Int) ∧ b ≤ s.length ∧ (l6V s n a).1.length = n) ∧ ∀ x ∈ (l6V s n a).1, 0 ≤ x ∧ x ≤ 562949953421311
  | 0, a, h => ⟨.inr ⟨a, rfl, h, rfl⟩, fun x hx => by cases hx⟩
  | n + 1, a, h => by
    rw [l6V, decide_eq_false (by omega), cond_false]
    cases hr : readN 7 (s.drop a) with
    | none => exact ⟨.inl rfl, fun x hx => by cases hx⟩
    | some p =>
      obtain ⟨x, k⟩ := p
      obtain ⟨h1, h2, h3⟩ := readN_range hr
      rw [List.length_drop] at h3
      obtain ⟨q1, q2⟩ := l6V_range s n (a + k) (by omega)
      simp only
      refine ⟨?_, fun y hy => ?_⟩
      · rcases q1 with q | ⟨b, q3, q4, q5⟩
        · exact .inl q
        · exact .inr ⟨b, q3, q4, by rw [List.length_cons, q5]⟩
      · rcases List.mem_cons.1 hy with rfl | hy
        · omega
        · exact q2 y hy
theorem l6V_enc (s : List UInt8) : ∀ (l : List Int) (a : Nat) (rest : List UInt8), (∀ x ∈ l, 0 ≤ x ∧ x ≤ 1000000) → a ≤ s.length → s.drop a = l.flatMap varV ++ rest → l6V s l.length a = (l, ((a + (l.flatMap varV).length : Nat) : Int))
  | [], a, rest, _, _, _ => by simp [l6V]
  | x :: l, a, rest, hx, ha, h => by
    have h1 : s.drop a = varV x ++ (l.flatMap varV ++ rest) := by rw [h, List.flatMap_cons, List.append_assoc]
    have h2 := drop_enc h1
    have hx0 := hx x (by simp)
    have hl := congrArg List.length h1
    rw [List.length_drop, List.length_append] at hl
    have hb : a + (varV x).length ≤ s.length := by
      have := List.length_pos_iff.2 (varV_ne (n := x) (by omega))
      omega
    rw [List.length_cons, l6V, decide_eq_false (by omega), cond_false, h1, readV_enc x (by omega)]
    simp only
    rw [l6V_enc s l (a + (varV x).length) rest (fun y hy => hx y (by simp [hy])) hb h2]
    simp only [List.flatMap_cons, List.length_append, Nat.add_assoc]
    rw [show ((x.toNat : Nat) : Int) = x by omega]
/-- bytes behind their number -/
def takeB (s : List UInt8) (a : Nat) : List UInt8 × Int := match readN 7 (s.drop a) with
  | none => ([], -1)
  | some (x, k) => bif decide (x ≤ s.length - (a + k)) then ((s.drop (a + k)).take x, ((a + k + x : Nat) : Int)) else ([], -1)
theorem takeB_range (s : List UInt8) (a : Nat) (h : a ≤ s.length) : (takeB s a).2 = -1 ∨ ∃ b : Nat, (takeB s a).2 = (b : Int) ∧ b ≤ s.length := by
  unfold takeB
  cases hr : readN 7 (s.drop a) with
  | none => exact .inl rfl
  | some p =>
    obtain ⟨x, k⟩ := p
    obtain ⟨h1, h2, h3⟩ := readN_range hr
    rw [List.length_drop] at h3
    simp only
    by_cases c : x ≤ s.length - (a + k)
    · rw [decide_eq_true c]; exact .inr ⟨a + k + x, rfl, by omega⟩
    · rw [decide_eq_false c]; exact .inl rfl
theorem takeB_enc {s x rest : List UInt8} {a : Nat} (h : s.drop a = pieceV x ++ rest) (hx : x.length ≤ 1048576) (ha : a + (pieceV x).length ≤ s.length) : takeB s a = (x, ((a + (pieceV x).length : Nat) : Int)) := by
  have h1 : s.drop a = varV (x.length : Int) ++ (x ++ rest) := by rw [h]; unfold pieceV; rw [List.append_assoc]
  have h2 := drop_enc h1
  have hp : (pieceV x).length = (varV (x.length : Int)).length + x.length := by unfold pieceV; rw [List.length_append]
  unfold takeB
  rw [h1, readV_enc (x.length : Int) (by omega)]
  simp only [Int.toNat_natCast]
  rw [decide_eq_true (by omega)]
  simp only [cond_true]
  rw [h2, List.take_left, hp, Nat.add_assoc]
/-! draws -/
theorem iand255 (p : Int) : 0 ≤ iand .i64 p (255 : Int) ∧ iand .i64 p (255 : Int) ≤ 255 := by
  unfold iand
  have e : (BitVec.ofInt IntKind.i64.bits p &&& BitVec.ofInt IntKind.i64.bits (255 : Int)).toNat ≤ 255 := by
    show (BitVec.ofInt 64 p &&& BitVec.ofInt 64 ((255 : Nat) : Int)).toNat ≤ 255
    rw [BitVec.ofInt_natCast, BitVec.toNat_and, BitVec.toNat_ofNat]
    exact Nat.and_le_right
  generalize (BitVec.ofInt IntKind.i64.bits p &&& BitVec.ofInt IntKind.i64.bits (255 : Int)).toNat = z at e
  rw [wrap_ok (by omega) (by omega)]
  omega
theorem l1New_ok (code : List UInt8) (h : code.length ≤ 1048576) : ∃ q, spec_l1New code = some { b := code, i := 0, h := q } := by
  unfold spec_l1New
  obtain ⟨r, hr, q, rfl⟩ := loopO_total (ρ := Ctl Int L1Cur) (s0 := (IntKind.i64.wrap ((10101 : Int) + ((code.length : Nat) : Int)), (0 : Int))) (body := fun (S1 : Int × Int) => (if (decide (S1.2 < ((code.length : Nat) : Int))) = true then (some (decide (S1.2 < (4000 : Int))))
  else (some false)).bind (fun (T5 : Bool) =>
  if T5 = true then ((idx code S1.2).bind fun E9 =>
  some (.go (iand .i64 (IntKind.i64.wrap (IntKind.i64.wrap (IntKind.i64.wrap (S1.1 * (131 : Int)) + (IntKind.i64.wrap ((E9.toNat : Nat) : Int))) + (7 : Int))) (1073741823 : Int), IntKind.i64.wrap (S1.2 + (1 : Int)))))
  else (some (.done (.go S1.1))))) (fun k S => S.2 = (k : Int)) code.length (fun r => ∃ q, r = .go q) rfl (by
    rintro k ⟨p, i⟩ hk rfl
    simp only
    rw [decide_eq_true (by omega : (k : Int) < ((code.length : Nat) : Int))]
    by_cases c : (k : Int) < 4000
    · left
      rw [decide_eq_true c]
      simp only [if_true, Option.bind_some, idx_nat code k hk]
      exact ⟨_, rfl, by simp only; rw [wrap_ok (by omega) (by omega)]; omega⟩
    · right
      rw [decide_eq_false c]
      exact ⟨.go p, rfl, p, rfl⟩) (by
    rintro ⟨p, i⟩ rfl
    simp only
    rw [decide_eq_false (by omega : ¬ ((code.length : Nat) : Int) < ((code.length : Nat) : Int))]
    exact ⟨.go p, rfl, p, rfl⟩)
  rw [hr]
  exact ⟨q, rfl⟩
theorem l1Byte_ok (b : List UInt8) (i h : Int) (hi : 0 ≤ i ∧ i ≤ b.length) (hb : b.length ≤ 1048576) : ∃ x i' h', spec_l1Byte { b := b, i := i, h := h } = some (x, { b := b, i := i', h := h' }) ∧ (0 ≤ x ∧ x ≤ 255) ∧ (0 ≤ i' ∧ i' ≤ b.length) := by
  unfold spec_l1Byte
  simp only
  by_cases c : i < ((b.length : Nat) : Int)
  · rw [decide_eq_true c]
    simp only [if_true]
    rw [idx_some' hi.1 c]
    simp only [Option.bind_some, bindC_go]
    exact ⟨_, _, _, rfl, iand255 _, by rw [wrap_ok (by omega) (by omega)]; omega⟩
  · rw [decide_eq_false c]
    simp only [Bool.false_eq_true, if_false, bindC_go]
    exact ⟨_, _, _, rfl, iand255 _, hi⟩
theorem l1Below_ok (b : List UInt8) (i h n : Int) (hi : 0 ≤ i ∧ i ≤ b.length) (hb : b.length ≤ 1048576) : ∃ x i' h', spec_l1Below { b := b, i := i, h := h } n = some (x, { b := b, i := i', h := h' }) ∧ (0 ≤ x ∧ (0 < n → x < n) ∧ (n ≤ 0 → x = 0)) ∧ (0 ≤ i' ∧ i' ≤ b.length) := by
  unfold spec_l1Below
  by_cases c : n ≤ 0
  · rw [decide_eq_true c]
    simp only [if_true]
    exact ⟨_, _, _, rfl, ⟨Int.le_refl _, fun h => by omega, fun _ => rfl⟩, hi⟩
  · rw [decide_eq_false c]
    have hnz : nz n = some () := by unfold nz; rw [if_neg (by omega)]
    have hm : ∀ x : Int, 0 ≤ x → 0 ≤ Int.tmod x n ∧ Int.tmod x n < n := fun x hx => ⟨Int.tmod_nonneg _ hx, Int.tmod_lt_of_pos _ (by omega)⟩
    obtain ⟨x1, i1, h1, e1, g1, k1⟩ := l1Byte_ok b i h hi hb
    simp only [Bool.false_eq_true, if_false, e1, Option.bind_some, hnz]
    by_cases c2 : n ≤ 256
    · rw [decide_eq_true c2]
      simp only [if_true]
      have := hm x1 g1.1
      exact ⟨_, _, _, rfl, ⟨this.1, fun _ => this.2, fun h => by omega⟩, k1⟩
    · rw [decide_eq_false c2]
      simp only [Bool.false_eq_true, if_false]
      obtain ⟨x2, i2, h2, e2, g2, k2⟩ := l1Byte_ok b i1 h1 k1 hb
      simp only [e2, Option.bind_some]
      obtain ⟨x3, i3, h3, e3, g3, k3⟩ := l1Byte_ok b i2 h2 k2 hb
      simp only [e3, Option.bind_some]
      obtain ⟨x4, i4, h4, e4, g4, k4⟩ := l1Byte_ok b i3 h3 k3 hb
      simp only [e4, Option.bind_some]
      rw [wrap_ok (n := x1 * 16777216) (by omega) (by omega), wrap_ok (n := x2 * 65536) (by omega) (by omega), wrap_ok (n := x1 * 16777216 + x2 * 65536) (by omega) (by omega), wrap_ok (n := x3 * 256) (by omega) (by omega), wrap_ok (n := x1 * 16777216 + x2 * 65536 + x3 * 256) (by omega) (by omega), wrap_ok (by omega) (by omega)]
      have := hm (x1 * 16777216 + x2 * 65536 + x3 * 256 + x4) (by omega)
      exact ⟨_, _, _, rfl, ⟨this.1, fun _ => this.2, fun h => by omega⟩, k4⟩
theorem l1Once_ok (b : List UInt8) (i h n : Int) (hi : 0 ≤ i ∧ i ≤ b.length) (hb : b.length ≤ 1048576) : ∃ x i' h', spec_l1Once { b := b, i := i, h := h } n = some (x, { b := b, i := i', h := h' }) ∧ (0 ≤ i' ∧ i' ≤ b.length) := by
  unfold spec_l1Once
  obtain ⟨x, i1, h1, e, _, k⟩ := l1Below_ok b i h n hi hb
  simp only [e, Option.bind_some]
  exact ⟨_, _, _, rfl, k⟩
theorem l1PickInt_ok (b : List UInt8) (i h : Int) (l : List Int) (hl : l ≠ []) (hi : 0 ≤ i ∧ i ≤ b.length) (hb : b.length ≤ 1048576) : ∃ x i' h', spec_l1PickInt { b := b, i := i, h := h } l = some (x, { b := b, i := i', h := h' }) ∧ x ∈ l ∧ (0 ≤ i' ∧ i' ≤ b.length) := by
  unfold spec_l1PickInt
  have hp := List.length_pos_iff.2 hl
  obtain ⟨x, i1, h1, e, g, k⟩ := l1Below_ok b i h ((l.length : Nat) : Int) hi hb
  simp only [e, Option.bind_some]
  rw [idx_some' g.1 (g.2.1 (by omega))]
  simp only [Option.bind_some]
  exact ⟨_, _, _, rfl, List.getElem_mem _, k⟩
theorem big_eq (code : List UInt8) : laws_big code = some (decide (((code.length : Nat) : Int) > 1048576)) := rfl

theorem l1Text_ok (b : List UInt8) (i h most : Int) (hm : 0 ≤ most ∧ most ≤ 1000) (hi : 0 ≤ i ∧ i ≤ b.length) (hb : b.length ≤ 1048576) : ∃ s i' h', spec_l1Text { b := b, i := i, h := h } most = some (s, { b := b, i := i', h := h' }) ∧ s.length ≤ 1000 ∧ (0 ≤ i' ∧ i' ≤ b.length) := by
  unfold spec_l1Text
  obtain ⟨x1, i1, h1, e1, _, k1⟩ := l1Below_ok b i h 4 hi hb
  simp only [e1, Option.bind_some]
  rw [wrap_ok (n := most + 1) (by omega) (by omega)]
  obtain ⟨x2, i2, h2, e2, g2, k2⟩ := l1Below_ok b i1 h1 (most + 1) k1 hb
  simp only [e2, Option.bind_some]
  have hx2 := g2.2.1 (by omega)
  obtain ⟨r, hr, p, q, s, rfl, hq⟩ := loopO_total (ρ := Ctl (Int × Int × List UInt8) (List UInt8 × L1Cur)) (s0 := (i2, h2, x2, ([] : List UInt8))) (body := fun (S8 : Int × Int × Int × List UInt8) => if (decide (S8.2.2.1 > (0 : Int))) = true then ((spec_l1Byte ({ b := b, i := S8.1, h := S8.2.1 : L1Cur })).bind fun R13 =>
  bindC (if (decide (x1 = (1 : Int))) = true then (some (.go (Int.tmod R13.1 (2 : Int))))
  else (some (.go R13.1)))
  (fun (T16 : Int) => bindC (if (decide (x1 = (2 : Int))) = true then (some (.go (IntKind.i64.wrap ((97 : Int) + (Int.tmod T16 (4 : Int))))))
  else (some (.go T16)))
  (fun (T19 : Int) => (app 1 S8.2.2.2 ([toU8 T19])).bind fun E24 =>
  some (.go (R13.2.i, R13.2.h, IntKind.i64.wrap (S8.2.2.1 - (1 : Int)), E24)))))
  else (some (.done (.go (S8.1, S8.2.1, S8.2.2.2)))))
    (fun k S => (0 ≤ S.1 ∧ S.1 ≤ b.length) ∧ S.2.2.1 = x2 - (k : Int) ∧ S.2.2.2.length = k) x2.toNat (fun r => ∃ p q s, r = .go (p, q, s) ∧ (s.length ≤ 1000 ∧ 0 ≤ p ∧ p ≤ b.length)) ⟨k2, by simp, rfl⟩ (by
      rintro k ⟨p, q, m, s⟩ hk ⟨h3, h4, h5⟩
      simp only at h3 h4 h5
      subst h4
      left
      simp only
      rw [if_pos (by simp only [decide_eq_true_eq]; omega)]
      obtain ⟨x3, i3, h3', e3, _, k3⟩ := l1Byte_ok b p q h3 hb
      rw [e3]
      simp only [Option.bind_some]
      have key : ∃ t : Int, (bindC (if (decide (x1 = (1 : Int))) = true then (some (Ctl.go (Int.tmod x3 (2 : Int)))) else (some (Ctl.go x3)))
        (fun (T16 : Int) => bindC (if (decide (x1 = (2 : Int))) = true then (some (Ctl.go (IntKind.i64.wrap ((97 : Int) + (Int.tmod T16 (4 : Int)))))) else (some (Ctl.go T16)))
        (fun (T19 : Int) => (app 1 s ([toU8 T19])).bind fun E24 => some (Ctl.go (ρ := Ctl (Int × Int × List UInt8) (List UInt8 × L1Cur)) (i3, h3', IntKind.i64.wrap (x2 - (k : Int) - (1 : Int)), E24))))) = some (.go (i3, h3', IntKind.i64.wrap (x2 - (k : Int) - (1 : Int)), s ++ [toU8 t])) := by
        cases decide (x1 = 1) <;> cases decide (x1 = 2) <;> simp only [Bool.false_eq_true, if_false, if_true, bindC_go] <;> rw [app_ok (by simp; omega) (by simp; omega)] <;> exact ⟨_, rfl⟩
      obtain ⟨t, ht⟩ := key
      rw [ht]
      exact ⟨_, rfl, k3, by simp only; rw [wrap_ok (by omega) (by omega)]; omega, by simp; omega⟩) (by
      rintro ⟨p, q, m, s⟩ ⟨h3, h4, h5⟩
      simp only at h3 h4 h5
      subst h4
      simp only
      rw [if_neg (by simp only [decide_eq_true_eq]; omega)]
      exact ⟨_, rfl, p, q, s, rfl, by omega, h3⟩)
  rw [hr]
  exact ⟨s, p, q, rfl, hq.1, hq.2⟩
theorem xor_ne (p q : UInt8) (h : q ≠ 0) : p ^^^ q ≠ p := by
  intro e
  apply h
  have := congrArg (fun z => p ^^^ z) e
  simp only [← UInt8.xor_assoc, UInt8.xor_self, UInt8.zero_xor] at this
  exact this
def okS (l : List Int) : Bool := decide (1 ≤ l.length ∧ l.length ≤ 40) && l.all fun x => decide (0 ≤ x ∧ x ≤ 99)
theorem okS_iff {l : List Int} : okS l = true ↔ (1 ≤ l.length ∧ l.length ≤ 40) ∧ ∀ x ∈ l, 0 ≤ x ∧ x ≤ 99 := by
  unfold okS
  simp only [Bool.and_eq_true, decide_eq_true_eq, List.all_eq_true]
theorem setAll_cons (who : Int) (l : List Int) (i : Nat) (g : List Nat) : setAll who l (i :: g) = setAll who (l.set i who) g := rfl
theorem setAll_set (who v : Int) (i : Nat) : ∀ (g : List Nat) (l : List Int), i ∉ g → (setAll who l g).set i v = setAll who (l.set i v) g
  | [], _, _ => rfl
  | j :: g, l, h => by
    have hij : i ≠ j := fun e => h (by rw [e]; simp)
    rw [setAll_cons, setAll_cons, setAll_set who v i g _ (fun e => h (by simp [e])), List.set_comm _ _ (Ne.symm hij)]
theorem setAll_out (who : Int) (i : Nat) : ∀ (g : List Nat) (l : List Int), i ∉ g → (setAll who l g)[i]? = l[i]?
  | [], _, _ => rfl
  | j :: g, l, h => by
    have hij : j ≠ i := fun e => h (by rw [e]; simp)
    rw [setAll_cons, setAll_out who i g _ (fun e => h (by simp [e])), List.getElem?_set_ne hij]
theorem setAll_in (who : Int) (i : Nat) : ∀ (g : List Nat) (l : List Int), i ∈ g → i < l.length → (setAll who l g)[i]? = some who
  | j :: g, l, h, hi => by
    rw [setAll_cons]
    by_cases hg : i ∈ g
    · exact setAll_in who i g _ hg (by rw [List.length_set]; exact hi)
    · have hij : i = j := by
        rcases List.mem_cons.1 h with h | h
        · exact h
        · exact absurd h hg
      subst hij
      rw [setAll_out who i g _ hg, List.getElem?_set_self hi]
theorem give_back (who : Int) (hw : 1 ≤ who) : ∀ (g : List Nat) (l : List Int), g.Nodup → (∀ i ∈ g, l[i]? = some 0) → giveV who (g.map fun (i : Nat) => (i : Int)) (setAll who l g) = some l
  | [], l, _, _ => rfl
  | i :: g, l, hn, h0 => by
    obtain ⟨hi, hg⟩ := List.nodup_cons.1 hn
    have h1 := h0 i (by simp)
    obtain ⟨hlt, hv⟩ := List.getElem?_eq_some_iff.1 h1
    rw [List.map_cons, giveV_cons, setAll_cons]
    have hat : (setAll who (l.set i who) g)[i]? = some who := by rw [setAll_out who i g _ hi, List.getElem?_set_self hlt]
    rw [Int.toNat_natCast, if_pos ⟨by omega, by rw [setAll_length, List.length_set]; omega, hat, hw⟩, setAll_set who 0 i g _ hi, List.set_set]
    have hset : l.set i 0 = l := by
      apply List.ext_getElem?
      intro j
      by_cases e : i = j
      · subst e; rw [List.getElem?_set_self hlt, h1]
      · rw [List.getElem?_set_ne e]
    rw [hset]
    exact give_back who hw g l hg fun j hj => h0 j (by simp [hj])
theorem count_set (who : Int) (hw : 1 ≤ who) (l : List Int) (i : Nat) (h : l[i]? = some 0) : (l.set i who).countP (fun x => decide (x = who)) = l.countP (fun x => decide (x = who)) + 1 := by
  induction l generalizing i with
  | nil => simp at h
  | cons x l ih =>
    cases i with
    | zero =>
      simp only [List.getElem?_cons_zero, Option.some.injEq] at h
      subst h
      rw [List.set_cons_zero, List.countP_cons, List.countP_cons]
      have : ¬ (0 : Int) = who := by omega
      simp [this]
    | succ i =>
      rw [List.set_cons_succ, List.countP_cons, List.countP_cons, ih i (by simpa using h)]
      omega
theorem count_setAll (who : Int) (hw : 1 ≤ who) : ∀ (g : List Nat) (l : List Int), g.Nodup → (∀ i ∈ g, l[i]? = some 0) → (setAll who l g).countP (fun x => decide (x = who)) = l.countP (fun x => decide (x = who)) + g.length
  | [], l, _, _ => rfl
  | i :: g, l, hn, h0 => by
    obtain ⟨hi, hg⟩ := List.nodup_cons.1 hn
    have h1 := h0 i (by simp)
    rw [setAll_cons, count_setAll who hw g _ hg, count_set who hw l i h1, List.length_cons]
    · omega
    · intro j hj
      have hij : i ≠ j := fun e => hi (by rw [e]; exact hj)
      rw [List.getElem?_set_ne hij]
      exact h0 j (by simp [hj])
theorem freeIx_zero (l : List Int) (n : Int) : ∀ k, ∀ i ∈ freeIx l n k, l[i]? = some 0
  | 0, i, h => by simp [freeIx] at h
  | k + 1, i, h => by
    unfold freeIx at h
    split at h
    · rename_i hc
      rcases List.mem_append.1 h with h | h
      · exact freeIx_zero l n k i h
      · have : i = k := by simpa using h
        rw [this]; exact hc.1
    · exact freeIx_zero l n k i h
theorem freeIx_nodup (l : List Int) (n : Int) : ∀ k, (freeIx l n k).Nodup
  | 0 => List.nodup_nil
  | k + 1 => by
    unfold freeIx
    split
    · refine List.nodup_append.2 ⟨freeIx_nodup l n k, by simp, fun x hx y hy e => ?_⟩
      have h1 := freeIx_lt l n k x hx
      have : y = k := by simpa using hy
      omega
    · exact freeIx_nodup l n k
theorem freeIx_le (l : List Int) (n : Int) (hn : 0 ≤ n) : ∀ k, ((freeIx l n k).length : Int) ≤ n
  | 0 => by simpa [freeIx] using hn
  | k + 1 => by
    have := freeIx_le l n hn k
    unfold freeIx
    split
    · rename_i hc
      rw [List.length_append, List.length_singleton]
      omega
    · exact this
theorem okS_setAll {l : List Int} {who : Int} {g : List Nat} (h : okS l = true) (hw : 1 ≤ who ∧ who ≤ 99) : okS (setAll who l g) = true := by
  obtain ⟨h1, h2⟩ := okS_iff.1 h
  rw [okS_iff, setAll_length]
  refine ⟨h1, ?_⟩
  have key : ∀ (g : List Nat) (l : List Int), (∀ x ∈ l, 0 ≤ x ∧ x ≤ 99) → ∀ x ∈ setAll who l g, 0 ≤ x ∧ x ≤ 99 := by
    intro g
    induction g with
    | nil => intro l h x hx; exact h x hx
    | cons i g ih =>
      intro l h x hx
      rw [setAll_cons] at hx
      refine ih _ (fun y hy => ?_) x hx
      rcases List.mem_or_eq_of_mem_set hy with hy | hy
      · exact h y hy
      · omega
  exact key g l h2
theorem okS_wipe {l : List Int} {who : Int} (h : okS l = true) : okS (wipeV who l) = true := by
  obtain ⟨h1, h2⟩ := okS_iff.1 h
  rw [okS_iff]
  unfold wipeV
  rw [List.length_map]
  refine ⟨h1, fun x hx => ?_⟩
  obtain ⟨y, hy, rfl⟩ := List.mem_map.1 hx
  split
  · omega
  · exact h2 y hy
/-! draws of files and edits -/
theorem bindC_ite {τ R : Type} (c : Prop) [Decidable c] (x y : τ) (k : τ → Option R) : bindC (if c then some (.go x) else some (.go y)) k = k (if c then x else y) := by
  split <;> rfl
theorem loopO_G {τ ρ R : Type} {body : τ → Option (Ctl τ (Ctl ρ R))} {s0 : τ} {f : ρ → Option R} (G : Option R → Prop) (I : Nat → τ → Prop) (n : Nat) (Q : Ctl ρ R → Prop) (h0 : I 0 s0)
    (h : ∀ k s, k < n → I k s → (∃ s', body s = some (.go s') ∧ I (k + 1) s') ∨ (∃ r, body s = some (.done r) ∧ Q r)) (hn : ∀ s, I n s → ∃ r, body s = some (.done r) ∧ Q r)
    (hk : ∀ r, Q r → G (bindC (some r) f)) : G (bindC (loopO body s0) f) := by
  obtain ⟨r, hr, hq⟩ := loopO_total I n Q h0 h hn
  rw [hr]
  exact hk r hq
theorem l1Pick_ok (b : List UInt8) (i h : Int) (l : List (List UInt8)) (hl : l ≠ []) (hi : 0 ≤ i ∧ i ≤ b.length) (hb : b.length ≤ 1048576) : ∃ x i' h', spec_l1Pick { b := b, i := i, h := h } l = some (x, { b := b, i := i', h := h' }) ∧ x ∈ l ∧ (0 ≤ i' ∧ i' ≤ b.length) := by
  unfold spec_l1Pick
  have hp := List.length_pos_iff.2 hl
  obtain ⟨x, i1, h1, e, g, k⟩ := l1Below_ok b i h ((l.length : Nat) : Int) hi hb
  simp only [e, Option.bind_some]
  rw [idx_some' g.1 (g.2.1 (by omega))]
  simp only [Option.bind_some]
  exact ⟨_, _, _, rfl, List.getElem_mem _, k⟩
theorem l7Key_ok (b : List UInt8) (i h : Int) (hi : 0 ≤ i ∧ i ≤ b.length) (hb : b.length ≤ 1048576) : ∃ x i' h', spec_l7Key { b := b, i := i, h := h } = some (x, { b := b, i := i', h := h' }) ∧ x.length ≤ 3 ∧ (0 ≤ i' ∧ i' ≤ b.length) := by
  unfold spec_l7Key
  obtain ⟨x, i1, h1, e, g, k⟩ := l1Pick_ok b i h [[97], [98], [97, 98], [97, 98, 99], [98, 48], [99], [0], [122, 122]] (by simp) hi hb
  simp only [e, Option.bind_some]
  have : ∀ x ∈ ([[97], [98], [97, 98], [97, 98, 99], [98, 48], [99], [0], [122, 122]] : List (List UInt8)), x.length ≤ 3 := by decide
  exact ⟨_, _, _, rfl, this x g, k⟩
/-! reservations: what fits -/
theorem refuse_ok {p1 p2 : Prop} [Decidable p1] [Decidable p2] {b : Bool} (h : b = true ↔ (p1 ∧ p2)) : (if decide p1 = true then some (!decide (b = decide p2)) else some (!decide (b = false))) = some false := by
  by_cases c1 : p1 <;> by_cases c2 : p2 <;> cases b <;> simp_all
/-! rows of a log -/
theorem guard_spec (a b c : Prop) [Decidable a] [Decidable b] [Decidable c] (d : Nat) : ((if (!decide a) = true then (some true) else ((if decide b = true then (some (decide c)) else (some false)).bind fun R8 =>
    if (!R8) = true then (some true) else (some (decide ((d : Int) > (300 : Int)))))) : Option Bool) = some (!(decide a && (decide b && (decide c && decide (d ≤ 300))))) := by
  have : decide ((d : Int) > (300 : Int)) = !decide (d ≤ 300) := by
    by_cases h : d ≤ 300 <;> simp [h] <;> omega
  rw [this]
  by_cases ha : a <;> by_cases hb : b <;> by_cases hc : c <;> simp [ha, hb, hc]
theorem l6V_ge (s : List UInt8) : ∀ (n a b : Nat), (l6V s n a).2 = (b : Int) → a ≤ b
  | 0, a, b, h => by simp only [l6V] at h; omega
  | n + 1, a, b, h => by
    rw [l6V] at h
    cases hd : decide (s.length < a) with
    | true => rw [hd] at h; simp only [cond_true] at h; omega
    | false =>
      rw [hd, cond_false] at h
      cases hr : readN 7 (s.drop a) with
      | none => rw [hr] at h; simp only at h; omega
      | some p =>
        obtain ⟨x, k⟩ := p
        rw [hr] at h
        have := l6V_ge s n (a + k) b h
        omega
theorem takeB_ge (s : List UInt8) (a c : Nat) (h : (takeB s a).2 = (c : Int)) : a ≤ c := by
  unfold takeB at h
  cases hr : readN 7 (s.drop a) with
  | none => rw [hr] at h; simp only at h; omega
  | some p =>
    obtain ⟨x, k⟩ := p
    rw [hr] at h
    cases hd : decide (x ≤ s.length - (a + k)) with
    | true => simp only [hd, cond_true] at h; omega
    | false => simp only [hd, cond_false] at h; omega
theorem grow_loop (m : Int) (hm : m ≤ 1000) : ∃ w : List UInt8, ∀ {ρ : Type}, loopO (ρ := Ctl (List UInt8) ρ) (fun (S52 : List UInt8) => if (decide (((S52.length : Nat) : Int) < m)) = true then ((app 1 S52 ([(65 : UInt8)])).bind fun E59 =>
    some (.go E59))
    else (some (.done (.go S52)))) ([] : List UInt8) = some (.go w) := by
  refine ⟨List.replicate m.toNat 65, fun {ρ} => ?_⟩
  refine loopO_is (fun k S => S = List.replicate k 65) m.toNat _ rfl ?_ ?_
  · rintro k _ hk rfl
    left
    rw [if_pos (by simp only [decide_eq_true_eq, List.length_replicate]; omega), app_ok (by simp; omega) (by simp; omega)]
    exact ⟨_, rfl, by rw [List.replicate_succ']⟩
  · rintro _ rfl
    rw [if_neg (by simp only [decide_eq_true_eq, List.length_replicate]; omega)]
/-! streams -/
def streamOk (key : List UInt8) (counter : Int) (nonce : List UInt8) (n : Nat) : Bool := chaOk key counter nonce && decide (n = 0 ∨ counter + (((n - 1) / 64 : Nat) : Int) ≤ 4294967295)
theorem xor_back (x y : UInt8) : x ^^^ y ^^^ y = x := by rw [UInt8.xor_assoc, UInt8.xor_self, UInt8.xor_zero]
theorem chaOk_at {key : List UInt8} {counter : Int} {nonce : List UInt8} (h : chaOk key counter nonce = true) (k : Nat) (hk : counter + (k : Int) ≤ 4294967295) : chaOk key (counter + (k : Int)) nonce = true := by
  obtain ⟨h1, h2, h3, h4⟩ := chaOk_iff h
  unfold chaOk
  rw [decide_eq_true h1, decide_eq_true h2, decide_eq_true (by omega)]
  rfl
theorem take_next {α : Type} (z : List α) (m : Nat) (h : m < z.length) : z.take (m + 1) = z.take m ++ [z[m]] := by
  rw [List.take_add_one, List.getElem?_eq_getElem h]; rfl
/-! files sealed -/
theorem testBit_crcS {c : Nat} (h : c < 2 ^ 32) : (crcS c).testBit 31 = decide (c % 2 = 1) := by
  unfold crcS
  have h2 : c / 2 < 2 ^ 31 := by omega
  have e1 : (c / 2).testBit 31 = false := Nat.testBit_lt_two_pow h2
  cases hd : decide (c % 2 = 1) with
  | true => simp only [cond_true]; rw [Nat.testBit_xor, e1]; decide
  | false => simp only [cond_false]; exact e1
theorem xor_right_inj {a b p : Nat} (h : a ^^^ p = b ^^^ p) : a = b := by
  have := congrArg (· ^^^ p) h
  simpa [Nat.xor_assoc] using this
theorem crcS_inj {c d : Nat} (hc : c < 2 ^ 32) (hd : d < 2 ^ 32) (h : crcS c = crcS d) : c = d := by
  have hb : decide (c % 2 = 1) = decide (d % 2 = 1) := by rw [← testBit_crcS hc, ← testBit_crcS hd, h]
  unfold crcS at h
  cases h1 : decide (c % 2 = 1) with
  | true =>
    rw [← hb, h1] at h
    simp only [cond_true] at h
    have := xor_right_inj h
    have h2 := of_decide_eq_true h1
    rw [h1] at hb
    have h3 := of_decide_eq_true hb.symm
    omega
  | false =>
    rw [← hb, h1] at h
    simp only [cond_false] at h
    have h2 := of_decide_eq_false h1
    rw [h1] at hb
    have h3 := of_decide_eq_false hb.symm
    omega
theorem crcR_inj {c d : Nat} (hc : c < 2 ^ 32) (hd : d < 2 ^ 32) : ∀ k, crcR k c = crcR k d → c = d
  | 0, h => h
  | k + 1, h => crcR_inj hc hd k (crcS_inj (crcR_lt hc k) (crcR_lt hd k) h)
theorem crcN_agree {s t : List UInt8} : ∀ k, (∀ i, i < k → s[i]? = t[i]?) → crcN s k = crcN t k
  | 0, _ => rfl
  | k + 1, h => by
    show (match s[k]? with | some x => _ | none => _) = (match t[k]? with | some x => _ | none => _)
    rw [h k (by omega), crcN_agree k fun i hi => h i (by omega)]
theorem crcN_differ {s t : List UInt8} (hl : s.length = t.length) (j : Nat) (hj : j < s.length) (hne : s[j] ≠ t[j]'(by omega)) (ho : ∀ i, i ≠ j → s[i]? = t[i]?) : ∀ d, j + 1 + d ≤ s.length → crcN s (j + 1 + d) ≠ crcN t (j + 1 + d)
  | 0, h => by
    rw [Nat.add_zero, crcN_succ s j hj, crcN_succ t j (by omega), crcN_agree (s := s) (t := t) j fun i hi => ho i (by omega)]
    intro e
    have h1 := crcN_lt t j (by omega)
    have := crcR_inj (Nat.xor_lt_two_pow h1 (byte_lt _)) (Nat.xor_lt_two_pow h1 (byte_lt _)) 8 e
    rw [Nat.xor_comm, Nat.xor_comm (crcN t j)] at this
    exact hne (UInt8.toNat_inj.1 (xor_right_inj this))
  | d + 1, h => by
    have ih := crcN_differ hl j hj hne ho d (by omega)
    have hk : j + 1 + d < s.length := by omega
    have hk2 : j + 1 + d < t.length := by omega
    have hs := ho (j + 1 + d) (by omega)
    rw [List.getElem?_eq_getElem hk, List.getElem?_eq_getElem hk2, Option.some.injEq] at hs
    rw [← Nat.add_assoc, crcN_succ s _ hk, crcN_succ t _ hk2, hs]
    intro e
    have := crcR_inj (Nat.xor_lt_two_pow (crcN_lt s _ (by omega)) (byte_lt _)) (Nat.xor_lt_two_pow (crcN_lt t _ (by omega)) (byte_lt _)) 8 e
    exact ih (xor_right_inj this)
theorem crcV_differ {s t : List UInt8} (hl : s.length = t.length) (j : Nat) (hj : j < s.length) (hne : s[j] ≠ t[j]'(by omega)) (ho : ∀ i, i ≠ j → s[i]? = t[i]?) : crcV s ≠ crcV t := by
  have := crcN_differ hl j hj hne ho (s.length - (j + 1)) (by omega)
  rw [show j + 1 + (s.length - (j + 1)) = s.length by omega] at this
  unfold crcV
  rw [← hl]
  omega
theorem fixed4_inj {n m : Int} (hn : 0 ≤ n ∧ n ≤ 4294967295) (hm : 0 ≤ m ∧ m ≤ 4294967295) (h : fixedV n 4 = fixedV m 4) : n = m := by
  have key : ∀ x : Int, 0 ≤ x ∧ x ≤ 4294967295 → fixedV x 4 = [toU8 ((x.toNat / 16777216 : Nat) : Int), toU8 ((x.toNat / 65536 : Nat) : Int), toU8 ((x.toNat / 256 : Nat) : Int), toU8 ((x.toNat / 1 : Nat) : Int)] := by
    intro x hx
    unfold fixedV
    have e : (4 : Int).toNat = 4 := rfl
    rw [e, decide_eq_true (by omega : 0 ≤ x), decide_eq_true (by omega : x.toNat / 256 ^ 4 = 0), decide_eq_true (by omega)]
    rfl
  rw [key n hn, key m hm] at h
  simp only [List.cons.injEq, and_true] at h
  obtain ⟨h1, h2, h3, h4⟩ := h
  have g1 := congrArg UInt8.toNat h1
  have g2 := congrArg UInt8.toNat h2
  have g3 := congrArg UInt8.toNat h3
  have g4 := congrArg UInt8.toNat h4
  simp only [toU8_toNat] at g1 g2 g3 g4
  omega
theorem nonceV_len {k n : Int} (hk : 0 ≤ k ∧ k ≤ 255) (hn : 0 ≤ n ∧ n ≤ 562949953421311) : (nonceV k n).length = 12 := by
  unfold nonceV
  rw [decide_eq_true hk, decide_eq_true hn]
  simp only [Bool.and_self, cond_true, List.length_append, fixedV_len7 n hn]
  rfl
theorem guard2 (p : Prop) [Decidable p] (l : Nat) : (if decide p = true then (some true) else (some (decide (((l : Nat) : Int) > (2000 : Int))))) = some (decide p || decide (2000 < l)) := by
  have : decide (((l : Nat) : Int) > (2000 : Int)) = decide (2000 < l) := decide_eq_decide.2 (by omega)
  rw [this]
  cases decide p <;> rfl
theorem open_ite {α : Type} {p : Prop} [Decidable p] (a b : α) : (if (!decide p) = true then a else b) = bif decide p then b else a := by
  cases decide p <;> rfl
theorem xor_ne2 (x : UInt8) (m : Int) (hm : 1 ≤ m ∧ m ≤ 255) : x ^^^ toU8 m ≠ x := by
  intro e
  have h1 : toU8 m = 0 := by
    have : x ^^^ (x ^^^ toU8 m) = x ^^^ x := by rw [e]
    rwa [← UInt8.xor_assoc, UInt8.xor_self, UInt8.zero_xor] at this
  obtain ⟨k, rfl⟩ : ∃ k : Nat, m = (k : Int) := ⟨m.toNat, by omega⟩
  have h2 := congrArg UInt8.toNat h1
  rw [toU8_toNat] at h2
  have h3 : (0 : UInt8).toNat = 0 := rfl
  omega
/-! a known block -/
def stepN (l : List Nat) (x y z r : Nat) : List Nat := (l.set x ((l.getD x 0 + l.getD y 0) % 4294967296)).set z (rotN ((l.set x ((l.getD x 0 + l.getD y 0) % 4294967296)).getD z 0 ^^^ ((l.getD x 0 + l.getD y 0) % 4294967296)) r)
def quarterN (l : List Nat) (a b c d : Nat) : List Nat := stepN (stepN (stepN (stepN l a b d 16) c d b 12) a b d 8) c d b 7
def colN (l : List Nat) : Nat → List Nat
  | 0 => l
  | k + 1 => quarterN (colN l k) k (4 + k) (8 + k) (12 + k)
def diagN (l : List Nat) : Nat → List Nat
  | 0 => l
  | k + 1 => quarterN (diagN l k) k (4 + (k + 1) % 4) (8 + (k + 2) % 4) (12 + (k + 3) % 4)
def roundN (l : List Nat) : List Nat := diagN (colN l 4) 4
def wL (l : List Nat) : List Wrd := l.map fun (n : Nat) => Wrd.mk (n : Int)
def goodL (l : List Nat) : Prop := l.length = 16 ∧ ∀ n ∈ l, n < 4294967296
theorem wL_good {l : List Nat} (h : goodL l) : goodW (wL l) := by
  refine ⟨by unfold wL; rw [List.length_map]; exact h.1, fun x hx => ?_⟩
  obtain ⟨n, hn, rfl⟩ := List.mem_map.1 hx
  have := h.2 n hn
  show (0 : Int) ≤ (n : Int) ∧ (n : Int) < 4294967296
  omega
theorem wL_set (l : List Nat) (i n : Nat) : (wL l).set i (Wrd.mk (n : Int)) = wL (l.set i n) := by unfold wL; rw [List.map_set]
theorem wL_at (l : List Nat) (i : Nat) (h : i < l.length) : idx (wL l) (i : Int) = some (Wrd.mk ((l.getD i 0 : Nat) : Int)) := by
  rw [idx_nat _ i (by unfold wL; rw [List.length_map]; exact h)]
  unfold wL
  rw [List.getElem_map, List.getD_eq_getElem?_getD, List.getElem?_eq_getElem h]
  rfl
theorem getD_lt {l : List Nat} (h : ∀ n ∈ l, n < 4294967296) (i : Nat) : l.getD i 0 < 4294967296 := by
  rw [List.getD_eq_getElem?_getD]
  rcases Nat.lt_or_ge i l.length with c | c
  · rw [List.getElem?_eq_getElem c]; exact h _ (List.getElem_mem c)
  · rw [List.getElem?_eq_none c]; decide
theorem setN_lt {l : List Nat} (h : ∀ n ∈ l, n < 4294967296) (i m : Nat) (hm : m < 4294967296) : ∀ n ∈ l.set i m, n < 4294967296 := by
  intro n hn
  rcases List.mem_or_eq_of_mem_set hn with c | c
  · exact h n c
  · rw [c]; exact hm
def outN (w s : List Nat) : Nat → List UInt8
  | 0 => []
  | k + 1 => outN w s k ++ bytes4 ((w.getD k 0 + s.getD k 0) % 4294967296)
theorem outN_eq (w s : List Nat) (hw : w.length = 16) (hs : s.length = 16) : ∀ k, k ≤ 16 → outW (wL w) (wL s) k = outN w s k
  | 0, _ => rfl
  | k + 1, hk => by
    have l1 : k < (wL w).length := by unfold wL; rw [List.length_map]; omega
    have l2 : k < (wL s).length := by unfold wL; rw [List.length_map]; omega
    have a1 : ∀ (l : List Nat) (h : k < l.length) (h2 : k < (wL l).length), (wL l)[k].v = ((l.getD k 0 : Nat) : Int) := by
      intro l h h2
      have := wL_at l k h
      rw [idx_nat _ k h2, Option.some.injEq] at this
      rw [this]
    rw [outW_succ _ _ k l1 l2, outN_eq w s hw hs k (by omega), a1 w (by omega) l1, a1 s (by omega) l2]
    have : (((w.getD k 0 : Nat) : Int) + ((s.getD k 0 : Nat) : Int)).toNat = w.getD k 0 + s.getD k 0 := by omega
    rw [this]
    rfl
def keyK : List UInt8 := [0, 1, 2, 3, 4, 5, 6, 7, 8, 9, 10, 11, 12, 13, 14, 15, 16, 17, 18, 19, 20, 21, 22, 23, 24, 25, 26, 27, 28, 29, 30, 31]
def nonceK : List UInt8 := [0, 0, 0, 9, 0, 0, 0, 74, 0, 0, 0, 0]
def LK0 : List Nat := [1634760805, 857760878, 2036477234, 1797285236, 50462976, 117835012, 185207048, 252579084, 319951120, 387323156, 454695192, 522067228, 1, 150994944, 1241513984, 0]
def LK1 : List Nat := [3444762903, 2242577332, 3007673237, 4184729565, 3300379938, 1546524794, 3378426977, 829194266, 2079840064, 2128467524, 4053908981, 1980909258, 1796036771, 1738032922, 3610767719, 4050880653]
def LK2 : List Nat := [3474617732, 76097516, 1409621978, 3259301672, 2417831744, 2037692444, 932040628, 3444047118, 766489110, 667458774, 3443301024, 2046593479, 279900557, 371296101, 1761044229, 81194530]
def LK3 : List Nat := [60899378, 1722898727, 2641062722, 3092005129, 2803120864, 2694525917, 2782572424, 802757235, 3373034264, 1512055827, 3255697846, 1926065012, 3124090743, 3009475007, 2172137819, 751901466]
def LK4 : List Nat := [2586654089, 186907726, 1085225835, 3471475012, 169607110, 1582928887, 2567226087, 221464344, 3832308564, 3377476137, 83817898, 4170399602, 646435958, 1424380465, 898957253, 725332682]
def LK5 : List Nat := [3308460229, 3392298390, 2122125771, 872735434, 651677555, 1619579769, 3237013949, 3809529273, 2922162395, 1123449970, 1902549706, 2539394845, 2657010216, 2105911795, 538773334, 1677355347]
def LK6 : List Nat := [77796122, 1712808713, 68532913, 1639481506, 919373511, 3213509733, 4152219424, 4228635792, 131152586, 3943426479, 1633260689, 2441417436, 867592301, 2036123249, 3221526898, 2695371742]
def LK7 : List Nat := [2607871263, 2124983313, 568675753, 3392748335, 2477819526, 1783386286, 421603930, 2600675672, 3627619934, 1275519626, 3556632990, 648855869, 2785670485, 740582729, 2501187667, 746879501]
def LK8 : List Nat := [3395061213, 2477062414, 3656441688, 652051165, 2552587256, 1898621439, 664429032, 2534372029, 472224538, 1367390992, 2006722535, 1409777160, 2847363579, 942619874, 2377217405, 3426224139]
def LK9 : List Nat := [3065544166, 2583781704, 2475005973, 1226172108, 3694379298, 2564919203, 1610344700, 4145367947, 683801779, 3300102045, 2212689367, 2099558795, 554142498, 2979260323, 3002373001, 1826512934]
def LK10 : List Nat := [2205644971, 3795375971, 2793071134, 1498463023, 3304247495, 4234328879, 2409634044, 1063176119, 861041090, 4069820915, 3938298108, 2196008637, 3516666548, 2957907678, 2659438795, 1312575650]
theorem LK0_good : goodL LK0 := ⟨rfl, by decide⟩
theorem LK_step0 : roundN LK0 = LK1 := by decide +kernel
theorem LK_step1 : roundN LK1 = LK2 := by decide +kernel
theorem LK_step2 : roundN LK2 = LK3 := by decide +kernel
theorem LK_step3 : roundN LK3 = LK4 := by decide +kernel
theorem LK_step4 : roundN LK4 = LK5 := by decide +kernel
theorem LK_step5 : roundN LK5 = LK6 := by decide +kernel
theorem LK_step6 : roundN LK6 = LK7 := by decide +kernel
theorem LK_step7 : roundN LK7 = LK8 := by decide +kernel
theorem LK_step8 : roundN LK8 = LK9 := by decide +kernel
theorem LK_step9 : roundN LK9 = LK10 := by decide +kernel
def outK : List UInt8 := [16, 241, 231, 228, 209, 59, 89, 21, 80, 15, 221, 31, 163, 32, 113, 196, 199, 209, 244, 199, 51, 192, 104, 3, 4, 34, 170, 154, 195, 212, 108, 78, 210, 130, 100, 70, 7, 159, 170, 9, 20, 194, 215, 5, 217, 139, 2, 162, 181, 18, 156, 209, 222, 22, 78, 185, 203, 208, 131, 232, 162, 80, 60, 78]
theorem outK_eq : outN LK10 LK0 16 = outK := by decide +kernel
def digitV (k : Nat) : UInt8 := ([48, 49, 50, 51, 52, 53, 54, 55, 56, 57, 97, 98, 99, 100, 101, 102] : List UInt8).getD k 0
def hexB (x : UInt8) : List UInt8 := [digitV (x.toNat / 16), digitV (x.toNat % 16)]
theorem key_loop {ρ : Type} : loopO (ρ := Ctl (List UInt8) ρ) (fun (S36 : Int × List UInt8) => if (decide (S36.1 < (32 : Int))) = true then ((app 1 S36.2 ([toU8 S36.1])).bind fun E43 =>
    some (.go (IntKind.i64.wrap (S36.1 + (1 : Int)), E43)))
    else (some (.done (.go S36.2)))) ((0 : Int), ([] : List UInt8)) = some (.go keyK) := by
  rw [show keyK = (List.range 32).map fun (k : Nat) => toU8 (k : Int) from by decide +kernel]
  refine loopO_is (fun k S => S = ((k : Int), (List.range k).map fun (k : Nat) => toU8 (k : Int))) 32 _ rfl ?_ ?_
  · rintro k _ hk rfl
    left
    simp only
    rw [if_pos (by simp only [decide_eq_true_eq]; omega), app_ok (by simp; omega) (by simp; omega), wrap_ok (by omega) (by omega)]
    exact ⟨_, rfl, by rw [List.range_succ, List.map_append]; rfl⟩
  · rintro _ rfl
    rfl
/-! all that an iterator meets -/
theorem IterOk_true {x : Iter} (h : spec_MapOk x.List = some true) (hr : -1 ≤ x.At ∧ x.At ≤ (x.List.length : Int)) : impl_IterOk x = some true := by
  unfold impl_IterOk
  rw [MapOk_spec, h, inRange_eq, decide_eq_true hr]
  rfl
theorem IterNext_form (x : Iter) (h : x.List.length ≤ 1048576) (hm : spec_MapOk x.List = some true) (a : Nat) (ha : x.At + 1 = (a : Int)) (hal : a ≤ x.List.length + 1) :
    ∃ j : Nat, impl_IterNext x = some (restV x (j : Int)) ∧ (a ≤ j ∨ j = x.List.length) ∧ j ≤ x.List.length ∧ (∀ i, i < x.List.length → a ≤ i → i < j → goodV x [] i = false) ∧ (j < x.List.length → a ≤ j ∧ goodV x [] j = true) := by
  obtain ⟨j, k1, k2, k3, k4⟩ := up_stop x [] a
  refine ⟨j, ?_, k1, k2, k3, k4⟩
  unfold impl_IterNext
  rw [IterOk_true hm (by omega)]
  simp only [Option.bind_some, Bool.not_true, Bool.false_eq_true, if_false]
  rw [wrap_ok (n := x.At + 1) (by omega) (by omega), ha]
  rw [loopO_count (fun k => ((a + k : Nat) : Int)) (j - a) (r := Ctl.go ((a + (j - a) : Nat) : Int)) ?h0]
  case h0 => rfl
  · simp only [bindC_go]
    have hm : goMin ((a + (j - a) : Nat) : Int) (x.List.length : Int) = (j : Int) := by unfold goMin; split <;> omega
    rw [hm, moveTo_eq x j h (by omega) (by omega)]
    rfl
  · intro k hk
    have hik : a + k < x.List.length := by omega
    rw [isWithin_eq x (a + k) hik, k3 (a + k) hik (by omega) (by omega), if_pos (by simp; omega), wrap_ok (by omega) (by omega)]
    simp
    omega
  · by_cases hjn : j < x.List.length
    · obtain ⟨haj, hp⟩ := k4 hjn
      rw [show a + (j - a) = j by omega, isWithin_eq x j hjn, hp]
      simp
    · rw [if_neg (by simp; omega)]
      rfl
theorem IterPrev_form (x : Iter) (h : x.List.length ≤ 1048576) (hm : spec_MapOk x.List = some true) (n : Nat) (hn : x.At = (n : Int) ∨ (x.At = -1 ∧ n = 0)) (hnl : n ≤ x.List.length) :
    ∃ j : Nat, impl_IterPrev x = some (restV x ((j : Int) - 1)) ∧ j ≤ n ∧ (∀ i, j ≤ i → i < n → goodV x [] i = false) ∧ (0 < j → goodV x [] (j - 1) = true) := by
  obtain ⟨j, k1, k2, k3⟩ := down_stop (goodV x []) n
  refine ⟨j, ?_, k1, k2, k3⟩
  unfold impl_IterPrev
  rw [IterOk_true hm (by omega)]
  simp only [Option.bind_some, Bool.not_true, Bool.false_eq_true, if_false]
  rw [wrap_ok (n := x.At - 1) (by omega) (by omega)]
  rcases hn with hn | ⟨hn, rfl⟩
  · rw [hn, loopO_count (fun k => (n : Int) - 1 - (k : Int)) (n - j) (r := Ctl.go ((j : Int) - 1)) ?h0]
    case h0 => simp
    · simp only [bindC_go]
      have hm : goMax ((j : Int) - 1) (-1) = (j : Int) - 1 := by unfold goMax; split <;> omega
      rw [hm, moveTo_eq x _ h (by omega) (by omega)]
      rfl
    · intro k hk
      have hi : (n : Int) - 1 - (k : Int) = ((n - 1 - k : Nat) : Int) := by omega
      have hik : n - 1 - k < x.List.length := by omega
      have hp := k2 (n - 1 - k) (by omega) (by omega)
      rw [hi, isWithin_eq x _ hik, hp, if_pos (by simp), wrap_ok (by omega) (by omega)]
      simp
      omega
    · by_cases hj : 0 < j
      · have hi : (n : Int) - 1 - ((n - j : Nat) : Int) = ((j - 1 : Nat) : Int) := by omega
        have hik : j - 1 < x.List.length := by omega
        rw [hi, isWithin_eq x _ hik, k3 hj, if_pos (by simp)]
        simp
        omega
      · have hi : (n : Int) - 1 - ((n - j : Nat) : Int) = (j : Int) - 1 := by omega
        rw [hi, if_neg (by simp; omega)]
        rfl
  · have hj : j = 0 := by omega
    subst hj
    rw [hn, loopO_eq]
    have e : impl_moveTo x (goMax (-1 - 1) (-1)) = some (restV x (-1)) := moveTo_eq x (-1) h (by omega) (by omega)
    show ((impl_moveTo x (goMax (-1 - 1) (-1))).bind _) = _
    rw [e]
    rfl
theorem IterSeek_prop (x : Iter) (key : List UInt8) (h : x.List.length ≤ 1048576) : ∃ r, spec_IterSeek x key = some r ∧ impl_IterSeek x key = some r ∧ (r.2.2 = true → sLt r.2.1.Key key = false) := by
  obtain ⟨r, h1, h2, _⟩ := IterSeek_both x key h
  refine ⟨r, h1, h2, ?_⟩
  unfold spec_IterSeek at h1
  obtain ⟨b, hb1, _, _⟩ := IterOk_both x h
  rw [hb1] at h1
  cases b with
  | false =>
    simp only [Option.bind_some, Bool.not_false, if_true, Option.some.injEq] at h1
    rw [← h1]
    intro h; cases h
  | true =>
    simp only [Option.bind_some, Bool.not_true, Bool.false_eq_true, if_false] at h1
    obtain ⟨j, k1, k2, k3, k4⟩ := up_stop x key 0
    have hgo := l14Go_up' x 0 key h (by omega) j k1 k2 k3 k4
    rw [Int.natCast_zero] at hgo
    rw [hgo] at h1
    simp only [Option.bind_some, Option.some.injEq] at h1
    rw [← h1]
    unfold restV
    by_cases hj : j < x.List.length
    · rw [idx_nat x.List j hj]
      intro _
      have hg := (k4 hj).2
      rw [goodV_at x key j hj, Bool.and_eq_true, Bool.not_eq_true'] at hg
      exact hg.2
    · have : idx x.List (j : Int) = none := by
        unfold idx
        rw [if_pos (by omega), List.getElem?_eq_none (by simp; omega)]
      rw [this]
      intro h; cases h
/-- within the bounds -/
def inV (f t : List UInt8) (e : KV) : Bool := !sLt e.Key f && (decide (t = []) || sLt e.Key t)
theorem good_in (x : Iter) (i : Nat) (h : i < x.List.length) : goodV x [] i = inV x.From x.To x.List[i] := by
  rw [goodV_at x [] i h, sLt_nil]
  simp [inV]
theorem filter_span (p : KV → Bool) (l : List KV) : ∀ (d a : Nat), a + d ≤ l.length → (∀ i (hi : i < l.length), a ≤ i → i < a + d → p l[i] = false) → (l.take (a + d)).filter p = (l.take a).filter p
  | 0, a, _, _ => rfl
  | d + 1, a, h, hb => by
    rw [← Nat.add_assoc, List.take_add_one, List.getElem?_eq_getElem (by omega), Option.toList_some, List.filter_append, filter_span p l d a (by omega) (fun i hi h1 h2 => hb i hi h1 (by omega))]
    have := hb (a + d) (by omega) (by omega) (by omega)
    simp [this]
theorem filter_drop_span (p : KV → Bool) (l : List KV) : ∀ (d j : Nat), j + d ≤ l.length → (∀ i (hi : i < l.length), j ≤ i → i < j + d → p l[i] = false) → (l.drop j).filter p = (l.drop (j + d)).filter p
  | 0, j, _, _ => rfl
  | d + 1, j, h, hb => by
    have hj : j < l.length := by omega
    rw [List.drop_eq_getElem_cons hj, List.filter_cons, if_neg (by rw [hb j hj (by omega) (by omega)]; simp), filter_drop_span p l d (j + 1) (by omega) (fun i hi h1 h2 => hb i hi (by omega) (by omega))]
    congr 2
    omega
theorem forth_loop {ρ : Type} (l : List KV) (f t : List UInt8) (hl : l.length ≤ 1000000) (hm : spec_MapOk l = some true) :
    loopO (ρ := Ctl (List UInt8 × List UInt8 × Int × List KV × List KV) ρ) (fun (S18 : List UInt8 × List UInt8 × Int × Int × List KV × List KV) => if (decide (S18.2.2.2.1 ≤ ((l.length : Nat) : Int))) = true then ((impl_IterNext ({ List := S18.2.2.2.2.1, From := S18.1, To := S18.2.1, At := S18.2.2.1 : Iter })).bind fun R23 =>
      bindC (if R23.2.2 = true then ((app 32 S18.2.2.2.2.2 ([R23.2.1])).bind fun E33 =>
      some (.go E33))
      else (some (.go S18.2.2.2.2.2)))
      (fun (T28 : List KV) => some (.go (R23.1.From, R23.1.To, R23.1.At, IntKind.i64.wrap (S18.2.2.2.1 + (1 : Int)), R23.1.List, T28))))
      else (some (.done (.go (S18.1, S18.2.1, S18.2.2.1, S18.2.2.2.2.1, S18.2.2.2.2.2)))))
      (f, t, (-1 : Int), (0 : Int), l, ([] : List KV)) = some (.go (f, t, (l.length : Int), l, l.filter (inV f t))) := by
  refine loopO_is (fun k S => ∃ a : Nat, S = (f, t, (a : Int) - 1, (k : Int), l, (l.take a).filter (inV f t)) ∧ a ≤ l.length + 1 ∧ (k ≤ a ∨ a = l.length + 1)) (l.length + 1) _ ⟨0, rfl, by omega, .inl (Nat.le_refl _)⟩ ?_ ?_
  · rintro k _ hk ⟨a, rfl, ha, hka⟩
    left
    simp only
    rw [if_pos (by simp only [decide_eq_true_eq]; omega), wrap_ok (n := (k : Int) + 1) (by omega) (by omega)]
    obtain ⟨j, e, k1, k2, k3, k4⟩ := IterNext_form { List := l, From := f, To := t, At := (a : Int) - 1 } (by simp only; omega) hm a (by simp only; omega) ha
    simp only at k1 k2 k3 k4
    rw [e]
    simp only [Option.bind_some]
    unfold restV
    have hflen : ((l.take a).filter (inV f t)).length ≤ l.length := Nat.le_trans (List.length_filter_le _ _) (List.length_take_le' _ _)
    by_cases hj : j < l.length
    · obtain ⟨k5, k6⟩ := k4 hj
      rw [good_in { List := l, From := f, To := t, At := (a : Int) - 1 } j hj] at k6
      simp only at k6
      rw [idx_nat l j hj]
      simp only [if_true]
      rw [app_ok (by simp only [List.length_singleton]; omega) (by simp only [List.length_singleton]; omega)]
      refine ⟨_, rfl, j + 1, ?_, by omega, by omega⟩
      have hsp := filter_span (inV f t) l (j - a) a (by omega) (fun i hi h1 h2 => by
        have := k3 i hi h1 (by omega)
        rwa [good_in { List := l, From := f, To := t, At := (a : Int) - 1 } i hi] at this)
      rw [show a + (j - a) = j by omega] at hsp
      rw [List.take_add_one, List.getElem?_eq_getElem hj, Option.toList_some, List.filter_append, hsp]
      simp [k6]
    · have hjl : j = l.length := by omega
      have hnone : idx l (j : Int) = none := by
        unfold idx
        rw [if_pos (by omega), List.getElem?_eq_none (by simp; omega)]
      rw [hnone]
      simp only [Bool.false_eq_true, if_false, bindC_go]
      refine ⟨_, rfl, l.length + 1, ?_, Nat.le_refl _, .inr rfl⟩
      have hcase : (l.take (l.length + 1)).filter (inV f t) = (l.take a).filter (inV f t) := by
        rw [List.take_of_length_le (by omega)]
        by_cases c : a ≤ l.length
        · have hsp := filter_span (inV f t) l (l.length - a) a (by omega) (fun i hi h1 h2 => by
            have := k3 i hi h1 (by omega)
            rwa [good_in { List := l, From := f, To := t, At := (a : Int) - 1 } i hi] at this)
          rw [show a + (l.length - a) = l.length by omega, List.take_length] at hsp
          exact hsp
        · rw [List.take_of_length_le (by omega)]
      rw [hcase, hjl]
      simp
  · rintro _ ⟨a, rfl, ha, hka⟩
    simp only
    have hal : a = l.length + 1 := by omega
    subst hal
    rw [if_neg (by simp only [decide_eq_true_eq]; omega), List.take_of_length_le (by omega)]
    simp
theorem back_loop {ρ : Type} (l : List KV) (f t : List UInt8) (hl : l.length ≤ 1000000) (hm : spec_MapOk l = some true) :
    loopO (ρ := Ctl (List KV) ρ) (fun (S36 : List UInt8 × List UInt8 × Int × Int × List KV × List KV) => if (decide (S36.2.2.2.1 ≤ ((l.length : Nat) : Int))) = true then ((impl_IterPrev ({ List := S36.2.2.2.2.1, From := S36.1, To := S36.2.1, At := S36.2.2.1 : Iter })).bind fun R41 =>
      bindC (if R41.2.2 = true then ((app 32 S36.2.2.2.2.2 ([R41.2.1])).bind fun E51 =>
      some (.go E51))
      else (some (.go S36.2.2.2.2.2)))
      (fun (T46 : List KV) => some (.go (R41.1.From, R41.1.To, R41.1.At, IntKind.i64.wrap (S36.2.2.2.1 + (1 : Int)), R41.1.List, T46))))
      else (some (.done (.go S36.2.2.2.2.2))))
      (f, t, (l.length : Int), (0 : Int), l, ([] : List KV)) = some (.go (l.filter (inV f t)).reverse) := by
  refine loopO_is (fun k S => ∃ (b : Nat) (at_ : Int), S = (f, t, at_, (k : Int), l, ((l.drop b).filter (inV f t)).reverse) ∧ (at_ = (b : Int) ∨ (at_ = -1 ∧ b = 0)) ∧ (b + k ≤ l.length ∨ b = 0)) (l.length + 1) _ ⟨l.length, (l.length : Int), by simp, .inl rfl, .inl (Nat.le_refl _)⟩ ?_ ?_
  · rintro k _ hk ⟨b, at_, rfl, hat, hbk⟩
    left
    simp only
    rw [if_pos (by simp only [decide_eq_true_eq]; omega), wrap_ok (n := (k : Int) + 1) (by omega) (by omega)]
    obtain ⟨j, e, k1, k2, k3⟩ := IterPrev_form { List := l, From := f, To := t, At := at_ } (by simp only; omega) hm b hat (by simp only; omega)
    rw [e]
    simp only [Option.bind_some]
    unfold restV
    have hblen : b ≤ l.length := by omega
    have hflen : ((l.drop b).filter (inV f t)).length ≤ l.length := Nat.le_trans (List.length_filter_le _ _) (by rw [List.length_drop]; omega)
    have hsp := filter_drop_span (inV f t) l (b - j) j (by omega) (fun i hi h1 h2 => by
      have := k2 i h1 (by omega)
      rwa [good_in { List := l, From := f, To := t, At := at_ } i hi] at this)
    rw [show j + (b - j) = b by omega] at hsp
    by_cases hj : 0 < j
    · have hjl : j - 1 < l.length := by omega
      have k4 := k3 hj
      rw [good_in { List := l, From := f, To := t, At := at_ } (j - 1) hjl] at k4
      simp only at k4
      rw [show (j : Int) - 1 = ((j - 1 : Nat) : Int) by omega, idx_nat l (j - 1) hjl]
      simp only [if_true]
      rw [app_ok (by simp only [List.length_singleton, List.length_reverse]; omega) (by simp only [List.length_singleton, List.length_reverse]; omega)]
      refine ⟨_, rfl, j - 1, ((j - 1 : Nat) : Int), ?_, .inl rfl, by omega⟩
      rw [List.drop_eq_getElem_cons hjl, List.filter_cons, if_pos k4, List.reverse_cons, show j - 1 + 1 = j by omega, hsp]
      simp
    · have hj0 : j = 0 := by omega
      subst hj0
      have hnone : idx l (((0 : Nat) : Int) - 1) = none := by
        unfold idx
        rw [if_neg (by omega)]
      rw [hnone]
      simp only [Bool.false_eq_true, if_false, bindC_go]
      exact ⟨_, rfl, 0, ((0 : Nat) : Int) - 1, by rw [hsp]; simp, .inr ⟨by omega, rfl⟩, .inr rfl⟩
  · rintro _ ⟨b, at_, rfl, hat, hbk⟩
    simp only
    have hb0 : b = 0 := by omega
    subst hb0
    rw [if_neg (by simp only [decide_eq_true_eq]; omega)]
    rfl
theorem want_loop {ρ : Type} (l : List KV) (f t : List UInt8) (hl : l.length ≤ 1000000) :
    loopO (ρ := Ctl (List KV) ρ) (fun (S54 : Int × List KV) => if (decide (S54.1 < ((l.length : Nat) : Int))) = true then (((idx l S54.1).bind fun E61 =>
      if (!(sLt E61.Key f)) = true then (if (decide (t = ([]))) = true then (some true)
      else (some (sLt E61.Key t)))
      else (some false)).bind (fun (T59 : Bool) =>
      bindC (if T59 = true then ((idx l S54.1).bind fun E68 =>
      (app 32 S54.2 ([E68])).bind fun E72 =>
      some (.go E72))
      else (some (.go S54.2)))
      (fun (T65 : List KV) => some (.go (IntKind.i64.wrap (S54.1 + (1 : Int)), T65)))))
      else (some (.done (.go S54.2)))) ((0 : Int), ([] : List KV)) = some (.go (l.filter (inV f t))) := by
  refine loopO_is (fun k S => S = ((k : Int), (l.take k).filter (inV f t))) l.length _ rfl ?_ ?_
  · rintro k _ hk rfl
    left
    have hflen : ((l.take k).filter (inV f t)).length ≤ l.length := Nat.le_trans (List.length_filter_le _ _) (List.length_take_le' _ _)
    have hg : (if (!(sLt l[k].Key f)) = true then (if (decide (t = ([]))) = true then (some true) else (some (sLt l[k].Key t))) else (some false)) = some (inV f t l[k]) := by
      unfold inV
      cases sLt l[k].Key f <;> by_cases c : t = [] <;> simp [c]
    rw [if_pos (by simpa using hk), idx_nat l k hk, wrap_ok (n := (k : Int) + 1) (by omega) (by omega)]
    simp only [Option.bind_some, hg]
    rw [List.take_add_one, List.getElem?_eq_getElem hk, Option.toList_some, List.filter_append]
    cases hc : inV f t l[k] with
    | false => exact ⟨_, rfl, by simp [hc]⟩
    | true =>
      simp only [if_true]
      rw [app_ok (by simp only [List.length_singleton]; omega) (by simp only [List.length_singleton]; omega)]
      exact ⟨_, rfl, by simp [hc]⟩
  · rintro _ rfl
    simp only [List.take_length]
    rw [if_neg (by simp)]
theorem same_loop {ρ : Type} (q : ρ) (l : List KV) (hl : l.length ≤ 1000000) :
    loopO (ρ := Ctl Unit ρ) (fun (S81 : Int) => if (decide (S81 < ((l.reverse.length : Nat) : Int))) = true then ((idx l.reverse S81).bind fun E86 =>
      (idx l (IntKind.i64.wrap (IntKind.i64.wrap (((l.length : Nat) : Int) - (1 : Int)) - S81))).bind fun E88 =>
      if (!(decide (E86.Key = E88.Key) && (decide (E86.Val = E88.Val) && true))) = true then (some (.done (.done q)))
      else (some (.go (IntKind.i64.wrap (S81 + (1 : Int))))))
      else (some (.done (.go ())))) (0 : Int) = some (.go ()) := by
  refine loopO_is (fun k S => S = (k : Int)) l.length _ rfl ?_ ?_
  · rintro k _ hk rfl
    left
    rw [List.length_reverse, if_pos (by simpa using hk), idx_nat l.reverse k (by simpa using hk), wrap_ok (n := ((l.length : Nat) : Int) - 1) (by omega) (by omega), wrap_ok (n := ((l.length : Nat) : Int) - 1 - (k : Int)) (by omega) (by omega), show ((l.length : Nat) : Int) - 1 - (k : Int) = ((l.length - 1 - k : Nat) : Int) by omega, idx_nat l _ (by omega), wrap_ok (by omega) (by omega)]
    simp only [Option.bind_some]
    rw [List.getElem_reverse]
    simp
  · rintro _ rfl
    rw [List.length_reverse, if_neg (by simp)]
theorem l7Put_ok (m : List KV) (o : Op) (hm : m.length ≤ 1000000) : ∃ r, spec_l7Put m o = some r ∧ r.length ≤ m.length + 1 := by
  unfold spec_l7Put
  refine loopO_G (τ := Bool × Int × List KV) (ρ := Bool × List KV) (R := List KV) (G := fun o => ∃ r, o = some r ∧ r.length ≤ m.length + 1) (I := fun k S => S.2.1 = (k : Int) ∧ S.2.2.length ≤ k + if S.1 = true then 1 else 0) m.length (Q := fun r => ∃ b a, r = .go (b, a) ∧ a.length ≤ m.length + if b = true then 1 else 0) ⟨rfl, by simp⟩ ?_ ?_ ?_
  · rintro k ⟨b, c, a⟩ hk ⟨h1, h2⟩
    simp only at h1 h2
    subst h1
    left
    simp only
    rw [if_pos (by simpa using hk), idx_nat m k hk, wrap_ok (n := (k : Int) + 1) (by omega) (by omega)]
    simp only [Option.bind_some]
    have key : ∀ (b : Bool) (a : List KV), a.length ≤ k + (if b = true then 1 else 0) → ∃ s' : Bool × Int × List KV, bindC (if (!(decide (m[k].Key = o.Key))) = true then ((app 32 a ([m[k]])).bind fun E27 =>
        some (.go E27)) else (some (.go a))) (fun (T22 : List KV) => some (.go (b, (k : Int) + 1, T22))) = some (Ctl.go (ρ := Ctl (Bool × List KV) (List KV)) s') ∧ s'.2.1 = ((k + 1 : Nat) : Int) ∧ s'.2.2.length ≤ k + 1 + if s'.1 = true then 1 else 0 := by
      intro b a ha
      have ha2 : a.length ≤ k + 1 := by split at ha <;> omega
      cases decide (m[k].Key = o.Key) with
      | true => exact ⟨_, rfl, by simp, by simp only; omega⟩
      | false =>
        simp only [Bool.not_false, if_true]
        rw [app_ok (by simp only [List.length_singleton]; omega) (by simp only [List.length_singleton]; omega)]
        exact ⟨_, rfl, by simp, by simp only [List.length_append, List.length_singleton]; omega⟩
    cases b with
    | true =>
      simp only [Bool.not_true, Bool.false_eq_true, if_false, Option.bind_some, bindC_go]
      exact key true a h2
    | false =>
      simp only [Bool.not_false, if_true, Option.bind_some]
      simp only [Bool.false_eq_true, if_false] at h2
      cases (sLt m[k].Key o.Key) with
      | true =>
        simp only [Bool.not_true, Bool.false_eq_true, if_false, bindC_go]
        exact key false a (by simpa using h2)
      | false =>
        simp only [Bool.not_false, if_true]
        rw [app_ok (by simp only [List.length_singleton]; omega) (by simp only [List.length_singleton]; omega)]
        simp only [Option.bind_some, bindC_go]
        exact key true _ (by simp only [List.length_append, List.length_singleton, if_true]; omega)
  · rintro ⟨b, c, a⟩ ⟨h1, h2⟩
    simp only at h1 h2
    subst h1
    exact ⟨_, by simp only; rw [if_neg (by simp)], b, a, rfl, h2⟩
  rintro _ ⟨b, a, rfl, ha⟩
  simp only [bindC_go]
  cases b with
  | true => exact ⟨_, rfl, by simpa using ha⟩
  | false =>
    simp only [Bool.false_eq_true, if_false] at ha
    simp only [Bool.not_false, if_true]
    rw [app_ok (by simp only [List.length_singleton]; omega) (by simp only [List.length_singleton]; omega)]
    exact ⟨_, rfl, by simp only [List.length_append, List.length_singleton]; omega⟩
theorem ApplyBatch_ok (m : List KV) (l : List Op) (hm : m.length ≤ 100000) (hl : l.length ≤ 1000) : ∃ r, spec_ApplyBatch m l = some r ∧ r.1.length ≤ m.length + l.length := by
  unfold spec_ApplyBatch
  obtain ⟨b, hb⟩ := spec_MapOk_some m (by omega)
  rw [hb]
  cases b with
  | false => exact ⟨_, rfl, by simp⟩
  | true =>
    simp only [Option.bind_some, Bool.not_true, Bool.false_eq_true, if_false]
    rw [app_ok (by simp only [List.length_nil]; omega) (by simp only [List.length_nil]; omega), spec_BatchOk_eq l (by omega)]
    simp only [Option.bind_some, List.nil_append]
    cases batchV l with
    | false => exact ⟨_, rfl, by simp⟩
    | true =>
      simp only [Bool.not_true, Bool.false_eq_true, if_false]
      refine loopO_G (τ := Int × List KV) (ρ := List KV) (R := List KV × Bool) (G := fun o => ∃ r, o = some r ∧ r.1.length ≤ m.length + l.length) (I := fun k S => S.1 = (k : Int) ∧ S.2.length ≤ m.length + k) l.length (Q := fun r => ∃ a, r = .go a ∧ a.length ≤ m.length + l.length) ⟨rfl, by simp⟩ ?_ ?_ ?_
      · rintro k ⟨c, a⟩ hk ⟨h1, h2⟩
        simp only at h1 h2
        subst h1
        left
        obtain ⟨r, hr, hrl⟩ := l7Put_ok a l[k] (by omega)
        simp only
        rw [if_pos (by simpa using hk), idx_nat l k hk, wrap_ok (n := (k : Int) + 1) (by omega) (by omega)]
        simp only [Option.bind_some, hr]
        exact ⟨_, rfl, by simp, by simp only; omega⟩
      · rintro ⟨c, a⟩ ⟨h1, h2⟩
        simp only at h1 h2
        subst h1
        exact ⟨_, by simp only; rw [if_neg (by simp)], a, rfl, h2⟩
      rintro _ ⟨a, rfl, ha⟩
      exact ⟨_, rfl, ha⟩
theorem l7Batch_ok (b : List UInt8) (i h : Int) (hi : 0 ≤ i ∧ i ≤ b.length) (hb : b.length ≤ 1048576) : ∃ l i' h', spec_l7Batch { b := b, i := i, h := h } = some (l, { b := b, i := i', h := h' }) ∧ l.length ≤ 8 ∧ (0 ≤ i' ∧ i' ≤ b.length) := by
  unfold spec_l7Batch
  obtain ⟨x1, i1, h1, e1, g1, k1⟩ := l1Below_ok b i h 4 hi hb
  have hx1 := g1.2.1 (by omega)
  simp only [e1, Option.bind_some]
  rw [wrap_ok (n := 1 + x1) (by omega) (by omega)]
  refine loopO_G (τ := Int × Int × Int × List Op) (ρ := Int × Int × List Op) (R := List Op × L1Cur) (G := fun o => ∃ l i' h', o = some (l, { b := b, i := i', h := h' }) ∧ l.length ≤ 8 ∧ (0 ≤ i' ∧ i' ≤ b.length)) (I := fun k S => (0 ≤ S.1 ∧ S.1 ≤ b.length) ∧ S.2.2.1 = 1 + x1 - (k : Int) ∧ S.2.2.2.length = k) (1 + x1).toNat (Q := fun r => ∃ p q a, r = .go (p, q, a) ∧ (0 ≤ p ∧ p ≤ b.length) ∧ 1 ≤ a.length ∧ a.length ≤ 4) ⟨k1, by simp, by simp⟩ ?_ ?_ ?_
  · rintro k ⟨p, q, c, d⟩ hk ⟨b1, b2, b3⟩
    simp only at b1 b2 b3
    subst b2
    left
    obtain ⟨x3, i3, h3, e3, g3, k3⟩ := l7Key_ok b p q b1 hb
    obtain ⟨x4, i4, h4, e4, k4⟩ := l1Once_ok b i3 h3 3 k3 hb
    simp only [e3, e4, Option.bind_some]
    rw [if_pos (by simp only [decide_eq_true_eq]; omega), wrap_ok (n := 1 + x1 - (k : Int) - 1) (by omega) (by omega)]
    cases x4 with
    | true =>
      simp only [if_true, bindC_go]
      rw [app_ok (by simp only [List.length_singleton]; omega) (by simp only [List.length_singleton]; omega)]
      exact ⟨_, rfl, k4, by simp only; omega, by simp only [List.length_append, List.length_singleton]; omega⟩
    | false =>
      obtain ⟨x5, i5, h5, e5, g5, k5⟩ := l1Text_ok b i4 h4 5 (by omega) k4 hb
      simp only [Bool.false_eq_true, if_false, e5, Option.bind_some, bindC_go]
      rw [app_ok (by simp only [List.length_singleton]; omega) (by simp only [List.length_singleton]; omega)]
      exact ⟨_, rfl, k5, by simp only; omega, by simp only [List.length_append, List.length_singleton]; omega⟩
  · rintro ⟨p, q, c, d⟩ ⟨b1, b2, b3⟩
    simp only at b1 b2 b3
    exact ⟨_, by simp only; rw [if_neg (by simp only [decide_eq_true_eq]; omega)], p, q, d, rfl, b1, by omega, by omega⟩
  rintro _ ⟨p, q, d, rfl, b1, b2, b3⟩
  obtain ⟨x5, i5, h5, e5, k5⟩ := l1Once_ok b p q 10 b1 hb
  simp only [bindC_go, e5, Option.bind_some]
  cases x5 with
  | false =>
    simp only [Bool.false_eq_true, if_false, bindC_go]
    exact ⟨_, _, _, rfl, by omega, k5⟩
  | true =>
    obtain ⟨x6, i6, h6, e6, g6, k6⟩ := l1Below_ok b i5 h5 ((d.length : Nat) : Int) k5 hb
    have hx6 := g6.2.1 (by omega)
    obtain ⟨x7, i7, h7, e7, g7, k7⟩ := l1Below_ok b i6 h6 4 k6 hb
    have hid := idx_some' (l := d) g6.1 hx6
    simp only [if_true, e6, e7, Option.bind_some, hid]
    by_cases c0 : x7 = 0
    · rw [decide_eq_true c0]
      obtain ⟨x8, i8, h8, e8, g8, k8⟩ := l1Pick_ok b i7 h7 [[], [97, 97, 97, 97, 97, 97, 97, 97, 97, 97], [97, 97, 97, 97, 97, 97, 97, 97, 97, 97, 97]] (by simp) k7 hb
      simp only [if_true, e8, Option.bind_some, bindC_go]
      exact ⟨_, _, _, rfl, by simp only [List.length_set]; omega, k8⟩
    · rw [decide_eq_false c0]
      simp only [Bool.false_eq_true, if_false]
      by_cases c1 : x7 = 1
      · rw [decide_eq_true c1]
        obtain ⟨x8, i8, h8, e8, g8, k8⟩ := l1Text_ok b i7 h7 1 (by omega) k7 hb
        simp only [if_true, e8, Option.bind_some]
        rw [cat_ok (by simp only [List.length_cons, List.length_nil]; omega)]
        simp only [Option.bind_some, bindC_go]
        exact ⟨_, _, _, rfl, by simp only [List.length_set]; omega, k8⟩
      · rw [decide_eq_false c1]
        simp only [Bool.false_eq_true, if_false]
        by_cases c2 : x7 = 2
        · rw [decide_eq_true c2]
          simp only [if_true]
          rw [app_ok (by omega) (by omega)]
          simp only [Option.bind_some, bindC_go]
          exact ⟨_, _, _, rfl, by simp only [List.length_append]; omega, k7⟩
        · rw [decide_eq_false c2]
          simp only [Bool.false_eq_true, if_false, bindC_go]
          exact ⟨_, _, _, rfl, by simp, k7⟩
theorem l7Map_ok (b : List UInt8) (i h : Int) (hi : 0 ≤ i ∧ i ≤ b.length) (hb : b.length ≤ 1048576) : ∃ l i' h', spec_l7Map { b := b, i := i, h := h } = some (l, { b := b, i := i', h := h' }) ∧ l.length ≤ 40 ∧ (0 ≤ i' ∧ i' ≤ b.length) := by
  unfold spec_l7Map
  obtain ⟨x1, i1, h1, e1, g1, k1⟩ := l1Below_ok b i h 5 hi hb
  have hx1 := g1.2.1 (by omega)
  simp only [e1, Option.bind_some]
  refine loopO_G (τ := Int × Int × Int × List KV) (ρ := Int × Int × List KV) (R := List KV × L1Cur) (G := fun o => ∃ l i' h', o = some (l, { b := b, i := i', h := h' }) ∧ l.length ≤ 40 ∧ (0 ≤ i' ∧ i' ≤ b.length)) (I := fun k S => (0 ≤ S.1 ∧ S.1 ≤ b.length) ∧ S.2.2.1 = x1 - (k : Int) ∧ S.2.2.2.length ≤ 8 * k) x1.toNat (Q := fun r => ∃ p q a, r = .go (p, q, a) ∧ (0 ≤ p ∧ p ≤ b.length) ∧ a.length ≤ 40) ⟨k1, by simp, by simp⟩ ?_ ?_ ?_
  · rintro k ⟨p, q, c, d⟩ hk ⟨b1, b2, b3⟩
    simp only at b1 b2 b3
    subst b2
    left
    obtain ⟨o, i3, h3, e3, g3, k3⟩ := l7Batch_ok b p q b1 hb
    obtain ⟨r, hr, hrl⟩ := ApplyBatch_ok d o (by omega) (by omega)
    simp only [e3, hr, Option.bind_some]
    rw [if_pos (by simp only [decide_eq_true_eq]; omega), wrap_ok (n := x1 - (k : Int) - 1) (by omega) (by omega)]
    cases r.2 with
    | true => exact ⟨_, rfl, k3, by simp only; omega, by simp only; omega⟩
    | false => exact ⟨_, rfl, k3, by simp only; omega, by simp only; omega⟩
  · rintro ⟨p, q, c, d⟩ ⟨b1, b2, b3⟩
    simp only at b1 b2 b3
    exact ⟨_, by simp only; rw [if_neg (by simp only [decide_eq_true_eq]; omega)], p, q, d, rfl, b1, by omega⟩
  rintro _ ⟨p, q, d, rfl, b1, b3⟩
  simp only [bindC_go]
  have key : ∀ (p q : Int) (x : Bool), (x = true → 0 < d.length) → (0 ≤ p ∧ p ≤ b.length) → ∃ l i' h', bindC (if x = true then ((spec_l1Pick ({ b := b, i := p, h := q : L1Cur }) ([[], [122, 122, 122], [97, 97, 97, 97, 97, 97, 97, 97, 97, 97, 97]])).bind fun R29 =>
        (idx d (0 : Int)).bind fun E32 =>
        some (.go (R29.2.i, R29.2.h, (d.set ((0 : Int).toNat) ({ Key := R29.1, Val := E32.Val : KV })))))
        else (some (.go (p, q, d))))
        (fun (T25 : Int × Int × List KV) => some (T25.2.2, { b := b, i := T25.1, h := T25.2.1 : L1Cur })) = some (l, { b := b, i := i', h := h' }) ∧ l.length ≤ 40 ∧ (0 ≤ i' ∧ i' ≤ b.length) := by
    intro p q x hx hp
    cases x with
    | false => exact ⟨_, _, _, rfl, b3, hp⟩
    | true =>
      obtain ⟨x4, i4, h4, e4, g4, k4⟩ := l1Pick_ok b p q [[], [122, 122, 122], [97, 97, 97, 97, 97, 97, 97, 97, 97, 97, 97]] (by simp) hp hb
      have := hx rfl
      simp only [if_true, e4, Option.bind_some]
      rw [idx_some' (by omega) (by omega)]
      simp only [Option.bind_some, bindC_go]
      exact ⟨_, _, _, rfl, by simpa using b3, k4⟩
  by_cases c : ((d.length : Nat) : Int) > 0
  · rw [decide_eq_true c]
    obtain ⟨x4, i4, h4, e4, k4⟩ := l1Once_ok b p q 12 b1 hb
    simp only [if_true, e4, Option.bind_some]
    exact key i4 h4 x4 (fun _ => by omega) k4
  · rw [decide_eq_false c]
    simp only [Bool.false_eq_true, if_false, Option.bind_some]
    exact key p q false (fun h => by cases h) b1
theorem DrawIterNew_ok (code : List UInt8) (hb : code.length ≤ 1048576) : ∃ l f t, spec_DrawIterNew code = some (l, f, t) ∧ l.length ≤ 40 := by
  unfold spec_DrawIterNew
  obtain ⟨q, hq⟩ := l1New_ok code hb
  obtain ⟨l, i1, h1, e1, g1, k1⟩ := l7Map_ok code 0 q (by omega) hb
  obtain ⟨x2, i2, h2, e2, g2, k2⟩ := l7Key_ok code i1 h1 k1 hb
  obtain ⟨x3, i3, h3, e3, g3, k3⟩ := l7Key_ok code i2 h2 k2 hb
  simp only [hq, Option.bind_some, e1, e2, e3]
  exact ⟨_, _, _, rfl, g1⟩
theorem opt_key (b : List UInt8) (p q : Int) (x : Bool) (hp : 0 ≤ p ∧ p ≤ b.length) (hb : b.length ≤ 1048576) : ∃ i' h' s, (if x = true then ((spec_l7Key ({ b := b, i := p, h := q : L1Cur })).bind fun R12 =>
    some (.go (R12.2.i, R12.2.h, R12.1))) else (some (.go (p, q, ([] : List UInt8))))) = some (Ctl.go (ρ := Iter × L1Cur) (i', h', s)) ∧ (0 ≤ i' ∧ i' ≤ b.length) := by
  cases x with
  | false => exact ⟨_, _, _, rfl, hp⟩
  | true =>
    obtain ⟨x2, i2, h2, e2, g2, k2⟩ := l7Key_ok b p q hp hb
    simp only [if_true, e2, Option.bind_some]
    exact ⟨_, _, _, rfl, k2⟩
theorem l14Some_ok (b : List UInt8) (i h : Int) (hi : 0 ≤ i ∧ i ≤ b.length) (hb : b.length ≤ 1048576) : ∃ x i' h', spec_l14Some { b := b, i := i, h := h } = some (x, { b := b, i := i', h := h' }) ∧ x.List.length ≤ 40 ∧ (0 ≤ i' ∧ i' ≤ b.length) := by
  unfold spec_l14Some
  obtain ⟨l, i1, h1, e1, g1, k1⟩ := l7Map_ok b i h hi hb
  obtain ⟨x2, i2, h2, e2, k2⟩ := l1Once_ok b i1 h1 2 k1 hb
  simp only [e1, e2, Option.bind_some]
  obtain ⟨i3, h3, s3, e3, k3⟩ := opt_key b i2 h2 x2 k2 hb
  rw [e3]
  simp only [bindC_go]
  obtain ⟨x4, i4, h4, e4, k4⟩ := l1Once_ok b i3 h3 2 k3 hb
  simp only [e4, Option.bind_some]
  obtain ⟨i5, h5, s5, e5, k5⟩ := opt_key b i4 h4 x4 k4 hb
  rw [e5]
  simp only [bindC_go]
  obtain ⟨x6, i6, h6, e6, g6, k6⟩ := l1Below_ok b i5 h5 (IntKind.i64.wrap (((l.length : Nat) : Int) + 2)) k5 hb
  obtain ⟨x7, i7, h7, e7, k7⟩ := l1Once_ok b i6 h6 12 k6 hb
  simp only [e6, e7, Option.bind_some]
  cases x7 with
  | false =>
    simp only [Bool.false_eq_true, if_false, bindC_go]
    exact ⟨_, _, _, rfl, g1, k7⟩
  | true =>
    obtain ⟨x8, i8, h8, e8, g8, k8⟩ := l1PickInt_ok b i7 h7 [-2, 99] (by simp) k7 hb
    simp only [if_true, e8, Option.bind_some, bindC_go]
    exact ⟨_, _, _, rfl, g1, k8⟩
theorem DrawIterSeek_ok (code : List UInt8) (hb : code.length ≤ 1048576) : ∃ x k, spec_DrawIterSeek code = some (x, k) ∧ x.List.length ≤ 40 := by
  unfold spec_DrawIterSeek
  obtain ⟨q, hq⟩ := l1New_ok code hb
  obtain ⟨x, i1, h1, e1, g1, k1⟩ := l14Some_ok code 0 q (by omega) hb
  obtain ⟨x2, i2, h2, e2, g2, k2⟩ := l7Key_ok code i1 h1 k1 hb
  simp only [hq, Option.bind_some, e1, e2]
  exact ⟨_, _, rfl, g1⟩
theorem sameMap_eq (a b : List KV) (h : a.length ≤ 1048576) : laws_sameMap a b = some (decide (a = b)) := by
  unfold laws_sameMap
  have := eqS_of a b (fun x y => some (decide (x.Key = y.Key) && (decide (x.Val = y.Val) && true))) (fun x y _ _ => by
    congr 1
    obtain ⟨x1, x2⟩ := x
    obtain ⟨y1, y2⟩ := y
    simp only [KV.mk.injEq, Bool.and_true, Bool.decide_and]) (by omega)
  simp only [Option.bind_some] at this
  exact this
theorem FnIter_pure (code : List UInt8) : laws_FnIter code = some true := by
  unfold laws_FnIter
  rw [big_eq]
  simp only [Option.bind_some]
  by_cases hc : ((code.length : Nat) : Int) > 1048576
  · rw [decide_eq_true hc]; rfl
  rw [decide_eq_false hc]
  have hb : code.length ≤ 1048576 := by omega
  obtain ⟨l, f, t, es, hl⟩ := DrawIterNew_ok code hb
  obtain ⟨b, hm⟩ := spec_MapOk_some l (by omega)
  simp only [Bool.false_eq_true, if_false, es, Option.bind_some]
  have hnew : impl_IterNew l f t = some (bif b then ({ List := l, From := f, To := t, At := -1 }, true) else ({ List := [], From := [], To := [], At := 0 }, false)) := by
    unfold impl_IterNew
    rw [MapOk_spec, hm]
    cases b with
    | false => rfl
    | true => simp only [Option.bind_some, Bool.not_true, Bool.false_eq_true, if_false, cloneKV_eq l (by omega), cond_true]
  rw [hnew, hm]
  cases b with
  | false => rfl
  | true =>
    have hfl : (l.filter (inV f t)).length ≤ l.length := List.length_filter_le _ _
    simp only [cond_true, Option.bind_some, decide_true, Bool.not_true, Bool.false_eq_true, if_false]
    rw [forth_loop l f t (by omega) hm]
    simp only [bindC_go]
    rw [back_loop l f t (by omega) hm]
    simp only [bindC_go]
    rw [want_loop l f t (by omega)]
    simp only [bindC_go]
    rw [sameMap_eq _ _ (by omega)]
    simp only [decide_true, Option.bind_some, Bool.not_true, Bool.false_eq_true, if_false]
    rw [decide_eq_true (by rw [List.length_reverse])]
    simp only [Bool.not_true, Bool.false_eq_true, if_false]
    rw [same_loop false (l.filter (inV f t)) (by omega)]
    simp only [bindC_go]
    obtain ⟨x, k, ek, hk⟩ := DrawIterSeek_ok code hb
    obtain ⟨r, r1, r2, r3⟩ := IterSeek_prop x k (by omega)
    simp only [ek, Option.bind_some, r1, r2, decide_true, if_true, Bool.and_self]
    cases hr : r.2.2 with
    | false => rfl
    | true => rw [r3 hr]; rfl
theorem FnIter_proved : Rows.FnIterSaid := FnIter_over fun code _ => FnIter_pure code

end Go.Proofs.Ytahennbogdbnmaa
