/-
  The plain laws: what the pure functions come to, and the statements. Conditions: none.
-/
import Derived.Test.YtpfndjojoikkgabPl
import Derived.Test.YtpfndjojoikkgabG4
set_option linter.unusedVariables false
set_option linter.unusedSimpArgs false
namespace Go.Proofs.Ytpfndjojoikkgab
open Go Sl

theorem inRange_eq (n a b : Int) : impl_inRange n a b = some (decide (a ≤ n ∧ n ≤ b)) := by
  unfold impl_inRange
  by_cases h : n ≥ a <;> simp [h]
theorem l1In_eq (n a b : Int) : spec_l1In n a b = some (decide (a ≤ n ∧ n ≤ b)) := by
  unfold spec_l1In
  by_cases h : n ≥ a <;> simp [h]
/-! ### SpaceOk -/
theorem all_range (l : List Int) (p : Int → Bool) (f : Int → Option Bool) (hf : ∀ x, f x = some (p x)) (hl : l.length ≤ 1048576) :
    loopO (ρ := Ctl Unit Bool) (fun (S6 : Int) => if (decide (S6 < ((l.length : Nat) : Int))) = true then ((idx l S6).bind fun E11 =>
  (f E11).bind fun R13 =>
  if (!R13) = true then (some (.done (.done false)))
  else (some (.go (IntKind.i64.wrap (S6 + (1 : Int))))))
  else (some (.done (.go ())))) (0 : Int) = some (if l.all p then .go () else .done false) := by
  rw [loopO_list l (fun k (_ : Unit) => (k : Int)) (fun _ x _ => if p x then some (Ctl.go ()) else some (Ctl.done (Ctl.done false))) (fun _ => some (Ctl.go ())) () ?h0 ?hs ?hf]
  case h0 => rfl
  case hs =>
    intro k hk _
    simp only [idx_nat l k hk, Option.bind_some, hf]
    rw [wrap_ok (by omega) (by omega)]
    by_cases he : p l[k] = true
    · simp [he, Ctl.mapGo, hk]
    · simp [he, Ctl.mapGo, hk]
  case hf => intro _; simp
  rw [runL_all p (Ctl.done false) _ _ (by intro k x _; rfl)]
  split <;> rfl
/-- giving blocks back, one by one -/
def giveV (who : Int) : List Int → List Int → Option (List Int)
  | [], s => some s
  | b :: bs, s => if 0 ≤ b ∧ b < s.length ∧ s[b.toNat]? = some who ∧ 1 ≤ who then giveV who bs (s.set b.toNat 0) else none
theorem giveV_cons (who b : Int) (bs s : List Int) : giveV who (b :: bs) s = if 0 ≤ b ∧ b < s.length ∧ s[b.toNat]? = some who ∧ 1 ≤ who then giveV who bs (s.set b.toNat 0) else none := rfl
theorem giveV_nil (who : Int) (s : List Int) : giveV who [] s = some s := rfl
theorem giveV_length (who : Int) : ∀ (bs s r : List Int), giveV who bs s = some r → r.length = s.length
  | [], s, r, h => by simp [giveV] at h; rw [h]
  | b :: bs, s, r, h => by
    unfold giveV at h
    split at h
    · rw [giveV_length who bs _ r h, List.length_set]
    · cases h
theorem idx_some' {α : Type} {l : List α} {i : Int} (h0 : 0 ≤ i) (h1 : i < l.length) : idx l i = some (l[i.toNat]'(by omega)) := by
  unfold idx; rw [if_pos h0, List.getElem?_eq_getElem]
/-- what a quota needs -/
def needV (q : Int) : Int := if 0 ≤ q ∧ q ≤ 1000 then 2 + 2 * ((q + 49) / 50) else 0
theorem needV_range (q : Int) : 0 ≤ needV q ∧ needV q ≤ 42 := by
  unfold needV; split <;> omega
theorem markText_loop (m : Nat) : ∀ s : List UInt8, s.length + m ≤ 9223372036854775806 → ∃ r : List UInt8, loopO (ρ := Ctl (List UInt8) (List UInt8)) (fun (S2 : Int × List UInt8) => if (decide (S2.1 > (0 : Int))) = true then ((cat ([toU8 (IntKind.i64.wrap ((48 : Int) + (Int.tmod S2.1 (10 : Int))))]) S2.2).bind fun E8 =>
  some (.go (IntKind.i64.wrap (Int.tdiv S2.1 (10 : Int)), E8)))
  else (some (.done (.go S2.2)))) ((m : Int), s) = some (.go r) ∧ r.length ≤ s.length + m := by
  induction m using Nat.strongRecOn with
  | _ m ih =>
    intro s hs
    rw [loopO_eq]
    by_cases h0 : m = 0
    · subst h0
      exact ⟨s, by simp, by omega⟩
    · simp only
      rw [if_pos (by simp; omega), cat_ok (by simp; omega)]
      have hd : Int.tdiv (m : Int) 10 = ((m / 10 : Nat) : Int) := rfl
      rw [hd, wrap_ok (n := ((m / 10 : Nat) : Int)) (by omega) (by omega)]
      simp only [Option.bind_some]
      obtain ⟨r, hr, hl⟩ := ih (m / 10) (by omega) ([toU8 (IntKind.i64.wrap ((48 : Int) + (Int.tmod (m : Int) (10 : Int))))] ++ s) (by simp; omega)
      exact ⟨r, hr, by simp at hl; omega⟩
theorem markText_some (k : Int) (h : k ≤ 9223372036854775800) : ∃ t, laws_markText k = some t := by
  unfold laws_markText
  by_cases h0 : k ≤ 0
  · exact ⟨_, by rw [if_pos (by simpa using h0)]⟩
  · rw [if_neg (by simpa using h0)]
    obtain ⟨r, hr, hl⟩ := markText_loop k.toNat [] (by simp; omega)
    rw [show ((k.toNat : Nat) : Int) = k by omega] at hr
    refine ⟨[109] ++ r, ?_⟩
    rw [hr]
    simp only [bindC_go]
    rw [cat_ok (by simp at hl ⊢; omega)]
    rfl
noncomputable def markT (k : Int) : List UInt8 := (laws_markText k).getD []
theorem markText_eq (k : Int) (h : k ≤ 9223372036854775800) : laws_markText k = some (markT k) := by
  obtain ⟨t, ht⟩ := markText_some k h
  unfold markT; rw [ht]; rfl
/-- a list turned up to a place -/
def preM {α : Type} (f : α → α) (l : List α) (k : Nat) : List α := (l.take k).map f ++ l.drop k
theorem preM_length {α : Type} (f : α → α) (l : List α) (k : Nat) : (preM f l k).length = l.length := by unfold preM; simp; omega
theorem preM_get {α : Type} (f : α → α) (l : List α) (k : Nat) (h : k < l.length) : idx (preM f l k) (k : Int) = some l[k] := by
  rw [idx_nat _ k (by rw [preM_length]; exact h)]
  congr 1
  have hl : ((l.take k).map f).length = k := by rw [List.length_map, List.length_take]; omega
  unfold preM
  rw [List.getElem_append_right (by omega)]
  simp only [hl, Nat.sub_self]
  simp
theorem preM_set {α : Type} (f : α → α) (l : List α) (k : Nat) (h : k < l.length) : (preM f l k).set k (f l[k]) = preM f l (k + 1) := by
  have hl : ((l.take k).map f).length = k := by rw [List.length_map, List.length_take]; omega
  have htk : l.take (k + 1) = l.take k ++ [l[k]] := by rw [List.take_add_one, List.getElem?_eq_getElem h]; rfl
  unfold preM
  rw [List.set_append_right _ _ (by omega), hl, Nat.sub_self, htk, List.drop_eq_getElem_cons h, List.set_cons_zero, List.map_append, List.append_assoc]
  rfl
theorem preM_same {α : Type} (f : α → α) (l : List α) (k : Nat) (h : k < l.length) (hf : f l[k] = l[k]) : preM f l (k + 1) = preM f l k := by
  rw [← preM_set f l k h, hf]
  apply List.ext_getElem?
  intro j
  rw [List.getElem?_set]
  split
  · rename_i he
    subst he
    have := preM_get f l k h
    unfold idx at this
    rw [if_pos (by omega), Int.toNat_natCast] at this
    rw [if_pos (by rw [preM_length]; exact h), this]
  · rfl
theorem preM_all {α : Type} (f : α → α) (l : List α) : preM f l l.length = l.map f := by unfold preM; simp
/-- a tenant's blocks, wiped -/
def wipeV (who : Int) (l : List Int) : List Int := l.map fun x => if x = who then 0 else x
/-- the first n free blocks of the first k -/
def freeIx (l : List Int) (n : Int) : Nat → List Nat
  | 0 => []
  | k + 1 => if l[k]? = some 0 ∧ ((freeIx l n k).length : Int) < n then freeIx l n k ++ [k] else freeIx l n k
theorem freeIx_lt (l : List Int) (n : Int) : ∀ k, ∀ i ∈ freeIx l n k, i < k
  | 0, i, h => by simp [freeIx] at h
  | k + 1, i, h => by
    unfold freeIx at h
    split at h
    · rcases List.mem_append.1 h with h | h
      · have := freeIx_lt l n k i h; omega
      · have : i = k := by simpa using h
        omega
    · have := freeIx_lt l n k i h; omega
theorem freeIx_length (l : List Int) (n : Int) : ∀ k, (freeIx l n k).length ≤ k
  | 0 => by simp [freeIx]
  | k + 1 => by
    have := freeIx_length l n k
    unfold freeIx
    split
    · simp; omega
    · omega
theorem freeIx_sat (l : List Int) (n : Int) (k : Nat) (h : ¬ ((freeIx l n k).length : Int) < n) : ∀ d, freeIx l n (k + d) = freeIx l n k
  | 0 => rfl
  | d + 1 => by
    have := freeIx_sat l n k h d
    have e : freeIx l n (k + (d + 1)) = if l[k + d]? = some 0 ∧ ((freeIx l n (k + d)).length : Int) < n then freeIx l n (k + d) ++ [k + d] else freeIx l n (k + d) := rfl
    rw [e, this, if_neg (fun h2 => h h2.2)]
theorem freeIx_count (l : List Int) (n : Int) (hn : 1 ≤ n) : ∀ k, k ≤ l.length → (((freeIx l n k).length : Int) < n ↔ (((l.take k).countP fun x => decide (x = 0) : Nat) : Int) < n) ∧ ((((l.take k).countP fun x => decide (x = 0) : Nat) : Int) < n → (freeIx l n k).length = ((l.take k).countP fun x => decide (x = 0))) ∧
    ((((l.take k).countP fun x => decide (x = 0) : Nat) : Int) = n → ((freeIx l n k).length : Int) = n)
  | 0, _ => by simp [freeIx]
  | k + 1, hk => by
    obtain ⟨h1, h2, h3⟩ := freeIx_count l n hn k (by omega)
    have hk' : k < l.length := by omega
    have htk : l.take (k + 1) = l.take k ++ [l[k]] := by rw [List.take_add_one, List.getElem?_eq_getElem hk']; rfl
    unfold freeIx
    rw [htk, List.countP_append, List.getElem?_eq_getElem hk']
    by_cases hx : l[k] = 0
    · simp only [hx, true_and, List.countP_cons, List.countP_nil, decide_true, if_true, Nat.zero_add]
      by_cases hc : ((freeIx l n k).length : Int) < n
      · rw [if_pos hc]
        have := h2 (h1.1 hc)
        simp only [List.length_append, List.length_cons, List.length_nil]
        omega
      · rw [if_neg hc]
        have : ¬ (((l.take k).countP fun x => decide (x = 0) : Nat) : Int) < n := fun h => hc (h1.2 h)
        omega
    · simp only [List.countP_cons, List.countP_nil, hx, decide_false, Bool.false_eq_true, if_false, Nat.add_zero]
      rw [if_neg (by simp [hx])]
      exact ⟨h1, h2, h3⟩
/-- blocks given to somebody -/
def setAll (who : Int) (l : List Int) (g : List Nat) : List Int := g.foldl (fun s i => s.set i who) l
theorem setAll_length (who : Int) (g : List Nat) : ∀ l, (setAll who l g).length = l.length := by
  induction g with
  | nil => intro l; rfl
  | cons i g ih => intro l; show (setAll who (l.set i who) g).length = _; rw [ih, List.length_set]
theorem setAll_snoc (who : Int) (l : List Int) (g : List Nat) (i : Nat) : setAll who l (g ++ [i]) = (setAll who l g).set i who := by
  unfold setAll; rw [List.foldl_append]; rfl
theorem sLt_nil (a : List UInt8) : sLt a [] = false := by cases a <;> rfl
theorem sLt_compl : ∀ a b : List UInt8, (sLt b a || decide (b = a)) = !sLt a b
  | [], [] => rfl
  | [], b :: y => by simp [sLt, Op.bytesLess]
  | a :: x, [] => by simp [sLt, Op.bytesLess]
  | a :: x, b :: y => by
    have ih := sLt_compl x y
    simp only [sLt] at ih
    simp only [sLt, Op.bytesLess]
    by_cases h1 : a < b
    · have h2 : ¬ b < a := fun h => absurd (UInt8.lt_trans h1 h) (UInt8.lt_irrefl _)
      have h3 : ¬ b = a := fun h => by subst h; exact UInt8.lt_irrefl _ h1
      simp [h1, h2, h3]
    · by_cases h2 : b < a
      · have h3 : ¬ a = b := fun h => by subst h; exact UInt8.lt_irrefl _ h2
        simp [h1, h2, h3]
      · have h3 : a = b := by
          rw [UInt8.lt_iff_toNat_lt] at h1 h2
          apply UInt8.toNat_inj.1
          omega
        subst h3
        simp only [h1, decide_false, Bool.false_or, beq_self_eq_true, Bool.true_and, List.cons.injEq, true_and]
        exact ih
theorem szKV_eq (x : KV) (left : Int) (h1 : 0 ≤ left) (h2 : left ≤ 1048576) (h3 : x.Key.length ≤ 9223372036854775807) (h4 : x.Val.length ≤ 9223372036854775807) : laws_szKV x left = some (szV left (x.Key.length + x.Val.length)) := by
  unfold laws_szKV szV
  rw [wrap_ok (n := left - (x.Key.length : Int)) (by omega) (by omega)]
  by_cases h : left - (x.Key.length : Int) < 0
  · rw [if_pos (by simpa using h), if_pos (by omega)]
  · rw [if_neg (by simpa using h), wrap_ok (n := left - (x.Key.length : Int) - (x.Val.length : Int)) (by omega) (by omega)]
    by_cases h5 : left - (x.Key.length : Int) - (x.Val.length : Int) < 0
    · rw [if_pos (by simpa using h5), if_pos (by omega)]
    · rw [if_neg (by simpa using h5), if_neg (by omega)]
      congr 1
      omega
theorem szKVS_eq (a : List KV) (left : Int) (h1 : 0 ≤ left) (h2 : left ≤ 1048576) (h : okl a) : laws_szKVS a left = some (szV left (a.length + (a.map fun x => x.Key.length + x.Val.length).sum)) := by
  unfold laws_szKVS
  exact szS_of a laws_szKV (fun x => x.Key.length + x.Val.length) (fun x hx left h1 h2 => szKV_eq x left h1 h2 (h.2 x hx).1 (h.2 x hx).2) h.1 left h1 h2
theorem toKVS_eq (a : List KV) (h : a.length ≤ 1048576) : laws_toKVS a = some a := by
  unfold laws_toKVS
  rw [mkLen_ok (by omega) (by omega)]
  simp only [Option.bind_some]
  rw [to_loop a _ laws_toKV (fun x _ => rfl) (by omega)]
  rfl
theorem eqKV_eq (a b : KV) : laws_eqKV a b = some (decide (a = b)) := by
  obtain ⟨a1, a2⟩ := a; obtain ⟨b1, b2⟩ := b
  unfold laws_eqKV
  by_cases h1 : a1 = b1 <;> by_cases h2 : a2 = b2 <;> simp [h1, h2]
theorem eqKVS_eq (a b : List KV) (h : a.length ≤ 1048576) : laws_eqKVS a b = some (decide (a = b)) :=
  eqS_of a b laws_eqKV (fun x y _ _ => eqKV_eq x y) (by omega)
/-- marks in a list of pairs -/
noncomputable def markKV (k : Int) (i : Nat) : KV := { Key := markT (k + 2 * i), Val := markT (k + 2 * i + 1) }
theorem markKVS_eq (a : List KV) (k : Int) (h : a.length ≤ 1048576) (h1 : 1 ≤ k) (h2 : k ≤ 1125899906842624) : laws_markKVS a k = some (k + 2 * a.length, a.mapIdx fun i _ => markKV k i) := by
  unfold laws_markKVS
  rw [mark_loop (fun q (_ : KV) => { Key := markT q, Val := markT (q + 1) : KV }) 2 a k h1 (by omega) h ?hb ?hd]
  case hb =>
    intro q i l hi h3 h4 hl
    have w1 : IntKind.i64.wrap (q + 1) = q + 1 := wrap_ok (by omega) (by omega)
    have w2 : IntKind.i64.wrap (q + 1 + 1) = q + 1 + 1 := wrap_ok (by omega) (by omega)
    have w6 : IntKind.i64.wrap ((i : Int) + 1) = (i : Int) + 1 := wrap_ok (by omega) (by omega)
    simp only [idx_nat l i hi, Option.bind_some, w1, w2, w6, markText_eq q (by omega), markText_eq (q + 1) (by omega)]
    rw [if_pos (by simpa using hi), Int.toNat_natCast]
    congr 3
    omega
  case hd => intro q l hl; simp
  rfl
theorem heldKVS_eq (a : List KV) (k : Int) (h : a.length ≤ 1048576) (h1 : 1 ≤ k) (h2 : k ≤ 1125899906842624) : laws_heldKVS (a.mapIdx fun i _ => markKV k i) k = some (k + 2 * a.length) := by
  unfold laws_heldKVS
  rw [held_loop (fun q x => x = { Key := markT q, Val := markT (q + 1) : KV }) 2 (a.mapIdx fun i _ => markKV k i) k (.go (k + 2 * a.length)) h1 (by simp; omega) ?hok ?hb ?hd]
  case hok => intro i hi; simp [markKV]
  case hb =>
    intro q i hi h3 h4 h5
    have w1 : IntKind.i64.wrap (q + 1) = q + 1 := wrap_ok (by omega) (by omega)
    have w2 : IntKind.i64.wrap (q + 1 + 1) = q + 1 + 1 := wrap_ok (by omega) (by omega)
    rw [List.length_mapIdx] at hi
    have w6 : IntKind.i64.wrap ((i : Int) + 1) = (i : Int) + 1 := wrap_ok (by omega) (by omega)
    simp only [idx_nat (List.mapIdx (fun (i : Nat) (_ : KV) => markKV k i) a) i (by rw [List.length_mapIdx]; exact hi), Option.bind_some, h5, w1, w2, w6, markText_eq q (by omega), markText_eq (q + 1) (by omega)]
    simp [hi]
    omega
  case hd => simp
  simp

theorem szIter_eq (x : Iter) (left : Int) (h1 : 0 ≤ left) (h2 : left ≤ 1048576) (h : Dec.ok x) : laws_szIter x left = some (szV left (x.List.length + (x.List.map fun x => x.Key.length + x.Val.length).sum + x.From.length + x.To.length)) := by
  obtain ⟨hl, hf, ht, _⟩ : okl x.List ∧ x.From.length ≤ 9223372036854775807 ∧ x.To.length ≤ 9223372036854775807 ∧ okI x.At := h
  unfold laws_szIter
  rw [szKVS_eq x.List left h1 h2 hl]
  generalize x.List.length + (x.List.map fun x => x.Key.length + x.Val.length).sum = w
  simp only [Option.bind_some]
  have hb := szV_le (w := w) h1 h2
  by_cases c : szV left w < 0
  · rw [if_pos (by simpa using c)]
    unfold szV at c ⊢
    split at c
    · rw [if_pos (by omega)]
    · omega
  · rw [if_neg (by simpa using c)]
    have hw := szV_nonneg c
    have e : szV left w = left - w := by unfold szV; rw [if_neg (by omega)]
    rw [e, wrap_ok (n := left - (w : Int) - (x.From.length : Int)) (by omega) (by omega)]
    by_cases c2 : left - (w : Int) - (x.From.length : Int) < 0
    · rw [if_pos (by simpa using c2)]
      unfold szV
      rw [if_pos (by omega)]
    · rw [if_neg (by simpa using c2), wrap_ok (n := left - (w : Int) - (x.From.length : Int) - (x.To.length : Int)) (by omega) (by omega)]
      unfold szV
      by_cases c3 : left - (w : Int) - (x.From.length : Int) - (x.To.length : Int) < 0
      · rw [if_pos (by simpa using c3), if_pos (by omega)]
      · rw [if_neg (by simpa using c3), if_neg (by omega)]
        congr 1
        omega
theorem toIter_eq (x : Iter) (h : x.List.length ≤ 1048576) : laws_toIter x = some x := by
  unfold laws_toIter; rw [toKVS_eq _ h]; rfl
theorem eqIter_eq (a b : Iter) (h : a.List.length ≤ 1048576) : laws_eqIter a b = some (decide (a = b)) := by
  unfold laws_eqIter
  rw [eqKVS_eq _ _ h]
  obtain ⟨a1, a2, a3, a4⟩ := a; obtain ⟨b1, b2, b3, b4⟩ := b
  by_cases h1 : a1 = b1 <;> by_cases h2 : a2 = b2 <;> by_cases h3 : a3 = b3 <;> by_cases h4 : a4 = b4 <;> simp [h1, h2, h3, h4]
theorem markIter_eq (a : Iter) (k : Int) (h : a.List.length ≤ 1048576) (h1 : 1 ≤ k) (h2 : k ≤ 1125899906842624) : laws_markIter a k = some (k + 2 * a.List.length, a.List.mapIdx fun i _ => markKV k i) := by
  unfold laws_markIter; rw [markKVS_eq _ _ h h1 h2]; rfl
theorem heldIter_eq (a : Iter) (l : List KV) (k : Int) (hl : a.List = l.mapIdx fun i _ => markKV k i) (h : l.length ≤ 1048576) (h1 : 1 ≤ k) (h2 : k ≤ 1125899906842624) : laws_heldIter a k = some (k + 2 * l.length) := by
  unfold laws_heldIter
  rw [hl, heldKVS_eq _ _ h h1 h2]
  simp only [Option.bind_some]
  rw [if_neg (by simp; omega)]
theorem isKey_eq (s : List UInt8) : impl_isKey s = some (decide (1 ≤ (s.length : Int) ∧ (s.length : Int) ≤ 10)) := by
  unfold impl_isKey; rw [inRange_eq]; rfl
theorem MapOk_spec (m : List KV) : impl_MapOk m = spec_MapOk m := by
  unfold impl_MapOk spec_MapOk
  congr 2
  funext i
  split
  · cases he : idx m i with
    | none => rfl
    | some e =>
      simp only [Option.bind_some]
      congr 1
      unfold spec_l7Op
      simp only [isKey_eq, l1In_eq, Option.bind_some]
      by_cases h1 : 1 ≤ (e.Key.length : Int) ∧ (e.Key.length : Int) ≤ 10
      · by_cases h2 : (e.Val.length : Int) ≤ 16
        · have h3 : ¬ (e.Val.length : Int) > 16 := by omega
          simp only [h1, h2, h3, and_self, decide_true, decide_false, Bool.not_true, Bool.not_false, Bool.false_eq_true, if_false, if_true, Option.bind_some]
          split
          · congr 1
            funext p
            rw [sLt_compl]
          · rfl
        · have h3 : (e.Val.length : Int) > 16 := by omega
          simp [h1, h2, h3]
      · simp [h1]
  · rfl
theorem spec_MapOk_some (m : List KV) (h : m.length ≤ 1048576) : ∃ r, spec_MapOk m = some r := by
  unfold spec_MapOk
  refine bindC_ends (loopO_ends (fun k i => i = (k : Int)) m.length rfl ?_ ?_) (fun _ => ⟨_, rfl⟩)
  · rintro k i hk rfl
    simp only [idx_nat m k hk, Option.bind_some]
    rw [if_pos (by simpa using hk), wrap_ok (n := (k : Int) + 1) (by omega) (by omega)]
    have key : ∀ q : Option Bool, (∃ b, q = some b) → (∃ s' : Int, (q.bind fun T17 => if T17 = true then some (Ctl.done (Ctl.done false)) else some (Ctl.go ((k : Int) + 1))) = some (Ctl.go s' : Ctl Int (Ctl Unit Bool)) ∧ s' = ((k + 1 : Nat) : Int)) ∨
        ∃ r, (q.bind fun T17 => if T17 = true then some (Ctl.done (Ctl.done false)) else some (Ctl.go ((k : Int) + 1))) = some (Ctl.done r : Ctl Int (Ctl Unit Bool)) := by
      rintro q ⟨b, rfl⟩
      cases b
      · left; exact ⟨_, rfl, by omega⟩
      · right; exact ⟨_, rfl⟩
    apply key
    have h7 : ∃ b, spec_l7Op ({ Key := m[k].Key, Del := false, Val := m[k].Val : Op }) = some b := by
      unfold spec_l7Op
      rw [l1In_eq]
      simp only [Option.bind_some]
      split <;> (try split) <;> exact ⟨_, rfl⟩
    obtain ⟨b, hb⟩ := h7
    rw [hb]
    simp only [Option.bind_some]
    split
    · exact ⟨_, rfl⟩
    · split
      · rename_i hk0
        have hk0' : (k : Int) > 0 := by simpa using hk0
        have hw : IntKind.i64.wrap ((k : Int) - 1) = ((k - 1 : Nat) : Int) := by rw [wrap_ok (by omega) (by omega)]; omega
        rw [hw, idx_nat m (k - 1) (by omega)]
        exact ⟨_, rfl⟩
      · exact ⟨_, rfl⟩
  · rintro i rfl
    exact ⟨.go (), by simp⟩
theorem IterOk_both (x : Iter) (h : x.List.length ≤ 1048576) : ∃ r, spec_IterOk x = some r ∧ impl_IterOk x = some r ∧ (r = true → -1 ≤ x.At ∧ x.At ≤ x.List.length) := by
  unfold spec_IterOk impl_IterOk
  rw [MapOk_spec]
  obtain ⟨b, hb⟩ := spec_MapOk_some x.List h
  rw [hb, l1In_eq, inRange_eq]
  cases b <;> by_cases c : -1 ≤ x.At ∧ x.At ≤ (x.List.length : Int) <;> simp [c]
theorem within_eq (k f t : List UInt8) : impl_within k f t = some (!sLt k f && (decide (t = []) || sLt k t)) := by
  unfold impl_within
  by_cases h1 : sLt k f = true <;> by_cases h2 : t = [] <;> simp [h1, h2]
theorem l9Within_eq (k f t : List UInt8) : spec_l9Within k f t = some (!sLt k f && (decide (t = []) || sLt k t)) := by
  unfold spec_l9Within
  by_cases h1 : sLt k f = true <;> by_cases h2 : t = [] <;> simp [h1, h2]
theorem scan_up (p : Nat → Bool) (n : Nat) : ∀ d a, a + d = n → ∃ j, a ≤ j ∧ j ≤ n ∧ (∀ i, a ≤ i → i < j → p i = false) ∧ (j < n → p j = true)
  | 0, a, h => ⟨a, Nat.le_refl _, by omega, fun i h1 h2 => by omega, fun h => by omega⟩
  | d + 1, a, h => by
    cases hp : p a with
    | true => exact ⟨a, Nat.le_refl _, by omega, fun i h1 h2 => by omega, fun _ => hp⟩
    | false =>
      obtain ⟨j, h1, h2, h3, h4⟩ := scan_up p n d (a + 1) (by omega)
      refine ⟨j, by omega, h2, fun i h5 h6 => ?_, h4⟩
      by_cases e : i = a
      · rw [e]; exact hp
      · exact h3 i (by omega) h6
theorem cloneKV_eq (l : List KV) (h : l.length ≤ 1048576) : slices_Clone_74624 l = some l := by
  unfold slices_Clone_74624
  rw [app_ok (by simp; omega) (by simp; omega)]
  rfl
theorem moveTo_eq (x : Iter) (at_ : Int) (h : x.List.length ≤ 1048576) (h1 : -1 ≤ at_) (h2 : at_ ≤ x.List.length) : impl_moveTo x at_ = some (match idx x.List at_ with | some e => ({ x with At := at_ }, e, true) | none => ({ x with At := at_ }, { Key := [], Val := [] }, false)) := by
  unfold impl_moveTo
  rw [cloneKV_eq _ h]
  simp only [Option.bind_some]
  rw [wrap_ok (by omega) (by omega), inRange_eq]
  simp only [Option.bind_some]
  by_cases c : 0 ≤ at_ ∧ at_ ≤ (x.List.length : Int) - 1
  · have e : idx x.List at_ = some (x.List[at_.toNat]'(by omega)) := idx_of x.List at_ at_.toNat (by omega) (by omega)
    rw [e]
    simp [c]
  · have e : idx x.List at_ = none := by
      unfold idx
      by_cases h0 : 0 ≤ at_
      · rw [if_pos h0, List.getElem?_eq_none (by omega)]
      · rw [if_neg h0]
    rw [e]
    simp [c]
/-- where an iterator comes to rest -/
def restV (x : Iter) (at_ : Int) : Iter × KV × Bool := match idx x.List at_ with | some e => ({ x with At := at_ }, e, true) | none => ({ x with At := at_ }, { Key := [], Val := [] }, false)
theorem l14Go_up (x : Iter) (a : Nat) (key : List UInt8) (h : x.List.length ≤ 1048576) (ha : a ≤ x.List.length + 1) (j : Nat) (hj1 : a ≤ j ∨ j = x.List.length) (hj2 : j ≤ x.List.length) (hlo : ∀ i (hi : i < x.List.length), a ≤ i → i < j → (!sLt x.List[i].Key x.From && (decide (x.To = []) || sLt x.List[i].Key x.To) && !sLt x.List[i].Key key) = false)
    (hhi : ∀ hi : j < x.List.length, a ≤ j ∧ (!sLt x.List[j].Key x.From && (decide (x.To = []) || sLt x.List[j].Key x.To) && !sLt x.List[j].Key key) = true) : spec_l14Go x (a : Int) 1 key = some (restV x j) := by
  unfold spec_l14Go spec_l14Copy
  rw [app_ok (by simp; omega) (by simp; omega)]
  simp only [Option.bind_some, List.nil_append]
  by_cases hjn : j < x.List.length
  · obtain ⟨haj, hp⟩ := hhi hjn
    rw [loopO_count (fun k => ((a + k : Nat) : Int)) (j - a) (r := Ctl.done ({ List := x.List, From := x.From, To := x.To, At := (j : Int) : Iter }, x.List[j], true)) ?h0]
    case h0 => rfl
    · simp only [bindC_done]
      unfold restV
      rw [idx_nat x.List j hjn]
    · intro k hk
      have hik : a + k < x.List.length := by omega
      have hpk := hlo (a + k) hik (by omega) (by omega)
      simp only [idx_nat x.List (a + k) hik, Option.bind_some, l9Within_eq]
      rw [if_pos (by simp; omega)]
      simp only [Option.bind_some]
      rw [if_pos (by simp; omega), wrap_ok (by omega) (by omega)]
      by_cases c : (!sLt x.List[a + k].Key x.From && (decide (x.To = []) || sLt x.List[a + k].Key x.To)) = true
      · rw [c, Bool.true_and] at hpk
        simp only [c, if_true, hpk, Option.bind_some, Bool.false_eq_true, if_false]
        congr 2
      · simp only [c, if_false, Option.bind_some, Bool.false_eq_true]
        congr 2
    · rw [show a + (j - a) = j by omega]
      simp only [idx_nat x.List j hjn, Option.bind_some, l9Within_eq]
      rw [if_pos (by simp)]
      simp only [Option.bind_some]
      rw [if_pos (by simpa using hjn)]
      rw [Bool.and_eq_true] at hp
      simp only [hp.1, if_true, hp.2, Option.bind_some]
  · have hje : j = x.List.length := by omega
    subst hje
    have hrest : restV x (x.List.length : Int) = ({ List := x.List, From := x.From, To := x.To, At := (x.List.length : Int) : Iter }, { Key := [], Val := [] : KV }, false) := by
      unfold restV
      have : idx x.List (x.List.length : Int) = none := by unfold idx; rw [if_pos (by omega)]; simp
      rw [this]
    rw [hrest]
    rw [loopO_count (fun k => ((a + k : Nat) : Int)) (x.List.length - a) (r := Ctl.go ()) ?h0]
    case h0 => rfl
    · simp
    · intro k hk
      have hik : a + k < x.List.length := by omega
      have hpk := hlo (a + k) hik (by omega) (by omega)
      simp only [idx_nat x.List (a + k) hik, Option.bind_some, l9Within_eq]
      rw [if_pos (by simp; omega)]
      simp only [Option.bind_some]
      rw [if_pos (by simp; omega), wrap_ok (by omega) (by omega)]
      by_cases c : (!sLt x.List[a + k].Key x.From && (decide (x.To = []) || sLt x.List[a + k].Key x.To)) = true
      · rw [c, Bool.true_and] at hpk
        simp only [c, if_true, hpk, Option.bind_some, Bool.false_eq_true, if_false]
        congr 2
      · simp only [c, if_false, Option.bind_some, Bool.false_eq_true]
        congr 2
    · have : ¬ ((a + (x.List.length - a) : Nat) : Int) < (x.List.length : Int) := by omega
      rw [if_pos (by simp; omega)]
      simp only [this, decide_false, Option.bind_some, Bool.false_eq_true, if_false]

/-- within the bounds, and not less than the key -/
def goodV (x : Iter) (key : List UInt8) (i : Nat) : Bool := match x.List[i]? with | some e => (!sLt e.Key x.From && (decide (x.To = []) || sLt e.Key x.To)) && !sLt e.Key key | none => false
theorem goodV_at (x : Iter) (key : List UInt8) (i : Nat) (h : i < x.List.length) : goodV x key i = ((!sLt x.List[i].Key x.From && (decide (x.To = []) || sLt x.List[i].Key x.To)) && !sLt x.List[i].Key key) := by
  unfold goodV; rw [List.getElem?_eq_getElem h]
theorem isWithin_eq (x : Iter) (i : Nat) (h : i < x.List.length) : impl_Iter_isWithin x (i : Int) = some (goodV x [] i) := by
  unfold impl_Iter_isWithin
  rw [idx_nat _ i h]
  simp only [Option.bind_some, within_eq, goodV_at x [] i h, sLt_nil, Bool.not_false, Bool.and_true]
theorem up_stop (x : Iter) (key : List UInt8) (a : Nat) : ∃ j, (a ≤ j ∨ j = x.List.length) ∧ j ≤ x.List.length ∧ (∀ i, i < x.List.length → a ≤ i → i < j → goodV x key i = false) ∧ (j < x.List.length → a ≤ j ∧ goodV x key j = true) := by
  by_cases ha : a ≤ x.List.length
  · obtain ⟨j, h1, h2, h3, h4⟩ := scan_up (goodV x key) x.List.length (x.List.length - a) a (by omega)
    exact ⟨j, .inl h1, h2, fun i _ h5 h6 => h3 i h5 h6, fun h => ⟨h1, h4 h⟩⟩
  · exact ⟨x.List.length, .inr rfl, Nat.le_refl _, fun i h1 h2 _ => by omega, fun h => by omega⟩
theorem l14Go_up' (x : Iter) (a : Nat) (key : List UInt8) (h : x.List.length ≤ 1048576) (ha : a ≤ x.List.length + 1) (j : Nat) (hj1 : a ≤ j ∨ j = x.List.length) (hj2 : j ≤ x.List.length) (hlo : ∀ i, i < x.List.length → a ≤ i → i < j → goodV x key i = false) (hhi : j < x.List.length → a ≤ j ∧ goodV x key j = true) :
    spec_l14Go x (a : Int) 1 key = some (restV x j) := by
  refine l14Go_up x a key h ha j hj1 hj2 (fun i hi h1 h2 => ?_) fun hi => ?_
  · rw [← goodV_at x key i hi]; exact hlo i hi h1 h2
  · rw [← goodV_at x key j hi]; exact hhi hi
theorem IterNext_both (x : Iter) (h : x.List.length ≤ 1048576) : ∃ r, spec_IterNext x = some r ∧ impl_IterNext x = some r ∧ r.1.List.length ≤ 1048576 := by
  unfold spec_IterNext impl_IterNext
  obtain ⟨b, hb1, hb2, hb3⟩ := IterOk_both x h
  rw [hb1, hb2]
  cases b with
  | false => exact ⟨_, rfl, rfl, by simp⟩
  | true =>
    obtain ⟨h1, h2⟩ := hb3 rfl
    simp only [Option.bind_some, Bool.not_true, Bool.false_eq_true, if_false]
    rw [wrap_ok (n := x.At + 1) (by omega) (by omega)]
    obtain ⟨a, ha⟩ : ∃ a : Nat, x.At + 1 = (a : Int) := ⟨(x.At + 1).toNat, by omega⟩
    rw [ha]
    obtain ⟨j, k1, k2, k3, k4⟩ := up_stop x [] a
    rw [l14Go_up' x a [] h (by omega) j k1 k2 k3 k4]
    have hl : (restV x j).1.List = x.List := by unfold restV; split <;> rfl
    refine ⟨restV x j, rfl, ?_, by rw [hl]; exact h⟩
    rw [loopO_count (fun k => ((a + k : Nat) : Int)) (j - a) (r := Ctl.go ((a + (j - a) : Nat) : Int)) ?h0]
    case h0 => rfl
    · simp only [bindC_go]
      have hm : goMin ((a + (j - a) : Nat) : Int) (x.List.length : Int) = (j : Int) := by unfold goMin; split <;> omega
      rw [hm, moveTo_eq x j h (by omega) (by omega)]
      rfl
    · intro k hk
      have hik : a + k < x.List.length := by omega
      rw [isWithin_eq x (a + k) hik, k3 (a + k) hik (by omega) (by omega), if_pos (by simp; omega), wrap_ok (by omega) (by omega)]
      simp
      omega
    · by_cases hjn : j < x.List.length
      · obtain ⟨haj, hp⟩ := k4 hjn
        rw [show a + (j - a) = j by omega, isWithin_eq x j hjn, hp]
        simp
      · rw [if_neg (by simp; omega)]
        rfl
theorem IterSeek_both (x : Iter) (key : List UInt8) (h : x.List.length ≤ 1048576) : ∃ r, spec_IterSeek x key = some r ∧ impl_IterSeek x key = some r ∧ r.1.List.length ≤ 1048576 := by
  unfold spec_IterSeek impl_IterSeek
  obtain ⟨b, hb1, hb2, hb3⟩ := IterOk_both x h
  rw [hb1, hb2]
  cases b with
  | false => exact ⟨_, rfl, rfl, by simp⟩
  | true =>
    simp only [Option.bind_some, Bool.not_true, Bool.false_eq_true, if_false]
    obtain ⟨j, k1, k2, k3, k4⟩ := up_stop x key 0
    have hgo := l14Go_up' x 0 key h (by omega) j k1 k2 k3 k4
    rw [Int.natCast_zero] at hgo
    rw [hgo]
    have hl : (restV x j).1.List = x.List := by unfold restV; split <;> rfl
    refine ⟨restV x j, rfl, ?_, by rw [hl]; exact h⟩
    rw [loopO_count (fun k => (k : Int)) j (r := Ctl.go (j : Int)) ?h0]
    case h0 => rfl
    · simp only [bindC_go]
      rw [moveTo_eq x j h (by omega) (by omega)]
      rfl
    · intro k hk
      have hik : k < x.List.length := by omega
      have hp := k3 k hik (by omega) hk
      rw [goodV_at x key k hik] at hp
      rw [isWithin_eq x k hik, idx_nat x.List k hik, if_pos (by simpa using hik), wrap_ok (by omega) (by omega)]
      have hg := goodV_at x [] k hik
      simp only [sLt_nil, Bool.not_false, Bool.and_true] at hg
      rw [hg]
      simp only [Option.bind_some]
      by_cases c : sLt x.List[k].Key key = true
      · simp [c]
      · have c' : sLt x.List[k].Key key = false := by simpa using c
        rw [c', Bool.not_false, Bool.and_true] at hp
        simp only [c', hp, Bool.false_eq_true, if_false, Option.bind_some, Bool.not_false, if_true]
        congr 2
    · by_cases hjn : j < x.List.length
      · obtain ⟨haj, hp⟩ := k4 hjn
        rw [goodV_at x key j hjn, Bool.and_eq_true] at hp
        rw [isWithin_eq x j hjn, idx_nat x.List j hjn, if_pos (by simpa using hjn)]
        have hg := goodV_at x [] j hjn
        simp only [sLt_nil, Bool.not_false, Bool.and_true] at hg
        rw [hg]
        have c' : sLt x.List[j].Key key = false := by simpa using hp.2
        simp only [c', hp.1, Option.bind_some, Bool.false_eq_true, if_false, Bool.not_true]
      · rw [if_neg (by simp; omega)]
        rfl

theorem FnExactIterNext_pure (x : Iter) (h : Dec.ok x) : laws_FnExactIterNext x = some true := by
  unfold laws_FnExactIterNext
  rw [szIter_eq x 1048576 (by omega) (by omega) h]
  generalize hw : x.List.length + (x.List.map fun x => x.Key.length + x.Val.length).sum + x.From.length + x.To.length = w
  simp only [Option.bind_some]
  by_cases hl : szV 1048576 w < 0
  · rw [if_pos (by simpa using hl)]
  · have hn := szV_nonneg hl
    have hl' : x.List.length ≤ 1048576 := by omega
    rw [if_neg (by simpa using hl), toIter_eq x hl']
    obtain ⟨r, hr1, hr2, hr3⟩ := IterNext_both x hl'
    simp only [Option.bind_some, hr1, hr2, eqIter_eq r.1 r.1 hr3, eqIter_eq x x hl', eqKV_eq, markIter_eq x 1 hl' (by omega) (by omega), markIter_eq r.1 1 hr3 (by omega) (by omega), heldIter_eq { List := r.1.List.mapIdx fun i _ => markKV 1 i, From := r.1.From, To := r.1.To, At := r.1.At } r.1.List 1 rfl hr3 (by omega) (by omega)]
    have n1 : ¬ (1 + 2 * (x.List.length : Int) < 0) := by omega
    have n2 : ¬ (1 + 2 * (r.1.List.length : Int) < 0) := by omega
    simp [n1, n2]
theorem FnExactIterNext_proved : Rows.FnExactIterNextSaid := FnExactIterNext_over fun x h => FnExactIterNext_pure x h
theorem FnExactIterSeek_pure (x : Iter) (key : List UInt8) (h : Dec.ok x) : laws_FnExactIterSeek x key = some true := by
  unfold laws_FnExactIterSeek
  by_cases hk : ((key.length : Nat) : Int) > 1048576
  · simp [hk]
  · rw [if_neg (by simpa using hk), szIter_eq x 1048576 (by omega) (by omega) h]
    generalize hw : x.List.length + (x.List.map fun x => x.Key.length + x.Val.length).sum + x.From.length + x.To.length = w
    simp only [Option.bind_some]
    by_cases hl : szV 1048576 w < 0
    · rw [if_pos (by simpa using hl)]
    · have hn := szV_nonneg hl
      have hl' : x.List.length ≤ 1048576 := by omega
      rw [if_neg (by simpa using hl), toIter_eq x hl']
      obtain ⟨r, hr1, hr2, hr3⟩ := IterSeek_both x key hl'
      simp only [Option.bind_some, hr1, hr2, eqIter_eq r.1 r.1 hr3, eqIter_eq x x hl', eqKV_eq, markIter_eq x 1 hl' (by omega) (by omega), markIter_eq r.1 1 hr3 (by omega) (by omega), heldIter_eq { List := r.1.List.mapIdx fun i _ => markKV 1 i, From := r.1.From, To := r.1.To, At := r.1.At } r.1.List 1 rfl hr3 (by omega) (by omega)]
      have n1 : ¬ (1 + 2 * (x.List.length : Int) < 0) := by omega
      have n2 : ¬ (1 + 2 * (r.1.List.length : Int) < 0) := by omega
      simp [n1, n2]
theorem FnExactIterSeek_proved : Rows.FnExactIterSeekSaid := FnExactIterSeek_over fun x key h _ => FnExactIterSeek_pure x key h
theorem down_stop (p : Nat → Bool) : ∀ n : Nat, ∃ j : Nat, j ≤ n ∧ (∀ i, j ≤ i → i < n → p i = false) ∧ (0 < j → p (j - 1) = true)
  | 0 => ⟨0, Nat.le_refl _, fun i h1 h2 => by omega, fun h => by omega⟩
  | n + 1 => by
    cases hp : p n with
    | true => exact ⟨n + 1, Nat.le_refl _, fun i h1 h2 => by omega, fun _ => by simpa using hp⟩
    | false =>
      obtain ⟨j, h1, h2, h3⟩ := down_stop p n
      refine ⟨j, by omega, fun i h4 h5 => ?_, h3⟩
      by_cases e : i = n
      · rw [e]; exact hp
      · exact h2 i h4 (by omega)
theorem restV_none (x : Iter) (a : Int) (h : a < 0) : restV x a = ({ List := x.List, From := x.From, To := x.To, At := a : Iter }, { Key := [], Val := [] : KV }, false) := by
  unfold restV
  have : idx x.List a = none := by unfold idx; rw [if_neg (by omega)]
  rw [this]
theorem IterPrev_both (x : Iter) (h : x.List.length ≤ 1048576) : ∃ r, spec_IterPrev x = some r ∧ impl_IterPrev x = some r ∧ r.1.List.length ≤ 1048576 := by
  unfold spec_IterPrev impl_IterPrev
  obtain ⟨b, hb1, hb2, hb3⟩ := IterOk_both x h
  rw [hb1, hb2]
  cases b with
  | false => exact ⟨_, rfl, rfl, by simp⟩
  | true =>
    obtain ⟨h1, h2⟩ := hb3 rfl
    simp only [Option.bind_some, Bool.not_true, Bool.false_eq_true, if_false]
    rw [wrap_ok (n := x.At - 1) (by omega) (by omega)]
    -- the places from At - 1 down: n of them
    obtain ⟨n, hn⟩ : ∃ n : Nat, n = x.At.toNat := ⟨_, rfl⟩
    have hnl : n ≤ x.List.length := by omega
    obtain ⟨j, k1, k2, k3⟩ := down_stop (goodV x []) n
    have hstart : x.At - 1 = (n : Int) - 1 ∨ x.At = -1 := by omega
    have hl : (restV x ((j : Int) - 1)).1.List = x.List := by unfold restV; split <;> rfl
    by_cases hm1 : x.At = -1
    · have hj : j = 0 := by omega
      subst hj
      rw [hm1]
      refine ⟨restV x (-1), ?_, ?_, by simpa using (show (restV x (-1)).1.List.length ≤ 1048576 by rw [show (restV x (-1)).1.List = x.List by unfold restV; split <;> rfl]; exact h)⟩
      · unfold spec_l14Go spec_l14Copy
        rw [app_ok (by simp; omega) (by simp; omega)]
        simp only [Option.bind_some, List.nil_append]
        rw [loopO_eq, restV_none x (-1) (by omega)]
        rfl
      · rw [loopO_eq]
        have e : impl_moveTo x (goMax (-1 - 1) (-1)) = some (restV x (-1)) := moveTo_eq x (-1) h (by omega) (by omega)
        show ((impl_moveTo x (goMax (-1 - 1) (-1))).bind _) = _
        rw [e]
        rfl
    · have hs : x.At - 1 = (n : Int) - 1 := by omega
      rw [hs]
      refine ⟨restV x ((j : Int) - 1), ?_, ?_, by rw [hl]; exact h⟩
      · unfold spec_l14Go spec_l14Copy
        rw [app_ok (by simp; omega) (by simp; omega)]
        simp only [Option.bind_some, List.nil_append]
        rw [loopO_count (fun k => (n : Int) - 1 - (k : Int)) (n - j) (r := if hj : 0 < j then Ctl.done ({ List := x.List, From := x.From, To := x.To, At := (j : Int) - 1 : Iter }, x.List[j - 1]'(by omega), true) else Ctl.go ()) ?h0]
        case h0 => simp
        · by_cases hj : 0 < j
          · rw [dif_pos hj]
            unfold restV
            rw [show (j : Int) - 1 = ((j - 1 : Nat) : Int) by omega, idx_nat x.List (j - 1) (by omega)]
            rfl
          · rw [dif_neg hj, restV_none x _ (by omega)]
            have : (j : Int) - 1 = -1 := by omega
            rw [this]
            rfl
        · intro k hk
          have hi : (n : Int) - 1 - (k : Int) = ((n - 1 - k : Nat) : Int) := by omega
          have hik : n - 1 - k < x.List.length := by omega
          have hp := k2 (n - 1 - k) (by omega) (by omega)
          rw [goodV_at x [] _ hik] at hp
          simp only [sLt_nil, Bool.not_false, Bool.and_true] at hp
          rw [hi]
          simp only [idx_nat x.List (n - 1 - k) hik, Option.bind_some, l9Within_eq]
          rw [if_pos (by simp)]
          simp only [Option.bind_some]
          rw [if_pos (by simp; omega), wrap_ok (by omega) (by omega)]
          simp only [hp, Bool.false_eq_true, if_false, Option.bind_some]
          congr 2
          omega
        · by_cases hj : 0 < j
          · rw [dif_pos hj]
            have hi : (n : Int) - 1 - ((n - j : Nat) : Int) = ((j - 1 : Nat) : Int) := by omega
            have hik : j - 1 < x.List.length := by omega
            have hp := k3 hj
            rw [goodV_at x [] _ hik] at hp
            simp only [sLt_nil, Bool.not_false, Bool.and_true] at hp
            rw [hi]
            simp only [idx_nat x.List (j - 1) hik, Option.bind_some, l9Within_eq]
            rw [if_pos (by simp)]
            simp only [Option.bind_some]
            rw [if_pos (by simp; omega)]
            simp only [hp, if_true, sLt_nil, Bool.not_false, Option.bind_some]
            congr 5
            omega
          · rw [dif_neg hj, if_neg (by simp; omega)]
            rfl
      · rw [loopO_count (fun k => (n : Int) - 1 - (k : Int)) (n - j) (r := Ctl.go ((j : Int) - 1)) ?h0]
        case h0 => simp
        · simp only [bindC_go]
          have hm : goMax ((j : Int) - 1) (-1) = (j : Int) - 1 := by unfold goMax; split <;> omega
          rw [hm, moveTo_eq x _ h (by omega) (by omega)]
          rfl
        · intro k hk
          have hi : (n : Int) - 1 - (k : Int) = ((n - 1 - k : Nat) : Int) := by omega
          have hik : n - 1 - k < x.List.length := by omega
          have hp := k2 (n - 1 - k) (by omega) (by omega)
          rw [hi, isWithin_eq x _ hik, hp, if_pos (by simp), wrap_ok (by omega) (by omega)]
          simp
          omega
        · by_cases hj : 0 < j
          · have hi : (n : Int) - 1 - ((n - j : Nat) : Int) = ((j - 1 : Nat) : Int) := by omega
            have hik : j - 1 < x.List.length := by omega
            rw [hi, isWithin_eq x _ hik, k3 hj, if_pos (by simp)]
            simp
            omega
          · have hi : (n : Int) - 1 - ((n - j : Nat) : Int) = (j : Int) - 1 := by omega
            rw [hi, if_neg (by simp; omega)]
            rfl
theorem FnExactIterPrev_pure (x : Iter) (h : Dec.ok x) : laws_FnExactIterPrev x = some true := by
  unfold laws_FnExactIterPrev
  rw [szIter_eq x 1048576 (by omega) (by omega) h]
  generalize hw : x.List.length + (x.List.map fun x => x.Key.length + x.Val.length).sum + x.From.length + x.To.length = w
  simp only [Option.bind_some]
  by_cases hl : szV 1048576 w < 0
  · rw [if_pos (by simpa using hl)]
  · have hn := szV_nonneg hl
    have hl' : x.List.length ≤ 1048576 := by omega
    rw [if_neg (by simpa using hl), toIter_eq x hl']
    obtain ⟨r, hr1, hr2, hr3⟩ := IterPrev_both x hl'
    simp only [Option.bind_some, hr1, hr2, eqIter_eq r.1 r.1 hr3, eqIter_eq x x hl', eqKV_eq, markIter_eq x 1 hl' (by omega) (by omega), markIter_eq r.1 1 hr3 (by omega) (by omega), heldIter_eq { List := r.1.List.mapIdx fun i _ => markKV 1 i, From := r.1.From, To := r.1.To, At := r.1.At } r.1.List 1 rfl hr3 (by omega) (by omega)]
    have n1 : ¬ (1 + 2 * (x.List.length : Int) < 0) := by omega
    have n2 : ¬ (1 + 2 * (r.1.List.length : Int) < 0) := by omega
    simp [n1, n2]
theorem FnExactIterPrev_proved : Rows.FnExactIterPrevSaid := FnExactIterPrev_over fun x h => FnExactIterPrev_pure x h

end Go.Proofs.Ytpfndjojoikkgab
