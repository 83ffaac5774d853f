/-
  The plain laws: what the pure functions come to, and the statements. Conditions: none.
-/
import Derived.Test.YthlnhpkdccojcaaPm
import Derived.Test.YthlnhpkdccojcaaS3
set_option linter.unusedVariables false
set_option linter.unusedSimpArgs false
namespace Go.Proofs.Ythlnhpkdccojcaa
open Go Sl

theorem inRange_eq (n a b : Int) : impl_inRange n a b = some (decide (a ≤ n ∧ n ≤ b)) := by
  unfold impl_inRange
  by_cases h : n ≥ a <;> simp [h]
theorem l1In_eq (n a b : Int) : spec_l1In n a b = some (decide (a ≤ n ∧ n ≤ b)) := by
  unfold spec_l1In
  by_cases h : n ≥ a <;> simp [h]
/-! ### SpaceOk -/
theorem szIntS_eq (a : List Int) (left : Int) (h1 : 0 ≤ left) (h2 : left ≤ 1048576) (h3 : a.length ≤ 9223372036854775807) :
    laws_szIntS a left = some (if left < a.length then -1 else left - a.length) := by
  unfold laws_szIntS
  rw [wrap_ok (by omega) (by omega)]
  by_cases h : left - (a.length : Int) < 0
  · simp [h, show left < (a.length : Int) by omega]
  · simp [h, show ¬ left < (a.length : Int) by omega]
theorem toIntS_eq (a : List Int) (h : a.length ≤ 1048576) : laws_toIntS a = some a := by
  have := to_loop a 0 (fun x => some x) (fun _ _ => rfl) (by omega)
  simp only [Option.bind_some] at this
  unfold laws_toIntS
  rw [mkLen_ok (by omega) (by omega)]
  simp only [Option.bind_some]
  rw [this]
  rfl
theorem eqIntS_eq (a b : List Int) (h : a.length ≤ 1048576) : laws_eqIntS a b = some (decide (a = b)) := by
  have := eqS_of a b (fun x y => some (decide (x = y))) (fun _ _ _ _ => rfl) (by omega)
  simp only [Option.bind_some] at this
  exact this
theorem all_range (l : List Int) (p : Int → Bool) (f : Int → Option Bool) (hf : ∀ x, f x = some (p x)) (hl : l.length ≤ 1048576) :
    loopO (ρ := Ctl Unit Bool) (fun (S6 : Int) => if (decide (S6 < ((l.length : Nat) : Int))) = true then ((idx l S6).bind fun E11 =>
  (f E11).bind fun R13 =>
  if (!R13) = true then (some (.done (.done false)))
  else (some (.go (IntKind.i64.wrap (S6 + (1 : Int))))))
  else (some (.done (.go ())))) (0 : Int) = some (if l.all p then .go () else .done false) := by
  rw [loopO_list l (fun k (_ : Unit) => (k : Int)) (fun _ x _ => if p x then some (Ctl.go ()) else some (Ctl.done (Ctl.done false))) (fun _ => some (Ctl.go ())) () ?h0 ?hs ?hf]
  case h0 => rfl
  case hs =>
    intro k hk _
    simp only [idx_nat l k hk, Option.bind_some, hf]
    rw [wrap_ok (by omega) (by omega)]
    by_cases he : p l[k] = true
    · simp [he, Ctl.mapGo, hk]
    · simp [he, Ctl.mapGo, hk]
  case hf => intro _; simp
  rw [runL_all p (Ctl.done false) _ _ (by intro k x _; rfl)]
  split <;> rfl
/-- giving blocks back, one by one -/
def giveV (who : Int) : List Int → List Int → Option (List Int)
  | [], s => some s
  | b :: bs, s => if 0 ≤ b ∧ b < s.length ∧ s[b.toNat]? = some who ∧ 1 ≤ who then giveV who bs (s.set b.toNat 0) else none
theorem giveV_cons (who b : Int) (bs s : List Int) : giveV who (b :: bs) s = if 0 ≤ b ∧ b < s.length ∧ s[b.toNat]? = some who ∧ 1 ≤ who then giveV who bs (s.set b.toNat 0) else none := rfl
theorem giveV_nil (who : Int) (s : List Int) : giveV who [] s = some s := rfl
theorem giveV_length (who : Int) : ∀ (bs s r : List Int), giveV who bs s = some r → r.length = s.length
  | [], s, r, h => by simp [giveV] at h; rw [h]
  | b :: bs, s, r, h => by
    unfold giveV at h
    split at h
    · rw [giveV_length who bs _ r h, List.length_set]
    · cases h
theorem idx_some' {α : Type} {l : List α} {i : Int} (h0 : 0 ≤ i) (h1 : i < l.length) : idx l i = some (l[i.toNat]'(by omega)) := by
  unfold idx; rw [if_pos h0, List.getElem?_eq_getElem]
/-- what a quota needs -/
def needV (q : Int) : Int := if 0 ≤ q ∧ q ≤ 1000 then 2 + 2 * ((q + 49) / 50) else 0
theorem needV_range (q : Int) : 0 ≤ needV q ∧ needV q ≤ 42 := by
  unfold needV; split <;> omega
theorem markText_loop (m : Nat) : ∀ s : List UInt8, s.length + m ≤ 9223372036854775806 → ∃ r : List UInt8, loopO (ρ := Ctl (List UInt8) (List UInt8)) (fun (S2 : Int × List UInt8) => if (decide (S2.1 > (0 : Int))) = true then ((cat ([toU8 (IntKind.i64.wrap ((48 : Int) + (Int.tmod S2.1 (10 : Int))))]) S2.2).bind fun E8 =>
  some (.go (IntKind.i64.wrap (Int.tdiv S2.1 (10 : Int)), E8)))
  else (some (.done (.go S2.2)))) ((m : Int), s) = some (.go r) ∧ r.length ≤ s.length + m := by
  induction m using Nat.strongRecOn with
  | _ m ih =>
    intro s hs
    rw [loopO_eq]
    by_cases h0 : m = 0
    · subst h0
      exact ⟨s, by simp, by omega⟩
    · simp only
      rw [if_pos (by simp; omega), cat_ok (by simp; omega)]
      have hd : Int.tdiv (m : Int) 10 = ((m / 10 : Nat) : Int) := rfl
      rw [hd, wrap_ok (n := ((m / 10 : Nat) : Int)) (by omega) (by omega)]
      simp only [Option.bind_some]
      obtain ⟨r, hr, hl⟩ := ih (m / 10) (by omega) ([toU8 (IntKind.i64.wrap ((48 : Int) + (Int.tmod (m : Int) (10 : Int))))] ++ s) (by simp; omega)
      exact ⟨r, hr, by simp at hl; omega⟩
def wgt_File (x : File) : Nat := x.Lo.length + (x.Hi.length + 0)
theorem sz_File (x : File) (left : Int) (h1 : 0 ≤ left) (h2 : left ≤ 1048576) (h : Dec.ok x) : laws_szFile x left = some (szV left (wgt_File x)) := by
  unfold laws_szFile
  show _ = some (szV left (x.Lo.length + (x.Hi.length + 0)))
  refine sz_str h1 h2 (h.2.2.1) fun hle0 hw0 => ?_
  simp only [hw0]
  have g1_0 : 0 ≤ left - ((x.Lo.length : Nat) : Int) := by omega
  have g2_0 : left - ((x.Lo.length : Nat) : Int) ≤ 1048576 := by omega
  refine sz_str g1_0 g2_0 (h.2.2.2) fun hle1 hw1 => ?_
  simp only [hw1]
  have g1_1 : 0 ≤ left - ((x.Lo.length : Nat) : Int) - ((x.Hi.length : Nat) : Int) := by omega
  have g2_1 : left - ((x.Lo.length : Nat) : Int) - ((x.Hi.length : Nat) : Int) ≤ 1048576 := by omega
  exact sz_end g1_1
theorem to_File (x : File) : laws_toFile x = some x := rfl
theorem eq_File (a b : File) : laws_eqFile a b = some (decide (a = b)) := by
  have he : (a = b) ↔ (a.No = b.No ∧ a.Level = b.Level ∧ a.Lo = b.Lo ∧ a.Hi = b.Hi ∧ True) := ⟨fun e => by subst e; simp, fun h => by cases a; cases b; simp_all⟩
  rw [decide_eq_decide.2 he]
  unfold laws_eqFile
  refine eq_step fun _ => ?_
  refine eq_step fun _ => ?_
  refine eq_step fun _ => ?_
  refine eq_step fun _ => ?_
  exact eq_end
theorem sz_FileS (a : List File) (left : Int) (h1 : 0 ≤ left) (h2 : left ≤ 1048576) (h : okl a) : laws_szFileS a left = some (szV left (wS wgt_File a)) := by
  unfold laws_szFileS
  exact szS_of a laws_szFile wgt_File (fun x hx left h1 h2 => sz_File x left h1 h2 (h.2 x hx)) h.1 left h1 h2
theorem to_FileS (a : List File) (h : a.length ≤ 1048576) : laws_toFileS a = some a := by
  unfold laws_toFileS
  rw [mkLen_ok (by omega) (by omega)]
  simp only [Option.bind_some]
  rw [to_loop a _ laws_toFile (fun x _ => rfl) (by omega)]
  rfl
theorem eq_FileS (a b : List File) (h : a.length ≤ 4611686018427387904) : laws_eqFileS a b = some (decide (a = b)) :=
  eqS_of a b laws_eqFile (fun x y _ _ => eq_File x y) h
theorem sz_IntS (a : List Int) (left : Int) (h1 : 0 ≤ left) (h2 : left ≤ 1048576) (h : okl a) : laws_szIntS a left = some (szV left a.length) := by
  unfold laws_szIntS
  exact sz_len h1 h2 h.1
theorem to_IntS (a : List Int) (h : a.length ≤ 1048576) : laws_toIntS a = some a := by
  have := fun z => to_loop a z (fun x => some x) (fun _ _ => rfl) (by omega)
  simp only [Option.bind_some] at this
  unfold laws_toIntS
  rw [mkLen_ok (by omega) (by omega)]
  simp only [Option.bind_some]
  rw [this]
  rfl
theorem eq_IntS (a b : List Int) (h : a.length ≤ 4611686018427387904) : laws_eqIntS a b = some (decide (a = b)) := by
  have := eqS_of a b (fun x y => some (decide (x = y))) (fun _ _ _ _ => rfl) h
  simp only [Option.bind_some] at this
  exact this
def wgt_Edit (x : Edit) : Nat := wS wgt_File x.Add + (x.Drop.length + 0)
theorem sz_Edit (x : Edit) (left : Int) (h1 : 0 ≤ left) (h2 : left ≤ 1048576) (h : Dec.ok x) : laws_szEdit x left = some (szV left (wgt_Edit x)) := by
  unfold laws_szEdit
  show _ = some (szV left (wS wgt_File x.Add + (x.Drop.length + 0)))
  rw [sz_FileS x.Add _ h1 h2 (h.1)]
  refine sz_call h1 fun hle0 => ?_
  have g1_0 : 0 ≤ left - ((wS wgt_File x.Add : Nat) : Int) := by omega
  have g2_0 : left - ((wS wgt_File x.Add : Nat) : Int) ≤ 1048576 := by omega
  rw [sz_IntS x.Drop _ g1_0 g2_0 (h.2)]
  refine sz_call g1_0 fun hle1 => ?_
  have g1_1 : 0 ≤ left - ((wS wgt_File x.Add : Nat) : Int) - ((x.Drop.length : Nat) : Int) := by omega
  have g2_1 : left - ((wS wgt_File x.Add : Nat) : Int) - ((x.Drop.length : Nat) : Int) ≤ 1048576 := by omega
  exact sz_end g1_1
def bnd_Edit (x : Edit) : Prop := x.Add.length ≤ 4611686018427387904 ∧ x.Drop.length ≤ 4611686018427387904
theorem to_Edit (x : Edit) (h : wgt_Edit x ≤ 1048576) : laws_toEdit x = some x := by
  unfold laws_toEdit
  have h0 : wS wgt_File x.Add + (x.Drop.length + 0) ≤ 1048576 := h
  simp only [to_FileS x.Add (wS_len (w := wgt_File) (l := x.Add) (by omega)), to_IntS x.Drop (by omega), Option.bind_some]
theorem bnd_of_Edit (x : Edit) (h : wgt_Edit x ≤ 1048576) : bnd_Edit x := by
  have h0 : wS wgt_File x.Add + (x.Drop.length + 0) ≤ 1048576 := h
  exact ⟨Nat.le_trans (wS_len (w := wgt_File) (n := 1048576) (by omega)) (by decide), (show x.Drop.length ≤ 4611686018427387904 by omega)⟩
theorem eq_Edit (a b : Edit) (h : bnd_Edit a) : laws_eqEdit a b = some (decide (a = b)) := by
  have he : (a = b) ↔ (a.Add = b.Add ∧ a.Drop = b.Drop ∧ True) := ⟨fun e => by subst e; simp, fun h => by cases a; cases b; simp_all⟩
  rw [decide_eq_decide.2 he]
  unfold laws_eqEdit
  rw [eq_FileS a.Add b.Add h.1]
  refine eq_call fun _ => ?_
  rw [eq_IntS a.Drop b.Drop h.2]
  refine eq_call fun _ => ?_
  exact eq_end

/-- a list turned up to a place -/
def preM {α : Type} (f : α → α) (l : List α) (k : Nat) : List α := (l.take k).map f ++ l.drop k
theorem preM_length {α : Type} (f : α → α) (l : List α) (k : Nat) : (preM f l k).length = l.length := by unfold preM; simp; omega
theorem preM_get {α : Type} (f : α → α) (l : List α) (k : Nat) (h : k < l.length) : idx (preM f l k) (k : Int) = some l[k] := by
  rw [idx_nat _ k (by rw [preM_length]; exact h)]
  congr 1
  have hl : ((l.take k).map f).length = k := by rw [List.length_map, List.length_take]; omega
  unfold preM
  rw [List.getElem_append_right (by omega)]
  simp only [hl, Nat.sub_self]
  simp
theorem preM_set {α : Type} (f : α → α) (l : List α) (k : Nat) (h : k < l.length) : (preM f l k).set k (f l[k]) = preM f l (k + 1) := by
  have hl : ((l.take k).map f).length = k := by rw [List.length_map, List.length_take]; omega
  have htk : l.take (k + 1) = l.take k ++ [l[k]] := by rw [List.take_add_one, List.getElem?_eq_getElem h]; rfl
  unfold preM
  rw [List.set_append_right _ _ (by omega), hl, Nat.sub_self, htk, List.drop_eq_getElem_cons h, List.set_cons_zero, List.map_append, List.append_assoc]
  rfl
theorem preM_same {α : Type} (f : α → α) (l : List α) (k : Nat) (h : k < l.length) (hf : f l[k] = l[k]) : preM f l (k + 1) = preM f l k := by
  rw [← preM_set f l k h, hf]
  apply List.ext_getElem?
  intro j
  rw [List.getElem?_set]
  split
  · rename_i he
    subst he
    have := preM_get f l k h
    unfold idx at this
    rw [if_pos (by omega), Int.toNat_natCast] at this
    rw [if_pos (by rw [preM_length]; exact h), this]
  · rfl
theorem preM_all {α : Type} (f : α → α) (l : List α) : preM f l l.length = l.map f := by unfold preM; simp
/-- a tenant's blocks, wiped -/
def wipeV (who : Int) (l : List Int) : List Int := l.map fun x => if x = who then 0 else x
/-- the first n free blocks of the first k -/
def freeIx (l : List Int) (n : Int) : Nat → List Nat
  | 0 => []
  | k + 1 => if l[k]? = some 0 ∧ ((freeIx l n k).length : Int) < n then freeIx l n k ++ [k] else freeIx l n k
theorem freeIx_lt (l : List Int) (n : Int) : ∀ k, ∀ i ∈ freeIx l n k, i < k
  | 0, i, h => by simp [freeIx] at h
  | k + 1, i, h => by
    unfold freeIx at h
    split at h
    · rcases List.mem_append.1 h with h | h
      · have := freeIx_lt l n k i h; omega
      · have : i = k := by simpa using h
        omega
    · have := freeIx_lt l n k i h; omega
theorem freeIx_length (l : List Int) (n : Int) : ∀ k, (freeIx l n k).length ≤ k
  | 0 => by simp [freeIx]
  | k + 1 => by
    have := freeIx_length l n k
    unfold freeIx
    split
    · simp; omega
    · omega
theorem freeIx_sat (l : List Int) (n : Int) (k : Nat) (h : ¬ ((freeIx l n k).length : Int) < n) : ∀ d, freeIx l n (k + d) = freeIx l n k
  | 0 => rfl
  | d + 1 => by
    have := freeIx_sat l n k h d
    have e : freeIx l n (k + (d + 1)) = if l[k + d]? = some 0 ∧ ((freeIx l n (k + d)).length : Int) < n then freeIx l n (k + d) ++ [k + d] else freeIx l n (k + d) := rfl
    rw [e, this, if_neg (fun h2 => h h2.2)]
theorem freeIx_count (l : List Int) (n : Int) (hn : 1 ≤ n) : ∀ k, k ≤ l.length → (((freeIx l n k).length : Int) < n ↔ (((l.take k).countP fun x => decide (x = 0) : Nat) : Int) < n) ∧ ((((l.take k).countP fun x => decide (x = 0) : Nat) : Int) < n → (freeIx l n k).length = ((l.take k).countP fun x => decide (x = 0))) ∧
    ((((l.take k).countP fun x => decide (x = 0) : Nat) : Int) = n → ((freeIx l n k).length : Int) = n)
  | 0, _ => by simp [freeIx]
  | k + 1, hk => by
    obtain ⟨h1, h2, h3⟩ := freeIx_count l n hn k (by omega)
    have hk' : k < l.length := by omega
    have htk : l.take (k + 1) = l.take k ++ [l[k]] := by rw [List.take_add_one, List.getElem?_eq_getElem hk']; rfl
    unfold freeIx
    rw [htk, List.countP_append, List.getElem?_eq_getElem hk']
    by_cases hx : l[k] = 0
    · simp only [hx, true_and, List.countP_cons, List.countP_nil, decide_true, if_true, Nat.zero_add]
      by_cases hc : ((freeIx l n k).length : Int) < n
      · rw [if_pos hc]
        have := h2 (h1.1 hc)
        simp only [List.length_append, List.length_cons, List.length_nil]
        omega
      · rw [if_neg hc]
        have : ¬ (((l.take k).countP fun x => decide (x = 0) : Nat) : Int) < n := fun h => hc (h1.2 h)
        omega
    · simp only [List.countP_cons, List.countP_nil, hx, decide_false, Bool.false_eq_true, if_false, Nat.add_zero]
      rw [if_neg (by simp [hx])]
      exact ⟨h1, h2, h3⟩
/-- blocks given to somebody -/
def setAll (who : Int) (l : List Int) (g : List Nat) : List Int := g.foldl (fun s i => s.set i who) l
theorem setAll_length (who : Int) (g : List Nat) : ∀ l, (setAll who l g).length = l.length := by
  induction g with
  | nil => intro l; rfl
  | cons i g ih => intro l; show (setAll who (l.set i who) g).length = _; rw [ih, List.length_set]
theorem setAll_snoc (who : Int) (l : List Int) (g : List Nat) (i : Nat) : setAll who l (g ++ [i]) = (setAll who l g).set i who := by
  unfold setAll; rw [List.foldl_append]; rfl
theorem sLt_nil (a : List UInt8) : sLt a [] = false := by cases a <;> rfl
theorem sLt_compl : ∀ a b : List UInt8, (sLt b a || decide (b = a)) = !sLt a b
  | [], [] => rfl
  | [], b :: y => by simp [sLt, Op.bytesLess]
  | a :: x, [] => by simp [sLt, Op.bytesLess]
  | a :: x, b :: y => by
    have ih := sLt_compl x y
    simp only [sLt] at ih
    simp only [sLt, Op.bytesLess]
    by_cases h1 : a < b
    · have h2 : ¬ b < a := fun h => absurd (UInt8.lt_trans h1 h) (UInt8.lt_irrefl _)
      have h3 : ¬ b = a := fun h => by subst h; exact UInt8.lt_irrefl _ h1
      simp [h1, h2, h3]
    · by_cases h2 : b < a
      · have h3 : ¬ a = b := fun h => by subst h; exact UInt8.lt_irrefl _ h2
        simp [h1, h2, h3]
      · have h3 : a = b := by
          rw [UInt8.lt_iff_toNat_lt] at h1 h2
          apply UInt8.toNat_inj.1
          omega
        subst h3
        simp only [h1, decide_false, Bool.false_or, beq_self_eq_true, Bool.true_and, List.cons.injEq, true_and]
        exact ih
theorem scan_up (p : Nat → Bool) (n : Nat) : ∀ d a, a + d = n → ∃ j, a ≤ j ∧ j ≤ n ∧ (∀ i, a ≤ i → i < j → p i = false) ∧ (j < n → p j = true)
  | 0, a, h => ⟨a, Nat.le_refl _, by omega, fun i h1 h2 => by omega, fun h => by omega⟩
  | d + 1, a, h => by
    cases hp : p a with
    | true => exact ⟨a, Nat.le_refl _, by omega, fun i h1 h2 => by omega, fun _ => hp⟩
    | false =>
      obtain ⟨j, h1, h2, h3, h4⟩ := scan_up p n d (a + 1) (by omega)
      refine ⟨j, by omega, h2, fun i h5 h6 => ?_, h4⟩
      by_cases e : i = a
      · rw [e]; exact hp
      · exact h3 i (by omega) h6
theorem down_stop (p : Nat → Bool) : ∀ n : Nat, ∃ j : Nat, j ≤ n ∧ (∀ i, j ≤ i → i < n → p i = false) ∧ (0 < j → p (j - 1) = true)
  | 0 => ⟨0, Nat.le_refl _, fun i h1 h2 => by omega, fun h => by omega⟩
  | n + 1 => by
    cases hp : p n with
    | true => exact ⟨n + 1, Nat.le_refl _, fun i h1 h2 => by omega, fun _ => by simpa using hp⟩
    | false =>
      obtain ⟨j, h1, h2, h3⟩ := down_stop p n
      refine ⟨j, by omega, fun i h4 h5 => ?_, h3⟩
      by_cases e : i = n
      · rw [e]; exact hp
      · exact h2 i h4 (by omega)
theorem all_loop {body : Int → Option (Ctl Int (Ctl Unit Bool))} (pass : Nat → Bool) (n : Nat) (h : ∀ k, k < n → body (k : Int) = some (if pass k = true then .go ((k : Int) + 1) else .done (.done false))) (hn : body (n : Int) = some (.done (.go ()))) :
    loopO body 0 = some (if (List.range n).all pass = true then .go () else .done false) := by
  have key : ∀ d k, k + d = n → loopO body (k : Int) = some (if ((List.range n).drop k).all pass = true then .go () else .done false) := by
    intro d
    induction d with
    | zero =>
      intro k hk
      obtain rfl : k = n := by omega
      rw [loopO_eq, hn, List.drop_of_length_le (by simp)]
      rfl
    | succ d ih =>
      intro k hk
      have hd : (List.range n).drop k = k :: (List.range n).drop (k + 1) := by rw [List.drop_eq_getElem_cons (by simp; omega)]; simp
      rw [loopO_eq, h k (by omega), hd, List.all_cons]
      cases hp : pass k with
      | true =>
        have := ih (k + 1) (by omega)
        rw [show ((k + 1 : Nat) : Int) = (k : Int) + 1 by omega] at this
        simpa using this
      | false => simp
  have := key n 0 (by omega)
  simpa using this
/-- a file as required -/
def fileV (f : File) : Bool := decide (1 ≤ f.No ∧ f.No ≤ 1000000) && (decide (0 ≤ f.Level ∧ f.Level ≤ 2) && (decide (1 ≤ (f.Lo.length : Int) ∧ (f.Lo.length : Int) ≤ 10) && (decide (1 ≤ (f.Hi.length : Int) ∧ (f.Hi.length : Int) ≤ 10) && (sLt f.Lo f.Hi || decide (f.Lo = f.Hi)))))
/-- one file ahead of another -/
def aheadV (a b : File) : Bool := if a.Level = b.Level then (if a.Level = 0 then decide (a.No > b.No) else sLt a.Lo b.Lo) else decide (a.Level < b.Level)
/-- two neighbours in one level that overlap -/
def overV (a b : File) : Bool := decide (b.Level > 0) && (decide (a.Level = b.Level) && (sLt b.Lo a.Hi || decide (b.Lo = a.Hi)))
/-- the file at a place, against those ahead of it -/
def passV (l : List File) (k : Nat) : Bool := match l[k]? with
  | some f => fileV f && ((match k with | 0 => true | j + 1 => match l[j]? with | some e => aheadV e f && !overV e f | none => true) && (l.take k).all fun g => decide (g.No ≠ f.No))
  | none => true
theorem passV_at (l : List File) (k : Nat) (h : k < l.length) : passV l k = (fileV l[k] && ((if h0 : 0 < k then aheadV (l[k - 1]'(by omega)) l[k] && !overV (l[k - 1]'(by omega)) l[k] else true) && (l.take k).all fun g => decide (g.No ≠ l[k].No))) := by
  unfold passV
  rw [List.getElem?_eq_getElem h]
  cases k with
  | zero => rfl
  | succ j =>
    simp only [Nat.zero_lt_succ, dif_pos, Nat.add_sub_cancel]
    rw [List.getElem?_eq_getElem (by omega)]
/-- files in order -/
def filesV (l : List File) : Bool := decide (l.length ≤ 12) && (List.range l.length).all (passV l)
theorem nodup_loop (l : List File) (k : Nat) (hk : k < l.length) (h : l.length ≤ 1048576) : loopO (ρ := Ctl Unit (Ctl Int (Ctl Unit Bool))) (fun (S41 : Int) => if (decide (S41 < (k : Int))) = true then ((idx l S41).bind fun E46 =>
  if (decide (E46.No = l[k].No)) = true then (some (.done (.done (.done (.done false)))))
  else (some (.go (IntKind.i64.wrap (S41 + (1 : Int))))))
  else (some (.done (.go ())))) (0 : Int) = some (if (l.take k).all (fun g => decide (g.No ≠ l[k].No)) = true then .go () else .done (.done (.done false))) := by
  refine loopO_is (fun i s => s = (i : Int) ∧ ((l.take k).all (fun g => decide (g.No ≠ l[k].No)) = ((l.take k).drop i).all (fun g => decide (g.No ≠ l[k].No)))) k _ ⟨rfl, by rw [List.drop_zero]⟩ ?_ ?_
  · rintro i s hi ⟨rfl, he⟩
    have hil : i < l.length := by omega
    have hd : (l.take k).drop i = l[i] :: (l.take k).drop (i + 1) := by
      rw [List.drop_eq_getElem_cons (by simp; omega)]
      simp
    rw [he, hd, List.all_cons]
    simp only [idx_nat l i hil, Option.bind_some]
    rw [if_pos (by simpa using hi), wrap_ok (by omega) (by omega)]
    by_cases c : l[i].No = l[k].No
    · right
      simp [c]
    · left
      refine ⟨(i : Int) + 1, by simp [c], by omega, ?_⟩
      simp [c]
  · rintro s ⟨rfl, he⟩
    rw [he, List.drop_of_length_le (by simp; omega)]
    simp
theorem szFile_eq (x : File) (left : Int) (h1 : 0 ≤ left) (h2 : left ≤ 1048576) (h3 : x.Lo.length ≤ 9223372036854775807) (h4 : x.Hi.length ≤ 9223372036854775807) : laws_szFile x left = some (szV left (x.Lo.length + x.Hi.length)) := by
  unfold laws_szFile szV
  rw [wrap_ok (n := left - (x.Lo.length : Int)) (by omega) (by omega)]
  by_cases h : left - (x.Lo.length : Int) < 0
  · rw [if_pos (by simpa using h), if_pos (by omega)]
  · rw [if_neg (by simpa using h), wrap_ok (n := left - (x.Lo.length : Int) - (x.Hi.length : Int)) (by omega) (by omega)]
    by_cases h5 : left - (x.Lo.length : Int) - (x.Hi.length : Int) < 0
    · rw [if_pos (by simpa using h5), if_pos (by omega)]
    · rw [if_neg (by simpa using h5), if_neg (by omega)]
      congr 1
      omega
theorem szFileS_eq (a : List File) (left : Int) (h1 : 0 ≤ left) (h2 : left ≤ 1048576) (h : okl a) : laws_szFileS a left = some (szV left (a.length + (a.map fun x => x.Lo.length + x.Hi.length).sum)) := by
  unfold laws_szFileS
  exact szS_of a laws_szFile (fun x => x.Lo.length + x.Hi.length) (fun x hx left h1 h2 => szFile_eq x left h1 h2 (h.2 x hx).2.2.1 (h.2 x hx).2.2.2) h.1 left h1 h2
theorem toFileS_eq (a : List File) (h : a.length ≤ 1048576) : laws_toFileS a = some a := by
  unfold laws_toFileS
  rw [mkLen_ok (by omega) (by omega)]
  simp only [Option.bind_some]
  rw [to_loop a _ laws_toFile (fun x _ => rfl) (by omega)]
  rfl
theorem eqFile_eq (a b : File) : laws_eqFile a b = some (decide (a = b)) := by
  obtain ⟨a1, a2, a3, a4⟩ := a; obtain ⟨b1, b2, b3, b4⟩ := b
  unfold laws_eqFile
  by_cases h1 : a1 = b1 <;> by_cases h2 : a2 = b2 <;> by_cases h3 : a3 = b3 <;> by_cases h4 : a4 = b4 <;> simp [h1, h2, h3, h4]
theorem eqFileS_eq (a b : List File) (h : a.length ≤ 1048576) : laws_eqFileS a b = some (decide (a = b)) :=
  eqS_of a b laws_eqFile (fun x y _ _ => eqFile_eq x y) (by omega)
theorem sLt_compl' (a b : List UInt8) : (!sLt a b) = (sLt b a || decide (b = a)) := (sLt_compl a b).symm
/-- the files that may hold a key -/
def atV (l : List File) (key : List UInt8) : List Int := (l.filter fun f => (sLt f.Lo key || decide (f.Lo = key)) && (sLt key f.Hi || decide (key = f.Hi))).map (·.No)
theorem no_take (p : File → Bool) (l : List File) (k : Nat) (h : k < l.length) : ((l.take (k + 1)).filter p).map (·.No) = ((l.take k).filter p).map (·.No) ++ if p l[k] = true then [l[k].No] else [] := by
  rw [show l.take (k + 1) = l.take k ++ [l[k]] by rw [List.take_add_one, List.getElem?_eq_getElem h]; rfl, List.filter_append, List.map_append]
  congr 1
  by_cases c : p l[k] = true
  · rw [if_pos c, List.filter_cons_of_pos c]; rfl
  · rw [if_neg c, List.filter_cons_of_neg c]; rfl
theorem atV_length (l : List File) (key : List UInt8) : (atV l key).length ≤ l.length := by unfold atV; rw [List.length_map]; exact List.length_filter_le _ _
theorem fileV_of {l : List File} (hv : filesV l = true) (k : Nat) (hk : k < l.length) : fileV l[k] = true := by
  unfold filesV at hv
  rw [Bool.and_eq_true, List.all_eq_true] at hv
  have := hv.2 k (by simp; omega)
  rw [passV_at l k hk, Bool.and_eq_true] at this
  exact this.1
/-- the state of the first round over the files -/
def pickA (level : Int) (s : List UInt8 × List UInt8 × List Int) (f : File) : List UInt8 × List UInt8 × List Int :=
  if f.Level ≠ level ∨ (level = 1 ∧ s.2.2 ≠ []) then s
  else (if s.2.2 = [] ∨ sLt f.Lo s.1 = true then f.Lo else s.1, if sLt s.2.1 f.Hi = true then f.Hi else s.2.1, s.2.2 ++ [f.No])
/-- the state behind k files -/
def pickS (l : List File) (level : Int) (k : Nat) : List UInt8 × List UInt8 × List Int := (l.take k).foldl (pickA level) ([], [], [])
theorem pickS_succ (l : List File) (level : Int) (k : Nat) (h : k < l.length) : pickS l level (k + 1) = pickA level (pickS l level k) l[k] := by
  unfold pickS
  rw [show l.take (k + 1) = l.take k ++ [l[k]] by rw [List.take_add_one, List.getElem?_eq_getElem h]; rfl, List.foldl_append]
  rfl
/-- a file of the next level that meets the bounds -/
def pickM (lo hi : List UInt8) (level : Int) (f : File) : Bool := decide (f.Level = level + 1) && ((sLt f.Lo hi || decide (f.Lo = hi)) && !sLt f.Hi lo)
/-- the files picked -/
def pickV (l : List File) (level : Int) : List Int :=
  (pickS l level l.length).2.2 ++ if (pickS l level l.length).2.1 = [] then [] else (l.filter (pickM (pickS l level l.length).1 (pickS l level l.length).2.1 level)).map (·.No)
theorem sLt_nil_iff (b : List UInt8) : sLt [] b = !decide (b = []) := by cases b <;> rfl
theorem pickS_inv (l : List File) (level : Int) (hv : filesV l = true) : ∀ k, k ≤ l.length → ((pickS l level k).2.2 = [] ∧ (pickS l level k).1 = [] ∧ (pickS l level k).2.1 = [] ∨ (pickS l level k).2.2 ≠ [] ∧ (pickS l level k).2.1 ≠ []) ∧ (pickS l level k).2.2.length ≤ k := by
  intro k
  induction k with
  | zero => intro _; exact ⟨.inl ⟨rfl, rfl, rfl⟩, Nat.le_refl _⟩
  | succ k ih =>
    intro hk
    obtain ⟨i1, i2⟩ := ih (by omega)
    rw [pickS_succ l level k (by omega)]
    have hf := fileV_of hv k (by omega)
    generalize pickS l level k = s at i1 i2
    obtain ⟨lo, hi, out⟩ := s
    unfold pickA
    split
    · exact ⟨i1, Nat.le_succ_of_le i2⟩
    · refine ⟨.inr ⟨by simp, ?_⟩, by simpa using i2⟩
      simp only at i1 ⊢
      have hhi : l[k].Hi ≠ [] := fun e => by simp [fileV, e] at hf
      rcases i1 with ⟨_, _, e⟩ | ⟨_, e⟩
      · subst e
        rw [sLt_nil_iff, if_pos (by simpa using hhi)]
        exact hhi
      · split
        · exact hhi
        · exact e
theorem level_mono {l : List File} (hv : filesV l = true) : ∀ j (hj : j < l.length) i (hi : i ≤ j), (l[i]'(by omega)).Level ≤ l[j].Level := by
  intro j
  induction j with
  | zero => intro hj i hi; obtain rfl : i = 0 := by omega
            exact Int.le_refl _
  | succ j ih =>
    intro hj i hi
    by_cases e : i = j + 1
    · subst e; exact Int.le_refl _
    · refine Int.le_trans (ih (by omega) i (by omega)) ?_
      unfold filesV at hv
      rw [Bool.and_eq_true, List.all_eq_true] at hv
      have := hv.2 (j + 1) (by simp; omega)
      rw [passV_at l (j + 1) hj, dif_pos (by omega)] at this
      simp only [Bool.and_eq_true, Nat.add_sub_cancel] at this
      have ha := this.2.1.1
      unfold aheadV at ha
      split at ha
      · omega
      · simp at ha; omega
theorem pickS_stop {l : List File} {level : Int} (hv : filesV l = true) : ∀ d k, k + d = l.length → (∀ h : k < l.length, level < l[k].Level) → pickS l level k = pickS l level l.length := by
  intro d
  induction d with
  | zero => intro k hk _; obtain rfl : k = l.length := by omega
            rfl
  | succ d ih =>
    intro k hk h
    have h1 := h (by omega)
    rw [← ih (k + 1) (by omega) (fun h2 => Int.lt_of_lt_of_le h1 (level_mono hv (k + 1) h2 k (by omega))), pickS_succ l level k (by omega)]
    unfold pickA
    rw [if_pos (.inl (by omega))]
theorem filtered_le (p : File → Bool) (l : List File) (k : Nat) : (((l.take k).filter p).map (·.No)).length ≤ k := by
  rw [List.length_map]
  exact Nat.le_trans (List.length_filter_le _ _) (by simp; omega)
theorem pickA_skip {level : Int} {s : List UInt8 × List UInt8 × List Int} {f : File} (h : f.Level ≠ level ∨ (level = 1 ∧ s.2.2 ≠ [])) : pickA level s f = s := by
  unfold pickA; rw [if_pos h]
theorem pickA_take {level : Int} {s : List UInt8 × List UInt8 × List Int} {f : File} (h : ¬ (f.Level ≠ level ∨ (level = 1 ∧ s.2.2 ≠ []))) :
    pickA level s f = (if s.2.2 = [] ∨ sLt f.Lo s.1 = true then f.Lo else s.1, if sLt s.2.1 f.Hi = true then f.Hi else s.2.1, s.2.2 ++ [f.No]) := by
  unfold pickA; rw [if_neg h]
theorem len0 (out : List Int) : decide (((out.length : Nat) : Int) = 0) = decide (out = []) := by
  cases out with
  | nil => rfl
  | cons a l => simp; omega
theorem sMin_eq (a b : List UInt8) : sMin a b = if sLt b a = true then b else a := by
  unfold sMin
  rw [sLt_compl]
  cases sLt b a <;> simp
theorem sMax_eq (a b : List UInt8) : sMax a b = if sLt a b = true then b else a := by
  unfold sMax
  cases sLt a b <;> simp
theorem sLt_irr (a : List UInt8) : sLt a a = false := by
  have := sLt_compl a a
  simpa using this
theorem sLt_trans : ∀ {a b c : List UInt8}, sLt a b = true → sLt b c = true → sLt a c = true
  | [], [], _, h, _ => by simp [sLt, Op.bytesLess] at h
  | [], _ :: _, [], _, h => by simp [sLt, Op.bytesLess] at h
  | [], _ :: _, _ :: _, _, _ => rfl
  | _ :: _, [], _, h, _ => by simp [sLt, Op.bytesLess] at h
  | _ :: _, _ :: _, [], _, h => by simp [sLt, Op.bytesLess] at h
  | x :: a, y :: b, z :: c, h1, h2 => by
    simp only [sLt, Op.bytesLess, Bool.or_eq_true, decide_eq_true_eq, Bool.and_eq_true, beq_iff_eq] at h1 h2 ⊢
    rcases h1 with h1 | ⟨rfl, h1⟩
    · rcases h2 with h2 | ⟨rfl, _⟩
      · exact .inl (UInt8.lt_trans h1 h2)
      · exact .inl h1
    · rcases h2 with h2 | ⟨rfl, h2⟩
      · exact .inl h2
      · exact .inr ⟨rfl, sLt_trans h1 h2⟩
theorem sLt_irrefl (a : List UInt8) : sLt a a = false := by
  have := sLt_compl a a
  simpa using this
theorem all_loop' {body : Int → Option (Ctl Int (Ctl Unit Bool))} (pass : Nat → Bool) (n : Nat) (h : ∀ k, k < n → body (k : Int) = some (if pass k = true then .go ((k : Int) + 1) else .done (.done false))) (hn : body (n : Int) = some (.done (.go ()))) :
    bindC (loopO body 0) (fun (_ : Unit) => some true) = some ((List.range n).all pass) := by
  rw [all_loop pass n h hn]
  cases (List.range n).all pass <;> rfl
/-- snapshots in order -/
def snapP (seq : Int) (l : List Int) (k : Nat) : Bool := match l[k]? with
  | some s => decide (0 ≤ s ∧ s ≤ seq) && (match k with | 0 => true | j + 1 => match l[j]? with | some d => decide (d < s) | none => true)
  | none => true
theorem snapP_at (seq : Int) (l : List Int) (k : Nat) (h : k < l.length) : snapP seq l k = (decide (0 ≤ l[k] ∧ l[k] ≤ seq) && (if h0 : 0 < k then decide (l[k - 1]'(by omega) < l[k]) else true)) := by
  unfold snapP
  rw [List.getElem?_eq_getElem h]
  cases k with
  | zero => rfl
  | succ j =>
    simp only [Nat.zero_lt_succ, dif_pos, Nat.add_sub_cancel]
    rw [List.getElem?_eq_getElem (by omega)]
def snapsV (seq : Int) (l : List Int) : Bool := (List.range l.length).all (snapP seq l)
theorem snaps_at {seq : Int} {l : List Int} (hv : snapsV seq l = true) (k : Nat) (hk : k < l.length) : (0 ≤ l[k] ∧ l[k] ≤ seq) ∧ (0 < k → l[k - 1]'(by omega) < l[k]) := by
  unfold snapsV at hv
  rw [List.all_eq_true] at hv
  have := hv k (by simpa using hk)
  rw [snapP_at seq l k hk, Bool.and_eq_true] at this
  refine ⟨of_decide_eq_true this.1, fun h0 => ?_⟩
  have h2 := this.2
  rw [dif_pos h0] at h2
  exact of_decide_eq_true h2
theorem snaps_last {seq : Int} {l : List Int} (hv : snapsV seq l = true) (h0 : 0 < l.length) : (seq ∈ l) ↔ l[l.length - 1]'(by omega) = seq := by
  constructor
  · intro hm
    obtain ⟨i, hi, he⟩ := List.getElem_of_mem hm
    by_cases e : i = l.length - 1
    · subst e; exact he
    · have h1 := (snaps_at hv (i + 1) (by omega)).2 (by omega)
      have h2 := (snaps_at hv (i + 1) (by omega)).1
      simp only [Nat.add_sub_cancel] at h1
      omega
  · intro h
    rw [← h]
    exact List.getElem_mem _
theorem piece_nat {α : Type} (l : List α) (a b : Nat) (lo hi : Int) (h1 : lo = (a : Int)) (h2 : hi = (b : Int)) (h3 : a ≤ b) (h4 : b ≤ l.length) : piece l lo hi = some ((l.drop a).take (b - a)) := by
  subst h1 h2
  unfold piece
  rw [if_pos ⟨by omega, by omega, by omega⟩, Int.toNat_natCast, Int.toNat_natCast]
theorem filter_one {α : Type} (l : List α) (p : α → Bool) (j : Nat) (hj : j < l.length) (h1 : p l[j] = false) (h2 : ∀ i (h : i < l.length), i ≠ j → p l[i] = true) : l.filter p = l.take j ++ l.drop (j + 1) := by
  have hs : l = l.take j ++ l[j] :: l.drop (j + 1) := by rw [← List.drop_eq_getElem_cons hj, List.take_append_drop]
  have ha : (l.take j).filter p = l.take j := by
    rw [List.filter_eq_self]
    intro x hx
    obtain ⟨i, hi, rfl⟩ := List.getElem_of_mem hx
    have hi' : i < j := by simp at hi; omega
    simp only [List.getElem_take]
    exact h2 i (by omega) (by omega)
  have hb : (l.drop (j + 1)).filter p = l.drop (j + 1) := by
    rw [List.filter_eq_self]
    intro x hx
    obtain ⟨i, hi, rfl⟩ := List.getElem_of_mem hx
    have hi' : j + 1 + i < l.length := by simp at hi; omega
    simp only [List.getElem_drop]
    exact h2 (j + 1 + i) hi' (by omega)
  conv => lhs; rw [hs]
  rw [List.filter_append, List.filter_cons_of_neg (by simpa using h1), ha, hb]
theorem filter_take {α : Type} (p : α → Bool) (l : List α) (k : Nat) (h : k < l.length) : (l.take (k + 1)).filter p = (l.take k).filter p ++ if p l[k] = true then [l[k]] else [] := by
  rw [show l.take (k + 1) = l.take k ++ [l[k]] by rw [List.take_add_one, List.getElem?_eq_getElem h]; rfl, List.filter_append]
  congr 1
  by_cases c : p l[k] = true
  · rw [if_pos c, List.filter_cons_of_pos c]; rfl
  · rw [if_neg c, List.filter_cons_of_neg c]; rfl
theorem filter_len {α : Type} (p : α → Bool) (l : List α) (k : Nat) : ((l.take k).filter p).length ≤ k := Nat.le_trans (List.length_filter_le _ _) (by simp; omega)
theorem files_distinct {l : List File} (hv : filesV l = true) (i j : Nat) (hi : i < l.length) (hj : j < l.length) (h : i ≠ j) : ¬ l[i].No = l[j].No := by
  have key : ∀ (i j : Nat) (hj : j < l.length) (hij : i < j), ¬ (l[i]'(by omega)).No = l[j].No := by
    intro i j hj hij
    have hv' := hv
    unfold filesV at hv'
    rw [Bool.and_eq_true, List.all_eq_true] at hv'
    have := hv'.2 j (by simpa using hj)
    rw [passV_at l j hj] at this
    simp only [Bool.and_eq_true, List.all_eq_true] at this
    have hm : l[i]'(by omega) ∈ l.take j := by
      have : (l.take j)[i]'(by simp; omega) = l[i]'(by omega) := by simp
      rw [← this]; exact List.getElem_mem _
    exact of_decide_eq_true (this.2.2 _ hm)
  rcases Nat.lt_or_ge i j with h1 | h1
  · exact key i j hj h1
  · exact fun e => key j i hi (by omega) e.symm
/-- the files but one -/
def dropF (l : List File) (no : Int) : List File := l.filter fun f => !decide (f.No = no)
def filesDropR (l : List File) (no : Int) : List File × Bool := if filesV l = true then (dropF l no, decide ((dropF l no).length < l.length)) else ([], false)
theorem snaps_lt {seq : Int} {l : List Int} (hv : snapsV seq l = true) : ∀ (j : Nat) (hj : j < l.length) (i : Nat) (hi : i < j), l[i]'(by omega) < l[j] := by
  intro j
  induction j with
  | zero => intro _ i hi; omega
  | succ j ih =>
    intro hj i hi
    have h1 := (snaps_at hv (j + 1) hj).2 (by omega)
    simp only [Nat.add_sub_cancel] at h1
    by_cases e : i = j
    · subst e; exact h1
    · have := ih (by omega) i (by omega); omega
def dropS (l : List Int) (x : Int) : List Int := l.filter fun s => !decide (s = x)
theorem dropS_at {seq : Int} {l : List Int} (hv : snapsV seq l = true) (j : Nat) (hj : j < l.length) : dropS l l[j] = l.take j ++ l.drop (j + 1) := by
  unfold dropS
  refine filter_one l _ j hj (by simp) fun i hi hij => ?_
  have : ¬ l[i] = l[j] := by
    rcases Nat.lt_or_ge i j with h | h
    · have := snaps_lt hv j hj i h; omega
    · have := snaps_lt hv i hi j (by omega); omega
  simp [this]
theorem sLt_asymm {a b : List UInt8} (h : sLt a b = true) : sLt b a = false := by
  have := sLt_compl a b
  rw [h] at this
  simp only [Bool.not_true, Bool.or_eq_false_iff] at this
  exact this.1
theorem sLt_same {a b : List UInt8} (h1 : sLt a b = false) (h2 : sLt b a = false) : a = b := by
  have := sLt_compl a b
  rw [h1, h2] at this
  have h : decide (b = a) = true := by simpa using this
  exact (of_decide_eq_true h).symm
theorem ahead_asym {a b : File} (h : aheadV a b = true) : aheadV b a = false := by
  unfold aheadV at h ⊢
  by_cases h1 : a.Level = b.Level
  · rw [if_pos h1] at h
    rw [if_pos h1.symm]
    by_cases h2 : a.Level = 0
    · rw [if_pos h2] at h
      rw [if_pos (by omega)]
      have := of_decide_eq_true h
      exact decide_eq_false (by omega)
    · rw [if_neg h2] at h
      rw [if_neg (by omega)]
      exact sLt_asymm h
  · rw [if_neg h1] at h
    rw [if_neg (by omega)]
    have := of_decide_eq_true h
    exact decide_eq_false (by omega)
theorem ahead_same {a b c : File} (h1 : aheadV a b = false) (h2 : aheadV b a = false) (h3 : aheadV a c = true) : aheadV b c = true := by
  unfold aheadV at h1 h2 h3 ⊢
  by_cases hl : a.Level = b.Level
  · rw [if_pos hl] at h1
    rw [if_pos hl.symm] at h2
    by_cases h0 : a.Level = 0
    · rw [if_pos h0] at h1
      rw [if_pos (by omega)] at h2
      have e1 := of_decide_eq_false h1
      have e2 := of_decide_eq_false h2
      have e : a.No = b.No := by omega
      by_cases h4 : a.Level = c.Level
      · rw [if_pos h4, if_pos h0, e] at h3
        rw [if_pos (by omega), if_pos (by omega)]
        exact h3
      · rw [if_neg h4] at h3
        rw [if_neg (by omega), ← hl]
        exact h3
    · rw [if_neg h0] at h1
      rw [if_neg (by omega)] at h2
      have e := sLt_same h1 h2
      by_cases h4 : a.Level = c.Level
      · rw [if_pos h4, if_neg h0] at h3
        rw [if_pos (by omega), if_neg (by omega), ← e]
        exact h3
      · rw [if_neg h4] at h3
        rw [if_neg (by omega), ← hl]
        exact h3
  · rw [if_neg hl] at h1
    rw [if_neg (by omega)] at h2
    have e1 := of_decide_eq_false h1
    have e2 := of_decide_eq_false h2
    omega
theorem files_ahead {l : List File} (hv : filesV l = true) (k : Nat) (hk : k + 1 < l.length) : aheadV (l[k]'(by omega)) l[k + 1] = true := by
  unfold filesV at hv
  rw [Bool.and_eq_true, List.all_eq_true] at hv
  have := hv.2 (k + 1) (by simpa using hk)
  rw [passV_at l (k + 1) hk, dif_pos (by omega)] at this
  simp only [Bool.and_eq_true] at this
  exact this.2.1.1
theorem files_le {l : List File} (hv : filesV l = true) : l.length ≤ 12 := by
  unfold filesV at hv
  rw [Bool.and_eq_true] at hv
  exact of_decide_eq_true hv.1
def insF (l : List File) (f : File) (j : Nat) : List File := l.take j ++ (f :: l.drop j)
def addF (l : List File) (f : File) (j k : Nat) : Bool × Int × List File := bif Nat.ble k j then (false, (k : Int), l.take k) else (true, (k : Int), l.take j ++ (f :: (l.drop j).take (k - j)))
theorem addF_le (l : List File) (f : File) (j k : Nat) (h : k ≤ j) : addF l f j k = (false, (k : Int), l.take k) := by
  unfold addF
  rw [Nat.ble_eq_true_of_le h]
  rfl
theorem addF_gt (l : List File) (f : File) (j k : Nat) (h : j < k) : addF l f j k = (true, (k : Int), l.take j ++ (f :: (l.drop j).take (k - j))) := by
  unfold addF
  have : Nat.ble k j = false := by
    cases hb : Nat.ble k j
    · rfl
    · exact absurd (Nat.le_of_ble_eq_true hb) (by omega)
  rw [this]
  rfl
def filesAddR (l : List File) (f : File) (j : Nat) : List File × Bool := bif filesV (insF l f j) then (insF l f j, true) else (l, false)
theorem insF_at (l : List File) (f : File) (j : Nat) (hj : j ≤ l.length) : ∃ h : j < (insF l f j).length, (insF l f j)[j] = f := by
  refine ⟨by unfold insF; simp; omega, ?_⟩
  simp only [insF]
  rw [List.getElem_append_right (by simp; omega)]
  simp [Nat.min_eq_left hj]
theorem insF_after (l : List File) (f : File) (j : Nat) (hj : j < l.length) : ∃ h : j + 1 < (insF l f j).length, (insF l f j)[j + 1] = l[j] := by
  refine ⟨by unfold insF; simp; omega, ?_⟩
  simp only [insF]
  rw [List.getElem_append_right (by simp; omega)]
  simp [Nat.min_eq_left (Nat.le_of_lt hj)]
theorem insF_ahead (l : List File) (f : File) (j : Nat) (hj : j < l.length) : ∃ h : j < (insF l f (j + 1)).length, (insF l f (j + 1))[j] = l[j] := by
  refine ⟨by unfold insF; simp; omega, ?_⟩
  simp only [insF]
  rw [List.getElem_append_left (by simp; omega)]
  simp
theorem any_loop {α : Type} {body : Int → Option (Ctl Int (Ctl Unit Bool))} (l : List α) (p : α → Bool) (h : ∀ k (hk : k < l.length), body (k : Int) = some (if p l[k] = true then .done (.done true) else .go ((k : Int) + 1))) (hn : body (l.length : Int) = some (.done (.go ()))) :
    bindC (loopO body 0) (fun (_ : Unit) => some false) = some (l.any p) := by
  rw [loopO_is (fun k s => s = (k : Int) ∧ l.any p = (l.drop k).any p) l.length (if l.any p = true then Ctl.done true else Ctl.go ()) ?h0 ?h1 ?h2]
  · cases l.any p <;> rfl
  case h0 => exact ⟨rfl, rfl⟩
  · rintro k s hk ⟨rfl, he⟩
    rw [h k hk, he, List.drop_eq_getElem_cons hk, List.any_cons]
    cases hp : p l[k] with
    | true => right; rfl
    | false =>
      left
      refine ⟨(k : Int) + 1, rfl, by omega, ?_⟩
      rw [Bool.false_or]
  · rintro s ⟨rfl, he⟩
    rw [he, List.drop_length, hn]
    rfl
/-- files changed step by step; the first step that fails ends it -/
def runF {β : Type} (gv : List File → β → List File × Bool) (fail : List File × Bool) : List β → List File → Ctl (List File) (List File × Bool)
  | [], l => .go l
  | x :: xs, l => bif (gv l x).2 then runF gv fail xs (gv l x).1 else .done fail
theorem runF_loop {β : Type} (g : List File → β → Option (List File × Bool)) (gv : List File → β → List File × Bool) (fail : List File × Bool) (xs : List β) (P : List File → Prop) (hg : ∀ l x, P l → g l x = some (gv l x)) (hP : ∀ l x, P l → (gv l x).2 = true → P (gv l x).1) (hlen : xs.length ≤ 1048576) (l0 : List File) (h0 : P l0) :
    loopO (fun (S : Int × List File) => if (decide (S.1 < ((xs.length : Nat) : Int))) = true then ((idx xs S.1).bind fun E => (g S.2 E).bind fun R =>
      if (!R.2) = true then (some (.done (.done fail))) else (some (.go (IntKind.i64.wrap (S.1 + (1 : Int)), R.1)))) else (some (.done (.go S.2)))) ((0 : Int), l0) = some (runF gv fail xs l0) := by
  rw [loopO_is (fun k s => s.1 = (k : Int) ∧ P s.2 ∧ runF gv fail xs l0 = runF gv fail (xs.drop k) s.2) xs.length (runF gv fail xs l0) ?h0 ?h1 ?h2]
  case h0 => exact ⟨rfl, h0, rfl⟩
  · rintro k ⟨i, s⟩ hk ⟨rfl, hp, he⟩
    simp only at hp he ⊢
    have hd : xs.drop k = xs[k] :: xs.drop (k + 1) := List.drop_eq_getElem_cons hk
    rw [hd] at he
    simp only [runF] at he
    simp only [idx_nat xs k hk, Option.bind_some, hg s xs[k] hp]
    rw [if_pos (by simpa using hk), wrap_ok (n := (k : Int) + 1) (by omega) (by omega)]
    cases c : (gv s xs[k]).2 with
    | false =>
      right
      rw [he, c]
      rfl
    | true =>
      left
      rw [c] at he
      exact ⟨((k : Int) + 1, (gv s xs[k]).1), rfl, by simp, hP _ _ hp c, he⟩
  · rintro ⟨i, s⟩ ⟨rfl, hp, he⟩
    rw [he, List.drop_length]
    simp [runF]
theorem runF_go {β : Type} (gv : List File → β → List File × Bool) (fail : List File × Bool) (P : List File → Prop) (hP : ∀ l x, P l → (gv l x).2 = true → P (gv l x).1) : ∀ (xs : List β) (l y : List File), P l → runF gv fail xs l = .go y → P y
  | [], l, y, h, e => by
    simp only [runF, Ctl.go.injEq] at e
    subst e; exact h
  | x :: xs, l, y, h, e => by
    simp only [runF] at e
    cases c : (gv l x).2 with
    | false => rw [c] at e; cases e
    | true => rw [c] at e; exact runF_go gv fail P hP xs _ y (hP l x h c) e
theorem runF_done {β : Type} (gv : List File → β → List File × Bool) (fail : List File × Bool) : ∀ (xs : List β) (l : List File) (r : List File × Bool), runF gv fail xs l = .done r → r = fail
  | [], l, r, e => by simp only [runF] at e; cases e
  | x :: xs, l, r, e => by
    simp only [runF] at e
    cases c : (gv l x).2 with
    | false => rw [c] at e; cases e; rfl
    | true => rw [c] at e; exact runF_done gv fail xs _ r e
theorem dropR_ok (l : List File) (no : Int) (h : l.length ≤ 12) (h2 : (filesDropR l no).2 = true) : (filesDropR l no).1.length ≤ 12 := by
  unfold filesDropR
  split
  · exact Nat.le_trans (List.length_filter_le _ _) h
  · simp
theorem half_eq {a : Int} (h0 : 0 ≤ a) (h1 : a ≤ 4611686018427387904) : IntKind.i64.wrap (ishr .u64 (IntKind.u64.wrap (IntKind.i64.wrap a)) (1 : Int)) = a / 2 := by
  have hu : IntKind.u64.wrap a = a := by simp [IntKind.wrap, IntKind.bits, IntKind.signed]; omega
  have hs : ishr .u64 a (1 : Int) = a / 2 := by
    unfold ishr
    show a.fdiv (2 ^ 1) = a / 2
    rw [Int.fdiv_eq_ediv_of_nonneg a (by decide)]
    rfl
  rw [wrap_ok (n := a) (by omega) (by omega), hu, hs, wrap_ok (by omega) (by omega)]
/-- a search by halves: the place where it ends -/
theorem bisect {α ρ : Type} (x : List α) (cf : α → Option Int) (c : α → Int) (hcf : ∀ e ∈ x, cf e = some (c e)) (hx : x.length ≤ 1048576) :
    ∃ j, j ≤ x.length ∧ loopO (ρ := Ctl Int ρ) (fun (S2 : Int × Int) => if (decide (S2.1 < S2.2)) = true then ((idx x (IntKind.i64.wrap (ishr .u64 (IntKind.u64.wrap (IntKind.i64.wrap (S2.1 + S2.2))) (1 : Int)))).bind fun E7 =>
  (cf E7).bind fun R9 =>
  bindC (if (decide (R9 < (0 : Int))) = true then (some (.go (IntKind.i64.wrap (IntKind.i64.wrap (ishr .u64 (IntKind.u64.wrap (IntKind.i64.wrap (S2.1 + S2.2))) (1 : Int)) + (1 : Int)), S2.2)))
  else (some (.go (S2.1, IntKind.i64.wrap (ishr .u64 (IntKind.u64.wrap (IntKind.i64.wrap (S2.1 + S2.2))) (1 : Int))))))
  (fun (T12 : Int × Int) => some (.go (T12.1, T12.2))))
  else (some (.done (.go S2.1)))) ((0 : Int), ((x.length : Nat) : Int)) = some (.go (j : Int)) ∧ (∀ i (hi : i < x.length), i + 1 = j → c x[i] < 0) ∧ (∀ hj : j < x.length, 0 ≤ c x[j]) := by
  obtain ⟨r, hr, j, rfl, h1, h2, h3⟩ := loopO_total (ρ := Ctl Int ρ) (s0 := ((0 : Int), ((x.length : Nat) : Int))) (body := fun (S2 : Int × Int) => if (decide (S2.1 < S2.2)) = true then ((idx x (IntKind.i64.wrap (ishr .u64 (IntKind.u64.wrap (IntKind.i64.wrap (S2.1 + S2.2))) (1 : Int)))).bind fun E7 =>
  (cf E7).bind fun R9 =>
  bindC (if (decide (R9 < (0 : Int))) = true then (some (.go (IntKind.i64.wrap (IntKind.i64.wrap (ishr .u64 (IntKind.u64.wrap (IntKind.i64.wrap (S2.1 + S2.2))) (1 : Int)) + (1 : Int)), S2.2)))
  else (some (.go (S2.1, IntKind.i64.wrap (ishr .u64 (IntKind.u64.wrap (IntKind.i64.wrap (S2.1 + S2.2))) (1 : Int))))))
  (fun (T12 : Int × Int) => some (.go (T12.1, T12.2))))
  else (some (.done (.go S2.1))))
    (fun k s => ∃ a b : Nat, s = ((a : Int), (b : Int)) ∧ a ≤ b ∧ b ≤ x.length ∧ b - a + k ≤ x.length ∧ (∀ i (hi : i < x.length), i + 1 = a → c x[i] < 0) ∧ (∀ hj : b < x.length, 0 ≤ c x[b])) x.length
    (fun r => ∃ j : Nat, r = .go (j : Int) ∧ j ≤ x.length ∧ (∀ i (hi : i < x.length), i + 1 = j → c x[i] < 0) ∧ (∀ hj : j < x.length, 0 ≤ c x[j]))
    ⟨0, x.length, rfl, Nat.zero_le _, Nat.le_refl _, by omega, fun i hi h => by omega, fun h => by omega⟩ (by
      rintro k s hk ⟨a, b, rfl, hab, hb, hd, h1, h2⟩
      by_cases hlt : a < b
      · left
        have hm : ((a : Int) + (b : Int)) / 2 = (((a + b) / 2 : Nat) : Int) := by omega
        have hmx : (a + b) / 2 < x.length := by omega
        simp only [half_eq (a := (a : Int) + (b : Int)) (by omega) (by omega), hm, idx_nat x _ hmx, Option.bind_some, hcf _ (List.getElem_mem hmx)]
        rw [if_pos (by simpa using hlt)]
        by_cases hc : c x[(a + b) / 2] < 0
        · rw [if_pos (by simpa using hc), wrap_ok (by omega) (by omega)]
          refine ⟨_, rfl, (a + b) / 2 + 1, b, rfl, by omega, hb, by omega, fun i hi h => ?_, h2⟩
          obtain rfl : i = (a + b) / 2 := by omega
          exact hc
        · rw [if_neg (by simpa using hc)]
          exact ⟨_, rfl, a, (a + b) / 2, rfl, by omega, by omega, by omega, h1, fun _ => by omega⟩
      · right
        obtain rfl : a = b := by omega
        exact ⟨.go (a : Int), by simp, a, rfl, hb, h1, h2⟩) (by
      rintro s ⟨a, b, rfl, hab, hb, hd, h1, h2⟩
      obtain rfl : a = b := by omega
      exact ⟨.go (a : Int), by simp, a, rfl, hb, h1, h2⟩)
  exact ⟨j, h1, hr, h2, h3⟩
theorem snapsV_up {seq seq' : Int} {l : List Int} (h2 : seq ≤ seq') (h : snapsV seq l = true) : snapsV seq' l = true := by
  unfold snapsV
  rw [List.all_eq_true]
  intro k hk
  have hk' : k < l.length := by simpa using hk
  obtain ⟨a, b⟩ := snaps_at h k hk'
  rw [snapP_at seq' l k hk', Bool.and_eq_true]
  refine ⟨decide_eq_true ⟨a.1, by omega⟩, ?_⟩
  by_cases h0 : 0 < k
  · rw [dif_pos h0]; exact decide_eq_true (b h0)
  · rw [dif_neg h0]
/-! words of bits -/
theorem iand64 {a b : Nat} (ha : a < 2 ^ 63) (hb : b < 2 ^ 63) : iand .i64 (a : Int) (b : Int) = ((a &&& b : Nat) : Int) := by
  unfold iand
  have h1 : a &&& b ≤ a := Nat.and_le_left
  have e : (BitVec.ofInt IntKind.i64.bits (a : Int) &&& BitVec.ofInt IntKind.i64.bits (b : Int)).toNat = a &&& b := by
    show (BitVec.ofInt 64 (a : Int) &&& BitVec.ofInt 64 (b : Int)).toNat = a &&& b
    rw [BitVec.ofInt_natCast, BitVec.ofInt_natCast, BitVec.toNat_and, BitVec.toNat_ofNat, BitVec.toNat_ofNat, Nat.mod_eq_of_lt (by omega), Nat.mod_eq_of_lt (by omega)]
  rw [e]
  exact wrap_ok (by omega) (by omega)
theorem ior64 {a b : Nat} (ha : a < 2 ^ 63) (hb : b < 2 ^ 63) : ior .i64 (a : Int) (b : Int) = ((a ||| b : Nat) : Int) := by
  unfold ior
  have h1 : a ||| b < 2 ^ 63 := Nat.or_lt_two_pow ha hb
  have e : (BitVec.ofInt IntKind.i64.bits (a : Int) ||| BitVec.ofInt IntKind.i64.bits (b : Int)).toNat = a ||| b := by
    show (BitVec.ofInt 64 (a : Int) ||| BitVec.ofInt 64 (b : Int)).toNat = a ||| b
    rw [BitVec.ofInt_natCast, BitVec.ofInt_natCast, BitVec.toNat_or, BitVec.toNat_ofNat, BitVec.toNat_ofNat, Nat.mod_eq_of_lt (by omega), Nat.mod_eq_of_lt (by omega)]
  rw [e]
  exact wrap_ok (by omega) (by omega)
theorem ixor64 {a b : Nat} (ha : a < 2 ^ 63) (hb : b < 2 ^ 63) : ixor .i64 (a : Int) (b : Int) = ((a ^^^ b : Nat) : Int) := by
  unfold ixor
  have h1 : a ^^^ b < 2 ^ 63 := Nat.xor_lt_two_pow ha hb
  have e : (BitVec.ofInt IntKind.i64.bits (a : Int) ^^^ BitVec.ofInt IntKind.i64.bits (b : Int)).toNat = a ^^^ b := by
    show (BitVec.ofInt 64 (a : Int) ^^^ BitVec.ofInt 64 (b : Int)).toNat = a ^^^ b
    rw [BitVec.ofInt_natCast, BitVec.ofInt_natCast, BitVec.toNat_xor, BitVec.toNat_ofNat, BitVec.toNat_ofNat, Nat.mod_eq_of_lt (by omega), Nat.mod_eq_of_lt (by omega)]
  rw [e]
  exact wrap_ok (by omega) (by omega)
theorem wrap32 (n : Int) : IntKind.u32.wrap n = n % 4294967296 := by simp [IntKind.wrap, IntKind.bits, IntKind.signed]
theorem wrap64u (n : Int) : IntKind.u64.wrap n = n % 18446744073709551616 := by simp [IntKind.wrap, IntKind.bits, IntKind.signed]
theorem ior32 {a b : Nat} (ha : a < 2 ^ 32) (hb : b < 2 ^ 32) : ior .u32 (a : Int) (b : Int) = ((a ||| b : Nat) : Int) := by
  unfold ior
  have h1 : a ||| b < 2 ^ 32 := Nat.or_lt_two_pow ha hb
  have e : (BitVec.ofInt IntKind.u32.bits (a : Int) ||| BitVec.ofInt IntKind.u32.bits (b : Int)).toNat = a ||| b := by
    show (BitVec.ofInt 32 (a : Int) ||| BitVec.ofInt 32 (b : Int)).toNat = a ||| b
    rw [BitVec.ofInt_natCast, BitVec.ofInt_natCast, BitVec.toNat_or, BitVec.toNat_ofNat, BitVec.toNat_ofNat, Nat.mod_eq_of_lt (by omega), Nat.mod_eq_of_lt (by omega)]
  rw [e, wrap32]
  omega
theorem ixor32 {a b : Nat} (ha : a < 2 ^ 32) (hb : b < 2 ^ 32) : ixor .u32 (a : Int) (b : Int) = ((a ^^^ b : Nat) : Int) := by
  unfold ixor
  have h1 : a ^^^ b < 2 ^ 32 := Nat.xor_lt_two_pow ha hb
  have e : (BitVec.ofInt IntKind.u32.bits (a : Int) ^^^ BitVec.ofInt IntKind.u32.bits (b : Int)).toNat = a ^^^ b := by
    show (BitVec.ofInt 32 (a : Int) ^^^ BitVec.ofInt 32 (b : Int)).toNat = a ^^^ b
    rw [BitVec.ofInt_natCast, BitVec.ofInt_natCast, BitVec.toNat_xor, BitVec.toNat_ofNat, BitVec.toNat_ofNat, Nat.mod_eq_of_lt (by omega), Nat.mod_eq_of_lt (by omega)]
  rw [e, wrap32]
  omega
theorem iand8 {a b : Nat} (ha : a < 2 ^ 8) (hb : b < 2 ^ 8) : iand .u8 (a : Int) (b : Int) = ((a &&& b : Nat) : Int) := by
  unfold iand
  have h1 : a &&& b ≤ a := Nat.and_le_left
  have e : (BitVec.ofInt IntKind.u8.bits (a : Int) &&& BitVec.ofInt IntKind.u8.bits (b : Int)).toNat = a &&& b := by
    show (BitVec.ofInt 8 (a : Int) &&& BitVec.ofInt 8 (b : Int)).toNat = a &&& b
    rw [BitVec.ofInt_natCast, BitVec.ofInt_natCast, BitVec.toNat_and, BitVec.toNat_ofNat, BitVec.toNat_ofNat, Nat.mod_eq_of_lt (by omega), Nat.mod_eq_of_lt (by omega)]
  rw [e]
  simp [IntKind.wrap, IntKind.bits, IntKind.signed]
  omega
theorem ishr_nat {k : IntKind} {a n : Nat} (hn : n ≤ k.bits) : ishr k (a : Int) (n : Int) = ((a / 2 ^ n : Nat) : Int) := by
  unfold ishr
  rw [Int.toNat_natCast, Nat.min_eq_left hn, Int.fdiv_eq_ediv_of_nonneg _ (by exact_mod_cast Nat.zero_le _)]
  norm_cast
theorem ishl64 {a n : Nat} (hn : n ≤ 64) (h : a * 2 ^ n < 2 ^ 63) : ishl .i64 (a : Int) (n : Int) = ((a * 2 ^ n : Nat) : Int) := by
  unfold ishl
  have hb : IntKind.i64.bits = 64 := rfl
  rw [Int.toNat_natCast, hb, Nat.min_eq_left hn]
  have e : (a : Int) * 2 ^ n = ((a * 2 ^ n : Nat) : Int) := by norm_cast
  rw [e]
  exact wrap_ok (by omega) (by omega)
theorem ishl32 {a n : Nat} (hn : n ≤ 32) : ishl .u32 (a : Int) (n : Int) = ((a * 2 ^ n % 4294967296 : Nat) : Int) := by
  unfold ishl
  have hb : IntKind.u32.bits = 32 := rfl
  have e : (a : Int) * 2 ^ n = ((a * 2 ^ n : Nat) : Int) := by norm_cast
  rw [Int.toNat_natCast, hb, Nat.min_eq_left hn, wrap32, e]
  generalize a * 2 ^ n = z
  omega
/-- the bits of a word turned to the left -/
def rotN (x n : Nat) : Nat := x * 2 ^ n % 4294967296 ||| x / 2 ^ (32 - n)
theorem rotN_lt {x n : Nat} (h : x < 4294967296) : rotN x n < 4294967296 := by
  unfold rotN
  refine Nat.or_lt_two_pow (n := 32) (Nat.mod_lt _ (by decide)) ?_
  exact Nat.lt_of_le_of_lt (Nat.div_le_self _ _) h
theorem ior_same {p q : Int} (hp : 0 ≤ p ∧ p < 4294967296) (hq : 0 ≤ q ∧ q < 4294967296) : ior .u32 p q = ior .i64 p q ∧ 0 ≤ ior .i64 p q ∧ ior .i64 p q < 4294967296 := by
  have e1 : p = (p.toNat : Int) := by omega
  have e2 : q = (q.toNat : Int) := by omega
  have h1 : p.toNat < 2 ^ 32 := by omega
  have h2 : q.toNat < 2 ^ 32 := by omega
  have h3 := Nat.or_lt_two_pow h1 h2
  rw [e1, e2, ior32 h1 h2, ior64 (by omega) (by omega)]
  generalize p.toNat ||| q.toNat = z at h3
  exact ⟨rfl, by omega, by omega⟩
theorem ishl_same (x : UInt8) (n : Nat) (hn : n ≤ 24) : ishl .u32 (IntKind.u32.wrap ((x.toNat : Nat) : Int)) (n : Int) = ishl .i64 (IntKind.i64.wrap ((x.toNat : Nat) : Int)) (n : Int) ∧ 0 ≤ ishl .i64 (IntKind.i64.wrap ((x.toNat : Nat) : Int)) (n : Int) ∧ ishl .i64 (IntKind.i64.wrap ((x.toNat : Nat) : Int)) (n : Int) < 4294967296 := by
  have hx := x.toNat_lt
  have w1 : IntKind.u32.wrap ((x.toNat : Nat) : Int) = ((x.toNat : Nat) : Int) := by rw [wrap32]; omega
  have w2 : IntKind.i64.wrap ((x.toNat : Nat) : Int) = ((x.toNat : Nat) : Int) := wrap_ok (by omega) (by omega)
  have hp : 2 ^ n ≤ 2 ^ 24 := Nat.pow_le_pow_right (by decide) hn
  have hm : x.toNat * 2 ^ n ≤ x.toNat * 2 ^ 24 := Nat.mul_le_mul_left _ hp
  rw [w1, w2, ishl32 (by omega), ishl64 (by omega) (by omega)]
  generalize x.toNat * 2 ^ n = z at hm
  have hz : z < 4294967296 := by omega
  rw [Nat.mod_eq_of_lt hz]
  exact ⟨rfl, by omega, by omega⟩
theorem ishl_samei (x : UInt8) (n : Int) (hn : 0 ≤ n ∧ n ≤ 24) : ishl .u32 (IntKind.u32.wrap ((x.toNat : Nat) : Int)) n = ishl .i64 (IntKind.i64.wrap ((x.toNat : Nat) : Int)) n ∧ 0 ≤ ishl .i64 (IntKind.i64.wrap ((x.toNat : Nat) : Int)) n ∧ ishl .i64 (IntKind.i64.wrap ((x.toNat : Nat) : Int)) n < 4294967296 := by
  have e : n = (n.toNat : Int) := by omega
  rw [e]
  exact ishl_same x n.toNat (by omega)
theorem bind_same {α β : Type} {x : Option α} {f g : α → Option β} (h : ∀ a, f a = g a) : x.bind f = x.bind g := by
  cases x with
  | none => rfl
  | some a => exact h a
theorem little_val (a b c d : UInt8) : ior .u32 (ior .u32 (ior .u32 (IntKind.u32.wrap ((a.toNat : Nat) : Int)) (ishl .u32 (IntKind.u32.wrap ((b.toNat : Nat) : Int)) (8 : Int))) (ishl .u32 (IntKind.u32.wrap ((c.toNat : Nat) : Int)) (16 : Int))) (ishl .u32 (IntKind.u32.wrap ((d.toNat : Nat) : Int)) (24 : Int)) =
      ior .i64 (ior .i64 (ior .i64 (IntKind.i64.wrap ((a.toNat : Nat) : Int)) (ishl .i64 (IntKind.i64.wrap ((b.toNat : Nat) : Int)) (8 : Int))) (ishl .i64 (IntKind.i64.wrap ((c.toNat : Nat) : Int)) (16 : Int))) (ishl .i64 (IntKind.i64.wrap ((d.toNat : Nat) : Int)) (24 : Int)) ∧
      0 ≤ ior .i64 (ior .i64 (ior .i64 (IntKind.i64.wrap ((a.toNat : Nat) : Int)) (ishl .i64 (IntKind.i64.wrap ((b.toNat : Nat) : Int)) (8 : Int))) (ishl .i64 (IntKind.i64.wrap ((c.toNat : Nat) : Int)) (16 : Int))) (ishl .i64 (IntKind.i64.wrap ((d.toNat : Nat) : Int)) (24 : Int)) ∧
      ior .i64 (ior .i64 (ior .i64 (IntKind.i64.wrap ((a.toNat : Nat) : Int)) (ishl .i64 (IntKind.i64.wrap ((b.toNat : Nat) : Int)) (8 : Int))) (ishl .i64 (IntKind.i64.wrap ((c.toNat : Nat) : Int)) (16 : Int))) (ishl .i64 (IntKind.i64.wrap ((d.toNat : Nat) : Int)) (24 : Int)) < 4294967296 := by
  have ha := a.toNat_lt
  have a1 : IntKind.u32.wrap ((a.toNat : Nat) : Int) = IntKind.i64.wrap ((a.toNat : Nat) : Int) := by rw [wrap32, wrap_ok (by omega) (by omega)]; omega
  have a2 : 0 ≤ IntKind.i64.wrap ((a.toNat : Nat) : Int) ∧ IntKind.i64.wrap ((a.toNat : Nat) : Int) < 4294967296 := by rw [wrap_ok (by omega) (by omega)]; omega
  obtain ⟨b1, b2⟩ := ishl_samei b 8 (by omega)
  obtain ⟨c1, c2⟩ := ishl_samei c 16 (by omega)
  obtain ⟨d1, d2⟩ := ishl_samei d 24 (by omega)
  obtain ⟨o1, o2⟩ := ior_same a2 b2
  obtain ⟨p1, p2⟩ := ior_same o2 c2
  obtain ⟨q1, q2⟩ := ior_same p2 d2
  refine ⟨?_, q2⟩
  rw [a1, b1, c1, d1, o1, p1, q1]
theorem sidx_nat (s : List UInt8) (i : Nat) (h : i < s.length) : sidx s (i : Int) = some s[i] := by
  unfold sidx
  rw [if_pos (by omega), Int.toNat_natCast, List.getElem?_eq_getElem h]
/-- words of 32 bits -/
def okW (l : List Wrd) : Prop := ∀ x ∈ l, 0 ≤ x.v ∧ x.v < 4294967296
theorem okW_set {l : List Wrd} {i : Nat} {x : Wrd} (h : okW l) (hx : 0 ≤ x.v ∧ x.v < 4294967296) : okW (l.set i x) := by
  intro y hy
  rcases List.mem_or_eq_of_mem_set hy with h1 | h1
  · exact h y h1
  · rw [h1]; exact hx
theorem okW_nat {l : List Wrd} (h : okW l) (k : Nat) (hk : k < l.length) : ∃ n : Nat, l[k].v = (n : Int) ∧ n < 4294967296 := by
  obtain ⟨h1, h2⟩ := h _ (List.getElem_mem hk)
  exact ⟨l[k].v.toNat, by omega, by omega⟩
/-- sixteen words -/
def goodW (l : List Wrd) : Prop := l.length = 16 ∧ okW l
noncomputable def selW (k : Nat) (i : Nat) (n : Nat) : Wrd := bif Nat.blt i k then Wrd.mk (n : Int) else Wrd.mk 0
def bytes4 (n : Nat) : List UInt8 := [toU8 (n : Int), toU8 ((n / 256 : Nat) : Int), toU8 ((n / 65536 : Nat) : Int), toU8 ((n / 16777216 : Nat) : Int)]
/-- the bytes of the first k words -/
noncomputable def outW (w s : List Wrd) : Nat → List UInt8
  | 0 => []
  | k + 1 => outW w s k ++ (match w[k]?, s[k]? with | some x, some y => bytes4 ((x.v + y.v).toNat % 4294967296) | _, _ => [])
theorem outW_succ (w s : List Wrd) (k : Nat) (hw : k < w.length) (hs : k < s.length) : outW w s (k + 1) = outW w s k ++ bytes4 ((w[k].v + s[k].v).toNat % 4294967296) := by
  show outW w s k ++ (match w[k]?, s[k]? with | some x, some y => _ | _, _ => _) = _
  rw [List.getElem?_eq_getElem hw, List.getElem?_eq_getElem hs]
theorem outW_len (w s : List Wrd) (hw : w.length = 16) (hs : s.length = 16) : ∀ k, k ≤ 16 → (outW w s k).length = 4 * k
  | 0, _ => rfl
  | k + 1, hk => by
    rw [outW_succ w s k (by omega) (by omega), List.length_append, outW_len w s hw hs k (by omega)]
    show 4 * k + 4 = _
    omega
theorem toU8_mod (n : Nat) : toU8 ((n % 256 : Nat) : Int) = toU8 (n : Int) := by
  unfold toU8
  congr 1
  omega
def chaOk (key : List UInt8) (counter : Int) (nonce : List UInt8) : Bool := decide (key.length = 32) && (decide (nonce.length = 12) && decide (0 ≤ counter ∧ counter ≤ 4294967295))
theorem chaOk_iff {key : List UInt8} {counter : Int} {nonce : List UInt8} (h : chaOk key counter nonce = true) : key.length = 32 ∧ nonce.length = 12 ∧ 0 ≤ counter ∧ counter ≤ 4294967295 := by
  unfold chaOk at h
  simp only [Bool.and_eq_true, decide_eq_true_eq] at h
  exact h
theorem bind_of {α β : Type} {x : Option α} {a : α} {f : α → Option β} {r : Option β} (h : x = some a) (h2 : f a = r) : x.bind f = r := by rw [h]; exact h2
/-- bytes of a number, the highest first -/
def fixV (n : Nat) : Nat → List UInt8
  | 0 => []
  | j + 1 => toU8 ((n / 256 ^ j : Nat) : Int) :: fixV n j
theorem fixV_len (n : Nat) : ∀ j, (fixV n j).length = j
  | 0 => rfl
  | j + 1 => by rw [fixV, List.length_cons, fixV_len n j]
theorem div_pow_succ (n b j : Nat) : n / b ^ j / b = n / b ^ (j + 1) := by rw [Nat.div_div_eq_div_mul, Nat.pow_succ]
def fixedV (n w : Int) : List UInt8 := bif decide (1 ≤ w ∧ w ≤ 7) && (decide (0 ≤ n) && decide (n.toNat / 256 ^ w.toNat = 0)) then fixV n.toNat w.toNat else []
theorem spec_Fixed_eq (n w : Int) (hn : n ≤ 4611686018427387904) : spec_Fixed n w = some (fixedV n w) := by
  unfold spec_Fixed fixedV
  rw [l1In_eq]
  by_cases h1 : 1 ≤ w ∧ w ≤ 7
  · rw [decide_eq_true h1]
    by_cases h2 : 0 ≤ n
    · obtain ⟨m, rfl⟩ : ∃ m : Nat, n = (m : Int) := ⟨n.toNat, by omega⟩
      obtain ⟨u, rfl⟩ : ∃ u : Nat, w = (u : Int) := ⟨w.toNat, by omega⟩
      rw [decide_eq_true h2, decide_eq_false (by omega : ¬ (m : Int) < 0)]
      simp only [Option.bind_some, Bool.not_true, Bool.false_eq_true, if_false, Int.toNat_natCast]
      rw [loopO_count (fun j => (((m / 256 ^ j : Nat) : Int), fixV m j, (j : Int))) u (r := Ctl.go (((m / 256 ^ u : Nat) : Int), fixV m u)) ?h0]
      case h0 => simp [fixV]
      · simp only [bindC_go]
        by_cases h3 : m / 256 ^ u = 0
        · rw [decide_eq_true h3, decide_eq_false (by rw [h3]; decide : ¬ ((m / 256 ^ u : Nat) : Int) > 0)]; rfl
        · have h4 : ((m / 256 ^ u : Nat) : Int) > 0 := Int.ofNat_lt.2 (Nat.pos_of_ne_zero h3)
          rw [decide_eq_false h3, decide_eq_true h4]; rfl
      · intro j hj
        have e1 : Int.tmod ((m / 256 ^ j : Nat) : Int) (256 : Int) = ((m / 256 ^ j % 256 : Nat) : Int) := by rw [show (256 : Int) = ((256 : Nat) : Int) from rfl, ← Int.ofNat_tmod]
        have e2 : Int.tdiv ((m / 256 ^ j : Nat) : Int) (256 : Int) = ((m / 256 ^ (j + 1) : Nat) : Int) := by rw [show (256 : Int) = ((256 : Nat) : Int) from rfl, ← Int.ofNat_tdiv, div_pow_succ]
        have e3 : ((m / 256 ^ (j + 1) : Nat) : Int) ≤ (m : Int) := Int.ofNat_le.2 (Nat.div_le_self _ _)
        have e4 : (0 : Int) ≤ ((m / 256 ^ (j + 1) : Nat) : Int) := Int.natCast_nonneg _
        have hl := fixV_len m j
        simp only [e1, e2, toU8_mod]
        rw [if_pos (by simp only [decide_eq_true_eq]; omega), wrap_ok (n := (j : Int) + 1) (by omega) (by omega), wrap_ok (by omega) (by omega)]
        rw [cat_ok (by rw [hl]; simp; omega)]
        rfl
      · simp
    · rw [decide_eq_false h2, decide_eq_true (by omega : n < 0)]
      rfl
  · rw [decide_eq_false h1]
    rfl
theorem impl_Fixed_eq (n w : Int) (hn : n ≤ 4611686018427387904) : impl_Fixed n w = some (fixedV n w) := by
  unfold impl_Fixed fixedV
  rw [inRange_eq]
  by_cases h1 : 1 ≤ w ∧ w ≤ 7
  · rw [decide_eq_true h1]
    by_cases h2 : 0 ≤ n
    · obtain ⟨m, rfl⟩ : ∃ m : Nat, n = (m : Int) := ⟨n.toNat, by omega⟩
      obtain ⟨u, rfl⟩ : ∃ u : Nat, w = (u : Int) := ⟨w.toNat, by omega⟩
      have e0 : IntKind.u64.wrap (IntKind.i64.wrap ((8 : Int) * (u : Int))) = ((8 * u : Nat) : Int) := by rw [wrap_ok (by omega) (by omega), wrap64u]; omega
      have e5 : ishr .i64 (m : Int) ((8 * u : Nat) : Int) = ((m / 256 ^ u : Nat) : Int) := by
        rw [ishr_nat (by show 8 * u ≤ 64; omega), Nat.pow_mul]
      have e6 : decide (((m / 256 ^ u : Nat) : Int) = 0) = decide (m / 256 ^ u = 0) := decide_eq_decide.2 (by omega)
      rw [decide_eq_true h2, decide_eq_false (by omega : ¬ (m : Int) < 0)]
      simp only [Option.bind_some, Bool.not_true, Bool.false_eq_true, if_false, Int.toNat_natCast, e0, e5, e6]
      by_cases h3 : m / 256 ^ u = 0
      · rw [decide_eq_true h3]
        simp only [Bool.not_true, Bool.false_eq_true, if_false, Bool.true_and, cond_true]
        rw [mkLen_ok (by omega) (by omega)]
        simp only [Option.bind_some]
        rw [loopO_count (fun j => (((m / 256 ^ j : Nat) : Int), (u : Int) - 1 - (j : Int), List.replicate (u - j) (0 : UInt8) ++ fixV m j)) u (r := Ctl.go (fixV m u)) ?h0]
        case h0 => rw [wrap_ok (by omega) (by omega)]; simp [fixV]
        · rfl
        · intro j hj
          have e1 : ishr .i64 ((m / 256 ^ j : Nat) : Int) (8 : Int) = ((m / 256 ^ (j + 1) : Nat) : Int) := by
            rw [show ishr .i64 ((m / 256 ^ j : Nat) : Int) (8 : Int) = ((m / 256 ^ j / 256 : Nat) : Int) from ishr_nat (n := 8) (by decide), div_pow_succ]
          have hl := fixV_len m j
          have hi : (u : Int) - 1 - (j : Int) = ((u - 1 - j : Nat) : Int) := by omega
          have hlen : u - 1 - j < (List.replicate (u - j) (0 : UInt8) ++ fixV m j).length := by simp; omega
          have hset : (List.replicate (u - j) (0 : UInt8) ++ fixV m j).set (u - 1 - j) (toU8 ((m / 256 ^ j : Nat) : Int)) = List.replicate (u - (j + 1)) (0 : UInt8) ++ fixV m (j + 1) := by
            rw [show u - j = (u - (j + 1)) + 1 by omega, List.replicate_succ', List.append_assoc, show u - 1 - j = u - (j + 1) by omega, List.set_append_right _ _ (by simp)]
            simp [fixV]
          simp only [hi, e1, idx_nat _ _ hlen, Option.bind_some, Int.toNat_natCast, hset]
          rw [if_pos (by simp only [decide_eq_true_eq]; omega), wrap_ok (by omega) (by omega)]
          rw [show ((u - 1 - j : Nat) : Int) - 1 = (u : Int) - 1 - ((j + 1 : Nat) : Int) by omega]
        · rw [if_neg (by simp only [decide_eq_true_eq]; omega)]
          simp
      · rw [decide_eq_false h3]
        rfl
    · rw [decide_eq_false h2, decide_eq_true (by omega : n < 0)]
      rfl
  · rw [decide_eq_false h1]
    rfl
/-- a number in bytes of seven bits, the lowest first -/
def varN : Nat → Nat → List UInt8
  | 0, n => [toU8 (n : Int)]
  | f + 1, n => bif decide (n < 128) then [toU8 (n : Int)] else toU8 ((128 + n % 128 : Nat) : Int) :: varN f (n / 128)
theorem varN_lt {f n : Nat} (h : n < 128) : varN f n = [toU8 (n : Int)] := by
  cases f with
  | zero => rfl
  | succ f => rw [varN, decide_eq_true h]; rfl
theorem varN_ge {f n : Nat} (h : 128 ≤ n) : varN (f + 1) n = toU8 ((128 + n % 128 : Nat) : Int) :: varN f (n / 128) := by
  rw [varN, decide_eq_false (by omega)]; rfl
/-- a loop that takes seven bits at a time -/
theorem var_loop {body : Int × List UInt8 → Option (Ctl (Int × List UInt8) (Ctl (Int × List UInt8) (List UInt8)))}
    (h1 : ∀ (n : Nat) (out : List UInt8), 128 ≤ n → n < 562949953421312 → out.length ≤ 100 → body ((n : Int), out) = some (.go (((n / 128 : Nat) : Int), out ++ [toU8 ((128 + n % 128 : Nat) : Int)])))
    (h2 : ∀ (n : Nat) (out : List UInt8), n < 128 → body ((n : Int), out) = some (.done (.go ((n : Int), out)))) :
    ∀ (f n : Nat) (out : List UInt8), n < 128 ^ (f + 1) → n < 562949953421312 → out.length + f ≤ 100 → ∃ (m : Nat) (out' : List UInt8), loopO body ((n : Int), out) = some (.go ((m : Int), out')) ∧ out' ++ [toU8 (m : Int)] = out ++ varN f n ∧ out'.length ≤ 100 := by
  intro f
  induction f with
  | zero =>
    intro n out hn _ ho
    have hn' : n < 128 := by simpa using hn
    exact ⟨n, out, by rw [loopO_eq, h2 n out hn'], by rw [varN_lt hn'], by omega⟩
  | succ f ih =>
    intro n out hn hb ho
    by_cases h : n < 128
    · exact ⟨n, out, by rw [loopO_eq, h2 n out h], by rw [varN_lt h], by omega⟩
    · have hn2 : n / 128 < 128 ^ (f + 1) := by
        rw [Nat.div_lt_iff_lt_mul (by decide)]
        rw [Nat.pow_succ] at hn
        exact hn
      obtain ⟨m, out', e1, e2, e3⟩ := ih (n / 128) (out ++ [toU8 ((128 + n % 128 : Nat) : Int)]) hn2 (by omega) (by simp; omega)
      refine ⟨m, out', ?_, ?_, e3⟩
      · rw [loopO_eq, h1 n out (by omega) hb (by omega)]
        exact e1
      · rw [e2, varN_ge (by omega), List.append_assoc]; rfl
def varV (n : Int) : List UInt8 := bif decide (0 ≤ n ∧ n ≤ 562949953421311) then varN 6 n.toNat else []
theorem spec_Var_eq (n : Int) : spec_Var n = some (varV n) := by
  unfold spec_Var varV
  rw [l1In_eq]
  by_cases h : 0 ≤ n ∧ n ≤ 562949953421311
  · rw [decide_eq_true h]
    obtain ⟨m, rfl⟩ : ∃ m : Nat, n = (m : Int) := ⟨n.toNat, by omega⟩
    simp only [Option.bind_some, Bool.not_true, Bool.false_eq_true, if_false, cond_true, Int.toNat_natCast]
    obtain ⟨p, out, e1, e2, e3⟩ := var_loop (body := fun (S6 : Int × List UInt8) => if (decide (S6.1 ≥ (128 : Int))) = true then ((app 1 S6.2 ([toU8 (IntKind.i64.wrap ((128 : Int) + (Int.tmod S6.1 (128 : Int))))])).bind fun E13 =>
      some (.go (IntKind.i64.wrap (Int.tdiv S6.1 (128 : Int)), E13)))
      else (some (.done (.go (S6.1, S6.2))))) (by
        intro n out h1 h2 ho
        have t1 : Int.tmod (n : Int) (128 : Int) = ((n % 128 : Nat) : Int) := by rw [show (128 : Int) = ((128 : Nat) : Int) from rfl, ← Int.ofNat_tmod]
        have t2 : Int.tdiv (n : Int) (128 : Int) = ((n / 128 : Nat) : Int) := by rw [show (128 : Int) = ((128 : Nat) : Int) from rfl, ← Int.ofNat_tdiv]
        have t3 : IntKind.i64.wrap ((128 : Int) + ((n % 128 : Nat) : Int)) = ((128 + n % 128 : Nat) : Int) := by rw [wrap_ok (by omega) (by omega)]; omega
        simp only [t1, t2, t3]
        rw [if_pos (by simp only [decide_eq_true_eq]; omega), app_ok (by simp; omega) (by simp; omega), wrap_ok (by omega) (by omega)]
        rfl) (by
        intro n out h1
        rw [if_neg (by simp only [decide_eq_true_eq]; omega)]) 6 m [] (by omega) (by omega) (by simp)
    rw [e1]
    simp only [bindC_go]
    rw [app_ok (by simp; omega) (by simp; omega), e2]
    rfl
  · rw [decide_eq_false h]
    rfl
theorem or128 (m : Nat) (h : m < 128) : 128 ||| m = 128 + m := by
  have := Nat.two_pow_add_eq_or_of_lt (i := 7) (b := m) h 1
  rw [show 2 ^ 7 * 1 = 128 from rfl] at this
  exact this.symm
theorem impl_Var_eq (n : Int) : impl_Var n = some (varV n) := by
  unfold impl_Var varV
  rw [inRange_eq]
  by_cases h : 0 ≤ n ∧ n ≤ 562949953421311
  · rw [decide_eq_true h]
    obtain ⟨m, rfl⟩ : ∃ m : Nat, n = (m : Int) := ⟨n.toNat, by omega⟩
    simp only [Option.bind_some, Bool.not_true, Bool.false_eq_true, if_false, cond_true, Int.toNat_natCast]
    obtain ⟨p, out, e1, e2, e3⟩ := var_loop (body := fun (S5 : Int × List UInt8) => if (decide (S5.1 > (127 : Int))) = true then ((app 1 S5.2 ([toU8 (ior .i64 (128 : Int) (iand .i64 S5.1 (127 : Int)))])).bind fun E12 =>
      some (.go (ishr .i64 S5.1 (7 : Int), E12)))
      else (some (.done (.go (S5.1, S5.2))))) (by
        intro n out h1 h2 ho
        have t1 : iand .i64 (n : Int) (127 : Int) = ((n % 128 : Nat) : Int) := by
          rw [show (127 : Int) = ((127 : Nat) : Int) from rfl, iand64 (by omega) (by decide), show n &&& 127 = n % 128 from Nat.and_two_pow_sub_one_eq_mod n 7]
        have t2 : ishr .i64 (n : Int) (7 : Int) = ((n / 128 : Nat) : Int) := ishr_nat (n := 7) (by decide)
        have hm : n % 128 < 128 := Nat.mod_lt _ (by decide)
        have t3 : ior .i64 (128 : Int) ((n % 128 : Nat) : Int) = ((128 + n % 128 : Nat) : Int) := by
          rw [show (128 : Int) = ((128 : Nat) : Int) from rfl, ior64 (by decide) (by omega), or128 _ hm]
        simp only [t1, t2, t3]
        rw [if_pos (by simp only [decide_eq_true_eq]; omega), app_ok (by simp; omega) (by simp; omega)]
        rfl) (by
        intro n out h1
        rw [if_neg (by simp only [decide_eq_true_eq]; omega)]) 6 m [] (by omega) (by omega) (by simp)
    rw [e1]
    simp only [bindC_go]
    rw [app_ok (by simp; omega) (by simp; omega), e2]
    rfl
  · rw [decide_eq_false h]
    rfl
/-- the number that bytes of seven bits come to -/
def numV : List UInt8 → Nat
  | [] => 0
  | x :: l => x.toNat % 128 + 128 * numV l
theorem numV_lt : ∀ (l : List UInt8), numV l < 128 ^ l.length
  | [] => by decide
  | x :: l => by
    have := numV_lt l
    have hx : x.toNat % 128 < 128 := Nat.mod_lt _ (by decide)
    rw [numV, List.length_cons, Nat.pow_succ]
    omega
theorem numV_snoc : ∀ (l : List UInt8) (x : UInt8), numV (l ++ [x]) = numV l + 128 ^ l.length * (x.toNat % 128)
  | [], x => by simp [numV]
  | y :: l, x => by
    rw [List.cons_append, numV, numV, numV_snoc l x, List.length_cons, Nat.pow_succ, Nat.mul_add, Nat.mul_comm (128 ^ l.length) 128, Nat.mul_assoc]
    omega
/-- reading: the number and how many bytes -/
def readN : Nat → List UInt8 → Option (Nat × Nat)
  | 0, _ => none
  | _ + 1, [] => none
  | f + 1, x :: l => bif decide (x.toNat < 128) then some (x.toNat, 1) else match readN f l with
    | some (m, k) => bif decide (m = 0) then none else some (x.toNat % 128 + 128 * m, k + 1)
    | none => none
theorem toU8_toNat (n : Nat) : (toU8 (n : Int)).toNat = n % 256 := by
  unfold toU8
  rw [UInt8.toNat_ofNat']
  omega
theorem toU8_of (x : UInt8) : toU8 ((x.toNat : Nat) : Int) = x := by
  have := x.toNat_lt
  apply UInt8.toNat_inj.1
  rw [toU8_toNat]
  omega
/-- a beginning that is the form of its number -/
def goodV (l : List UInt8) : Prop := ∃ f, l.length ≤ f + 1 ∧ varN f (numV l) = l
theorem varN_more : ∀ (f g n : Nat), n < 128 ^ (f + 1) → n < 128 ^ (g + 1) → varN f n = varN g n
  | f, g, n, h1, h2 => by
    by_cases h : n < 128
    · rw [varN_lt h, varN_lt h]
    · cases f with
      | zero => simp at h1; omega
      | succ f =>
        cases g with
        | zero => simp at h2; omega
        | succ g =>
          rw [varN_ge (by omega), varN_ge (by omega), varN_more f g (n / 128) ?_ ?_]
          · rw [Nat.div_lt_iff_lt_mul (by decide)]; rw [Nat.pow_succ] at h1; exact h1
          · rw [Nat.div_lt_iff_lt_mul (by decide)]; rw [Nat.pow_succ] at h2; exact h2
theorem take_ne {α : Type} {l : List α} {j : Nat} (h1 : 1 ≤ j) (h2 : j ≤ l.length) : l.take j ≠ [] := by
  intro e
  have := congrArg List.length e
  rw [List.length_take, List.length_nil] at this
  omega
theorem good_one (f : Nat) (x : UInt8) : varN f (numV [x]) = [x] ↔ x.toNat < 128 := by
  have hx : x.toNat % 128 < 128 := Nat.mod_lt _ (by decide)
  rw [show numV [x] = x.toNat % 128 by simp [numV], varN_lt hx]
  constructor
  · intro h
    have h2 : toU8 ((x.toNat % 128 : Nat) : Int) = x := by simpa using h
    have h3 := congrArg UInt8.toNat h2
    rw [toU8_toNat] at h3
    omega
  · intro h
    rw [Nat.mod_eq_of_lt h, toU8_of]
theorem good_more (f : Nat) (x : UInt8) (l : List UInt8) (hl : l ≠ []) : varN (f + 1) (numV (x :: l)) = x :: l ↔ 128 ≤ x.toNat ∧ numV l ≠ 0 ∧ varN f (numV l) = l := by
  have hx : x.toNat % 128 < 128 := Nat.mod_lt _ (by decide)
  have hx2 := x.toNat_lt
  have hm : (x.toNat % 128 + 128 * numV l) % 128 = x.toNat % 128 := by omega
  have hd : (x.toNat % 128 + 128 * numV l) / 128 = numV l := by omega
  by_cases h0 : numV l = 0
  · rw [numV, h0, varN_lt (by omega)]
    constructor
    · intro h
      have : [] = l := by simpa using (List.cons.inj h).2
      exact absurd this.symm hl
    · rintro ⟨_, h, _⟩
      exact absurd rfl h
  · rw [numV, varN_ge (by omega), hm, hd]
    constructor
    · intro h
      obtain ⟨h1, h2⟩ := List.cons.inj h
      have h3 := congrArg UInt8.toNat h1
      rw [toU8_toNat] at h3
      exact ⟨by omega, h0, h2⟩
    · rintro ⟨h1, _, h2⟩
      rw [h2, show 128 + x.toNat % 128 = x.toNat by omega, toU8_of]
theorem readN_some : ∀ (f : Nat) (s : List UInt8) (n k : Nat), readN f s = some (n, k) → 1 ≤ k ∧ k ≤ f ∧ k ≤ s.length ∧ n = numV (s.take k) ∧ varN (f - 1) n = s.take k ∧ ∀ g j, 1 ≤ j → j ≤ g + 1 → j ≤ s.length → varN g (numV (s.take j)) = s.take j → j = k
  | 0, s, n, k, h => by cases h
  | f + 1, [], n, k, h => by cases h
  | f + 1, x :: l, n, k, h => by
    rw [readN] at h
    by_cases hx : x.toNat < 128
    · rw [decide_eq_true hx] at h
      simp only [cond_true, Option.some.injEq, Prod.mk.injEq] at h
      obtain ⟨rfl, rfl⟩ := h
      have hm : x.toNat % 128 = x.toNat := Nat.mod_eq_of_lt hx
      refine ⟨Nat.le_refl _, by omega, by simp, by simp [numV, hm], ?_, fun g j hj1 hjg hjl he => ?_⟩
      · have := (good_one (f + 1 - 1) x).2 hx
        rw [show numV [x] = x.toNat by simp [numV, hm]] at this
        exact this
      · cases j with
        | zero => omega
        | succ j =>
          cases j with
          | zero => rfl
          | succ j =>
            cases g with
            | zero => omega
            | succ g =>
              rw [List.take_succ_cons] at he
              have := (good_more g x (l.take (j + 1)) (take_ne (by omega) (by rw [List.length_cons] at hjl; omega))).1 he
              omega
    · rw [decide_eq_false hx] at h
      simp only [cond_false] at h
      cases hr : readN f l with
      | none => rw [hr] at h; cases h
      | some p =>
        obtain ⟨m, k'⟩ := p
        rw [hr] at h
        simp only at h
        by_cases hm : m = 0
        · rw [decide_eq_true hm] at h; cases h
        · rw [decide_eq_false hm] at h
          simp only [cond_false, Option.some.injEq, Prod.mk.injEq] at h
          obtain ⟨rfl, rfl⟩ := h
          obtain ⟨h1, h2, h3, h4, h5, h6⟩ := readN_some f l m k' hr
          have hne : l.take k' ≠ [] := take_ne h1 h3
          refine ⟨by omega, by omega, by simp; omega, by rw [List.take_succ_cons, numV, ← h4], ?_, fun g j hj1 hjg hjl he => ?_⟩
          · rw [List.take_succ_cons, Nat.add_sub_cancel]
            obtain ⟨f', rfl⟩ : ∃ f', f = f' + 1 := ⟨f - 1, by omega⟩
            rw [Nat.add_sub_cancel] at h5
            have := (good_more f' x (l.take k') hne).2 ⟨by omega, by rw [← h4]; exact hm, by rw [← h4]; exact h5⟩
            rw [numV, ← h4] at this
            exact this
          · cases j with
            | zero => omega
            | succ j =>
              cases j with
              | zero =>
                rw [List.take_succ_cons, List.take_zero] at he
                exact absurd ((good_one g x).1 he) hx
              | succ j =>
                cases g with
                | zero => omega
                | succ g =>
                  rw [List.take_succ_cons] at he
                  have hjl' : j + 1 ≤ l.length := by simp at hjl; omega
                  have := (good_more g x (l.take (j + 1)) (take_ne (by omega) hjl')).1 he
                  have := h6 g (j + 1) (by omega) (by omega) hjl' this.2.2
                  omega
theorem readN_none : ∀ (f : Nat) (s : List UInt8), readN f s = none → ∀ g j, 1 ≤ j → j ≤ f → j ≤ g + 1 → j ≤ s.length → varN g (numV (s.take j)) ≠ s.take j
  | 0, s, h => fun g j h1 h2 => by omega
  | f + 1, [], h => fun g j h1 h2 h3 h4 => by simp at h4; omega
  | f + 1, x :: l, h => by
    intro g j hj1 hjf hjg hjl he
    rw [readN] at h
    by_cases hx : x.toNat < 128
    · rw [decide_eq_true hx] at h; cases h
    · rw [decide_eq_false hx] at h
      simp only [cond_false] at h
      cases j with
      | zero => omega
      | succ j =>
        cases j with
        | zero =>
          rw [List.take_succ_cons, List.take_zero] at he
          exact hx ((good_one g x).1 he)
        | succ j =>
          cases g with
          | zero => omega
          | succ g =>
            rw [List.take_succ_cons] at he
            have hjl' : j + 1 ≤ l.length := by simp at hjl; omega
            obtain ⟨q1, q2, q3⟩ := (good_more g x (l.take (j + 1)) (take_ne (by omega) hjl')).1 he
            cases hr : readN f l with
            | none => exact readN_none f l hr g (j + 1) (by omega) (by omega) (by omega) hjl' q3
            | some p =>
              obtain ⟨m, k'⟩ := p
              rw [hr] at h
              simp only at h
              by_cases hm : m = 0
              · obtain ⟨h1, h2, h3, h4, h5, h6⟩ := readN_some f l m k' hr
                have := h6 g (j + 1) (by omega) (by omega) hjl' q3
                rw [← this] at h4
                exact q2 (by rw [← h4]; exact hm)
              · rw [decide_eq_false hm] at h; cases h
def readR : Option (Nat × Nat) → Int × Int
  | some (n, k) => ((n : Int), (k : Int))
  | none => (0, 0)
/-- reading of what comes behind i bytes -/
def readI (n i : Nat) : Option (Nat × Nat) → Int × Int
  | some (m, k) => bif decide (m = 0 ∧ 0 < i) then (0, 0) else (((n + 128 ^ i * m : Nat) : Int), ((i + k : Nat) : Int))
  | none => (0, 0)
theorem readI_zero (p : Option (Nat × Nat)) : readI 0 0 p = readR p := by
  cases p with
  | none => rfl
  | some p => simp [readI, readR]
theorem readI_step (n i f : Nat) (x : UInt8) (l : List UInt8) (hx : ¬ x.toNat < 128) : readI n i (readN (f + 1) (x :: l)) = readI (n + 128 ^ i * (x.toNat % 128)) (i + 1) (readN f l) := by
  rw [readN, decide_eq_false hx]
  simp only [cond_false]
  cases readN f l with
  | none => rfl
  | some p =>
    obtain ⟨m, k⟩ := p
    simp only
    by_cases hm : m = 0
    · simp [hm, readI]
    · rw [decide_eq_false hm]
      simp only [cond_false, readI]
      rw [decide_eq_false (by omega), decide_eq_false (by omega)]
      simp only [cond_false]
      have e : n + 128 ^ i * (x.toNat % 128 + 128 * m) = n + 128 ^ i * (x.toNat % 128) + 128 ^ i * 128 * m := by rw [Nat.mul_add, Nat.mul_assoc, Nat.add_assoc]
      rw [Nat.pow_succ, e, show i + (k + 1) = i + 1 + k by omega]
theorem or_add (n d i : Nat) (h : n < 2 ^ (7 * i)) : n ||| d * 2 ^ (7 * i) = n + 2 ^ (7 * i) * d := by
  rw [Nat.or_comm, Nat.mul_comm, ← Nat.two_pow_add_eq_or_of_lt h]
  omega
theorem pow128 (i : Nat) : 128 ^ i = 2 ^ (7 * i) := by rw [Nat.pow_mul]
theorem ssub_nat (s : List UInt8) (a b : Nat) (h1 : a ≤ b) (h2 : b ≤ s.length) : ssub s (a : Int) (b : Int) = some ((s.drop a).take (b - a)) := by
  unfold ssub
  rw [if_pos ⟨by omega, by omega, by omega⟩, Int.toNat_natCast, Int.toNat_natCast]
theorem ssub_end (s : List UInt8) (a : Nat) (h : a ≤ s.length) : ssub s (a : Int) (s.length : Int) = some (s.drop a) := by
  rw [ssub_nat s a s.length h (Nat.le_refl _), List.take_of_length_le (by simp)]
theorem num_loop {ρ : Type} (s : List UInt8) (k : Nat) (h1 : 1 ≤ k) (h7 : k ≤ 7) (hk : k ≤ s.length) :
    loopO (ρ := Ctl Int ρ) (fun (S9 : Int × Int) => if (decide (S9.2 ≥ (0 : Int))) = true then ((sidx s S9.2).bind fun E14 =>
  some (.go (IntKind.i64.wrap (IntKind.i64.wrap (S9.1 * (128 : Int)) + (Int.tmod (IntKind.i64.wrap ((E14.toNat : Nat) : Int)) (128 : Int))), IntKind.i64.wrap (S9.2 - (1 : Int)))))
  else (some (.done (.go S9.1))))
  ((0 : Int), (k : Int) - 1) = some (.go (numV (s.take k) : Int)) := by
  have hlen : (s.take k).length = k := by rw [List.length_take]; omega
  rw [loopO_count (fun t => ((numV ((s.take k).drop (k - t)) : Int), (k : Int) - 1 - (t : Int))) k (r := Ctl.go (numV (s.take k) : Int)) ?h0]
  case h0 => rw [show k - 0 = k by omega, List.drop_of_length_le (by omega)]; simp [numV]
  · intro t ht
    have hi : (k : Int) - 1 - (t : Int) = ((k - 1 - t : Nat) : Int) := by omega
    have hd : (s.take k).drop (k - (t + 1)) = s[k - 1 - t] :: (s.take k).drop (k - t) := by
      rw [show k - (t + 1) = k - 1 - t by omega, List.drop_eq_getElem_cons (by omega), List.getElem_take]
      rw [show k - 1 - t + 1 = k - t by omega]
    have hx := (s[k - 1 - t]).toNat_lt
    have hn := numV_lt ((s.take k).drop (k - t))
    have hl : ((s.take k).drop (k - t)).length = t := by rw [List.length_drop, hlen]; omega
    rw [hl] at hn
    have hp : 128 ^ t ≤ 128 ^ 6 := Nat.pow_le_pow_right (by decide) (by omega)
    have hm : Int.tmod (((s[k - 1 - t]).toNat : Nat) : Int) (128 : Int) = (((s[k - 1 - t]).toNat % 128 : Nat) : Int) := by rw [show (128 : Int) = ((128 : Nat) : Int) from rfl, ← Int.ofNat_tmod]
    simp only [hi, sidx_nat s (k - 1 - t) (by omega), Option.bind_some]
    rw [if_pos (by simp only [decide_eq_true_eq]; omega), wrap_ok (n := (((s[k - 1 - t]).toNat : Nat) : Int)) (by omega) (by omega), hm, hd, numV]
    generalize numV ((s.take k).drop (k - t)) = z at hn
    rw [wrap_ok (n := (z : Int) * 128) (by omega) (by omega), wrap_ok (by omega) (by omega), wrap_ok (by omega) (by omega)]
    congr 3
    · omega
    · omega
  · rw [if_neg (by simp only [decide_eq_true_eq]; omega)]
    simp
/-- so many numbers read from a place on -/
def l6V (s : List UInt8) : Nat → Nat → List Int × Int
  | 0, a => ([], (a : Int))
  | n + 1, a => bif decide (s.length < a) then ([], -1) else match readN 7 (s.drop a) with
    | some (x, k) => ((x : Int) :: (l6V s n (a + k)).1, (l6V s n (a + k)).2)
    | none => ([], -1)
def nonceV (kind n : Int) : List UInt8 := bif decide (0 ≤ kind ∧ kind ≤ 255) && decide (0 ≤ n ∧ n ≤ 562949953421311) then [toU8 kind, 0, 0, 0, 0] ++ fixedV n 7 else []
theorem fixedV_len (n : Int) (w : Nat) : (fixedV n w).length ≤ w := by
  unfold fixedV
  cases decide (1 ≤ (w : Int) ∧ (w : Int) ≤ 7) && (decide (0 ≤ n) && decide (n.toNat / 256 ^ (w : Int).toNat = 0))
  · simp
  · rw [cond_true, fixV_len]; simp
theorem fixedV_len7 (n : Int) (h : 0 ≤ n ∧ n ≤ 562949953421311) : (fixedV n 7).length = 7 := by
  unfold fixedV
  have h1 : n.toNat / 256 ^ (7 : Int).toNat = 0 := Nat.div_eq_of_lt (by show n.toNat < 256 ^ 7; omega)
  rw [decide_eq_true h.1, decide_eq_true h1]
  show (fixV n.toNat 7).length = 7
  exact fixV_len _ 7
theorem varN_len : ∀ (f n : Nat), (varN f n).length ≤ f + 1
  | 0, n => Nat.le_refl _
  | f + 1, n => by
    by_cases h : n < 128
    · rw [varN_lt h]; simp
    · rw [varN_ge (by omega), List.length_cons]
      have := varN_len f (n / 128)
      omega
theorem varV_len (n : Int) : (varV n).length ≤ 7 := by
  unfold varV
  cases decide (0 ≤ n ∧ n ≤ 562949953421311)
  · simp
  · exact varN_len 6 _
def mintOk (secret : List UInt8) (t e : Int) : Bool := decide (secret.length = 32) && (decide (1 ≤ t ∧ t ≤ 99) && decide (0 ≤ e ∧ e ≤ 1000000))
theorem mintOk_iff {secret : List UInt8} {t e : Int} (h : mintOk secret t e = true) : secret.length = 32 ∧ (1 ≤ t ∧ t ≤ 99) ∧ 0 ≤ e ∧ e ≤ 1000000 := by
  unfold mintOk at h
  simp only [Bool.and_eq_true, decide_eq_true_eq] at h
  exact h
theorem readN_var {s : List UInt8} {n k : Nat} (h : readN 7 s = some (n, k)) : varV (n : Int) = s.take k ∧ k ≤ s.length ∧ 1 ≤ k ∧ k ≤ 7 := by
  obtain ⟨h1, h2, h3, h4, h5, _⟩ := readN_some 7 s n k h
  have hn := numV_lt (s.take k)
  rw [List.length_take, Nat.min_eq_left h3, ← h4] at hn
  have hp : 128 ^ k ≤ 128 ^ 7 := Nat.pow_le_pow_right (by decide) h2
  refine ⟨?_, h3, h1, h2⟩
  unfold varV
  rw [decide_eq_true (by omega), cond_true, Int.toNat_natCast]
  exact h5
theorem skip_eq (w tenant k t : Int) : (if (!(decide (w = (0 : Int)))) = true then (if (!(decide (w = tenant))) = true then (some true)
  else (if (decide (k = (13 : Int))) = true then (some (!(decide (t = tenant))))
  else (some false)))
  else (if (decide (k = (13 : Int))) = true then (some (!(decide (t = tenant))))
  else (some false))) = some ((!decide (w = 0) && !decide (w = tenant)) || (decide (k = 13) && !decide (t = tenant))) := by
  cases decide (w = 0) <;> cases decide (w = tenant) <;> cases decide (k = 13) <;> cases decide (t = tenant) <;> rfl
theorem iand32 {a b : Nat} (ha : a < 2 ^ 32) (hb : b < 2 ^ 32) : iand .u32 (a : Int) (b : Int) = ((a &&& b : Nat) : Int) := by
  unfold iand
  have h1 : a &&& b ≤ a := Nat.and_le_left
  have e : (BitVec.ofInt IntKind.u32.bits (a : Int) &&& BitVec.ofInt IntKind.u32.bits (b : Int)).toNat = a &&& b := by
    show (BitVec.ofInt 32 (a : Int) &&& BitVec.ofInt 32 (b : Int)).toNat = a &&& b
    rw [BitVec.ofInt_natCast, BitVec.ofInt_natCast, BitVec.toNat_and, BitVec.toNat_ofNat, BitVec.toNat_ofNat, Nat.mod_eq_of_lt (by omega), Nat.mod_eq_of_lt (by omega)]
  rw [e, wrap32]
  omega
/-- a step of the checksum -/
def crcS (c : Nat) : Nat := bif decide (c % 2 = 1) then (c / 2) ^^^ 2197175160 else c / 2
theorem crcS_lt {c : Nat} (h : c < 2 ^ 32) : crcS c < 2 ^ 32 := by
  unfold crcS
  have h2 : c / 2 < 2 ^ 32 := by omega
  cases decide (c % 2 = 1)
  · exact h2
  · exact Nat.xor_lt_two_pow h2 (by decide)
def crcR : Nat → Nat → Nat
  | 0, c => c
  | k + 1, c => crcS (crcR k c)
theorem crcR_lt {c : Nat} (h : c < 2 ^ 32) : ∀ k, crcR k c < 2 ^ 32
  | 0 => h
  | k + 1 => crcS_lt (crcR_lt h k)
def crcN (s : List UInt8) : Nat → Nat
  | 0 => 4294967295
  | k + 1 => match s[k]? with
    | some x => crcR 8 (crcN s k ^^^ x.toNat)
    | none => crcN s k
theorem crcN_succ (s : List UInt8) (k : Nat) (h : k < s.length) : crcN s (k + 1) = crcR 8 (crcN s k ^^^ s[k].toNat) := by
  show (match s[k]? with | some x => _ | none => _) = _
  rw [List.getElem?_eq_getElem h]
theorem byte_lt (x : UInt8) : x.toNat < 2 ^ 32 := by have := x.toNat_lt; omega
theorem crcN_lt (s : List UInt8) : ∀ k, k ≤ s.length → crcN s k < 2 ^ 32
  | 0, _ => by show 4294967295 < 2 ^ 32; decide
  | k + 1, h => by rw [crcN_succ s k (by omega)]; exact crcR_lt (Nat.xor_lt_two_pow (crcN_lt s k (by omega)) (byte_lt _)) 8
def crcV (s : List UInt8) : Int := 4294967295 - (crcN s s.length : Int)
theorem crcV_range (s : List UInt8) : 0 ≤ crcV s ∧ crcV s ≤ 4294967295 := by
  have := crcN_lt s s.length (Nat.le_refl _)
  unfold crcV
  omega
theorem impl_Crc_eq (s : List UInt8) (h : s.length ≤ 1099511627776) : impl_Crc s = some (crcV s) := by
  unfold impl_Crc
  rw [loopO_count (fun k => ((crcN s k : Int), (k : Int))) s.length (r := Ctl.go (crcN s s.length : Int)) ?h0]
  case h0 => rfl
  · have hl := crcN_lt s s.length (Nat.le_refl _)
    simp only [bindC_go]
    unfold crcV
    generalize crcN s s.length = z at hl
    rw [wrap_ok (n := (z : Int)) (by omega) (by omega), wrap_ok (by omega) (by omega)]
  · intro k hk
    have hl := crcN_lt s k (by omega)
    have hx := byte_lt s[k]
    have e1 : IntKind.u32.wrap ((s[k].toNat : Nat) : Int) = ((s[k].toNat : Nat) : Int) := by rw [wrap32]; omega
    have hc := Nat.xor_lt_two_pow hl hx
    simp only [sidx_nat s k hk, Option.bind_some, e1, ixor32 hl hx, crcN_succ s k hk]
    generalize crcN s k ^^^ s[k].toNat = c at hc
    rw [if_pos (by simpa using hk), loopO_count (fun j => ((crcR j c : Int), (j : Int))) 8 (r := Ctl.go (crcR 8 c : Int)) ?h1]
    case h1 => rfl
    · simp only [bindC_go]
      rw [wrap_ok (by omega) (by omega)]
      rfl
    · intro j hj
      have hj2 := crcR_lt hc j
      have e3 : ((crcR (j + 1) c : Nat) : Int) = ((crcS (crcR j c) : Nat) : Int) := rfl
      rw [e3]
      generalize crcR j c = q at hj2
      have a1 : iand .u32 (q : Int) (1 : Int) = ((q % 2 : Nat) : Int) := by
        rw [show (1 : Int) = ((1 : Nat) : Int) from rfl, iand32 hj2 (by decide), show q &&& 1 = q % 2 from Nat.and_two_pow_sub_one_eq_mod q 1]
      have a2 : ishr .u32 (q : Int) (1 : Int) = ((q / 2 : Nat) : Int) := ishr_nat (n := 1) (by decide)
      have a3 : ixor .u32 ((q / 2 : Nat) : Int) (2197175160 : Int) = ((q / 2 ^^^ 2197175160 : Nat) : Int) := ixor32 (by omega) (by decide)
      simp only [a1, a2, a3]
      rw [if_pos (by simp only [decide_eq_true_eq]; omega), wrap_ok (n := (j : Int) + 1) (by omega) (by omega)]
      unfold crcS
      by_cases h2 : q % 2 = 1
      · rw [decide_eq_true h2, decide_eq_true (by omega : ((q % 2 : Nat) : Int) = 1)]
        rfl
      · rw [decide_eq_false h2, decide_eq_false (by omega : ¬ ((q % 2 : Nat) : Int) = 1)]
        rfl
    · simp
  · simp
theorem spec_Crc_eq (s : List UInt8) (h : s.length ≤ 1099511627776) : spec_Crc s = some (crcV s) := by
  unfold spec_Crc
  rw [loopO_count (fun k => ((crcN s k : Int), (k : Int))) s.length (r := Ctl.go (crcN s s.length : Int)) ?h0]
  case h0 => rfl
  · have hl := crcN_lt s s.length (Nat.le_refl _)
    simp only [bindC_go]
    unfold crcV
    generalize crcN s s.length = z at hl
    rw [wrap_ok (by omega) (by omega)]
  · intro k hk
    have hl := crcN_lt s k (by omega)
    have hx := byte_lt s[k]
    have e1 : IntKind.i64.wrap ((s[k].toNat : Nat) : Int) = ((s[k].toNat : Nat) : Int) := wrap_ok (by omega) (by omega)
    have hc := Nat.xor_lt_two_pow hl hx
    have e2 : ixor .i64 (crcN s k : Int) ((s[k].toNat : Nat) : Int) = ((crcN s k ^^^ s[k].toNat : Nat) : Int) := ixor64 (by omega) (by omega)
    simp only [sidx_nat s k hk, Option.bind_some, e1, e2, crcN_succ s k hk]
    generalize crcN s k ^^^ s[k].toNat = c at hc
    rw [if_pos (by simpa using hk), loopO_count (fun j => ((crcR j c : Int), (j : Int))) 8 (r := Ctl.go (crcR 8 c : Int)) ?h1]
    case h1 => rfl
    · simp only [bindC_go]
      rw [wrap_ok (by omega) (by omega)]
      rfl
    · intro j hj
      have hj2 := crcR_lt hc j
      have e3 : ((crcR (j + 1) c : Nat) : Int) = ((crcS (crcR j c) : Nat) : Int) := rfl
      rw [e3]
      generalize crcR j c = q at hj2
      have a1 : Int.tmod (q : Int) (2 : Int) = ((q % 2 : Nat) : Int) := by rw [show (2 : Int) = ((2 : Nat) : Int) from rfl, ← Int.ofNat_tmod]
      have a2 : IntKind.i64.wrap (Int.tdiv (q : Int) (2 : Int)) = ((q / 2 : Nat) : Int) := by rw [show (2 : Int) = ((2 : Nat) : Int) from rfl, ← Int.ofNat_tdiv, wrap_ok (by omega) (by omega)]
      have a3 : ixor .i64 ((q / 2 : Nat) : Int) (2197175160 : Int) = ((q / 2 ^^^ 2197175160 : Nat) : Int) := ixor64 (by omega) (by decide)
      simp only [a1, a2, a3]
      rw [if_pos (by simp only [decide_eq_true_eq]; omega), wrap_ok (n := (j : Int) + 1) (by omega) (by omega)]
      unfold crcS
      by_cases h2 : q % 2 = 1
      · rw [decide_eq_true h2, decide_eq_true (by omega : ((q % 2 : Nat) : Int) = 1)]
        rfl
      · rw [decide_eq_false h2, decide_eq_false (by omega : ¬ ((q % 2 : Nat) : Int) = 1)]
        rfl
    · simp
  · simp
/-- an edit as required -/
def numV1 (n : Int) : Bool := decide (0 ≤ n ∧ n ≤ 1000000)
def fileE (f : File) : Bool := numV1 f.No && (numV1 f.Level && (decide (f.Lo.length ≤ 10) && decide (f.Hi.length ≤ 10)))
def editV (e : Edit) : Bool := decide (e.Add.length ≤ 12) && (decide (e.Drop.length ≤ 12) && (e.Drop.all numV1 && e.Add.all fileE))
theorem editV_iff {e : Edit} (h : editV e = true) : e.Add.length ≤ 12 ∧ e.Drop.length ≤ 12 ∧ (∀ n ∈ e.Drop, 0 ≤ n ∧ n ≤ 1000000) ∧ ∀ f ∈ e.Add, (0 ≤ f.No ∧ f.No ≤ 1000000) ∧ (0 ≤ f.Level ∧ f.Level ≤ 1000000) ∧ f.Lo.length ≤ 10 ∧ f.Hi.length ≤ 10 := by
  unfold editV fileE numV1 at h
  simp only [Bool.and_eq_true, decide_eq_true_eq, List.all_eq_true] at h
  exact h
theorem passes {ρ α : Type} (l : List α) (p : α → Bool) (body : Int → Option (Ctl Int (Ctl Unit Bool))) (h : ∀ k (hk : k < l.length), body (k : Int) = some (if p l[k] = true then .go ((k : Int) + 1) else .done (.done false))) (hn : body (l.length : Int) = some (.done (.go ()))) :
    loopO body 0 = some (if l.all p = true then .go () else .done false) := by
  rw [loopO_is (fun k s => s = (k : Int) ∧ l.all p = (l.drop k).all p) l.length (if l.all p = true then Ctl.go () else Ctl.done false) ?h0 ?h1 ?h2]
  case h0 => exact ⟨rfl, rfl⟩
  · rintro k s hk ⟨rfl, he⟩
    rw [h k hk, he, List.drop_eq_getElem_cons hk, List.all_cons]
    cases p l[k] with
    | false => right; rfl
    | true => left; exact ⟨(k : Int) + 1, rfl, by omega, by simp⟩
  · rintro s ⟨rfl, he⟩
    rw [he, List.drop_length, hn]
    rfl
theorem fileE_eq (f : File) (g : Int → Option Bool) (hg : ∀ n, g n = some (numV1 n)) : ((g f.No).bind fun R27 =>
  if (!R27) = true then (some true)
  else ((g f.Level).bind fun R31 =>
  if (!R31) = true then (some true)
  else (if (decide (((f.Lo.length : Nat) : Int) > (10 : Int))) = true then (some true)
  else (some (decide (((f.Hi.length : Nat) : Int) > (10 : Int))))))) = some (!fileE f) := by
  unfold fileE
  rw [hg, hg]
  simp only [Option.bind_some]
  have e1 : decide (((f.Lo.length : Nat) : Int) > (10 : Int)) = !decide (f.Lo.length ≤ 10) := by
    by_cases h : f.Lo.length ≤ 10
    · rw [decide_eq_true h, decide_eq_false (by omega)]; rfl
    · rw [decide_eq_false h, decide_eq_true (by omega)]; rfl
  have e2 : decide (((f.Hi.length : Nat) : Int) > (10 : Int)) = !decide (f.Hi.length ≤ 10) := by
    by_cases h : f.Hi.length ≤ 10
    · rw [decide_eq_true h, decide_eq_false (by omega)]; rfl
    · rw [decide_eq_false h, decide_eq_true (by omega)]; rfl
  rw [e1, e2]
  cases numV1 f.No <;> cases numV1 f.Level <;> cases decide (f.Lo.length ≤ 10) <;> cases decide (f.Hi.length ≤ 10) <;> rfl
theorem lens_eq (a b : Nat) : (if (decide ((a : Int) > (12 : Int))) = true then (some true) else (some (decide ((b : Int) > (12 : Int))))) = some (!(decide (a ≤ 12) && decide (b ≤ 12))) := by
  by_cases h : a ≤ 12
  · rw [decide_eq_true h, decide_eq_false (by omega : ¬ (a : Int) > 12)]
    by_cases h2 : b ≤ 12
    · rw [decide_eq_true h2, decide_eq_false (by omega : ¬ (b : Int) > 12)]; rfl
    · rw [decide_eq_false h2, decide_eq_true (by omega : (b : Int) > 12)]; rfl
  · rw [decide_eq_false h, decide_eq_true (by omega : (a : Int) > 12)]; rfl
theorem spec_l17Ok_eq (e : Edit) : spec_l17Ok e = some (editV e) := by
  unfold spec_l17Ok editV
  simp only [lens_eq, Option.bind_some]
  by_cases ha : e.Add.length ≤ 12
  · by_cases hd : e.Drop.length ≤ 12
    · rw [decide_eq_true ha, decide_eq_true hd]
      simp only [Bool.and_self, Bool.not_true, Bool.false_eq_true, if_false, Bool.true_and]
      rw [passes (ρ := Unit) e.Drop numV1 _ ?h1 ?h2]
      case h2 => simp
      case h1 =>
        intro k hk
        simp only [idx_nat e.Drop k hk, Option.bind_some, l1In_eq]
        rw [if_pos (by simpa using hk), wrap_ok (n := (k : Int) + 1) (by omega) (by omega)]
        show _ = some (if numV1 e.Drop[k] = true then _ else _)
        unfold numV1
        cases decide (0 ≤ e.Drop[k] ∧ e.Drop[k] ≤ 1000000) <;> rfl
      cases e.Drop.all numV1 with
      | false => simp
      | true =>
        simp only [if_true, bindC_go, Bool.true_and]
        rw [passes (ρ := Unit) e.Add fileE _ ?h3 ?h4]
        case h4 => simp
        case h3 =>
          intro k hk
          simp only [idx_nat e.Add k hk, Option.bind_some]
          rw [fileE_eq e.Add[k] (fun n => spec_l1In n 0 1000000) (fun n => l1In_eq n 0 1000000)]
          rw [if_pos (by simpa using hk), wrap_ok (n := (k : Int) + 1) (by omega) (by omega)]
          cases fileE e.Add[k] <;> rfl
        cases e.Add.all fileE <;> simp
    · rw [decide_eq_true ha, decide_eq_false hd]
      simp
  · rw [decide_eq_false ha]
    simp
theorem impl_editOk_eq (e : Edit) : impl_editOk e = some (editV e) := by
  unfold impl_editOk editV
  have hnum : ∀ n, impl_isNumber n = some (numV1 n) := fun n => by unfold impl_isNumber; rw [inRange_eq]; rfl
  simp only [lens_eq, Option.bind_some]
  by_cases ha : e.Add.length ≤ 12
  · by_cases hd : e.Drop.length ≤ 12
    · rw [decide_eq_true ha, decide_eq_true hd]
      simp only [Bool.and_self, Bool.not_true, Bool.false_eq_true, if_false, Bool.true_and]
      rw [passes (ρ := Unit) e.Drop numV1 _ ?h1 ?h2]
      case h2 => simp
      case h1 =>
        intro k hk
        simp only [idx_nat e.Drop k hk, Option.bind_some, hnum]
        rw [if_pos (by simpa using hk), wrap_ok (n := (k : Int) + 1) (by omega) (by omega)]
        cases numV1 e.Drop[k] <;> rfl
      cases e.Drop.all numV1 with
      | false => simp
      | true =>
        simp only [if_true, bindC_go, Bool.true_and]
        rw [passes (ρ := Unit) e.Add fileE _ ?h3 ?h4]
        case h4 => simp
        case h3 =>
          intro k hk
          simp only [idx_nat e.Add k hk, Option.bind_some]
          rw [fileE_eq e.Add[k] impl_isNumber hnum]
          rw [if_pos (by simpa using hk), wrap_ok (n := (k : Int) + 1) (by omega) (by omega)]
          cases fileE e.Add[k] <;> rfl
        cases e.Add.all fileE <;> simp
    · rw [decide_eq_true ha, decide_eq_false hd]
      simp
  · rw [decide_eq_false ha]
    simp
/-- a string behind its length -/
def pieceV (s : List UInt8) : List UInt8 := varV (s.length : Int) ++ s
theorem spec_l6Piece_eq (s : List UInt8) (h : s.length ≤ 1099511627776) : spec_l6Piece s = some (pieceV s) := by
  unfold spec_l6Piece pieceV
  have := varV_len (s.length : Int)
  rw [spec_Var_eq]
  simp only [Option.bind_some]
  rw [cat_ok (by omega)]
  rfl
theorem impl_short_eq (s : List UInt8) (h : s.length ≤ 1099511627776) : impl_short s = some (pieceV s) := by
  unfold impl_short pieceV
  have := varV_len (s.length : Int)
  rw [impl_Var_eq]
  simp only [Option.bind_some]
  rw [cat_ok (by omega)]
  rfl
def fileB (f : File) : List UInt8 := varV f.No ++ varV f.Level ++ pieceV f.Lo ++ pieceV f.Hi
def bodyV (e : Edit) : List UInt8 := varV (e.Drop.length : Int) ++ e.Drop.flatMap varV ++ varV (e.Add.length : Int) ++ e.Add.flatMap fileB
def showV (e : Edit) : List UInt8 := bif editV e then fixedV (crcV (bodyV e)) 4 ++ bodyV e else []
theorem pieceV_len (s : List UInt8) : (pieceV s).length ≤ 7 + s.length := by
  have := varV_len (s.length : Int)
  unfold pieceV
  rw [List.length_append]; omega
theorem fileB_len {f : File} (h : f.Lo.length ≤ 10 ∧ f.Hi.length ≤ 10) : (fileB f).length ≤ 48 := by
  have h1 := varV_len f.No
  have h2 := varV_len f.Level
  have h3 := pieceV_len f.Lo
  have h4 := pieceV_len f.Hi
  unfold fileB
  rw [List.length_append, List.length_append, List.length_append]; omega
theorem flat_len {α : Type} (g : α → List UInt8) (m : Nat) : ∀ (l : List α), (∀ x ∈ l, (g x).length ≤ m) → (l.flatMap g).length ≤ m * l.length
  | [], _ => by simp
  | x :: l, h => by
    have h1 := h x (by simp)
    have h2 := flat_len g m l fun y hy => h y (by simp [hy])
    rw [List.flatMap_cons, List.length_append, List.length_cons, Nat.mul_succ]
    omega
theorem flat_take {α : Type} (g : α → List UInt8) (l : List α) (k : Nat) (h : k < l.length) : (l.take (k + 1)).flatMap g = (l.take k).flatMap g ++ g l[k] := by
  rw [List.take_add_one, List.getElem?_eq_getElem h, List.flatMap_append]
  simp
theorem flat_take_len {α : Type} (g : α → List UInt8) (m : Nat) (l : List α) (k : Nat) (h : ∀ x ∈ l, (g x).length ≤ m) : ((l.take k).flatMap g).length ≤ m * l.length := by
  have h1 := flat_len g m (l.take k) fun x hx => h x (List.mem_of_mem_take hx)
  have h2 : m * (l.take k).length ≤ m * l.length := Nat.mul_le_mul_left _ (by simp; omega)
  omega
theorem bodyV_len {e : Edit} (h : editV e = true) : (bodyV e).length ≤ 700 := by
  obtain ⟨h1, h2, h3, h4⟩ := editV_iff h
  have a1 := varV_len (e.Drop.length : Int)
  have a2 := varV_len (e.Add.length : Int)
  have a3 := flat_len varV 7 e.Drop fun x _ => varV_len x
  have a4 := flat_len fileB 48 e.Add fun f hf => fileB_len (h4 f hf).2.2
  unfold bodyV
  rw [List.length_append, List.length_append, List.length_append]
  omega
theorem varN_ne (f n : Nat) : varN f n ≠ [] := by
  by_cases h : n < 128
  · rw [varN_lt h]; simp
  · cases f with
    | zero => simp [varN]
    | succ f => rw [varN_ge (by omega)]; simp
theorem varV_ne {n : Int} (h : 0 ≤ n ∧ n ≤ 562949953421311) : varV n ≠ [] := by
  unfold varV
  rw [decide_eq_true h]
  exact varN_ne 6 _
theorem summed_eq (b : List UInt8) (h : b.length ≤ 1048576) : impl_summed b = some (fixedV (crcV b) 4 ++ b) := by
  have hr := crcV_range b
  have hl := fixedV_len (crcV b) 4
  unfold impl_summed
  rw [impl_Crc_eq b (by omega)]
  simp only [Option.bind_some, impl_Fixed_eq (crcV b) 4 (by omega)]
  rw [cat_ok (by have : (fixedV (crcV b) 4).length ≤ 4 := hl; omega)]
  rfl
theorem spec_ShowEdit_eq (e : Edit) : spec_ShowEdit e = some (showV e) := by
  unfold spec_ShowEdit showV
  rw [spec_l17Ok_eq]
  cases hv : editV e with
  | false => rfl
  | true =>
    obtain ⟨h1, h2, h3, h4⟩ := editV_iff hv
    have hb := bodyV_len hv
    have a1 := varV_len (e.Drop.length : Int)
    have a2 := varV_len (e.Add.length : Int)
    simp only [Option.bind_some, Bool.not_true, Bool.false_eq_true, if_false, cond_true, spec_Var_eq]
    rw [loopO_count (fun k => (varV (e.Drop.length : Int) ++ (e.Drop.take k).flatMap varV, (k : Int))) e.Drop.length (r := Ctl.go (varV (e.Drop.length : Int) ++ e.Drop.flatMap varV)) ?h0]
    case h0 => simp
    · have a3 := flat_len varV 7 e.Drop fun x _ => varV_len x
      simp only [bindC_go]
      rw [cat_ok (by rw [List.length_append]; omega)]
      simp only [Option.bind_some]
      rw [loopO_count (fun k => (varV (e.Drop.length : Int) ++ e.Drop.flatMap varV ++ varV (e.Add.length : Int) ++ (e.Add.take k).flatMap fileB, (k : Int))) e.Add.length (r := Ctl.go (bodyV e)) ?h1]
      case h1 => simp
      · have hr := crcV_range (bodyV e)
        have hl : (fixedV (crcV (bodyV e)) 4).length ≤ 4 := fixedV_len (crcV (bodyV e)) 4
        simp only [bindC_go, spec_Crc_eq (bodyV e) (by omega), Option.bind_some, spec_Fixed_eq (crcV (bodyV e)) 4 (by omega)]
        rw [cat_ok (by omega)]
        rfl
      · intro k hk
        obtain ⟨q1, q2, q3, q4⟩ := h4 _ (List.getElem_mem hk)
        have b1 := varV_len e.Add[k].No
        have b2 := varV_len e.Add[k].Level
        have b3 := pieceV_len e.Add[k].Lo
        have b4 := pieceV_len e.Add[k].Hi
        have b5 := flat_take_len fileB 48 e.Add k fun f hf => fileB_len (h4 f hf).2.2
        have b6 : (varV (e.Drop.length : Int) ++ e.Drop.flatMap varV ++ varV (e.Add.length : Int) ++ (e.Add.take k).flatMap fileB).length ≤ 700 := by
          rw [List.length_append, List.length_append, List.length_append]; omega
        simp only [idx_nat e.Add k hk, Option.bind_some, spec_l6Piece_eq e.Add[k].Lo (by omega), spec_l6Piece_eq e.Add[k].Hi (by omega), flat_take fileB e.Add k hk]
        generalize varV (e.Drop.length : Int) ++ e.Drop.flatMap varV ++ varV (e.Add.length : Int) = z at b6
        generalize (e.Add.take k).flatMap fileB = y at b6
        rw [List.length_append] at b6
        rw [if_pos (by simpa using hk), wrap_ok (n := (k : Int) + 1) (by omega) (by omega)]
        rw [cat_ok (by simp only [List.length_append]; omega)]
        simp only [Option.bind_some]
        rw [cat_ok (by simp only [List.length_append]; omega)]
        simp only [Option.bind_some]
        rw [cat_ok (by simp only [List.length_append]; omega)]
        simp only [Option.bind_some]
        rw [cat_ok (by simp only [List.length_append]; omega)]
        simp [fileB]
      · rw [List.take_length]
        simp [bodyV]
    · intro k hk
      have b1 := varV_len e.Drop[k]
      have b5 := flat_take_len varV 7 e.Drop k fun x _ => varV_len x
      simp only [idx_nat e.Drop k hk, Option.bind_some, flat_take varV e.Drop k hk]
      rw [if_pos (by simpa using hk), wrap_ok (n := (k : Int) + 1) (by omega) (by omega), cat_ok (by rw [List.length_append]; omega)]
      simp
    · simp
theorem impl_ShowEdit_eq (e : Edit) : impl_ShowEdit e = some (showV e) := by
  unfold impl_ShowEdit showV
  rw [impl_editOk_eq]
  cases hv : editV e with
  | false => rfl
  | true =>
    obtain ⟨h1, h2, h3, h4⟩ := editV_iff hv
    have hb := bodyV_len hv
    have a1 := varV_len (e.Drop.length : Int)
    have a2 := varV_len (e.Add.length : Int)
    simp only [Option.bind_some, Bool.not_true, Bool.false_eq_true, if_false, cond_true, impl_Var_eq]
    rw [app_ok (by simp; omega) (by simp; omega)]
    simp only [Option.bind_some, List.nil_append]
    rw [loopO_count (fun k => ((k : Int), varV (e.Drop.length : Int) ++ (e.Drop.take k).flatMap varV)) e.Drop.length (r := Ctl.go (varV (e.Drop.length : Int) ++ e.Drop.flatMap varV)) ?h0]
    case h0 => simp
    · have a3 := flat_len varV 7 e.Drop fun x _ => varV_len x
      simp only [bindC_go]
      rw [app_ok (by rw [List.length_append]; omega) (by rw [List.length_append]; omega)]
      simp only [Option.bind_some]
      rw [loopO_count (fun k => ((k : Int), varV (e.Drop.length : Int) ++ e.Drop.flatMap varV ++ varV (e.Add.length : Int) ++ (e.Add.take k).flatMap fileB)) e.Add.length (r := Ctl.go (bodyV e)) ?h1]
      case h1 => simp
      · have hne : bodyV e ≠ [] := by
          intro he
          have := congrArg List.length he
          unfold bodyV at this
          rw [List.length_append, List.length_append, List.length_append, List.length_nil] at this
          exact varV_ne (n := (e.Drop.length : Int)) (by omega) (List.eq_nil_of_length_eq_zero (by omega))
        have hs : strOf (bodyV e) = some (bodyV e) := by unfold strOf; rw [if_neg hne]
        simp only [bindC_go, hs, Option.bind_some, summed_eq (bodyV e) (by omega)]
      · intro k hk
        obtain ⟨q1, q2, q3, q4⟩ := h4 _ (List.getElem_mem hk)
        have b1 := varV_len e.Add[k].No
        have b2 := varV_len e.Add[k].Level
        have b3 := pieceV_len e.Add[k].Lo
        have b4 := pieceV_len e.Add[k].Hi
        have b5 := flat_take_len fileB 48 e.Add k fun f hf => fileB_len (h4 f hf).2.2
        have b6 : (varV (e.Drop.length : Int) ++ e.Drop.flatMap varV ++ varV (e.Add.length : Int) ++ (e.Add.take k).flatMap fileB).length ≤ 700 := by
          rw [List.length_append, List.length_append, List.length_append]; omega
        simp only [idx_nat e.Add k hk, Option.bind_some, impl_short_eq e.Add[k].Lo (by omega), impl_short_eq e.Add[k].Hi (by omega), flat_take fileB e.Add k hk]
        generalize varV (e.Drop.length : Int) ++ e.Drop.flatMap varV ++ varV (e.Add.length : Int) = z at b6
        generalize (e.Add.take k).flatMap fileB = y at b6
        rw [List.length_append] at b6
        rw [if_pos (by simpa using hk), wrap_ok (n := (k : Int) + 1) (by omega) (by omega)]
        rw [cat_ok (by omega)]
        simp only [Option.bind_some]
        rw [cat_ok (by simp only [List.length_append]; omega)]
        simp only [Option.bind_some]
        rw [cat_ok (by simp only [List.length_append]; omega)]
        simp only [Option.bind_some]
        have b7 : (varV e.Add[k].No ++ varV e.Add[k].Level ++ pieceV e.Add[k].Lo ++ pieceV e.Add[k].Hi).length ≤ 48 := fileB_len (h4 _ (List.getElem_mem hk)).2.2
        rw [app_ok (by rw [List.length_append]; omega) (by rw [List.length_append]; omega)]
        simp [fileB]
      · rw [List.take_length]
        simp [bodyV]
    · intro k hk
      have b1 := varV_len e.Drop[k]
      have b5 := flat_take_len varV 7 e.Drop k fun x _ => varV_len x
      simp only [idx_nat e.Drop k hk, Option.bind_some, flat_take varV e.Drop k hk]
      rw [if_pos (by simpa using hk), wrap_ok (n := (k : Int) + 1) (by omega) (by omega), app_ok (by rw [List.length_append]; omega) (by rw [List.length_append]; omega)]
      simp
    · simp
theorem FnExactShowEdit_pure (e : Edit) (he : Dec.ok e) : laws_FnExactShowEdit e = some true := by
  unfold laws_FnExactShowEdit
  rw [sz_Edit e 1048576 (by omega) (by omega) he]
  simp only [Option.bind_some]
  by_cases hl : szV 1048576 (wgt_Edit e) < 0
  · rw [if_pos (by simpa using hl)]
  · have hn := szV_nonneg hl
    have hw : wgt_Edit e ≤ 1048576 := by omega
    rw [if_neg (by simpa using hl), to_Edit e hw]
    simp only [Option.bind_some, spec_ShowEdit_eq, impl_ShowEdit_eq, eq_Edit e e (bnd_of_Edit e hw)]
    simp
theorem FnExactShowEdit_proved : Rows.FnExactShowEditSaid := FnExactShowEdit_over fun e he => FnExactShowEdit_pure e he

end Go.Proofs.Ythlnhpkdccojcaa
