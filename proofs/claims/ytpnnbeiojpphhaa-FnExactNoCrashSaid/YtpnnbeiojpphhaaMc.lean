/-
  The plain laws: what the pure functions come to, and the statements. Conditions: none.
-/
import Derived.Test.YtpnnbeiojpphhaaPm
import Derived.Test.YtpnnbeiojpphhaaN2
set_option linter.unusedVariables false
set_option linter.unusedSimpArgs false
namespace Go.Proofs.Ytpnnbeiojpphhaa
open Go Sl

/-! ### SpaceOk -/
theorem all_range (l : List Int) (p : Int → Bool) (f : Int → Option Bool) (hf : ∀ x, f x = some (p x)) (hl : l.length ≤ 1048576) :
    loopO (ρ := Ctl Unit Bool) (fun (S6 : Int) => if (decide (S6 < ((l.length : Nat) : Int))) = true then ((idx l S6).bind fun E11 =>
  (f E11).bind fun R13 =>
  if (!R13) = true then (some (.done (.done false)))
  else (some (.go (IntKind.i64.wrap (S6 + (1 : Int))))))
  else (some (.done (.go ())))) (0 : Int) = some (if l.all p then .go () else .done false) := by
  rw [loopO_list l (fun k (_ : Unit) => (k : Int)) (fun _ x _ => if p x then some (Ctl.go ()) else some (Ctl.done (Ctl.done false))) (fun _ => some (Ctl.go ())) () ?h0 ?hs ?hf]
  case h0 => rfl
  case hs =>
    intro k hk _
    simp only [idx_nat l k hk, Option.bind_some, hf]
    rw [wrap_ok (by omega) (by omega)]
    by_cases he : p l[k] = true
    · simp [he, Ctl.mapGo, hk]
    · simp [he, Ctl.mapGo, hk]
  case hf => intro _; simp
  rw [runL_all p (Ctl.done false) _ _ (by intro k x _; rfl)]
  split <;> rfl
/-- giving blocks back, one by one -/
def giveV (who : Int) : List Int → List Int → Option (List Int)
  | [], s => some s
  | b :: bs, s => if 0 ≤ b ∧ b < s.length ∧ s[b.toNat]? = some who ∧ 1 ≤ who then giveV who bs (s.set b.toNat 0) else none
theorem giveV_cons (who b : Int) (bs s : List Int) : giveV who (b :: bs) s = if 0 ≤ b ∧ b < s.length ∧ s[b.toNat]? = some who ∧ 1 ≤ who then giveV who bs (s.set b.toNat 0) else none := rfl
theorem giveV_nil (who : Int) (s : List Int) : giveV who [] s = some s := rfl
theorem giveV_length (who : Int) : ∀ (bs s r : List Int), giveV who bs s = some r → r.length = s.length
  | [], s, r, h => by simp [giveV] at h; rw [h]
  | b :: bs, s, r, h => by
    unfold giveV at h
    split at h
    · rw [giveV_length who bs _ r h, List.length_set]
    · cases h
theorem idx_some' {α : Type} {l : List α} {i : Int} (h0 : 0 ≤ i) (h1 : i < l.length) : idx l i = some (l[i.toNat]'(by omega)) := by
  unfold idx; rw [if_pos h0, List.getElem?_eq_getElem]
/-- what a quota needs -/
def needV (q : Int) : Int := if 0 ≤ q ∧ q ≤ 1000 then 2 + 2 * ((q + 49) / 50) else 0
theorem needV_range (q : Int) : 0 ≤ needV q ∧ needV q ≤ 42 := by
  unfold needV; split <;> omega
theorem markText_loop (m : Nat) : ∀ s : List UInt8, s.length + m ≤ 9223372036854775806 → ∃ r : List UInt8, loopO (ρ := Ctl (List UInt8) (List UInt8)) (fun (S2 : Int × List UInt8) => if (decide (S2.1 > (0 : Int))) = true then ((cat ([toU8 (IntKind.i64.wrap ((48 : Int) + (Int.tmod S2.1 (10 : Int))))]) S2.2).bind fun E8 =>
  some (.go (IntKind.i64.wrap (Int.tdiv S2.1 (10 : Int)), E8)))
  else (some (.done (.go S2.2)))) ((m : Int), s) = some (.go r) ∧ r.length ≤ s.length + m := by
  induction m using Nat.strongRecOn with
  | _ m ih =>
    intro s hs
    rw [loopO_eq]
    by_cases h0 : m = 0
    · subst h0
      exact ⟨s, by simp, by omega⟩
    · simp only
      rw [if_pos (by simp; omega), cat_ok (by simp; omega)]
      have hd : Int.tdiv (m : Int) 10 = ((m / 10 : Nat) : Int) := rfl
      rw [hd, wrap_ok (n := ((m / 10 : Nat) : Int)) (by omega) (by omega)]
      simp only [Option.bind_some]
      obtain ⟨r, hr, hl⟩ := ih (m / 10) (by omega) ([toU8 (IntKind.i64.wrap ((48 : Int) + (Int.tmod (m : Int) (10 : Int))))] ++ s) (by simp; omega)
      exact ⟨r, hr, by simp at hl; omega⟩
def wgt_Op (x : Op) : Nat := x.Key.length + (x.Val.length + 0)
theorem sz_Op (x : Op) (left : Int) (h1 : 0 ≤ left) (h2 : left ≤ 1048576) (h : Dec.ok x) : laws_szOp x left = some (szV left (wgt_Op x)) := by
  unfold laws_szOp
  show _ = some (szV left (x.Key.length + (x.Val.length + 0)))
  refine sz_str h1 h2 (h.1) fun hle0 hw0 => ?_
  simp only [hw0]
  have g1_0 : 0 ≤ left - ((x.Key.length : Nat) : Int) := by omega
  have g2_0 : left - ((x.Key.length : Nat) : Int) ≤ 1048576 := by omega
  refine sz_str g1_0 g2_0 (h.2.2) fun hle1 hw1 => ?_
  simp only [hw1]
  have g1_1 : 0 ≤ left - ((x.Key.length : Nat) : Int) - ((x.Val.length : Nat) : Int) := by omega
  have g2_1 : left - ((x.Key.length : Nat) : Int) - ((x.Val.length : Nat) : Int) ≤ 1048576 := by omega
  exact sz_end g1_1
theorem to_Op (x : Op) : laws_toOp x = some x := rfl
theorem eq_Op (a b : Op) : laws_eqOp a b = some (decide (a = b)) := by
  have he : (a = b) ↔ (a.Key = b.Key ∧ a.Del = b.Del ∧ a.Val = b.Val ∧ True) := ⟨fun e => by subst e; simp, fun h => by cases a; cases b; simp_all⟩
  rw [decide_eq_decide.2 he]
  unfold laws_eqOp
  refine eq_step fun _ => ?_
  refine eq_step fun _ => ?_
  refine eq_step fun _ => ?_
  exact eq_end
theorem sz_OpS (a : List Op) (left : Int) (h1 : 0 ≤ left) (h2 : left ≤ 1048576) (h : okl a) : laws_szOpS a left = some (szV left (wS wgt_Op a)) := by
  unfold laws_szOpS
  exact szS_of a laws_szOp wgt_Op (fun x hx left h1 h2 => sz_Op x left h1 h2 (h.2 x hx)) h.1 left h1 h2
theorem to_OpS (a : List Op) (h : a.length ≤ 1048576) : laws_toOpS a = some a := by
  unfold laws_toOpS
  rw [mkLen_ok (by omega) (by omega)]
  simp only [Option.bind_some]
  rw [to_loop a _ laws_toOp (fun x _ => rfl) (by omega)]
  rfl
theorem eq_OpS (a b : List Op) (h : a.length ≤ 4611686018427387904) : laws_eqOpS a b = some (decide (a = b)) :=
  eqS_of a b laws_eqOp (fun x y _ _ => eq_Op x y) h
def wgt_Call (x : Call) : Nat := x.Token.length + (x.Key.length + (x.To.length + (wS wgt_Op x.Ops + 0)))
theorem sz_Call (x : Call) (left : Int) (h1 : 0 ≤ left) (h2 : left ≤ 1048576) (h : Dec.ok x) : laws_szCall x left = some (szV left (wgt_Call x)) := by
  unfold laws_szCall
  show _ = some (szV left (x.Token.length + (x.Key.length + (x.To.length + (wS wgt_Op x.Ops + 0)))))
  refine sz_str h1 h2 (h.2.1) fun hle0 hw0 => ?_
  simp only [hw0]
  have g1_0 : 0 ≤ left - ((x.Token.length : Nat) : Int) := by omega
  have g2_0 : left - ((x.Token.length : Nat) : Int) ≤ 1048576 := by omega
  refine sz_str g1_0 g2_0 (h.2.2.2.2.1) fun hle1 hw1 => ?_
  simp only [hw1]
  have g1_1 : 0 ≤ left - ((x.Token.length : Nat) : Int) - ((x.Key.length : Nat) : Int) := by omega
  have g2_1 : left - ((x.Token.length : Nat) : Int) - ((x.Key.length : Nat) : Int) ≤ 1048576 := by omega
  refine sz_str g1_1 g2_1 (h.2.2.2.2.2.1) fun hle2 hw2 => ?_
  simp only [hw2]
  have g1_2 : 0 ≤ left - ((x.Token.length : Nat) : Int) - ((x.Key.length : Nat) : Int) - ((x.To.length : Nat) : Int) := by omega
  have g2_2 : left - ((x.Token.length : Nat) : Int) - ((x.Key.length : Nat) : Int) - ((x.To.length : Nat) : Int) ≤ 1048576 := by omega
  rw [sz_OpS x.Ops _ g1_2 g2_2 (h.2.2.2.2.2.2)]
  refine sz_call g1_2 fun hle3 => ?_
  have g1_3 : 0 ≤ left - ((x.Token.length : Nat) : Int) - ((x.Key.length : Nat) : Int) - ((x.To.length : Nat) : Int) - ((wS wgt_Op x.Ops : Nat) : Int) := by omega
  have g2_3 : left - ((x.Token.length : Nat) : Int) - ((x.Key.length : Nat) : Int) - ((x.To.length : Nat) : Int) - ((wS wgt_Op x.Ops : Nat) : Int) ≤ 1048576 := by omega
  exact sz_end g1_3
def bnd_Call (x : Call) : Prop := x.Ops.length ≤ 4611686018427387904
theorem to_Call (x : Call) (h : wgt_Call x ≤ 1048576) : laws_toCall x = some x := by
  unfold laws_toCall
  have h0 : x.Token.length + (x.Key.length + (x.To.length + (wS wgt_Op x.Ops + 0))) ≤ 1048576 := h
  simp only [to_OpS x.Ops (wS_len (w := wgt_Op) (l := x.Ops) (by omega)), Option.bind_some]
theorem bnd_of_Call (x : Call) (h : wgt_Call x ≤ 1048576) : bnd_Call x := by
  have h0 : x.Token.length + (x.Key.length + (x.To.length + (wS wgt_Op x.Ops + 0))) ≤ 1048576 := h
  exact Nat.le_trans (wS_len (w := wgt_Op) (n := 1048576) (by omega)) (by decide)
theorem eq_Call (a b : Call) (h : bnd_Call a) : laws_eqCall a b = some (decide (a = b)) := by
  have he : (a = b) ↔ (a.Kind = b.Kind ∧ a.Token = b.Token ∧ a.Tenant = b.Tenant ∧ a.N = b.N ∧ a.Key = b.Key ∧ a.To = b.To ∧ a.Ops = b.Ops ∧ True) := ⟨fun e => by subst e; simp, fun h => by cases a; cases b; simp_all⟩
  rw [decide_eq_decide.2 he]
  unfold laws_eqCall
  refine eq_step fun _ => ?_
  refine eq_step fun _ => ?_
  refine eq_step fun _ => ?_
  refine eq_step fun _ => ?_
  refine eq_step fun _ => ?_
  refine eq_step fun _ => ?_
  rw [eq_OpS a.Ops b.Ops h]
  refine eq_call fun _ => ?_
  exact eq_end
theorem sz_CallS (a : List Call) (left : Int) (h1 : 0 ≤ left) (h2 : left ≤ 1048576) (h : okl a) : laws_szCallS a left = some (szV left (wS wgt_Call a)) := by
  unfold laws_szCallS
  exact szS_of a laws_szCall wgt_Call (fun x hx left h1 h2 => sz_Call x left h1 h2 (h.2 x hx)) h.1 left h1 h2
theorem to_CallS (a : List Call) (h : wS wgt_Call a ≤ 1048576) : laws_toCallS a = some a := by
  have hl := wS_len h
  unfold laws_toCallS
  rw [mkLen_ok (by omega) (by omega)]
  simp only [Option.bind_some]
  rw [to_loop a _ laws_toCall (fun x hx => (to_Call x (wS_mem h hx))) (by omega)]
  rfl
theorem eq_CallS (a b : List Call) (h : a.length ≤ 4611686018427387904 ∧ ∀ y ∈ a, bnd_Call y) : laws_eqCallS a b = some (decide (a = b)) :=
  eqS_of a b laws_eqCall (fun x y hx _ => eq_Call x y (h.2 x hx)) h.1

/-- a list turned up to a place -/
def preM {α : Type} (f : α → α) (l : List α) (k : Nat) : List α := (l.take k).map f ++ l.drop k
theorem preM_length {α : Type} (f : α → α) (l : List α) (k : Nat) : (preM f l k).length = l.length := by unfold preM; simp; omega
theorem preM_get {α : Type} (f : α → α) (l : List α) (k : Nat) (h : k < l.length) : idx (preM f l k) (k : Int) = some l[k] := by
  rw [idx_nat _ k (by rw [preM_length]; exact h)]
  congr 1
  have hl : ((l.take k).map f).length = k := by rw [List.length_map, List.length_take]; omega
  unfold preM
  rw [List.getElem_append_right (by omega)]
  simp only [hl, Nat.sub_self]
  simp
theorem preM_set {α : Type} (f : α → α) (l : List α) (k : Nat) (h : k < l.length) : (preM f l k).set k (f l[k]) = preM f l (k + 1) := by
  have hl : ((l.take k).map f).length = k := by rw [List.length_map, List.length_take]; omega
  have htk : l.take (k + 1) = l.take k ++ [l[k]] := by rw [List.take_add_one, List.getElem?_eq_getElem h]; rfl
  unfold preM
  rw [List.set_append_right _ _ (by omega), hl, Nat.sub_self, htk, List.drop_eq_getElem_cons h, List.set_cons_zero, List.map_append, List.append_assoc]
  rfl
theorem preM_same {α : Type} (f : α → α) (l : List α) (k : Nat) (h : k < l.length) (hf : f l[k] = l[k]) : preM f l (k + 1) = preM f l k := by
  rw [← preM_set f l k h, hf]
  apply List.ext_getElem?
  intro j
  rw [List.getElem?_set]
  split
  · rename_i he
    subst he
    have := preM_get f l k h
    unfold idx at this
    rw [if_pos (by omega), Int.toNat_natCast] at this
    rw [if_pos (by rw [preM_length]; exact h), this]
  · rfl
theorem preM_all {α : Type} (f : α → α) (l : List α) : preM f l l.length = l.map f := by unfold preM; simp
/-- a tenant's blocks, wiped -/
def wipeV (who : Int) (l : List Int) : List Int := l.map fun x => if x = who then 0 else x
/-- the first n free blocks of the first k -/
def freeIx (l : List Int) (n : Int) : Nat → List Nat
  | 0 => []
  | k + 1 => if l[k]? = some 0 ∧ ((freeIx l n k).length : Int) < n then freeIx l n k ++ [k] else freeIx l n k
theorem freeIx_lt (l : List Int) (n : Int) : ∀ k, ∀ i ∈ freeIx l n k, i < k
  | 0, i, h => by simp [freeIx] at h
  | k + 1, i, h => by
    unfold freeIx at h
    split at h
    · rcases List.mem_append.1 h with h | h
      · have := freeIx_lt l n k i h; omega
      · have : i = k := by simpa using h
        omega
    · have := freeIx_lt l n k i h; omega
theorem freeIx_length (l : List Int) (n : Int) : ∀ k, (freeIx l n k).length ≤ k
  | 0 => by simp [freeIx]
  | k + 1 => by
    have := freeIx_length l n k
    unfold freeIx
    split
    · simp; omega
    · omega
theorem freeIx_sat (l : List Int) (n : Int) (k : Nat) (h : ¬ ((freeIx l n k).length : Int) < n) : ∀ d, freeIx l n (k + d) = freeIx l n k
  | 0 => rfl
  | d + 1 => by
    have := freeIx_sat l n k h d
    have e : freeIx l n (k + (d + 1)) = if l[k + d]? = some 0 ∧ ((freeIx l n (k + d)).length : Int) < n then freeIx l n (k + d) ++ [k + d] else freeIx l n (k + d) := rfl
    rw [e, this, if_neg (fun h2 => h h2.2)]
theorem freeIx_count (l : List Int) (n : Int) (hn : 1 ≤ n) : ∀ k, k ≤ l.length → (((freeIx l n k).length : Int) < n ↔ (((l.take k).countP fun x => decide (x = 0) : Nat) : Int) < n) ∧ ((((l.take k).countP fun x => decide (x = 0) : Nat) : Int) < n → (freeIx l n k).length = ((l.take k).countP fun x => decide (x = 0))) ∧
    ((((l.take k).countP fun x => decide (x = 0) : Nat) : Int) = n → ((freeIx l n k).length : Int) = n)
  | 0, _ => by simp [freeIx]
  | k + 1, hk => by
    obtain ⟨h1, h2, h3⟩ := freeIx_count l n hn k (by omega)
    have hk' : k < l.length := by omega
    have htk : l.take (k + 1) = l.take k ++ [l[k]] := by rw [List.take_add_one, List.getElem?_eq_getElem hk']; rfl
    unfold freeIx
    rw [htk, List.countP_append, List.getElem?_eq_getElem hk']
    by_cases hx : l[k] = 0
    · simp only [hx, true_and, List.countP_cons, List.countP_nil, decide_true, if_true, Nat.zero_add]
      by_cases hc : ((freeIx l n k).length : Int) < n
      · rw [if_pos hc]
        have := h2 (h1.1 hc)
        simp only [List.length_append, List.length_cons, List.length_nil]
        omega
      · rw [if_neg hc]
        have : ¬ (((l.take k).countP fun x => decide (x = 0) : Nat) : Int) < n := fun h => hc (h1.2 h)
        omega
    · simp only [List.countP_cons, List.countP_nil, hx, decide_false, Bool.false_eq_true, if_false, Nat.add_zero]
      rw [if_neg (by simp [hx])]
      exact ⟨h1, h2, h3⟩
/-- blocks given to somebody -/
def setAll (who : Int) (l : List Int) (g : List Nat) : List Int := g.foldl (fun s i => s.set i who) l
theorem setAll_length (who : Int) (g : List Nat) : ∀ l, (setAll who l g).length = l.length := by
  induction g with
  | nil => intro l; rfl
  | cons i g ih => intro l; show (setAll who (l.set i who) g).length = _; rw [ih, List.length_set]
theorem setAll_snoc (who : Int) (l : List Int) (g : List Nat) (i : Nat) : setAll who l (g ++ [i]) = (setAll who l g).set i who := by
  unfold setAll; rw [List.foldl_append]; rfl
theorem sLt_nil (a : List UInt8) : sLt a [] = false := by cases a <;> rfl
theorem sLt_compl : ∀ a b : List UInt8, (sLt b a || decide (b = a)) = !sLt a b
  | [], [] => rfl
  | [], b :: y => by simp [sLt, Op.bytesLess]
  | a :: x, [] => by simp [sLt, Op.bytesLess]
  | a :: x, b :: y => by
    have ih := sLt_compl x y
    simp only [sLt] at ih
    simp only [sLt, Op.bytesLess]
    by_cases h1 : a < b
    · have h2 : ¬ b < a := fun h => absurd (UInt8.lt_trans h1 h) (UInt8.lt_irrefl _)
      have h3 : ¬ b = a := fun h => by subst h; exact UInt8.lt_irrefl _ h1
      simp [h1, h2, h3]
    · by_cases h2 : b < a
      · have h3 : ¬ a = b := fun h => by subst h; exact UInt8.lt_irrefl _ h2
        simp [h1, h2, h3]
      · have h3 : a = b := by
          rw [UInt8.lt_iff_toNat_lt] at h1 h2
          apply UInt8.toNat_inj.1
          omega
        subst h3
        simp only [h1, decide_false, Bool.false_or, beq_self_eq_true, Bool.true_and, List.cons.injEq, true_and]
        exact ih
theorem scan_up (p : Nat → Bool) (n : Nat) : ∀ d a, a + d = n → ∃ j, a ≤ j ∧ j ≤ n ∧ (∀ i, a ≤ i → i < j → p i = false) ∧ (j < n → p j = true)
  | 0, a, h => ⟨a, Nat.le_refl _, by omega, fun i h1 h2 => by omega, fun h => by omega⟩
  | d + 1, a, h => by
    cases hp : p a with
    | true => exact ⟨a, Nat.le_refl _, by omega, fun i h1 h2 => by omega, fun _ => hp⟩
    | false =>
      obtain ⟨j, h1, h2, h3, h4⟩ := scan_up p n d (a + 1) (by omega)
      refine ⟨j, by omega, h2, fun i h5 h6 => ?_, h4⟩
      by_cases e : i = a
      · rw [e]; exact hp
      · exact h3 i (by omega) h6
theorem down_stop (p : Nat → Bool) : ∀ n : Nat, ∃ j : Nat, j ≤ n ∧ (∀ i, j ≤ i → i < n → p i = false) ∧ (0 < j → p (j - 1) = true)
  | 0 => ⟨0, Nat.le_refl _, fun i h1 h2 => by omega, fun h => by omega⟩
  | n + 1 => by
    cases hp : p n with
    | true => exact ⟨n + 1, Nat.le_refl _, fun i h1 h2 => by omega, fun _ => by simpa using hp⟩
    | false =>
      obtain ⟨j, h1, h2, h3⟩ := down_stop p n
      refine ⟨j, by omega, fun i h4 h5 => ?_, h3⟩
      by_cases e : i = n
      · rw [e]; exact hp
      · exact h2 i h4 (by omega)
theorem all_loop {body : Int → Option (Ctl Int (Ctl Unit Bool))} (pass : Nat → Bool) (n : Nat) (h : ∀ k, k < n → body (k : Int) = some (if pass k = true then .go ((k : Int) + 1) else .done (.done false))) (hn : body (n : Int) = some (.done (.go ()))) :
    loopO body 0 = some (if (List.range n).all pass = true then .go () else .done false) := by
  have key : ∀ d k, k + d = n → loopO body (k : Int) = some (if ((List.range n).drop k).all pass = true then .go () else .done false) := by
    intro d
    induction d with
    | zero =>
      intro k hk
      obtain rfl : k = n := by omega
      rw [loopO_eq, hn, List.drop_of_length_le (by simp)]
      rfl
    | succ d ih =>
      intro k hk
      have hd : (List.range n).drop k = k :: (List.range n).drop (k + 1) := by rw [List.drop_eq_getElem_cons (by simp; omega)]; simp
      rw [loopO_eq, h k (by omega), hd, List.all_cons]
      cases hp : pass k with
      | true =>
        have := ih (k + 1) (by omega)
        rw [show ((k + 1 : Nat) : Int) = (k : Int) + 1 by omega] at this
        simpa using this
      | false => simp
  have := key n 0 (by omega)
  simpa using this
theorem sLt_compl' (a b : List UInt8) : (!sLt a b) = (sLt b a || decide (b = a)) := (sLt_compl a b).symm
theorem sLt_nil_iff (b : List UInt8) : sLt [] b = !decide (b = []) := by cases b <;> rfl
theorem len0 (out : List Int) : decide (((out.length : Nat) : Int) = 0) = decide (out = []) := by
  cases out with
  | nil => rfl
  | cons a l => simp; omega
theorem sMin_eq (a b : List UInt8) : sMin a b = if sLt b a = true then b else a := by
  unfold sMin
  rw [sLt_compl]
  cases sLt b a <;> simp
theorem sMax_eq (a b : List UInt8) : sMax a b = if sLt a b = true then b else a := by
  unfold sMax
  cases sLt a b <;> simp
theorem sLt_irr (a : List UInt8) : sLt a a = false := by
  have := sLt_compl a a
  simpa using this
theorem NoCrash_both (l : List Call) (h : l.length ≤ 1048576) : ∃ b, spec_NoCrash l = some b ∧ impl_NoCrash l = some b := by
  have he : spec_NoCrash l = impl_NoCrash l := by
    unfold spec_NoCrash impl_NoCrash
    congr 2
    funext i
    split
    · cases idx l i <;> rfl
    · rfl
  have ht : ∃ b, impl_NoCrash l = some b := by
    unfold impl_NoCrash
    refine bindC_ends (loopO_ends (fun k i => i = (k : Int)) l.length rfl ?_ ?_) (fun _ => ⟨_, rfl⟩)
    · rintro k i hk rfl
      simp only [idx_nat l k hk, Option.bind_some]
      rw [if_pos (by simpa using hk), wrap_ok (n := (k : Int) + 1) (by omega) (by omega)]
      by_cases h1 : l[k].Kind = 14 <;> by_cases h2 : l[k].N > 0
      · right; exact ⟨.done false, by simp [h1, h2]⟩
      · left; exact ⟨(k : Int) + 1, by simp [h1, h2], by omega⟩
      · left; exact ⟨(k : Int) + 1, by simp [h1], by omega⟩
      · left; exact ⟨(k : Int) + 1, by simp [h1], by omega⟩
    · rintro i rfl
      exact ⟨.go (), by simp⟩
  obtain ⟨b, hb⟩ := ht
  exact ⟨b, he.trans hb, hb⟩
theorem FnExactNoCrash_pure (a : List Call) (h : okl a) : laws_FnExactNoCrash a = some true := by
  unfold laws_FnExactNoCrash
  rw [sz_CallS a 1048576 (by omega) (by omega) h]
  simp only [Option.bind_some]
  by_cases hl : szV 1048576 (wS wgt_Call a) < 0
  · rw [if_pos (by simpa using hl)]
  · have hn := szV_nonneg hl
    have hw : wS wgt_Call a ≤ 1048576 := by omega
    obtain ⟨b, h1, h2⟩ := NoCrash_both a (wS_len hw)
    rw [if_neg (by simpa using hl), to_CallS a hw]
    simp only [Option.bind_some, h1, h2, eq_CallS a a ⟨Nat.le_trans (wS_len hw) (by decide), fun y hy => bnd_of_Call y (wS_mem hw hy)⟩]
    simp
theorem FnExactNoCrash_proved : Rows.FnExactNoCrashSaid := FnExactNoCrash_over fun a h => FnExactNoCrash_pure a h

theorem sLt_trans : ∀ {a b c : List UInt8}, sLt a b = true → sLt b c = true → sLt a c = true
  | [], [], _, h, _ => by simp [sLt, Op.bytesLess] at h
  | [], _ :: _, [], _, h => by simp [sLt, Op.bytesLess] at h
  | [], _ :: _, _ :: _, _, _ => rfl
  | _ :: _, [], _, h, _ => by simp [sLt, Op.bytesLess] at h
  | _ :: _, _ :: _, [], _, h => by simp [sLt, Op.bytesLess] at h
  | x :: a, y :: b, z :: c, h1, h2 => by
    simp only [sLt, Op.bytesLess, Bool.or_eq_true, decide_eq_true_eq, Bool.and_eq_true, beq_iff_eq] at h1 h2 ⊢
    rcases h1 with h1 | ⟨rfl, h1⟩
    · rcases h2 with h2 | ⟨rfl, _⟩
      · exact .inl (UInt8.lt_trans h1 h2)
      · exact .inl h1
    · rcases h2 with h2 | ⟨rfl, h2⟩
      · exact .inl h2
      · exact .inr ⟨rfl, sLt_trans h1 h2⟩
theorem sLt_irrefl (a : List UInt8) : sLt a a = false := by
  have := sLt_compl a a
  simpa using this
theorem all_loop' {body : Int → Option (Ctl Int (Ctl Unit Bool))} (pass : Nat → Bool) (n : Nat) (h : ∀ k, k < n → body (k : Int) = some (if pass k = true then .go ((k : Int) + 1) else .done (.done false))) (hn : body (n : Int) = some (.done (.go ()))) :
    bindC (loopO body 0) (fun (_ : Unit) => some true) = some ((List.range n).all pass) := by
  rw [all_loop pass n h hn]
  cases (List.range n).all pass <;> rfl
end Go.Proofs.Ytpnnbeiojpphhaa
