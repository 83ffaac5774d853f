/-
  The plain laws: what the pure functions come to, and the statements. Conditions: none.
-/
import Derived.Test.YtpnnbeiojpphhabPm
import Derived.Test.YtpnnbeiojpphhabC3
set_option linter.unusedVariables false
set_option linter.unusedSimpArgs false
namespace Go.Proofs.Ytpnnbeiojpphhab
open Go Sl

theorem inRange_eq (n a b : Int) : impl_inRange n a b = some (decide (a ≤ n ∧ n ≤ b)) := by
  unfold impl_inRange
  by_cases h : n ≥ a <;> simp [h]
theorem l1In_eq (n a b : Int) : spec_l1In n a b = some (decide (a ≤ n ∧ n ≤ b)) := by
  unfold spec_l1In
  by_cases h : n ≥ a <;> simp [h]
/-! ### SpaceOk -/
theorem toIntS_eq (a : List Int) (h : a.length ≤ 1048576) : laws_toIntS a = some a := by
  have := to_loop a 0 (fun x => some x) (fun _ _ => rfl) (by omega)
  simp only [Option.bind_some] at this
  unfold laws_toIntS
  rw [mkLen_ok (by omega) (by omega)]
  simp only [Option.bind_some]
  rw [this]
  rfl
theorem eqIntS_eq (a b : List Int) (h : a.length ≤ 1048576) : laws_eqIntS a b = some (decide (a = b)) := by
  have := eqS_of a b (fun x y => some (decide (x = y))) (fun _ _ _ _ => rfl) (by omega)
  simp only [Option.bind_some] at this
  exact this
theorem all_range (l : List Int) (p : Int → Bool) (f : Int → Option Bool) (hf : ∀ x, f x = some (p x)) (hl : l.length ≤ 1048576) :
    loopO (ρ := Ctl Unit Bool) (fun (S6 : Int) => if (decide (S6 < ((l.length : Nat) : Int))) = true then ((idx l S6).bind fun E11 =>
  (f E11).bind fun R13 =>
  if (!R13) = true then (some (.done (.done false)))
  else (some (.go (IntKind.i64.wrap (S6 + (1 : Int))))))
  else (some (.done (.go ())))) (0 : Int) = some (if l.all p then .go () else .done false) := by
  rw [loopO_list l (fun k (_ : Unit) => (k : Int)) (fun _ x _ => if p x then some (Ctl.go ()) else some (Ctl.done (Ctl.done false))) (fun _ => some (Ctl.go ())) () ?h0 ?hs ?hf]
  case h0 => rfl
  case hs =>
    intro k hk _
    simp only [idx_nat l k hk, Option.bind_some, hf]
    rw [wrap_ok (by omega) (by omega)]
    by_cases he : p l[k] = true
    · simp [he, Ctl.mapGo, hk]
    · simp [he, Ctl.mapGo, hk]
  case hf => intro _; simp
  rw [runL_all p (Ctl.done false) _ _ (by intro k x _; rfl)]
  split <;> rfl
theorem markIntS_eq (a : List Int) (k : Int) (h : a.length ≤ 1048576) (h1 : 1 ≤ k) (h2 : k ≤ 1125899906842624) : laws_markIntS a k = some (k + a.length, a.mapIdx fun i _ => k + i) := by
  unfold laws_markIntS
  rw [mark_loop (fun q _ => q) 1 a k h1 (by omega) h ?hb ?hd]
  case hb =>
    intro q i l hi h3 h4 hl
    simp only [idx_nat l i hi, Option.bind_some]
    rw [wrap_ok (by omega) (by omega), wrap_ok (by omega) (by omega)]
    simp [hi]
  case hd => intro q l hl; simp
  simp
/-- giving blocks back, one by one -/
def giveV (who : Int) : List Int → List Int → Option (List Int)
  | [], s => some s
  | b :: bs, s => if 0 ≤ b ∧ b < s.length ∧ s[b.toNat]? = some who ∧ 1 ≤ who then giveV who bs (s.set b.toNat 0) else none
theorem giveV_cons (who b : Int) (bs s : List Int) : giveV who (b :: bs) s = if 0 ≤ b ∧ b < s.length ∧ s[b.toNat]? = some who ∧ 1 ≤ who then giveV who bs (s.set b.toNat 0) else none := rfl
theorem giveV_nil (who : Int) (s : List Int) : giveV who [] s = some s := rfl
theorem giveV_length (who : Int) : ∀ (bs s r : List Int), giveV who bs s = some r → r.length = s.length
  | [], s, r, h => by simp [giveV] at h; rw [h]
  | b :: bs, s, r, h => by
    unfold giveV at h
    split at h
    · rw [giveV_length who bs _ r h, List.length_set]
    · cases h
theorem idx_some' {α : Type} {l : List α} {i : Int} (h0 : 0 ≤ i) (h1 : i < l.length) : idx l i = some (l[i.toNat]'(by omega)) := by
  unfold idx; rw [if_pos h0, List.getElem?_eq_getElem]
/-- what a quota needs -/
def needV (q : Int) : Int := if 0 ≤ q ∧ q ≤ 1000 then 2 + 2 * ((q + 49) / 50) else 0
theorem needV_range (q : Int) : 0 ≤ needV q ∧ needV q ≤ 42 := by
  unfold needV; split <;> omega
theorem markText_loop (m : Nat) : ∀ s : List UInt8, s.length + m ≤ 9223372036854775806 → ∃ r : List UInt8, loopO (ρ := Ctl (List UInt8) (List UInt8)) (fun (S2 : Int × List UInt8) => if (decide (S2.1 > (0 : Int))) = true then ((cat ([toU8 (IntKind.i64.wrap ((48 : Int) + (Int.tmod S2.1 (10 : Int))))]) S2.2).bind fun E8 =>
  some (.go (IntKind.i64.wrap (Int.tdiv S2.1 (10 : Int)), E8)))
  else (some (.done (.go S2.2)))) ((m : Int), s) = some (.go r) ∧ r.length ≤ s.length + m := by
  induction m using Nat.strongRecOn with
  | _ m ih =>
    intro s hs
    rw [loopO_eq]
    by_cases h0 : m = 0
    · subst h0
      exact ⟨s, by simp, by omega⟩
    · simp only
      rw [if_pos (by simp; omega), cat_ok (by simp; omega)]
      have hd : Int.tdiv (m : Int) 10 = ((m / 10 : Nat) : Int) := rfl
      rw [hd, wrap_ok (n := ((m / 10 : Nat) : Int)) (by omega) (by omega)]
      simp only [Option.bind_some]
      obtain ⟨r, hr, hl⟩ := ih (m / 10) (by omega) ([toU8 (IntKind.i64.wrap ((48 : Int) + (Int.tmod (m : Int) (10 : Int))))] ++ s) (by simp; omega)
      exact ⟨r, hr, by simp at hl; omega⟩
theorem markText_some (k : Int) (h : k ≤ 9223372036854775800) : ∃ t, laws_markText k = some t := by
  unfold laws_markText
  by_cases h0 : k ≤ 0
  · exact ⟨_, by rw [if_pos (by simpa using h0)]⟩
  · rw [if_neg (by simpa using h0)]
    obtain ⟨r, hr, hl⟩ := markText_loop k.toNat [] (by simp; omega)
    rw [show ((k.toNat : Nat) : Int) = k by omega] at hr
    refine ⟨[109] ++ r, ?_⟩
    rw [hr]
    simp only [bindC_go]
    rw [cat_ok (by simp at hl ⊢; omega)]
    rfl
noncomputable def markT (k : Int) : List UInt8 := (laws_markText k).getD []
theorem markText_eq (k : Int) (h : k ≤ 9223372036854775800) : laws_markText k = some (markT k) := by
  obtain ⟨t, ht⟩ := markText_some k h
  unfold markT; rw [ht]; rfl
def wgt_Ent (x : Ent) : Nat := x.Key.length + (x.Val.length + 0)
theorem sz_Ent (x : Ent) (left : Int) (h1 : 0 ≤ left) (h2 : left ≤ 1048576) (h : Dec.ok x) : laws_szEnt x left = some (szV left (wgt_Ent x)) := by
  unfold laws_szEnt
  show _ = some (szV left (x.Key.length + (x.Val.length + 0)))
  refine sz_str h1 h2 (h.1) fun hle0 hw0 => ?_
  simp only [hw0]
  have g1_0 : 0 ≤ left - ((x.Key.length : Nat) : Int) := by omega
  have g2_0 : left - ((x.Key.length : Nat) : Int) ≤ 1048576 := by omega
  refine sz_str g1_0 g2_0 (h.2.2.2) fun hle1 hw1 => ?_
  simp only [hw1]
  have g1_1 : 0 ≤ left - ((x.Key.length : Nat) : Int) - ((x.Val.length : Nat) : Int) := by omega
  have g2_1 : left - ((x.Key.length : Nat) : Int) - ((x.Val.length : Nat) : Int) ≤ 1048576 := by omega
  exact sz_end g1_1
theorem to_Ent (x : Ent) : laws_toEnt x = some x := rfl
theorem eq_Ent (a b : Ent) : laws_eqEnt a b = some (decide (a = b)) := by
  have he : (a = b) ↔ (a.Key = b.Key ∧ a.Seq = b.Seq ∧ a.Del = b.Del ∧ a.Val = b.Val ∧ True) := ⟨fun e => by subst e; simp, fun h => by cases a; cases b; simp_all⟩
  rw [decide_eq_decide.2 he]
  unfold laws_eqEnt
  refine eq_step fun _ => ?_
  refine eq_step fun _ => ?_
  refine eq_step fun _ => ?_
  refine eq_step fun _ => ?_
  exact eq_end
def wgt_Op (x : Op) : Nat := x.Key.length + (x.Val.length + 0)
theorem to_IntS (a : List Int) (h : a.length ≤ 1048576) : laws_toIntS a = some a := by
  have := fun z => to_loop a z (fun x => some x) (fun _ _ => rfl) (by omega)
  simp only [Option.bind_some] at this
  unfold laws_toIntS
  rw [mkLen_ok (by omega) (by omega)]
  simp only [Option.bind_some]
  rw [this]
  rfl
theorem eq_IntS (a b : List Int) (h : a.length ≤ 4611686018427387904) : laws_eqIntS a b = some (decide (a = b)) := by
  have := eqS_of a b (fun x y => some (decide (x = y))) (fun _ _ _ _ => rfl) h
  simp only [Option.bind_some] at this
  exact this
theorem mark_IntS (a : List Int) (k : Int) (h1 : 1 ≤ k) (h2 : k + ((a.map (fun _ => 1)).sum : Nat) ≤ 4611686018427387904) (h : a.length ≤ 4611686018427387904) : laws_markIntS a k = some (k + ((a.map (fun _ => 1)).sum : Nat), mkL (fun q _ => q) (fun _ => 1) k a) := by
  unfold laws_markIntS
  rw [markV_loop (fun q _ => q) (fun _ => 1) a k h1 h2 h ?hb ?hd]
  case hb =>
    intro q i l x hi hx h3 h4 hl hil
    have hc : (((fun _ => 1) x : Nat) : Int) = 1 := rfl
    rw [hc] at h4
    have wi : IntKind.i64.wrap ((i : Int) + 1) = (i : Int) + 1 := wrap_ok (by omega) (by omega)
    have w0 : IntKind.i64.wrap (q + 1) = q + 1 := wrap_ok (by omega) (by omega)
    simp only [hi, Option.bind_some, wi, w0]
    rw [if_pos (by simpa [hl] using hil), Int.toNat_natCast, hc]
    first | done | rfl | (congr 3 <;> omega)
  case hd => intro q l hl; simp
  rfl
theorem sz_EntS (a : List Ent) (left : Int) (h1 : 0 ≤ left) (h2 : left ≤ 1048576) (h : okl a) : laws_szEntS a left = some (szV left (wS wgt_Ent a)) := by
  unfold laws_szEntS
  exact szS_of a laws_szEnt wgt_Ent (fun x hx left h1 h2 => sz_Ent x left h1 h2 (h.2 x hx)) h.1 left h1 h2
theorem to_EntS (a : List Ent) (h : a.length ≤ 1048576) : laws_toEntS a = some a := by
  unfold laws_toEntS
  rw [mkLen_ok (by omega) (by omega)]
  simp only [Option.bind_some]
  rw [to_loop a _ laws_toEnt (fun x _ => rfl) (by omega)]
  rfl
theorem eq_EntS (a b : List Ent) (h : a.length ≤ 4611686018427387904) : laws_eqEntS a b = some (decide (a = b)) :=
  eqS_of a b laws_eqEnt (fun x y _ _ => eq_Ent x y) h
def cnt_Ent (_ : Ent) : Nat := 4
noncomputable def mk_Ent (q : Int) (_ : Ent) : Ent := { Key := markT (q), Seq := q + 1, Del := decide (Int.tmod (q + 1 + 1) 3 = 0), Val := markT (q + 1 + 1 + 1) : Ent }
theorem mark_EntS (a : List Ent) (k : Int) (h1 : 1 ≤ k) (h2 : k + ((a.map cnt_Ent).sum : Nat) ≤ 4611686018427387904) (h : a.length ≤ 4611686018427387904) : laws_markEntS a k = some (k + ((a.map cnt_Ent).sum : Nat), mkL mk_Ent cnt_Ent k a) := by
  unfold laws_markEntS
  rw [markV_loop mk_Ent cnt_Ent a k h1 h2 h ?hb ?hd]
  case hb =>
    intro q i l x hi hx h3 h4 hl hil
    have hc : ((cnt_Ent x : Nat) : Int) = 4 := rfl
    rw [hc] at h4
    have wi : IntKind.i64.wrap ((i : Int) + 1) = (i : Int) + 1 := wrap_ok (by omega) (by omega)
    have w0 : IntKind.i64.wrap (q + 1) = q + 1 := wrap_ok (by omega) (by omega)
    have w1 : IntKind.i64.wrap (q + 1 + 1) = q + 1 + 1 := wrap_ok (by omega) (by omega)
    have w2 : IntKind.i64.wrap (q + 1 + 1 + 1) = q + 1 + 1 + 1 := wrap_ok (by omega) (by omega)
    have w3 : IntKind.i64.wrap (q + 1 + 1 + 1 + 1) = q + 1 + 1 + 1 + 1 := wrap_ok (by omega) (by omega)
    simp only [hi, Option.bind_some, wi, w0, w1, w2, w3, markText_eq (q) (by omega), markText_eq (q + 1 + 1 + 1) (by omega)]
    rw [if_pos (by simpa [hl] using hil), Int.toNat_natCast, hc]
    first | done | rfl | (congr 3 <;> omega)
  case hd => intro q l hl; simp
  rfl
theorem held_EntS (a : List Ent) (k : Int) (h1 : 1 ≤ k) (h2 : k + ((a.map cnt_Ent).sum : Nat) ≤ 4611686018427387904) (h : a.length ≤ 4611686018427387904) : laws_heldEntS (mkL mk_Ent cnt_Ent k a) k = some (k + ((a.map cnt_Ent).sum : Nat)) := by
  unfold laws_heldEntS
  rw [mkL_length, heldV_loop mk_Ent cnt_Ent a k (Ctl.go (k + ((a.map cnt_Ent).sum : Nat))) h1 h2 ?hb ?hd]
  case hb =>
    intro q i x hi hx h3 h4 hil
    have hc : ((cnt_Ent x : Nat) : Int) = 4 := rfl
    rw [hc] at h4
    have wi : IntKind.i64.wrap ((i : Int) + 1) = (i : Int) + 1 := wrap_ok (by omega) (by omega)
    have w0 : IntKind.i64.wrap (q + 1) = q + 1 := wrap_ok (by omega) (by omega)
    have w1 : IntKind.i64.wrap (q + 1 + 1) = q + 1 + 1 := wrap_ok (by omega) (by omega)
    have w2 : IntKind.i64.wrap (q + 1 + 1 + 1) = q + 1 + 1 + 1 := wrap_ok (by omega) (by omega)
    have w3 : IntKind.i64.wrap (q + 1 + 1 + 1 + 1) = q + 1 + 1 + 1 + 1 := wrap_ok (by omega) (by omega)
    simp only [hi, Option.bind_some, wi, w0, w1, w2, w3, mk_Ent, markText_eq (q) (by omega), markText_eq (q + 1 + 1 + 1) (by omega)]
    rw [if_pos (by simpa using hil), hc]
    simp
    try omega
  case hd => simp
  rfl

/-- a list turned up to a place -/
def preM {α : Type} (f : α → α) (l : List α) (k : Nat) : List α := (l.take k).map f ++ l.drop k
theorem preM_length {α : Type} (f : α → α) (l : List α) (k : Nat) : (preM f l k).length = l.length := by unfold preM; simp; omega
theorem preM_get {α : Type} (f : α → α) (l : List α) (k : Nat) (h : k < l.length) : idx (preM f l k) (k : Int) = some l[k] := by
  rw [idx_nat _ k (by rw [preM_length]; exact h)]
  congr 1
  have hl : ((l.take k).map f).length = k := by rw [List.length_map, List.length_take]; omega
  unfold preM
  rw [List.getElem_append_right (by omega)]
  simp only [hl, Nat.sub_self]
  simp
theorem preM_set {α : Type} (f : α → α) (l : List α) (k : Nat) (h : k < l.length) : (preM f l k).set k (f l[k]) = preM f l (k + 1) := by
  have hl : ((l.take k).map f).length = k := by rw [List.length_map, List.length_take]; omega
  have htk : l.take (k + 1) = l.take k ++ [l[k]] := by rw [List.take_add_one, List.getElem?_eq_getElem h]; rfl
  unfold preM
  rw [List.set_append_right _ _ (by omega), hl, Nat.sub_self, htk, List.drop_eq_getElem_cons h, List.set_cons_zero, List.map_append, List.append_assoc]
  rfl
theorem preM_same {α : Type} (f : α → α) (l : List α) (k : Nat) (h : k < l.length) (hf : f l[k] = l[k]) : preM f l (k + 1) = preM f l k := by
  rw [← preM_set f l k h, hf]
  apply List.ext_getElem?
  intro j
  rw [List.getElem?_set]
  split
  · rename_i he
    subst he
    have := preM_get f l k h
    unfold idx at this
    rw [if_pos (by omega), Int.toNat_natCast] at this
    rw [if_pos (by rw [preM_length]; exact h), this]
  · rfl
theorem preM_all {α : Type} (f : α → α) (l : List α) : preM f l l.length = l.map f := by unfold preM; simp
/-- a tenant's blocks, wiped -/
def wipeV (who : Int) (l : List Int) : List Int := l.map fun x => if x = who then 0 else x
/-- the first n free blocks of the first k -/
def freeIx (l : List Int) (n : Int) : Nat → List Nat
  | 0 => []
  | k + 1 => if l[k]? = some 0 ∧ ((freeIx l n k).length : Int) < n then freeIx l n k ++ [k] else freeIx l n k
theorem freeIx_lt (l : List Int) (n : Int) : ∀ k, ∀ i ∈ freeIx l n k, i < k
  | 0, i, h => by simp [freeIx] at h
  | k + 1, i, h => by
    unfold freeIx at h
    split at h
    · rcases List.mem_append.1 h with h | h
      · have := freeIx_lt l n k i h; omega
      · have : i = k := by simpa using h
        omega
    · have := freeIx_lt l n k i h; omega
theorem freeIx_length (l : List Int) (n : Int) : ∀ k, (freeIx l n k).length ≤ k
  | 0 => by simp [freeIx]
  | k + 1 => by
    have := freeIx_length l n k
    unfold freeIx
    split
    · simp; omega
    · omega
theorem freeIx_sat (l : List Int) (n : Int) (k : Nat) (h : ¬ ((freeIx l n k).length : Int) < n) : ∀ d, freeIx l n (k + d) = freeIx l n k
  | 0 => rfl
  | d + 1 => by
    have := freeIx_sat l n k h d
    have e : freeIx l n (k + (d + 1)) = if l[k + d]? = some 0 ∧ ((freeIx l n (k + d)).length : Int) < n then freeIx l n (k + d) ++ [k + d] else freeIx l n (k + d) := rfl
    rw [e, this, if_neg (fun h2 => h h2.2)]
theorem freeIx_count (l : List Int) (n : Int) (hn : 1 ≤ n) : ∀ k, k ≤ l.length → (((freeIx l n k).length : Int) < n ↔ (((l.take k).countP fun x => decide (x = 0) : Nat) : Int) < n) ∧ ((((l.take k).countP fun x => decide (x = 0) : Nat) : Int) < n → (freeIx l n k).length = ((l.take k).countP fun x => decide (x = 0))) ∧
    ((((l.take k).countP fun x => decide (x = 0) : Nat) : Int) = n → ((freeIx l n k).length : Int) = n)
  | 0, _ => by simp [freeIx]
  | k + 1, hk => by
    obtain ⟨h1, h2, h3⟩ := freeIx_count l n hn k (by omega)
    have hk' : k < l.length := by omega
    have htk : l.take (k + 1) = l.take k ++ [l[k]] := by rw [List.take_add_one, List.getElem?_eq_getElem hk']; rfl
    unfold freeIx
    rw [htk, List.countP_append, List.getElem?_eq_getElem hk']
    by_cases hx : l[k] = 0
    · simp only [hx, true_and, List.countP_cons, List.countP_nil, decide_true, if_true, Nat.zero_add]
      by_cases hc : ((freeIx l n k).length : Int) < n
      · rw [if_pos hc]
        have := h2 (h1.1 hc)
        simp only [List.length_append, List.length_cons, List.length_nil]
        omega
      · rw [if_neg hc]
        have : ¬ (((l.take k).countP fun x => decide (x = 0) : Nat) : Int) < n := fun h => hc (h1.2 h)
        omega
    · simp only [List.countP_cons, List.countP_nil, hx, decide_false, Bool.false_eq_true, if_false, Nat.add_zero]
      rw [if_neg (by simp [hx])]
      exact ⟨h1, h2, h3⟩
/-- blocks given to somebody -/
def setAll (who : Int) (l : List Int) (g : List Nat) : List Int := g.foldl (fun s i => s.set i who) l
theorem setAll_length (who : Int) (g : List Nat) : ∀ l, (setAll who l g).length = l.length := by
  induction g with
  | nil => intro l; rfl
  | cons i g ih => intro l; show (setAll who (l.set i who) g).length = _; rw [ih, List.length_set]
theorem setAll_snoc (who : Int) (l : List Int) (g : List Nat) (i : Nat) : setAll who l (g ++ [i]) = (setAll who l g).set i who := by
  unfold setAll; rw [List.foldl_append]; rfl
theorem sLt_nil (a : List UInt8) : sLt a [] = false := by cases a <;> rfl
theorem sLt_compl : ∀ a b : List UInt8, (sLt b a || decide (b = a)) = !sLt a b
  | [], [] => rfl
  | [], b :: y => by simp [sLt, Op.bytesLess]
  | a :: x, [] => by simp [sLt, Op.bytesLess]
  | a :: x, b :: y => by
    have ih := sLt_compl x y
    simp only [sLt] at ih
    simp only [sLt, Op.bytesLess]
    by_cases h1 : a < b
    · have h2 : ¬ b < a := fun h => absurd (UInt8.lt_trans h1 h) (UInt8.lt_irrefl _)
      have h3 : ¬ b = a := fun h => by subst h; exact UInt8.lt_irrefl _ h1
      simp [h1, h2, h3]
    · by_cases h2 : b < a
      · have h3 : ¬ a = b := fun h => by subst h; exact UInt8.lt_irrefl _ h2
        simp [h1, h2, h3]
      · have h3 : a = b := by
          rw [UInt8.lt_iff_toNat_lt] at h1 h2
          apply UInt8.toNat_inj.1
          omega
        subst h3
        simp only [h1, decide_false, Bool.false_or, beq_self_eq_true, Bool.true_and, List.cons.injEq, true_and]
        exact ih
theorem isKey_eq (s : List UInt8) : impl_isKey s = some (decide (1 ≤ (s.length : Int) ∧ (s.length : Int) ≤ 10)) := by
  unfold impl_isKey; rw [inRange_eq]; rfl
theorem scan_up (p : Nat → Bool) (n : Nat) : ∀ d a, a + d = n → ∃ j, a ≤ j ∧ j ≤ n ∧ (∀ i, a ≤ i → i < j → p i = false) ∧ (j < n → p j = true)
  | 0, a, h => ⟨a, Nat.le_refl _, by omega, fun i h1 h2 => by omega, fun h => by omega⟩
  | d + 1, a, h => by
    cases hp : p a with
    | true => exact ⟨a, Nat.le_refl _, by omega, fun i h1 h2 => by omega, fun _ => hp⟩
    | false =>
      obtain ⟨j, h1, h2, h3, h4⟩ := scan_up p n d (a + 1) (by omega)
      refine ⟨j, by omega, h2, fun i h5 h6 => ?_, h4⟩
      by_cases e : i = a
      · rw [e]; exact hp
      · exact h3 i (by omega) h6
theorem down_stop (p : Nat → Bool) : ∀ n : Nat, ∃ j : Nat, j ≤ n ∧ (∀ i, j ≤ i → i < n → p i = false) ∧ (0 < j → p (j - 1) = true)
  | 0 => ⟨0, Nat.le_refl _, fun i h1 h2 => by omega, fun h => by omega⟩
  | n + 1 => by
    cases hp : p n with
    | true => exact ⟨n + 1, Nat.le_refl _, fun i h1 h2 => by omega, fun _ => by simpa using hp⟩
    | false =>
      obtain ⟨j, h1, h2, h3⟩ := down_stop p n
      refine ⟨j, by omega, fun i h4 h5 => ?_, h3⟩
      by_cases e : i = n
      · rw [e]; exact hp
      · exact h2 i h4 (by omega)
theorem all_loop {body : Int → Option (Ctl Int (Ctl Unit Bool))} (pass : Nat → Bool) (n : Nat) (h : ∀ k, k < n → body (k : Int) = some (if pass k = true then .go ((k : Int) + 1) else .done (.done false))) (hn : body (n : Int) = some (.done (.go ()))) :
    loopO body 0 = some (if (List.range n).all pass = true then .go () else .done false) := by
  have key : ∀ d k, k + d = n → loopO body (k : Int) = some (if ((List.range n).drop k).all pass = true then .go () else .done false) := by
    intro d
    induction d with
    | zero =>
      intro k hk
      obtain rfl : k = n := by omega
      rw [loopO_eq, hn, List.drop_of_length_le (by simp)]
      rfl
    | succ d ih =>
      intro k hk
      have hd : (List.range n).drop k = k :: (List.range n).drop (k + 1) := by rw [List.drop_eq_getElem_cons (by simp; omega)]; simp
      rw [loopO_eq, h k (by omega), hd, List.all_cons]
      cases hp : pass k with
      | true =>
        have := ih (k + 1) (by omega)
        rw [show ((k + 1 : Nat) : Int) = (k : Int) + 1 by omega] at this
        simpa using this
      | false => simp
  have := key n 0 (by omega)
  simpa using this
theorem cmpI_eq (x y : Int) : cmp_Compare_26527 x y = some (if x < y then -1 else if x > y then 1 else 0) := by
  unfold cmp_Compare_26527 cmp_isNaN_26527
  by_cases h1 : x < y <;> by_cases h2 : x > y <;> simp [h1, h2]
theorem cmpS_eq (x y : List UInt8) : cmp_Compare_83645 x y = some (if sLt x y = true then -1 else if (!(sLt x y || decide (x = y))) = true then 1 else 0) := by
  unfold cmp_Compare_83645 cmp_isNaN_83645
  simp only [decide_true, Bool.not_true, Option.bind_some, Bool.false_eq_true, if_false]
  split
  · rfl
  · split <;> rfl
theorem sLt_compl' (a b : List UInt8) : (!sLt a b) = (sLt b a || decide (b = a)) := (sLt_compl a b).symm
theorem sLt_nil_iff (b : List UInt8) : sLt [] b = !decide (b = []) := by cases b <;> rfl
theorem len0 (out : List Int) : decide (((out.length : Nat) : Int) = 0) = decide (out = []) := by
  cases out with
  | nil => rfl
  | cons a l => simp; omega
theorem sMin_eq (a b : List UInt8) : sMin a b = if sLt b a = true then b else a := by
  unfold sMin
  rw [sLt_compl]
  cases sLt b a <;> simp
theorem sMax_eq (a b : List UInt8) : sMax a b = if sLt a b = true then b else a := by
  unfold sMax
  cases sLt a b <;> simp
theorem sLt_irr (a : List UInt8) : sLt a a = false := by
  have := sLt_compl a a
  simpa using this
theorem sLt_trans : ∀ {a b c : List UInt8}, sLt a b = true → sLt b c = true → sLt a c = true
  | [], [], _, h, _ => by simp [sLt, Op.bytesLess] at h
  | [], _ :: _, [], _, h => by simp [sLt, Op.bytesLess] at h
  | [], _ :: _, _ :: _, _, _ => rfl
  | _ :: _, [], _, h, _ => by simp [sLt, Op.bytesLess] at h
  | _ :: _, _ :: _, [], _, h => by simp [sLt, Op.bytesLess] at h
  | x :: a, y :: b, z :: c, h1, h2 => by
    simp only [sLt, Op.bytesLess, Bool.or_eq_true, decide_eq_true_eq, Bool.and_eq_true, beq_iff_eq] at h1 h2 ⊢
    rcases h1 with h1 | ⟨rfl, h1⟩
    · rcases h2 with h2 | ⟨rfl, _⟩
      · exact .inl (UInt8.lt_trans h1 h2)
      · exact .inl h1
    · rcases h2 with h2 | ⟨rfl, h2⟩
      · exact .inl h2
      · exact .inr ⟨rfl, sLt_trans h1 h2⟩
theorem sLt_irrefl (a : List UInt8) : sLt a a = false := by
  have := sLt_compl a a
  simpa using this
/-- an entry as required -/
def entV (e : Ent) : Bool := decide (1 ≤ (e.Key.length : Int) ∧ (e.Key.length : Int) ≤ 10) && (decide (0 ≤ e.Seq ∧ e.Seq ≤ 1000000) && (decide ((e.Val.length : Int) ≤ 16) && (!e.Del || decide (e.Val = []))))
/-- one entry ahead of another -/
def entLt (a b : Ent) : Bool := sLt a.Key b.Key || (decide (a.Key = b.Key) && decide (a.Seq > b.Seq))
/-- the entry at a place, and the one ahead of it -/
def entP (l : List Ent) (k : Nat) : Bool := match l[k]? with
  | some e => entV e && (match k with | 0 => true | j + 1 => match l[j]? with | some d => entLt d e | none => true)
  | none => true
theorem entP_at (l : List Ent) (k : Nat) (h : k < l.length) : entP l k = (entV l[k] && (if h0 : 0 < k then entLt (l[k - 1]'(by omega)) l[k] else true)) := by
  unfold entP
  rw [List.getElem?_eq_getElem h]
  cases k with
  | zero => rfl
  | succ j =>
    simp only [Nat.zero_lt_succ, dif_pos, Nat.add_sub_cancel]
    rw [List.getElem?_eq_getElem (by omega)]
/-- entries in order -/
def entsV (l : List Ent) : Bool := (List.range l.length).all (entP l)
theorem spec_l9Ent_eq (e : Ent) : spec_l9Ent e = some (entV e) := by
  unfold spec_l9Ent spec_l7Op entV
  simp only [l1In_eq, Option.bind_some]
  by_cases h1 : 1 ≤ (e.Key.length : Int) ∧ (e.Key.length : Int) ≤ 10 <;> by_cases h2 : 0 ≤ e.Seq ∧ e.Seq ≤ 1000000 <;> by_cases h3 : (e.Val.length : Int) ≤ 16 <;> cases h4 : e.Del <;>
    simp only [h1, h2, h3, and_self, decide_true, decide_false, if_true, if_false, Option.bind_some, Bool.true_and, Bool.false_and, Bool.not_true, Bool.not_false, Bool.false_eq_true, Bool.true_or, Bool.false_or, Bool.and_true, Bool.and_false] <;> cases decide (e.Val = []) <;> rfl
theorem entOk_eq (e : Ent) : impl_entOk e = some (entV e) := by
  unfold impl_entOk impl_isKey impl_isNumber impl_isVal entV
  simp only [inRange_eq, Option.bind_some]
  by_cases h1 : 1 ≤ (e.Key.length : Int) ∧ (e.Key.length : Int) ≤ 10 <;> by_cases h2 : 0 ≤ e.Seq ∧ e.Seq ≤ 1000000 <;> by_cases h3 : (e.Val.length : Int) ≤ 16 <;> cases h4 : e.Del <;>
    simp only [h1, h2, h3, and_self, decide_true, decide_false, if_true, if_false, Option.bind_some, Bool.true_and, Bool.false_and, Bool.not_true, Bool.not_false, Bool.false_eq_true, Bool.true_or, Bool.false_or, Bool.and_true, Bool.and_false, Bool.not_not] <;> cases decide (e.Val = []) <;> rfl
theorem spec_l9Ahead_eq (a b : Ent) : spec_l9Ahead a b = some (entLt a b) := by
  unfold spec_l9Ahead entLt
  cases sLt a.Key b.Key <;> by_cases h : a.Key = b.Key <;> simp [h]
theorem cmpOr_eq (x y : Int) : cmp_Or_26527 [x, y] = some (if x ≠ 0 then x else y) := by
  unfold cmp_Or_26527
  by_cases hx : x = 0
  · by_cases hy : y = 0
    · rw [loopO_count (fun k => (k : Int)) 2 (r := Ctl.go ()) ?h0]
      case h0 => rfl
      · simp [hx, hy]
      · intro k hk
        have : k = 0 ∨ k = 1 := by omega
        rcases this with rfl | rfl
        · simp [idx, hx]; rfl
        · simp [idx, hy]; rfl
      · rfl
    · rw [loopO_eq]
      simp only [idx, hx]
      simp
      rw [loopO_eq]
      have : IntKind.i64.wrap 1 = 1 := by decide
      simp [this, hy]
  · rw [loopO_eq]
    simp [idx, hx]
theorem compareEnts_eq (a b : Ent) : ∃ r, impl_compareEnts a b = some r ∧ decide (r ≥ 0) = !entLt a b := by
  unfold impl_compareEnts entLt
  rw [cmpS_eq, cmpI_eq]
  simp only [Option.bind_some, cmpOr_eq]
  refine ⟨_, rfl, ?_⟩
  by_cases c : sLt a.Key b.Key = true
  · simp [c]
  · have c' : sLt a.Key b.Key = false := by simpa using c
    rw [if_neg c, c']
    by_cases c2 : a.Key = b.Key
    · rw [decide_eq_true c2]
      by_cases c3 : b.Seq < a.Seq
      · simp [c3]
      · by_cases c4 : b.Seq > a.Seq <;> simp [c3, c4]
    · rw [decide_eq_false c2]
      rfl
theorem all_loop' {body : Int → Option (Ctl Int (Ctl Unit Bool))} (pass : Nat → Bool) (n : Nat) (h : ∀ k, k < n → body (k : Int) = some (if pass k = true then .go ((k : Int) + 1) else .done (.done false))) (hn : body (n : Int) = some (.done (.go ()))) :
    bindC (loopO body 0) (fun (_ : Unit) => some true) = some ((List.range n).all pass) := by
  rw [all_loop pass n h hn]
  cases (List.range n).all pass <;> rfl
theorem spec_l9Ents_eq (l : List Ent) (h : l.length ≤ 1048576) : spec_l9Ents l = some (entsV l) := by
  unfold spec_l9Ents entsV
  refine all_loop' (entP l) l.length ?_ (by simp)
  intro k hk
  simp only [idx_nat l k hk, Option.bind_some, spec_l9Ent_eq]
  rw [if_pos (by simpa using hk), wrap_ok (n := (k : Int) + 1) (by omega) (by omega), entP_at l k hk]
  cases hf : entV l[k] with
  | false => simp
  | true =>
    by_cases h0 : 0 < k
    · have hw : IntKind.i64.wrap ((k : Int) - 1) = ((k - 1 : Nat) : Int) := by rw [wrap_ok (by omega) (by omega)]; omega
      rw [dif_pos h0, if_neg (by simp), if_pos (by simp; omega)]
      simp only [hw, idx_nat l (k - 1) (by omega), Option.bind_some, spec_l9Ahead_eq]
      cases entLt (l[k - 1]'(by omega)) l[k] <;> simp
    · have hk0 : k = 0 := by omega
      subst hk0
      simp
theorem impl_inOrder_eq (l : List Ent) (h : l.length ≤ 1048576) : impl_inOrder l = some (entsV l) := by
  unfold impl_inOrder entsV
  refine all_loop' (entP l) l.length ?_ (by simp)
  intro k hk
  simp only [idx_nat l k hk, Option.bind_some, entOk_eq]
  rw [if_pos (by simpa using hk), wrap_ok (n := (k : Int) + 1) (by omega) (by omega), entP_at l k hk]
  cases hf : entV l[k] with
  | false => simp
  | true =>
    by_cases h0 : 0 < k
    · have hw : IntKind.i64.wrap ((k : Int) - 1) = ((k - 1 : Nat) : Int) := by rw [wrap_ok (by omega) (by omega)]; omega
      obtain ⟨c, hc, hc2⟩ := compareEnts_eq (l[k - 1]'(by omega)) l[k]
      rw [dif_pos h0, if_neg (by simp), if_pos (by simp; omega)]
      simp only [hw, idx_nat l (k - 1) (by omega), Option.bind_some, hc, hc2]
      cases entLt (l[k - 1]'(by omega)) l[k] <;> simp
    · have hk0 : k = 0 := by omega
      subst hk0
      simp
/-- of two entries in order: the key is less, or the same and newer -/
theorem ents_lt {l : List Ent} (hv : entsV l = true) : ∀ (j : Nat) (hj : j < l.length) (i : Nat) (hi : i < j), sLt (l[i]'(by omega)).Key l[j].Key = true ∨ ((l[i]'(by omega)).Key = l[j].Key ∧ (l[i]'(by omega)).Seq > l[j].Seq) := by
  intro j
  induction j with
  | zero => intro _ i hi; omega
  | succ j ih =>
    intro hj i hi
    have hp : entLt (l[j]'(by omega)) l[j + 1] = true := by
      unfold entsV at hv
      rw [List.all_eq_true] at hv
      have := hv (j + 1) (by simp; omega)
      rw [entP_at l (j + 1) hj, dif_pos (by omega), Bool.and_eq_true] at this
      exact this.2
    unfold entLt at hp
    simp only [Bool.or_eq_true, Bool.and_eq_true, decide_eq_true_eq] at hp
    by_cases e : i = j
    · subst e; exact hp
    · rcases ih (by omega) i (by omega) with h1 | ⟨h1, h2⟩
      · rcases hp with h3 | ⟨h3, _⟩
        · exact .inl (sLt_trans h1 h3)
        · rw [← h3]; exact .inl h1
      · rcases hp with h3 | ⟨h3, h4⟩
        · rw [h1]; exact .inl h3
        · exact .inr ⟨h1.trans h3, by omega⟩
/-- visible at a number: no newer one of its key is -/
def visE (l : List Ent) (seq : Int) (k : Nat) : Bool := match l[k]? with
  | some e => decide (e.Seq ≤ seq) && (l.take k).all fun d => !(decide (d.Key = e.Key) && decide (d.Seq ≤ seq))
  | none => false
theorem visE_at (l : List Ent) (seq : Int) (k : Nat) (h : k < l.length) : visE l seq k = (decide (l[k].Seq ≤ seq) && (l.take k).all fun d => !(decide (d.Key = l[k].Key) && decide (d.Seq ≤ seq))) := by
  unfold visE; rw [List.getElem?_eq_getElem h]
theorem spec_l9Get_eq (l : List Ent) (key : List UInt8) (seq : Int) (h : l.length ≤ 1048576) :
    spec_l9Get l key seq = some (match l.find? (fun d => decide (d.Key = key) && decide (d.Seq ≤ seq)) with | some d => (d, true) | none => ({ Key := [], Seq := 0, Del := false, Val := [] }, false)) := by
  unfold spec_l9Get
  rw [loopO_is (fun k s => s = (k : Int) ∧ l.find? (fun d => decide (d.Key = key) && decide (d.Seq ≤ seq)) = (l.drop k).find? (fun d => decide (d.Key = key) && decide (d.Seq ≤ seq))) l.length
    (match l.find? (fun d => decide (d.Key = key) && decide (d.Seq ≤ seq)) with | some d => Ctl.done (d, true) | none => Ctl.go ()) ?h0 ?h1 ?h2]
  · cases l.find? (fun d => decide (d.Key = key) && decide (d.Seq ≤ seq)) <;> rfl
  case h0 => exact ⟨rfl, rfl⟩
  · rintro k s hk ⟨rfl, he⟩
    rw [he, List.drop_eq_getElem_cons hk]
    simp only [idx_nat l k hk, Option.bind_some]
    rw [if_pos (by simpa using hk), wrap_ok (n := (k : Int) + 1) (by omega) (by omega)]
    by_cases h1 : l[k].Key = key
    · by_cases h2 : l[k].Seq ≤ seq
      · right
        rw [List.find?_cons_of_pos (by simp [h1, h2])]
        simp [h1, h2]
      · left
        refine ⟨(k : Int) + 1, by simp [h1, h2], by omega, ?_⟩
        rw [List.find?_cons_of_neg (by simp [h2])]
    · left
      refine ⟨(k : Int) + 1, by simp [h1], by omega, ?_⟩
      rw [List.find?_cons_of_neg (by simp [h1])]
  · rintro s ⟨rfl, he⟩
    rw [he, List.drop_length]
    simp
theorem visE_find {l : List Ent} {seq : Int} {k : Nat} (hk : k < l.length) (hv : visE l seq k = true) : l.find? (fun d => decide (d.Key = l[k].Key) && decide (d.Seq ≤ seq)) = some l[k] := by
  rw [visE_at l seq k hk, Bool.and_eq_true, List.all_eq_true] at hv
  have hs : l = l.take k ++ l[k] :: l.drop (k + 1) := by rw [← List.drop_eq_getElem_cons hk, List.take_append_drop]
  have hn : (l.take k).find? (fun d => decide (d.Key = l[k].Key) && decide (d.Seq ≤ seq)) = none := by
    rw [List.find?_eq_none]
    intro d hd
    intro hq
    have := hv.2 d hd
    rw [hq] at this
    cases this
  generalize hx : l[k] = x at *
  rw [hs, List.find?_append, hn, List.find?_cons_of_pos (by simpa using hv.1)]
  rfl
theorem visE_not {l : List Ent} {seq : Int} {k : Nat} (ho : entsV l = true) (hk : k < l.length) (hv : visE l seq k = false) :
    ∀ d, l.find? (fun d => decide (d.Key = l[k].Key) && decide (d.Seq ≤ seq)) = some d → ¬ d.Seq = l[k].Seq := by
  intro d hd he
  have hp := List.find?_some hd
  simp only [Bool.and_eq_true, decide_eq_true_eq] at hp
  rw [visE_at l seq k hk, decide_eq_true (by omega), Bool.true_and] at hv
  have hex : ∃ e ∈ l.take k, e.Key = l[k].Key ∧ e.Seq ≤ seq := by
    rw [← Bool.not_eq_true, List.all_eq_true] at hv
    simp only [Classical.not_forall] at hv
    obtain ⟨e, he, h2⟩ := hv
    exact ⟨e, he, by simpa using h2⟩
  obtain ⟨e, hem, hek⟩ := hex
  have hsome : ∃ f, (l.take k).find? (fun d => decide (d.Key = l[k].Key) && decide (d.Seq ≤ seq)) = some f := by
    cases hf : (l.take k).find? (fun d => decide (d.Key = l[k].Key) && decide (d.Seq ≤ seq)) with
    | some f => exact ⟨f, rfl⟩
    | none =>
      rw [List.find?_eq_none] at hf
      exact absurd (by simp [hek.1, hek.2]) (hf e hem)
  obtain ⟨f, hf⟩ := hsome
  have hfd : f = d := by
    have hs : l = l.take k ++ l.drop k := (List.take_append_drop k l).symm
    generalize hx : l[k] = x at *
    rw [hs, List.find?_append, hf] at hd
    simpa using hd
  subst hfd
  obtain ⟨i, hi, rfl⟩ := List.getElem_of_mem (List.mem_of_find?_eq_some hf)
  have hi' : i < k := by simp at hi; omega
  simp only [List.getElem_take] at he hp
  rcases ents_lt ho k hk i hi' with h1 | ⟨_, h1⟩
  · rw [hp.1, sLt_irrefl] at h1; cases h1
  · omega
/-- the key seen last, of the first k entries -/
def lastS (l : List Ent) (seq : Int) : Nat → List UInt8 × Bool
  | 0 => ([], false)
  | k + 1 => match l[k]? with | some e => if visE l seq k = true then (e.Key, true) else lastS l seq k | none => lastS l seq k
theorem lastS_succ (l : List Ent) (seq : Int) (k : Nat) (h : k < l.length) : lastS l seq (k + 1) = if visE l seq k = true then (l[k].Key, true) else lastS l seq k := by
  show (match l[k]? with | some e => _ | none => _) = _
  rw [List.getElem?_eq_getElem h]
theorem lastS_spec (l : List Ent) (seq : Int) : ∀ k, k ≤ l.length → (lastS l seq k).2 = true ∧ (∃ i, ∃ h : i < l.length, i < k ∧ visE l seq i = true ∧ l[i].Key = (lastS l seq k).1 ∧ ∀ j, i < j → j < k → visE l seq j = false) ∨ (lastS l seq k).2 = false ∧ ∀ j, j < k → visE l seq j = false := by
  intro k
  induction k with
  | zero => intro _; exact .inr ⟨rfl, fun j hj => by omega⟩
  | succ k ih =>
    intro hk
    rw [lastS_succ l seq k (by omega)]
    cases hv : visE l seq k with
    | true => exact .inl ⟨rfl, k, by omega, by omega, hv, rfl, fun j h1 h2 => by omega⟩
    | false =>
      simp only [Bool.false_eq_true, if_false]
      have hx : ∀ j, j < k + 1 → (j < k → visE l seq j = false) → visE l seq j = false := by
        intro j hj hjk
        by_cases e : j = k
        · subst e; exact hv
        · exact hjk (by omega)
      rcases ih (by omega) with ⟨h1, i, hi, h2, h3, h4, h5⟩ | ⟨h1, h2⟩
      · exact .inl ⟨h1, i, hi, by omega, h3, h4, fun j h6 h7 => hx j h7 (h5 j h6)⟩
      · exact .inr ⟨h1, fun j hj => hx j hj (h2 j)⟩
theorem visE_first (l : List Ent) (seq : Int) : ∀ (n j : Nat) (hn : j ≤ n) (hj : j < l.length), l[j].Seq ≤ seq → ∃ i, ∃ h : i < l.length, i ≤ j ∧ visE l seq i = true ∧ l[i].Key = l[j].Key := by
  intro n
  induction n with
  | zero =>
    intro j hn hj hs
    obtain rfl : j = 0 := by omega
    exact ⟨0, hj, Nat.le_refl _, by rw [visE_at l seq 0 hj]; simp [hs], rfl⟩
  | succ n ih =>
    intro j hn hj hs
    cases hv : visE l seq j with
    | true => exact ⟨j, hj, Nat.le_refl _, hv, rfl⟩
    | false =>
      rw [visE_at l seq j hj, decide_eq_true hs, Bool.true_and, ← Bool.not_eq_true, List.all_eq_true] at hv
      simp only [Classical.not_forall] at hv
      obtain ⟨e, he, h2⟩ := hv
      obtain ⟨i, hi, rfl⟩ := List.getElem_of_mem he
      have hij : i < j := by simp at hi; omega
      simp only [List.getElem_take] at h2
      have h3 : (l[i]'(by omega)).Key = l[j].Key ∧ (l[i]'(by omega)).Seq ≤ seq := by simpa using h2
      obtain ⟨q, hq, h4, h5, h6⟩ := ih i (by omega) (by omega) h3.2
      exact ⟨q, hq, by omega, h5, h6.trans h3.1⟩
theorem skip_iff {l : List Ent} {seq : Int} {k : Nat} (ho : entsV l = true) (hk : k < l.length) (hs : l[k].Seq ≤ seq) : visE l seq k = !((lastS l seq k).2 && decide (l[k].Key = (lastS l seq k).1)) := by
  rw [visE_at l seq k hk, decide_eq_true hs, Bool.true_and]
  rcases lastS_spec l seq k (by omega) with ⟨h1, i, hi, h2, h3, h4, h5⟩ | ⟨h1, h2⟩
  · rw [h1, Bool.true_and]
    by_cases hkey : l[k].Key = (lastS l seq k).1
    · rw [decide_eq_true hkey]
      show _ = false
      rw [← Bool.not_eq_true, List.all_eq_true]
      intro hall
      have hm : l[i] ∈ l.take k := by
        have : (l.take k)[i]'(by simp; omega) = l[i] := by simp
        rw [← this]; exact List.getElem_mem _
      have := hall _ hm
      rw [visE_at l seq i hi, Bool.and_eq_true] at h3
      simp [h4, hkey] at this
      have h6 := of_decide_eq_true h3.1
      omega
    · rw [decide_eq_false hkey, Bool.not_false, List.all_eq_true]
      intro d hd
      obtain ⟨j, hj, rfl⟩ := List.getElem_of_mem hd
      have hjk : j < k := by simp at hj; omega
      simp only [List.getElem_take]
      cases hb : (decide ((l[j]'(by omega)).Key = l[k].Key) && decide ((l[j]'(by omega)).Seq ≤ seq)) with
      | false => rfl
      | true =>
        exfalso
        simp only [Bool.and_eq_true, decide_eq_true_eq] at hb
        obtain ⟨q, hq, h6, h7, h8⟩ := visE_first l seq j j (Nat.le_refl _) (by omega) hb.2
        have hqi : q ≤ i := by
          rcases Nat.lt_or_ge i q with h | h
          · have := h5 q h (by omega); rw [h7] at this; cases this
          · exact h
        have hqk : l[q].Key = l[k].Key := h8.trans hb.1
        refine hkey ?_
        rw [← h4]
        by_cases e : q = i
        · subst e; exact hqk.symm
        · rcases ents_lt ho i hi q (by omega) with h9 | ⟨h9, _⟩
          · rcases ents_lt ho k hk i h2 with h10 | ⟨h10, _⟩
            · have := sLt_trans h9 h10
              rw [hqk, sLt_irrefl] at this; cases this
            · exact h10.symm
          · exact hqk.symm.trans h9
  · rw [h1, Bool.false_and, Bool.not_false, List.all_eq_true]
    intro d hd
    obtain ⟨j, hj, rfl⟩ := List.getElem_of_mem hd
    have hjk : j < k := by simp at hj; omega
    simp only [List.getElem_take]
    cases hb : (decide ((l[j]'(by omega)).Key = l[k].Key) && decide ((l[j]'(by omega)).Seq ≤ seq)) with
    | false => rfl
    | true =>
      exfalso
      simp only [Bool.and_eq_true, decide_eq_true_eq] at hb
      obtain ⟨q, hq, h6, h7, h8⟩ := visE_first l seq j j (Nat.le_refl _) (by omega) hb.2
      have := h2 q (by omega)
      rw [h7] at this; cases this
/-- the least and the greatest number -/
def rangeV (l : List Ent) : Int × Int := l.foldl (fun s e => (goMin s.1 e.Seq, goMax s.2 e.Seq)) (1000001, -1)
theorem rangeV_take (l : List Ent) (k : Nat) (h : k < l.length) : rangeV (l.take (k + 1)) = (goMin (rangeV (l.take k)).1 l[k].Seq, goMax (rangeV (l.take k)).2 l[k].Seq) := by
  unfold rangeV
  rw [show l.take (k + 1) = l.take k ++ [l[k]] by rw [List.take_add_one, List.getElem?_eq_getElem h]; rfl, List.foldl_append]
  rfl
/-- at most so many entries, in order -/
def memV (l : List Ent) : Bool := decide (l.length ≤ 60) && entsV l
/-- tables below a number, each below the one ahead of it -/
def tabsV (seq : Int) : Int → List (List Ent) → Bool
  | _, [] => true
  | low, t :: r => (decide (t ≠ []) && (entsV t && (decide ((rangeV t).2 < low) && decide ((rangeV t).2 ≤ seq)))) && tabsV seq (rangeV t).1 r
/-- snapshots in order -/
def snapP (seq : Int) (l : List Int) (k : Nat) : Bool := match l[k]? with
  | some s => decide (0 ≤ s ∧ s ≤ seq) && (match k with | 0 => true | j + 1 => match l[j]? with | some d => decide (d < s) | none => true)
  | none => true
theorem snapP_at (seq : Int) (l : List Int) (k : Nat) (h : k < l.length) : snapP seq l k = (decide (0 ≤ l[k] ∧ l[k] ≤ seq) && (if h0 : 0 < k then decide (l[k - 1]'(by omega) < l[k]) else true)) := by
  unfold snapP
  rw [List.getElem?_eq_getElem h]
  cases k with
  | zero => rfl
  | succ j =>
    simp only [Nat.zero_lt_succ, dif_pos, Nat.add_sub_cancel]
    rw [List.getElem?_eq_getElem (by omega)]
def snapsV (seq : Int) (l : List Int) : Bool := (List.range l.length).all (snapP seq l)
def totalV (l : List (List Ent)) : Nat := (l.map List.length).sum
theorem total_take (l : List (List Ent)) (k : Nat) (h : k < l.length) : totalV (l.take (k + 1)) = totalV (l.take k) + l[k].length := by
  unfold totalV
  rw [show l.take (k + 1) = l.take k ++ [l[k]] by rw [List.take_add_one, List.getElem?_eq_getElem h]; rfl, List.map_append, List.sum_append]
  simp
theorem total_le (l : List (List Ent)) (k : Nat) : totalV (l.take k) ≤ totalV l := by
  unfold totalV
  conv => rhs; rw [← List.take_append_drop k l]
  rw [List.map_append, List.sum_append]
  omega
theorem totalV_le (l : List (List Ent)) (n : Nat) (h : wS (fun t => wS wgt_Ent t) l ≤ n) : totalV l ≤ n := by
  have key : ∀ l : List (List Ent), totalV l ≤ (l.map fun t => wS wgt_Ent t).sum := by
    intro l
    induction l with
    | nil => exact Nat.le_refl _
    | cons t r ih =>
      have h2 : t.length ≤ wS wgt_Ent t := Nat.le_add_right _ _
      unfold totalV at ih ⊢
      simp only [List.map_cons, List.sum_cons]
      omega
  have := key l
  have h' : l.length + (l.map fun t => wS wgt_Ent t).sum ≤ n := h
  omega
theorem snaps_at {seq : Int} {l : List Int} (hv : snapsV seq l = true) (k : Nat) (hk : k < l.length) : (0 ≤ l[k] ∧ l[k] ≤ seq) ∧ (0 < k → l[k - 1]'(by omega) < l[k]) := by
  unfold snapsV at hv
  rw [List.all_eq_true] at hv
  have := hv k (by simpa using hk)
  rw [snapP_at seq l k hk, Bool.and_eq_true] at this
  refine ⟨of_decide_eq_true this.1, fun h0 => ?_⟩
  have h2 := this.2
  rw [dif_pos h0] at h2
  exact of_decide_eq_true h2
theorem snaps_last {seq : Int} {l : List Int} (hv : snapsV seq l = true) (h0 : 0 < l.length) : (seq ∈ l) ↔ l[l.length - 1]'(by omega) = seq := by
  constructor
  · intro hm
    obtain ⟨i, hi, he⟩ := List.getElem_of_mem hm
    by_cases e : i = l.length - 1
    · subst e; exact he
    · have h1 := (snaps_at hv (i + 1) (by omega)).2 (by omega)
      have h2 := (snaps_at hv (i + 1) (by omega)).1
      simp only [Nat.add_sub_cancel] at h1
      omega
  · intro h
    rw [← h]
    exact List.getElem_mem _
theorem piece_nat {α : Type} (l : List α) (a b : Nat) (lo hi : Int) (h1 : lo = (a : Int)) (h2 : hi = (b : Int)) (h3 : a ≤ b) (h4 : b ≤ l.length) : piece l lo hi = some ((l.drop a).take (b - a)) := by
  subst h1 h2
  unfold piece
  rw [if_pos ⟨by omega, by omega, by omega⟩, Int.toNat_natCast, Int.toNat_natCast]
theorem filter_one {α : Type} (l : List α) (p : α → Bool) (j : Nat) (hj : j < l.length) (h1 : p l[j] = false) (h2 : ∀ i (h : i < l.length), i ≠ j → p l[i] = true) : l.filter p = l.take j ++ l.drop (j + 1) := by
  have hs : l = l.take j ++ l[j] :: l.drop (j + 1) := by rw [← List.drop_eq_getElem_cons hj, List.take_append_drop]
  have ha : (l.take j).filter p = l.take j := by
    rw [List.filter_eq_self]
    intro x hx
    obtain ⟨i, hi, rfl⟩ := List.getElem_of_mem hx
    have hi' : i < j := by simp at hi; omega
    simp only [List.getElem_take]
    exact h2 i (by omega) (by omega)
  have hb : (l.drop (j + 1)).filter p = l.drop (j + 1) := by
    rw [List.filter_eq_self]
    intro x hx
    obtain ⟨i, hi, rfl⟩ := List.getElem_of_mem hx
    have hi' : j + 1 + i < l.length := by simp at hi; omega
    simp only [List.getElem_drop]
    exact h2 (j + 1 + i) hi' (by omega)
  conv => lhs; rw [hs]
  rw [List.filter_append, List.filter_cons_of_neg (by simpa using h1), ha, hb]
theorem filter_take {α : Type} (p : α → Bool) (l : List α) (k : Nat) (h : k < l.length) : (l.take (k + 1)).filter p = (l.take k).filter p ++ if p l[k] = true then [l[k]] else [] := by
  rw [show l.take (k + 1) = l.take k ++ [l[k]] by rw [List.take_add_one, List.getElem?_eq_getElem h]; rfl, List.filter_append]
  congr 1
  by_cases c : p l[k] = true
  · rw [if_pos c, List.filter_cons_of_pos c]; rfl
  · rw [if_neg c, List.filter_cons_of_neg c]; rfl
theorem filter_len {α : Type} (p : α → Bool) (l : List α) (k : Nat) : ((l.take k).filter p).length ≤ k := Nat.le_trans (List.length_filter_le _ _) (by simp; omega)
theorem snaps_lt {seq : Int} {l : List Int} (hv : snapsV seq l = true) : ∀ (j : Nat) (hj : j < l.length) (i : Nat) (hi : i < j), l[i]'(by omega) < l[j] := by
  intro j
  induction j with
  | zero => intro _ i hi; omega
  | succ j ih =>
    intro hj i hi
    have h1 := (snaps_at hv (j + 1) hj).2 (by omega)
    simp only [Nat.add_sub_cancel] at h1
    by_cases e : i = j
    · subst e; exact h1
    · have := ih (by omega) i (by omega); omega
def dropS (l : List Int) (x : Int) : List Int := l.filter fun s => !decide (s = x)
theorem dropS_at {seq : Int} {l : List Int} (hv : snapsV seq l = true) (j : Nat) (hj : j < l.length) : dropS l l[j] = l.take j ++ l.drop (j + 1) := by
  unfold dropS
  refine filter_one l _ j hj (by simp) fun i hi hij => ?_
  have : ¬ l[i] = l[j] := by
    rcases Nat.lt_or_ge i j with h | h
    · have := snaps_lt hv j hj i h; omega
    · have := snaps_lt hv i hi j (by omega); omega
  simp [this]
theorem sLt_asymm {a b : List UInt8} (h : sLt a b = true) : sLt b a = false := by
  have := sLt_compl a b
  rw [h] at this
  simp only [Bool.not_true, Bool.or_eq_false_iff] at this
  exact this.1
theorem sLt_same {a b : List UInt8} (h1 : sLt a b = false) (h2 : sLt b a = false) : a = b := by
  have := sLt_compl a b
  rw [h1, h2] at this
  have h : decide (b = a) = true := by simpa using this
  exact (of_decide_eq_true h).symm
theorem any_loop {α : Type} {body : Int → Option (Ctl Int (Ctl Unit Bool))} (l : List α) (p : α → Bool) (h : ∀ k (hk : k < l.length), body (k : Int) = some (if p l[k] = true then .done (.done true) else .go ((k : Int) + 1))) (hn : body (l.length : Int) = some (.done (.go ()))) :
    bindC (loopO body 0) (fun (_ : Unit) => some false) = some (l.any p) := by
  rw [loopO_is (fun k s => s = (k : Int) ∧ l.any p = (l.drop k).any p) l.length (if l.any p = true then Ctl.done true else Ctl.go ()) ?h0 ?h1 ?h2]
  · cases l.any p <;> rfl
  case h0 => exact ⟨rfl, rfl⟩
  · rintro k s hk ⟨rfl, he⟩
    rw [h k hk, he, List.drop_eq_getElem_cons hk, List.any_cons]
    cases hp : p l[k] with
    | true => right; rfl
    | false =>
      left
      refine ⟨(k : Int) + 1, rfl, by omega, ?_⟩
      rw [Bool.false_or]
  · rintro s ⟨rfl, he⟩
    rw [he, List.drop_length, hn]
    rfl
/-- the entry at a place stays -/
def stayV (snaps : List Int) (l : List Ent) : Nat → Bool
  | 0 => true
  | j + 1 => match l[j]?, l[j + 1]? with
    | some d, some e => !decide (d.Key = e.Key) || snaps.any (fun s => decide (e.Seq ≤ s) && decide (s < d.Seq))
    | _, _ => false
theorem stayV_succ (snaps : List Int) (l : List Ent) (j : Nat) (h : j + 1 < l.length) : stayV snaps l (j + 1) = (!decide ((l[j]'(by omega)).Key = l[j + 1].Key) || snaps.any (fun s => decide (l[j + 1].Seq ≤ s) && decide (s < (l[j]'(by omega)).Seq))) := by
  show (match l[j]?, l[j + 1]? with | some d, some e => _ | _, _ => false) = _
  rw [List.getElem?_eq_getElem h, List.getElem?_eq_getElem (by omega : j < l.length)]
theorem isSeen_eq (l : List Ent) (snaps : List Int) (k : Nat) (hk : k < l.length) (h : l.length ≤ 1048576) (hs : snaps.length ≤ 1048576) : impl_isSeen l (k : Int) snaps = some (stayV snaps l k) := by
  unfold impl_isSeen
  cases k with
  | zero => rfl
  | succ j =>
    have hw : IntKind.i64.wrap (((j + 1 : Nat) : Int) - 1) = (j : Int) := by rw [wrap_ok (by omega) (by omega)]; omega
    rw [if_neg (by simp; omega), hw, idx_nat l j (by omega), idx_nat l (j + 1) hk, stayV_succ snaps l j hk]
    simp only [Option.bind_some]
    by_cases c : (l[j]'(by omega)).Key = l[j + 1].Key
    · rw [decide_eq_true c]
      simp only [Bool.not_true, Bool.false_eq_true, if_false, Bool.false_or]
      refine any_loop snaps _ ?_ (by simp)
      intro m hm
      simp only [idx_nat snaps m hm, Option.bind_some]
      rw [if_pos (by simpa using hm), wrap_ok (n := (m : Int) + 1) (by omega) (by omega)]
      by_cases c1 : l[j + 1].Seq ≤ snaps[m]
      · by_cases c2 : snaps[m] < (l[j]'(by omega)).Seq <;> simp [c1, c2]
      · simp [c1]
    · rw [decide_eq_false c]
      rfl
/-- those that stay, of n from a on -/
def keepT (snaps : List Int) (l : List Ent) (a : Nat) : Nat → List Ent
  | 0 => []
  | n + 1 => keepT snaps l a n ++ (if stayV snaps l (a + n) = true then l[a + n]?.toList else [])
theorem keepT_succ (snaps : List Int) (l : List Ent) (a n : Nat) (h : a + n < l.length) : keepT snaps l a (n + 1) = keepT snaps l a n ++ (if stayV snaps l (a + n) = true then [l[a + n]] else []) := by
  show keepT snaps l a n ++ (if stayV snaps l (a + n) = true then l[a + n]?.toList else []) = _
  rw [List.getElem?_eq_getElem h]
  rfl
theorem keepT_len (snaps : List Int) (l : List Ent) (a : Nat) : ∀ n, (keepT snaps l a n).length ≤ n := by
  intro n
  induction n with
  | zero => simp [keepT]
  | succ n ih =>
    show (keepT snaps l a n ++ (if stayV snaps l (a + n) = true then l[a + n]?.toList else [])).length ≤ n + 1
    rw [List.length_append]
    split
    · cases l[a + n]? <;> simp <;> omega
    · simp; omega
theorem keepT_add (snaps : List Int) (l : List Ent) (a n : Nat) : ∀ m, keepT snaps l a (n + m) = keepT snaps l a n ++ keepT snaps l (a + n) m := by
  intro m
  induction m with
  | zero => simp [keepT]
  | succ m ih =>
    show keepT snaps l a (n + m) ++ (if stayV snaps l (a + (n + m)) = true then l[a + (n + m)]?.toList else []) = keepT snaps l a n ++ (keepT snaps l (a + n) m ++ (if stayV snaps l (a + n + m) = true then l[a + n + m]?.toList else []))
    rw [ih, Nat.add_assoc a n m, List.append_assoc]
theorem keepT_mem (snaps : List Int) (l : List Ent) (a : Nat) : ∀ n, ∀ x ∈ keepT snaps l a n, ∃ i, i < n ∧ ∃ h : a + i < l.length, x = l[a + i] := by
  intro n
  induction n with
  | zero => intro x hx; simp [keepT] at hx
  | succ n ih =>
    intro x hx
    have hx' : x ∈ keepT snaps l a n ++ (if stayV snaps l (a + n) = true then l[a + n]?.toList else []) := hx
    rcases List.mem_append.1 hx' with h | h
    · obtain ⟨i, hi, h2, h3⟩ := ih x h
      exact ⟨i, by omega, h2, h3⟩
    · by_cases hl : a + n < l.length
      · rw [List.getElem?_eq_getElem hl] at h
        split at h
        · exact ⟨n, by omega, hl, by simpa using h⟩
        · simp at h
      · rw [List.getElem?_eq_none (by omega)] at h
        simp at h
def sameK (e : Ent) : List Ent → Bool
  | y :: _ => decide (e.Key = y.Key)
  | [] => false
/-- without the deletions at each key's end; whether something newer is needed -/
def tid : List Ent → Bool × List Ent
  | [] => (false, [])
  | e :: t => bif (((tid t).1 && sameK e t) || !e.Del) then (true, e :: (tid t).2) else (false, (tid t).2)
theorem tid_cons (e : Ent) (t : List Ent) : tid (e :: t) = bif (((tid t).1 && sameK e t) || !e.Del) then (true, e :: (tid t).2) else (false, (tid t).2) := rfl
theorem tid_len : ∀ l : List Ent, (tid l).2.length ≤ l.length := by
  intro l
  induction l with
  | nil => simp [tid]
  | cons e t ih =>
    rw [tid_cons]
    cases (((tid t).1 && sameK e t) || !e.Del)
    · simp; omega
    · simp; omega
theorem tid_append : ∀ (A B : List Ent), (∀ x ∈ A, ∀ y ∈ B, x.Key ≠ y.Key) → (tid (A ++ B)).2 = (tid A).2 ++ (tid B).2 ∧ (A ≠ [] → (tid (A ++ B)).1 = (tid A).1) := by
  intro A
  induction A with
  | nil => intro B _; exact ⟨by simp [tid], fun h => absurd rfl h⟩
  | cons e t ih =>
    intro B hd
    obtain ⟨h1, h2⟩ := ih B fun x hx y hy => hd x (.tail _ hx) y hy
    have hc : ((tid (t ++ B)).1 && sameK e (t ++ B)) = ((tid t).1 && sameK e t) := by
      cases t with
      | nil =>
        cases B with
        | nil => rfl
        | cons y B =>
          have : sameK e ([] ++ y :: B) = false := decide_eq_false (hd e (.head _) y (.head _))
          rw [this, Bool.and_false, show sameK e [] = false from rfl, Bool.and_false]
      | cons z t =>
        rw [h2 (by simp)]
        rfl
    show (tid (e :: (t ++ B))).2 = (tid (e :: t)).2 ++ (tid B).2 ∧ (_ → (tid (e :: (t ++ B))).1 = (tid (e :: t)).1)
    rw [tid_cons, tid_cons, hc, h1]
    cases (((tid t).1 && sameK e t) || !e.Del)
    · exact ⟨rfl, fun _ => rfl⟩
    · exact ⟨rfl, fun _ => rfl⟩
theorem tid_del (e : Ent) (hd : e.Del = true) : ∀ A : List Ent, (∀ x ∈ A, x.Key = e.Key) → tid (A ++ [e]) = tid A := by
  intro A
  induction A with
  | nil => intro _; simp [tid, sameK, hd]
  | cons x t ih =>
    intro hk
    have h1 := ih fun y hy => hk y (.tail _ hy)
    show tid (x :: (t ++ [e])) = tid (x :: t)
    have hc : ((tid (t ++ [e])).1 && sameK x (t ++ [e])) = ((tid t).1 && sameK x t) := by
      rw [h1]
      cases t with
      | nil => rfl
      | cons z t => rfl
    rw [tid_cons, hc, h1]
    rfl
theorem tid_keep (e : Ent) (hd : e.Del = false) : ∀ A : List Ent, (∀ x ∈ A, x.Key = e.Key) → tid (A ++ [e]) = (true, A ++ [e]) := by
  intro A
  induction A with
  | nil => intro _; simp [tid, sameK, hd]
  | cons x t ih =>
    intro hk
    have h1 := ih fun y hy => hk y (.tail _ hy)
    show tid (x :: (t ++ [e])) = _
    have hc : sameK x (t ++ [e]) = true := by
      cases t with
      | nil => exact decide_eq_true (hk x (.head _))
      | cons z t => exact decide_eq_true ((hk x (.head _)).trans (hk z (.tail _ (.head _))).symm)
    rw [tid_cons, hc, h1]
    rfl
def finE (bottom : Bool) (A : List Ent) : List Ent := bif bottom then (tid A).2 else A
theorem finE_len (b : Bool) (A : List Ent) : (finE b A).length ≤ A.length := by
  cases b
  · exact Nat.le_refl _
  · exact tid_len A
theorem finE_append (b : Bool) (A B : List Ent) (h : ∀ x ∈ A, ∀ y ∈ B, x.Key ≠ y.Key) : finE b (A ++ B) = finE b A ++ finE b B := by
  cases b
  · rfl
  · exact (tid_append A B h).1
theorem trim_loop (bottom : Bool) : ∀ (n : Nat) (A : List Ent), A.length = n → n ≤ 1048576 → (∀ x ∈ A, ∀ y ∈ A, x.Key = y.Key) →
    loopO (ρ := Ctl (List Ent) (List Ent)) (fun (S31 : List Ent) => (if bottom = true then (if (decide (((S31.length : Nat) : Int) > (0 : Int))) = true then ((idx S31 (IntKind.i64.wrap (((S31.length : Nat) : Int) - (1 : Int)))).bind fun E39 =>
  some E39.Del)
  else (some false))
  else (some false)).bind (fun (T35 : Bool) =>
  if T35 = true then ((piece S31 (0 : Int) (IntKind.i64.wrap (((S31.length : Nat) : Int) - (1 : Int)))).bind fun E43 =>
  (app 48 ([] : List Ent) E43).bind fun E46 =>
  some (.go E46))
  else (some (.done (.go S31))))) A = some (.go (finE bottom A)) := by
  intro n
  induction n with
  | zero =>
    intro A hA _ _
    obtain rfl : A = [] := List.eq_nil_of_length_eq_zero hA
    rw [loopO_eq]
    cases bottom <;> rfl
  | succ n ih =>
    intro A hA hn hk
    obtain ⟨B, e, rfl⟩ : ∃ B e, A = B ++ [e] := ⟨A.dropLast, A.getLast (by intro c; rw [c] at hA; simp at hA), (List.dropLast_concat_getLast _).symm⟩
    have hB : B.length = n := by simpa using hA
    rw [loopO_eq]
    have hw : IntKind.i64.wrap ((((B ++ [e]).length : Nat) : Int) - 1) = (B.length : Int) := by rw [wrap_ok (by omega) (by omega)]; simp
    have hke : ∀ x ∈ B, x.Key = e.Key := fun x hx => hk x (List.mem_append.2 (.inl hx)) e (by simp)
    cases bottom with
    | false => rfl
    | true =>
      rw [hw, idx_nat (B ++ [e]) B.length (by simp)]
      have hd : decide ((((B ++ [e]).length : Nat) : Int) > 0) = true := decide_eq_true (by simp)
      simp only [if_true, hd, Option.bind_some, List.getElem_concat_length]
      cases hdel : e.Del with
      | false =>
        simp only [Bool.false_eq_true, if_false]
        show some (Ctl.go (B ++ [e])) = some (Ctl.go (tid (B ++ [e])).2)
        rw [tid_keep e hdel B hke]
      | true =>
        simp only [if_true]
        rw [piece_nat _ 0 B.length (0 : Int) _ rfl rfl (by omega) (by simp)]
        have hp : ((B ++ [e]).drop 0).take (B.length - 0) = B := by simp
        rw [hp]
        simp only [Option.bind_some]
        rw [app_ok (by simp; omega) (by simp; omega)]
        simp only [Option.bind_some, List.nil_append]
        have ih' := ih B hB (by omega) fun x hx y hy => hk x (List.mem_append.2 (.inl hx)) y (List.mem_append.2 (.inl hy))
        simp only [if_true] at ih'
        rw [ih']
        show some (Ctl.go (tid B).2) = some (Ctl.go (tid (B ++ [e])).2)
        rw [tid_del e hdel B hke]
theorem revEnts_eq (l : List Ent) (h : l.length ≤ 1048576) : slices_Reverse_94167 l = some l.reverse := by
  unfold slices_Reverse_94167
  rw [loopO_is (fun m s => s.1 = (m : Int) ∧ s.2.1 = (l.length : Int) - 1 - m ∧ ∃ hl : s.2.2.length = l.length, ∀ k (hk : k < l.length), s.2.2[k]'(by omega) = if k < m ∨ l.length ≤ k + m then l[l.length - 1 - k]'(by omega) else l[k]) (l.length / 2) (Ctl.go l.reverse) ?h0 ?h1 ?h2]
  · rfl
  case h0 =>
    refine ⟨rfl, ?_, rfl, fun k hk => ?_⟩
    · show IntKind.i64.wrap ((l.length : Int) - 1) = (l.length : Int) - 1 - ((0 : Nat) : Int)
      rw [wrap_ok (by omega) (by omega)]; omega
    · rw [if_neg (by omega)]
  · rintro m ⟨i, j, s⟩ hm ⟨h1, h2, hl, h3⟩
    simp only at h1 h2 hl h3
    subst h1
    have hj : j = ((l.length - 1 - m : Nat) : Int) := by omega
    subst hj
    clear h2
    left
    have hm1 : m < s.length := by omega
    have hm2 : l.length - 1 - m < s.length := by omega
    refine ⟨((m : Int) + 1, ((l.length - 1 - m : Nat) : Int) - 1, (s.set m (s[l.length - 1 - m]'hm2)).set (l.length - 1 - m) (s[m]'hm1)), ?_, by simp, ?_, by simp [hl], ?_⟩
    · simp only [idx_nat s _ hm2, idx_nat s _ hm1, Option.bind_some, Int.toNat_natCast]
      rw [if_pos (by simp; omega), idx_nat _ _ (by simp; omega)]
      simp only [Option.bind_some, bindC_go]
      rw [wrap_ok (by omega) (by omega), wrap_ok (by omega) (by omega)]
    · simp only; omega
    · intro k hk
      simp only [List.getElem_set]
      by_cases c1 : l.length - 1 - m = k
      · rw [if_pos c1, h3 m (by omega), if_neg (by omega), if_pos (by omega)]
        congr 1
        omega
      · rw [if_neg c1]
        by_cases c2 : m = k
        · rw [if_pos c2, h3 _ (by omega), if_neg (by omega), if_pos (by omega)]
          congr 1
          omega
        · rw [if_neg c2, h3 k hk]
          by_cases c3 : k < m ∨ l.length ≤ k + m
          · rw [if_pos c3, if_pos (by omega)]
          · rw [if_neg c3, if_neg (by omega)]
  · rintro ⟨i, j, s⟩ ⟨h1, h2, hl, h3⟩
    simp only at h1 h2 hl h3
    subst h1 h2
    simp only
    rw [if_neg (by simp; omega)]
    congr 3
    refine List.ext_getElem (by simp [hl]) fun k hk1 hk2 => ?_
    rw [h3 k (by omega), List.getElem_reverse]
    by_cases c : k < l.length / 2 ∨ l.length ≤ k + l.length / 2
    · rw [if_pos c]
    · rw [if_neg c]
      congr 1
      omega
theorem impl_compacted_eq (l : List Ent) (snaps : List Int) (bottom : Bool) (h : l.length ≤ 1048576) (hs : snaps.length ≤ 1048576) : impl_compacted l snaps bottom = some (finE bottom (keepT snaps l 0 l.length)) := by
  unfold impl_compacted
  rw [loopO_count (fun k => ((k : Int), keepT snaps l 0 k)) l.length (r := Ctl.go (keepT snaps l 0 l.length)) ?h0]
  case h0 => rfl
  · simp only [bindC_go]
    cases bottom with
    | false => rfl
    | true =>
      simp only [Bool.not_true, Bool.false_eq_true, if_false]
      have hKl : (keepT snaps l 0 l.length).length ≤ 1048576 := Nat.le_trans (keepT_len snaps l 0 _) h
      generalize keepT snaps l 0 l.length = K at hKl
      rw [loopO_count (fun m => ((tid (K.drop (K.length - m))).1, (K.length : Int) - 1 - m, (tid (K.drop (K.length - m))).2.reverse)) K.length (r := Ctl.go (tid K).2.reverse) ?g0]
      case g0 =>
        rw [Nat.sub_zero, List.drop_length, wrap_ok (by omega) (by omega)]
        simp [tid]
      · simp only [bindC_go]
        rw [revEnts_eq _ (by rw [List.length_reverse]; exact Nat.le_trans (tid_len K) hKl), List.reverse_reverse]
        rfl
      · intro m hm
        have hi : (K.length : Int) - 1 - m = ((K.length - 1 - m : Nat) : Int) := by omega
        have hi1 : (K.length : Int) - 1 - ((m + 1 : Nat) : Int) = ((K.length - 1 - m : Nat) : Int) - 1 := by omega
        have hk1 : K.length - 1 - m < K.length := by omega
        have hdr : K.drop (K.length - (m + 1)) = K[K.length - 1 - m] :: K.drop (K.length - m) := by
          rw [show K.length - (m + 1) = K.length - 1 - m by omega, List.drop_eq_getElem_cons hk1, show K.length - 1 - m + 1 = K.length - m by omega]
        have hlen := tid_len (K.drop (K.length - m))
        rw [List.length_drop] at hlen
        rw [hdr, tid_cons, hi, hi1]
        have hc : (if decide (((K.length - 1 - m : Nat) : Int) = IntKind.i64.wrap (((K.length : Nat) : Int) - (1 : Int))) = true then (some true)
  else ((idx K ((K.length - 1 - m : Nat) : Int)).bind fun E28 =>
  (idx K (IntKind.i64.wrap (((K.length - 1 - m : Nat) : Int) + (1 : Int)))).bind fun E30 =>
  some (!(decide (E28.Key = E30.Key))))) = some (!sameK K[K.length - 1 - m] (K.drop (K.length - m))) := by
          by_cases h0 : m = 0
          · subst h0
            rw [if_pos (by rw [wrap_ok (by omega) (by omega)]; simp; omega), show K.drop (K.length - 0) = [] by simp]
            rfl
          · rw [if_neg (by rw [wrap_ok (by omega) (by omega)]; simp; omega), idx_nat K _ hk1, wrap_ok (by omega) (by omega)]
            rw [show ((K.length - 1 - m : Nat) : Int) + 1 = ((K.length - m : Nat) : Int) by omega, idx_nat K (K.length - m) (by omega), List.drop_eq_getElem_cons (by omega : K.length - m < K.length)]
            rfl
        simp only [hc]
        rw [if_pos (by simp), wrap_ok (n := ((K.length - 1 - m : Nat) : Int) - 1) (by omega) (by omega)]
        simp only [idx_nat K _ hk1, Option.bind_some]
        generalize sameK K[K.length - 1 - m] (K.drop (K.length - m)) = q
        generalize tid (K.drop (K.length - m)) = tt at hlen ⊢
        obtain ⟨nd, o⟩ := tt
        simp only at hlen ⊢
        have happ : app 48 o.reverse [K[K.length - 1 - m]] = some (o.reverse ++ [K[K.length - 1 - m]]) := app_ok (by simp; omega) (by simp; omega)
        cases q <;> cases nd <;> cases hd : K[K.length - 1 - m].Del <;> simp [happ, hd]
      · rw [Nat.sub_self, List.drop_zero]
        simp
        omega
  · intro k hk
    have hlen := keepT_len snaps l 0 k
    simp only [idx_nat l k hk, Option.bind_some, isSeen_eq l snaps k hk h hs, keepT_succ snaps l 0 k (by omega), Nat.zero_add]
    rw [if_pos (by simpa using hk), wrap_ok (n := (k : Int) + 1) (by omega) (by omega)]
    cases stayV snaps l k with
    | true =>
      simp only [if_true]
      rw [app_ok (by simp; omega) (by simp; omega)]
      rfl
    | false => simp
  · simp
theorem entP_of {l : List Ent} (hv : entsV l = true) (k : Nat) (hk : k < l.length) : entP l k = true := by
  unfold entsV at hv
  rw [List.all_eq_true] at hv
  exact hv k (by simpa using hk)
theorem entsV_sub {l : List Ent} (hv : entsV l = true) (a n : Nat) : entsV ((l.drop a).take n) = true := by
  unfold entsV
  rw [List.all_eq_true]
  intro k hk
  have hk' : k < ((l.drop a).take n).length := by simpa using hk
  have hk2 : a + k < l.length := by simp at hk'; omega
  have hp := entP_of hv (a + k) hk2
  rw [entP_at l (a + k) hk2, Bool.and_eq_true] at hp
  rw [entP_at _ k hk']
  simp only [List.getElem_take, List.getElem_drop]
  rw [hp.1, Bool.true_and]
  by_cases h0 : 0 < k
  · rw [dif_pos h0]
    have := hp.2
    rw [dif_pos (by omega)] at this
    simpa only [show a + k - 1 = a + (k - 1) by omega] using this
  · rw [dif_neg h0]
/-- the keys before a place are none of those from it on -/
def cutV (l : List Ent) (a : Nat) : Prop := ∀ i (hi : i < l.length) j (hj : j < l.length), i < a → a ≤ j → l[i].Key ≠ l[j].Key
theorem l15Key_eq (l : List Ent) (snaps : List Int) (bottom : Bool) (a n : Nat) (hv : entsV l = true) (h : l.length ≤ 1048576) (hs : snaps.length ≤ 1048576) (hn : a + n ≤ l.length) (hc : cutV l a)
    (hk : ∀ i (hi : i < l.length) j (hj : j < l.length), a ≤ i → i < a + n → a ≤ j → j < a + n → l[i].Key = l[j].Key) : spec_l15Key ((l.drop a).take n) snaps bottom = some (finE bottom (keepT snaps l a n)) := by
  have hgl : ((l.drop a).take n).length = n := by simp; omega
  have hgv := entsV_sub hv a n
  have hg : ∀ i, i < n → ((l.drop a).take n)[i]? = l[a + i]? := fun i hi => by rw [List.getElem?_take, if_pos hi, List.getElem?_drop]
  generalize (l.drop a).take n = g at hgl hgv hg
  have hge : ∀ i (hi : i < n), g[i]'(by omega) = l[a + i]'(by omega) := fun i hi => by
    have := hg i hi
    rw [List.getElem?_eq_getElem (by omega), List.getElem?_eq_getElem (by omega)] at this
    exact Option.some.inj this
  unfold spec_l15Key
  rw [loopO_count (fun k => ((k : Int), keepT snaps l a k)) g.length (r := Ctl.go (keepT snaps l a n)) ?h0]
  case h0 => rfl
  · simp only [bindC_go]
    rw [trim_loop bottom (keepT snaps l a n).length _ rfl (Nat.le_trans (keepT_len snaps l a n) (by omega)) ?_]
    · rfl
    · intro x hx y hy
      obtain ⟨i, hi, h1, rfl⟩ := keepT_mem snaps l a n x hx
      obtain ⟨j, hj, h2, rfl⟩ := keepT_mem snaps l a n y hy
      exact hk _ _ _ _ (by omega) (by omega) (by omega) (by omega)
  · intro k hk1
    have hkn : k < n := by omega
    have hlen := keepT_len snaps l a k
    have hin : loopO (ρ := Ctl Bool (Ctl (Int × List Ent) (Ctl (List Ent) (List Ent)))) (fun (S7 : Bool × Int) => if (decide (S7.2 < ((snaps.length : Nat) : Int))) = true then ((idx g (k : Int)).bind fun E12 =>
  (idx snaps S7.2).bind fun E14 =>
  (spec_l9Get g E12.Key E14).bind fun R16 =>
  (if S7.1 = true then (some true)
  else (if R16.2 = true then (some (decide (R16.1.Seq = E12.Seq)))
  else (some false))).bind (fun (T25 : Bool) =>
  some (.go (T25, IntKind.i64.wrap (S7.2 + (1 : Int))))))
  else (some (.done (.go S7.1)))) (decide ((k : Int) = (0 : Int)), (0 : Int)) = some (.go (stayV snaps l (a + k))) := by
      rw [loopO_count (fun m => (decide (k = 0) || (snaps.take m).any (fun s => visE g s k), (m : Int))) snaps.length (r := Ctl.go (decide (k = 0) || snaps.any (fun s => visE g s k))) ?i0]
      case i0 =>
        rw [show decide ((k : Int) = 0) = decide (k = 0) from decide_eq_decide.2 (by omega)]
        simp
      · congr 2
        cases k with
        | zero =>
          simp only [decide_true, Bool.true_or, Nat.add_zero]
          cases a with
          | zero => rfl
          | succ b =>
            have := hc b (by omega) (b + 1) (by omega) (by omega) (Nat.le_refl _)
            rw [stayV_succ snaps l b (by omega), decide_eq_false this]
            rfl
        | succ j =>
          rw [show a + (j + 1) = (a + j) + 1 by omega, stayV_succ snaps l (a + j) (by omega)]
          have e1 : (l[a + j]'(by omega)).Key = (l[a + j + 1]'(by omega)).Key := hk _ _ _ _ (by omega) (by omega) (by omega) (by omega)
          rw [decide_eq_true e1]
          simp only [Nat.add_one_ne_zero, decide_false, Bool.false_or, Bool.not_true]
          congr 1
          funext s
          rw [visE_at g s (j + 1) hk1]
          have e2 := hge (j + 1) hkn
          have e3 := hge j (by omega)
          rw [e2, show l[a + (j + 1)]'(by omega) = l[a + j + 1]'(by omega) from rfl]
          congr 1
          rw [Bool.eq_iff_iff, List.all_eq_true, decide_eq_true_eq]
          constructor
          · intro hall
            have hm : g[j]'(by omega) ∈ g.take (j + 1) := by
              have : (g.take (j + 1))[j]'(by simp; omega) = g[j]'(by omega) := by simp
              rw [← this]; exact List.getElem_mem _
            have := hall _ hm
            rw [e3, e1] at this
            simp at this
            omega
          · intro hlt d hd
            obtain ⟨i, hi, rfl⟩ := List.getElem_of_mem hd
            have hij : i < j + 1 := by simp at hi; omega
            simp only [List.getElem_take]
            rw [hge i (by omega)]
            have hge2 : (l[a + j]'(by omega)).Seq ≤ (l[a + i]'(by omega)).Seq := by
              by_cases e : i = j
              · subst e; exact Int.le_refl _
              · rcases ents_lt hv (a + j) (by omega) (a + i) (by omega) with h1 | ⟨_, h1⟩
                · rw [hk (a + i) (by omega) (a + j) (by omega) (by omega) (by omega) (by omega) (by omega), sLt_irrefl] at h1
                  cases h1
                · omega
            have : ¬ (l[a + i]'(by omega)).Seq ≤ s := by omega
            simp [this]
      · intro m hm
        simp only [idx_nat g k hk1, idx_nat snaps m hm, Option.bind_some, spec_l9Get_eq g _ _ (by omega)]
        rw [if_pos (by simpa using hm), wrap_ok (n := (m : Int) + 1) (by omega) (by omega), List.take_add_one, List.getElem?_eq_getElem hm, List.any_append, ← Bool.or_assoc]
        simp only [Option.toList_some, List.any_cons, List.any_nil, Bool.or_false]
        generalize (decide (k = 0) || (snaps.take m).any (fun s => visE g s k)) = st
        cases hvis : visE g snaps[m] k with
        | true =>
          rw [visE_find hk1 hvis]
          cases st <;> simp
        | false =>
          have hn := visE_not hgv hk1 hvis
          cases hf : g.find? (fun d => decide (d.Key = g[k].Key) && decide (d.Seq ≤ snaps[m])) with
          | none => cases st <;> simp
          | some d =>
            have := hn d hf
            cases st <;> simp [this]
      · simp
    rw [if_pos (by simpa using hk1)]
    simp only [hin, bindC_go, keepT_succ snaps l a k (by omega)]
    rw [wrap_ok (n := (k : Int) + 1) (by omega) (by omega)]
    cases stayV snaps l (a + k) with
    | true =>
      simp only [if_true, idx_nat g k hk1, Option.bind_some, hge k hkn]
      rw [app_ok (by simp; omega) (by simp; omega)]
      rfl
    | false => simp
  · rw [hgl]
    simp
theorem l15Last_eq (l : List Ent) (a : Nat) (ha : a < l.length) (h : l.length ≤ 1048576) : ∃ e : Nat, spec_l15Last l (a : Int) = some (e : Int) ∧ a < e ∧ e ≤ l.length ∧ (∀ i (hi : i < l.length), a ≤ i → i < e → l[i].Key = l[a].Key) ∧ (∀ hi : e < l.length, l[e].Key ≠ l[a].Key) := by
  unfold spec_l15Last
  have key : ∃ c, loopO (ρ := Ctl Int Int) (fun (S1 : Int) => (if (decide (S1 < ((l.length : Nat) : Int))) = true then ((idx l S1).bind fun E8 =>
  (idx l (a : Int)).bind fun E10 =>
  some (decide (E8.Key = E10.Key)))
  else (some false)).bind (fun (T5 : Bool) =>
  if T5 = true then (some (.go (IntKind.i64.wrap (S1 + (1 : Int)))))
  else (some (.done (.go S1))))) (a : Int) = some c ∧ ∃ e : Nat, c = .go (e : Int) ∧ a < e ∧ e ≤ l.length ∧ (∀ i (hi : i < l.length), a ≤ i → i < e → l[i].Key = l[a].Key) ∧ (∀ hi : e < l.length, l[e].Key ≠ l[a].Key) := by
    refine loopO_total (fun k s => s = ((a + k : Nat) : Int) ∧ ∀ i (hi : i < l.length), a ≤ i → i < a + k → l[i].Key = l[a].Key) (l.length - a) _ ⟨rfl, fun i hi h1 h2 => by omega⟩ ?_ ?_
    · rintro k s hk ⟨rfl, hI⟩
      have hak : a + k < l.length := by omega
      simp only [idx_nat l (a + k) hak, idx_nat l a ha, Option.bind_some]
      rw [if_pos (by simp; omega), wrap_ok (by omega) (by omega)]
      by_cases c : l[a + k].Key = l[a].Key
      · left
        refine ⟨((a + k : Nat) : Int) + 1, by simp [c], by omega, fun i hi h1 h2 => ?_⟩
        by_cases e : i = a + k
        · subst e; exact c
        · exact hI i hi h1 (by omega)
      · right
        refine ⟨.go ((a + k : Nat) : Int), by simp [c], a + k, rfl, ?_, by omega, hI, fun _ => c⟩
        have : k ≠ 0 := by rintro rfl; exact c rfl
        omega
    · rintro s ⟨rfl, hI⟩
      have he : a + (l.length - a) = l.length := by omega
      rw [he] at hI ⊢
      exact ⟨.go ((l.length : Nat) : Int), by simp, l.length, rfl, ha, Nat.le_refl _, hI, fun hi => absurd hi (by omega)⟩
  obtain ⟨c, hc, e, rfl, h1⟩ := key
  exact ⟨e, by rw [hc]; rfl, h1⟩
theorem cutV_next {l : List Ent} (hv : entsV l = true) {a e : Nat} (hc : cutV l a) (hae : a < e) (ha : a < l.length) (h1 : ∀ i (hi : i < l.length), a ≤ i → i < e → l[i].Key = l[a].Key) (h2 : ∀ hi : e < l.length, l[e].Key ≠ l[a].Key) : cutV l e := by
  intro i hi j hj hie hej heq
  by_cases hia : i < a
  · exact hc i hi j hj hia (by omega) heq
  · rw [h1 i hi (by omega) hie] at heq
    have hel : e < l.length := by omega
    have hne := h2 hel
    have hlt : sLt l[a].Key l[e].Key = true := by
      rcases ents_lt hv e hel a hae with h | ⟨h, _⟩
      · exact h
      · exact absurd h.symm hne
    by_cases hj2 : j = e
    · subst hj2; exact hne heq.symm
    · rcases ents_lt hv j hj e (by omega) with h | ⟨h, _⟩
      · have := sLt_trans hlt h
        rw [← heq, sLt_irrefl] at this
        cases this
      · exact hne (h.trans heq.symm)
def compactR (l : List Ent) (snaps : List Int) (bottom : Bool) : List Ent := if l.length ≤ 400 ∧ entsV l = true then finE bottom (keepT snaps l 0 l.length) else []
theorem compactR_len (l : List Ent) (snaps : List Int) (bottom : Bool) : (compactR l snaps bottom).length ≤ l.length := by
  unfold compactR
  split
  · exact Nat.le_trans (finE_len _ _) (keepT_len _ _ _ _)
  · simp
theorem impl_CompactEnts_eq (l : List Ent) (snaps : List Int) (bottom : Bool) (h : l.length ≤ 1048576) (hs : snaps.length ≤ 1048576) : impl_CompactEnts l snaps bottom = some (compactR l snaps bottom) := by
  unfold impl_CompactEnts compactR
  rw [impl_inOrder_eq l h]
  by_cases hl : l.length ≤ 400
  · rw [if_neg (by simp; omega)]
    cases hv : entsV l with
    | false => simp
    | true =>
      simp only [Option.bind_some, Bool.not_true, Bool.false_eq_true, if_false, impl_compacted_eq l snaps bottom h hs]
      rw [if_pos ⟨hl, trivial⟩]
  · rw [if_pos (by simp; omega), if_neg (fun hx => hl hx.1)]
    rfl
theorem spec_CompactEnts_eq (l : List Ent) (snaps : List Int) (bottom : Bool) (h : l.length ≤ 1048576) (hs : snaps.length ≤ 1048576) : spec_CompactEnts l snaps bottom = some (compactR l snaps bottom) := by
  unfold spec_CompactEnts compactR
  rw [spec_l9Ents_eq l h]
  by_cases hl : l.length ≤ 400
  · rw [if_neg (by simp; omega)]
    cases hv : entsV l with
    | false => simp
    | true =>
      simp only [Option.bind_some, Bool.not_true, Bool.false_eq_true, if_false]
      rw [if_pos ⟨hl, trivial⟩]
      rw [loopO_is (fun k s => ∃ a : Nat, s = ((a : Int), finE bottom (keepT snaps l 0 a)) ∧ a ≤ l.length ∧ k ≤ a ∧ cutV l a) l.length (Ctl.go (finE bottom (keepT snaps l 0 l.length))) ?h0 ?h1 ?h2]
      · rfl
      case h0 => 
        refine ⟨0, ?_, Nat.zero_le _, Nat.le_refl _, fun i hi j hj h1 h2 => by omega⟩
        cases bottom <;> rfl
      · rintro k s hk ⟨a, rfl, ha, hka, hc⟩
        by_cases hal : a < l.length
        · left
          obtain ⟨e, he, h1, h2, h3, h4⟩ := l15Last_eq l a hal h
          have hsplit : keepT snaps l 0 e = keepT snaps l 0 a ++ keepT snaps l a (e - a) := by
            have := keepT_add snaps l 0 a (e - a)
            rw [Nat.zero_add, show a + (e - a) = e by omega] at this
            exact this
          have hfe : finE bottom (keepT snaps l 0 e) = finE bottom (keepT snaps l 0 a) ++ finE bottom (keepT snaps l a (e - a)) := by
            rw [hsplit]
            refine finE_append bottom _ _ fun x hx y hy => ?_
            obtain ⟨i, hi, p1, rfl⟩ := keepT_mem snaps l 0 a x hx
            obtain ⟨j, hj, p2, rfl⟩ := keepT_mem snaps l a (e - a) y hy
            exact hc _ _ _ _ (by omega) (by omega)
          refine ⟨((e : Int), finE bottom (keepT snaps l 0 e)), ?_, e, rfl, h2, by omega, cutV_next hv hc h1 hal h3 h4⟩
          have hb1 := Nat.le_trans (finE_len bottom (keepT snaps l 0 a)) (keepT_len snaps l 0 a)
          have hb2 := Nat.le_trans (finE_len bottom (keepT snaps l a (e - a))) (keepT_len snaps l a (e - a))
          simp only [he, Option.bind_some]
          rw [if_pos (by simpa using hal), piece_nat l a e _ _ rfl rfl (by omega) h2]
          simp only [Option.bind_some]
          rw [l15Key_eq l snaps bottom a (e - a) hv h hs (by omega) hc (fun i hi j hj p1 p2 p3 p4 => (h3 i hi p1 (by omega)).trans (h3 j hj p3 (by omega)).symm)]
          simp only [Option.bind_some]
          rw [app_ok (by omega) (by omega), hfe]
          rfl
        · right
          obtain rfl : a = l.length := by omega
          simp
      · rintro s ⟨a, rfl, ha, hka, hc⟩
        obtain rfl : a = l.length := by omega
        simp
  · rw [if_pos (by simp; omega), if_neg (fun hx => hl hx.1)]
    rfl
theorem FnExactCompactEnts_pure (l : List Ent) (snaps : List Int) (bottom : Bool) (h : okl l) : laws_FnExactCompactEnts l snaps bottom = some true := by
  unfold laws_FnExactCompactEnts
  by_cases hk : ((snaps.length : Nat) : Int) > 1048576
  · simp [hk]
  · have hs : snaps.length ≤ 1048576 := by omega
    rw [if_neg (by simpa using hk), sz_EntS l 1048576 (by omega) (by omega) h]
    simp only [Option.bind_some]
    by_cases hl : szV 1048576 (wS wgt_Ent l) < 0
    · rw [if_pos (by simpa using hl)]
    · have hn := szV_nonneg hl
      have hw : wS wgt_Ent l ≤ 1048576 := by omega
      have hll := wS_len hw
      rw [if_neg (by simpa using hl), to_EntS l hll]
      simp only [Option.bind_some, to_IntS snaps hs, spec_CompactEnts_eq l snaps bottom hll hs, impl_CompactEnts_eq l snaps bottom hll hs]
      have hrl : (compactR l snaps bottom).length ≤ 1048576 := Nat.le_trans (compactR_len l snaps bottom) hll
      generalize compactR l snaps bottom = r at hrl
      have c1 : (l.map cnt_Ent).sum ≤ 4 * l.length := sum_le cnt_Ent 4 fun _ _ => Nat.le_refl _
      have c2 : (snaps.map (fun _ => 1)).sum ≤ 1 * snaps.length := sum_le _ 1 fun _ _ => Nat.le_refl _
      have c3 : (r.map cnt_Ent).sum ≤ 4 * r.length := sum_le cnt_Ent 4 fun _ _ => Nat.le_refl _
      simp only [eq_EntS r r (by omega), eq_EntS l l (by omega), eq_IntS snaps snaps (by omega), mark_EntS l 1 (by omega) (by omega) (by omega), mark_IntS snaps _ (show (1 : Int) ≤ 1 + ((l.map cnt_Ent).sum : Nat) by omega) (by omega) (by omega), mark_EntS r 1 (by omega) (by omega) (by omega), held_EntS r 1 (by omega) (by omega) (by omega), Option.bind_some]
      generalize (r.map cnt_Ent).sum = m3 at c3 ⊢
      generalize (l.map cnt_Ent).sum = m1
      generalize (snaps.map (fun _ => 1)).sum = m2
      have n1 : ¬ (1 + (m1 : Int) + (m2 : Int) < 0) := by omega
      have n2 : ¬ (1 + (m3 : Int) < 0) := by omega
      simp [n1, n2]
theorem FnExactCompactEnts_proved : Rows.FnExactCompactEntsSaid := FnExactCompactEnts_over fun l snaps bottom h _ _ => FnExactCompactEnts_pure l snaps bottom h

end Go.Proofs.Ytpnnbeiojpphhab
