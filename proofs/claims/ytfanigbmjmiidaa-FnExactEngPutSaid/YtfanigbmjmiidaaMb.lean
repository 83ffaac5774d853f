/-
  The plain laws: what the pure functions come to, and the statements. Conditions: none.
-/
import Derived.Test.YtfanigbmjmiidaaPm
import Derived.Test.YtfanigbmjmiidaaP6
set_option linter.unusedVariables false
set_option linter.unusedSimpArgs false
namespace Go.Proofs.Ytfanigbmjmiidaa
open Go Sl

theorem inRange_eq (n a b : Int) : impl_inRange n a b = some (decide (a ≤ n ∧ n ≤ b)) := by
  unfold impl_inRange
  by_cases h : n ≥ a <;> simp [h]
theorem l1In_eq (n a b : Int) : spec_l1In n a b = some (decide (a ≤ n ∧ n ≤ b)) := by
  unfold spec_l1In
  by_cases h : n ≥ a <;> simp [h]
/-! ### SpaceOk -/
theorem szIntS_eq (a : List Int) (left : Int) (h1 : 0 ≤ left) (h2 : left ≤ 1048576) (h3 : a.length ≤ 9223372036854775807) :
    laws_szIntS a left = some (if left < a.length then -1 else left - a.length) := by
  unfold laws_szIntS
  rw [wrap_ok (by omega) (by omega)]
  by_cases h : left - (a.length : Int) < 0
  · simp [h, show left < (a.length : Int) by omega]
  · simp [h, show ¬ left < (a.length : Int) by omega]
theorem toIntS_eq (a : List Int) (h : a.length ≤ 1048576) : laws_toIntS a = some a := by
  have := to_loop a 0 (fun x => some x) (fun _ _ => rfl) (by omega)
  simp only [Option.bind_some] at this
  unfold laws_toIntS
  rw [mkLen_ok (by omega) (by omega)]
  simp only [Option.bind_some]
  rw [this]
  rfl
theorem eqIntS_eq (a b : List Int) (h : a.length ≤ 1048576) : laws_eqIntS a b = some (decide (a = b)) := by
  have := eqS_of a b (fun x y => some (decide (x = y))) (fun _ _ _ _ => rfl) (by omega)
  simp only [Option.bind_some] at this
  exact this
theorem all_range (l : List Int) (p : Int → Bool) (f : Int → Option Bool) (hf : ∀ x, f x = some (p x)) (hl : l.length ≤ 1048576) :
    loopO (ρ := Ctl Unit Bool) (fun (S6 : Int) => if (decide (S6 < ((l.length : Nat) : Int))) = true then ((idx l S6).bind fun E11 =>
  (f E11).bind fun R13 =>
  if (!R13) = true then (some (.done (.done false)))
  else (some (.go (IntKind.i64.wrap (S6 + (1 : Int))))))
  else (some (.done (.go ())))) (0 : Int) = some (if l.all p then .go () else .done false) := by
  rw [loopO_list l (fun k (_ : Unit) => (k : Int)) (fun _ x _ => if p x then some (Ctl.go ()) else some (Ctl.done (Ctl.done false))) (fun _ => some (Ctl.go ())) () ?h0 ?hs ?hf]
  case h0 => rfl
  case hs =>
    intro k hk _
    simp only [idx_nat l k hk, Option.bind_some, hf]
    rw [wrap_ok (by omega) (by omega)]
    by_cases he : p l[k] = true
    · simp [he, Ctl.mapGo, hk]
    · simp [he, Ctl.mapGo, hk]
  case hf => intro _; simp
  rw [runL_all p (Ctl.done false) _ _ (by intro k x _; rfl)]
  split <;> rfl
theorem markIntS_eq (a : List Int) (k : Int) (h : a.length ≤ 1048576) (h1 : 1 ≤ k) (h2 : k ≤ 1125899906842624) : laws_markIntS a k = some (k + a.length, a.mapIdx fun i _ => k + i) := by
  unfold laws_markIntS
  rw [mark_loop (fun q _ => q) 1 a k h1 (by omega) h ?hb ?hd]
  case hb =>
    intro q i l hi h3 h4 hl
    simp only [idx_nat l i hi, Option.bind_some]
    rw [wrap_ok (by omega) (by omega), wrap_ok (by omega) (by omega)]
    simp [hi]
  case hd => intro q l hl; simp
  simp
theorem heldIntS_eq (a : List Int) (k : Int) (h : a.length ≤ 1048576) (h1 : 1 ≤ k) (h2 : k ≤ 1125899906842624) : laws_heldIntS (a.mapIdx fun i _ => k + i) k = some (k + a.length) := by
  unfold laws_heldIntS
  rw [held_loop (fun q x => x = q) 1 (a.mapIdx fun i _ => k + i) k (.go (k + a.length)) h1 (by simp; omega) ?hok ?hb ?hd]
  case hok => intro i hi; simp
  case hb =>
    intro q i hi h3 h4 h5
    rw [List.length_mapIdx] at hi
    simp only [idx_nat (List.mapIdx (fun (i : Nat) (_ : Int) => k + (i : Int)) a) i (by rw [List.length_mapIdx]; exact hi), Option.bind_some, h5]
    rw [wrap_ok (by omega) (by omega), wrap_ok (by omega) (by omega)]
    simp [hi]
  case hd => simp
  simp
/-- giving blocks back, one by one -/
def giveV (who : Int) : List Int → List Int → Option (List Int)
  | [], s => some s
  | b :: bs, s => if 0 ≤ b ∧ b < s.length ∧ s[b.toNat]? = some who ∧ 1 ≤ who then giveV who bs (s.set b.toNat 0) else none
theorem giveV_cons (who b : Int) (bs s : List Int) : giveV who (b :: bs) s = if 0 ≤ b ∧ b < s.length ∧ s[b.toNat]? = some who ∧ 1 ≤ who then giveV who bs (s.set b.toNat 0) else none := rfl
theorem giveV_nil (who : Int) (s : List Int) : giveV who [] s = some s := rfl
theorem giveV_length (who : Int) : ∀ (bs s r : List Int), giveV who bs s = some r → r.length = s.length
  | [], s, r, h => by simp [giveV] at h; rw [h]
  | b :: bs, s, r, h => by
    unfold giveV at h
    split at h
    · rw [giveV_length who bs _ r h, List.length_set]
    · cases h
theorem idx_some' {α : Type} {l : List α} {i : Int} (h0 : 0 ≤ i) (h1 : i < l.length) : idx l i = some (l[i.toNat]'(by omega)) := by
  unfold idx; rw [if_pos h0, List.getElem?_eq_getElem]
/-- what a quota needs -/
def needV (q : Int) : Int := if 0 ≤ q ∧ q ≤ 1000 then 2 + 2 * ((q + 49) / 50) else 0
theorem needV_range (q : Int) : 0 ≤ needV q ∧ needV q ≤ 42 := by
  unfold needV; split <;> omega
theorem markText_loop (m : Nat) : ∀ s : List UInt8, s.length + m ≤ 9223372036854775806 → ∃ r : List UInt8, loopO (ρ := Ctl (List UInt8) (List UInt8)) (fun (S2 : Int × List UInt8) => if (decide (S2.1 > (0 : Int))) = true then ((cat ([toU8 (IntKind.i64.wrap ((48 : Int) + (Int.tmod S2.1 (10 : Int))))]) S2.2).bind fun E8 =>
  some (.go (IntKind.i64.wrap (Int.tdiv S2.1 (10 : Int)), E8)))
  else (some (.done (.go S2.2)))) ((m : Int), s) = some (.go r) ∧ r.length ≤ s.length + m := by
  induction m using Nat.strongRecOn with
  | _ m ih =>
    intro s hs
    rw [loopO_eq]
    by_cases h0 : m = 0
    · subst h0
      exact ⟨s, by simp, by omega⟩
    · simp only
      rw [if_pos (by simp; omega), cat_ok (by simp; omega)]
      have hd : Int.tdiv (m : Int) 10 = ((m / 10 : Nat) : Int) := rfl
      rw [hd, wrap_ok (n := ((m / 10 : Nat) : Int)) (by omega) (by omega)]
      simp only [Option.bind_some]
      obtain ⟨r, hr, hl⟩ := ih (m / 10) (by omega) ([toU8 (IntKind.i64.wrap ((48 : Int) + (Int.tmod (m : Int) (10 : Int))))] ++ s) (by simp; omega)
      exact ⟨r, hr, by simp at hl; omega⟩
theorem markText_some (k : Int) (h : k ≤ 9223372036854775800) : ∃ t, laws_markText k = some t := by
  unfold laws_markText
  by_cases h0 : k ≤ 0
  · exact ⟨_, by rw [if_pos (by simpa using h0)]⟩
  · rw [if_neg (by simpa using h0)]
    obtain ⟨r, hr, hl⟩ := markText_loop k.toNat [] (by simp; omega)
    rw [show ((k.toNat : Nat) : Int) = k by omega] at hr
    refine ⟨[109] ++ r, ?_⟩
    rw [hr]
    simp only [bindC_go]
    rw [cat_ok (by simp at hl ⊢; omega)]
    rfl
noncomputable def markT (k : Int) : List UInt8 := (laws_markText k).getD []
theorem markText_eq (k : Int) (h : k ≤ 9223372036854775800) : laws_markText k = some (markT k) := by
  obtain ⟨t, ht⟩ := markText_some k h
  unfold markT; rw [ht]; rfl
def wgt_Ent (x : Ent) : Nat := x.Key.length + (x.Val.length + 0)
theorem sz_Ent (x : Ent) (left : Int) (h1 : 0 ≤ left) (h2 : left ≤ 1048576) (h : Dec.ok x) : laws_szEnt x left = some (szV left (wgt_Ent x)) := by
  unfold laws_szEnt
  show _ = some (szV left (x.Key.length + (x.Val.length + 0)))
  refine sz_str h1 h2 (h.1) fun hle0 hw0 => ?_
  simp only [hw0]
  have g1_0 : 0 ≤ left - ((x.Key.length : Nat) : Int) := by omega
  have g2_0 : left - ((x.Key.length : Nat) : Int) ≤ 1048576 := by omega
  refine sz_str g1_0 g2_0 (h.2.2.2) fun hle1 hw1 => ?_
  simp only [hw1]
  have g1_1 : 0 ≤ left - ((x.Key.length : Nat) : Int) - ((x.Val.length : Nat) : Int) := by omega
  have g2_1 : left - ((x.Key.length : Nat) : Int) - ((x.Val.length : Nat) : Int) ≤ 1048576 := by omega
  exact sz_end g1_1
theorem to_Ent (x : Ent) : laws_toEnt x = some x := rfl
theorem eq_Ent (a b : Ent) : laws_eqEnt a b = some (decide (a = b)) := by
  have he : (a = b) ↔ (a.Key = b.Key ∧ a.Seq = b.Seq ∧ a.Del = b.Del ∧ a.Val = b.Val ∧ True) := ⟨fun e => by subst e; simp, fun h => by cases a; cases b; simp_all⟩
  rw [decide_eq_decide.2 he]
  unfold laws_eqEnt
  refine eq_step fun _ => ?_
  refine eq_step fun _ => ?_
  refine eq_step fun _ => ?_
  refine eq_step fun _ => ?_
  exact eq_end
theorem sz_EntS (a : List Ent) (left : Int) (h1 : 0 ≤ left) (h2 : left ≤ 1048576) (h : okl a) : laws_szEntS a left = some (szV left (wS wgt_Ent a)) := by
  unfold laws_szEntS
  exact szS_of a laws_szEnt wgt_Ent (fun x hx left h1 h2 => sz_Ent x left h1 h2 (h.2 x hx)) h.1 left h1 h2
theorem to_EntS (a : List Ent) (h : a.length ≤ 1048576) : laws_toEntS a = some a := by
  unfold laws_toEntS
  rw [mkLen_ok (by omega) (by omega)]
  simp only [Option.bind_some]
  rw [to_loop a _ laws_toEnt (fun x _ => rfl) (by omega)]
  rfl
theorem eq_EntS (a b : List Ent) (h : a.length ≤ 4611686018427387904) : laws_eqEntS a b = some (decide (a = b)) :=
  eqS_of a b laws_eqEnt (fun x y _ _ => eq_Ent x y) h
def cnt_Ent (_ : Ent) : Nat := 4
noncomputable def mk_Ent (q : Int) (_ : Ent) : Ent := { Key := markT (q), Seq := q + 1, Del := decide (Int.tmod (q + 1 + 1) 3 = 0), Val := markT (q + 1 + 1 + 1) : Ent }
theorem mark_EntS (a : List Ent) (k : Int) (h1 : 1 ≤ k) (h2 : k + ((a.map cnt_Ent).sum : Nat) ≤ 4611686018427387904) (h : a.length ≤ 4611686018427387904) : laws_markEntS a k = some (k + ((a.map cnt_Ent).sum : Nat), mkL mk_Ent cnt_Ent k a) := by
  unfold laws_markEntS
  rw [markV_loop mk_Ent cnt_Ent a k h1 h2 h ?hb ?hd]
  case hb =>
    intro q i l x hi hx h3 h4 hl hil
    have hc : ((cnt_Ent x : Nat) : Int) = 4 := rfl
    rw [hc] at h4
    have wi : IntKind.i64.wrap ((i : Int) + 1) = (i : Int) + 1 := wrap_ok (by omega) (by omega)
    have w0 : IntKind.i64.wrap (q + 1) = q + 1 := wrap_ok (by omega) (by omega)
    have w1 : IntKind.i64.wrap (q + 1 + 1) = q + 1 + 1 := wrap_ok (by omega) (by omega)
    have w2 : IntKind.i64.wrap (q + 1 + 1 + 1) = q + 1 + 1 + 1 := wrap_ok (by omega) (by omega)
    have w3 : IntKind.i64.wrap (q + 1 + 1 + 1 + 1) = q + 1 + 1 + 1 + 1 := wrap_ok (by omega) (by omega)
    simp only [hi, Option.bind_some, wi, w0, w1, w2, w3, markText_eq (q) (by omega), markText_eq (q + 1 + 1 + 1) (by omega)]
    rw [if_pos (by simpa [hl] using hil), Int.toNat_natCast, hc]
    first | done | rfl | (congr 3 <;> omega)
  case hd => intro q l hl; simp
  rfl
theorem held_EntS (a : List Ent) (k : Int) (h1 : 1 ≤ k) (h2 : k + ((a.map cnt_Ent).sum : Nat) ≤ 4611686018427387904) (h : a.length ≤ 4611686018427387904) : laws_heldEntS (mkL mk_Ent cnt_Ent k a) k = some (k + ((a.map cnt_Ent).sum : Nat)) := by
  unfold laws_heldEntS
  rw [mkL_length, heldV_loop mk_Ent cnt_Ent a k (Ctl.go (k + ((a.map cnt_Ent).sum : Nat))) h1 h2 ?hb ?hd]
  case hb =>
    intro q i x hi hx h3 h4 hil
    have hc : ((cnt_Ent x : Nat) : Int) = 4 := rfl
    rw [hc] at h4
    have wi : IntKind.i64.wrap ((i : Int) + 1) = (i : Int) + 1 := wrap_ok (by omega) (by omega)
    have w0 : IntKind.i64.wrap (q + 1) = q + 1 := wrap_ok (by omega) (by omega)
    have w1 : IntKind.i64.wrap (q + 1 + 1) = q + 1 + 1 := wrap_ok (by omega) (by omega)
    have w2 : IntKind.i64.wrap (q + 1 + 1 + 1) = q + 1 + 1 + 1 := wrap_ok (by omega) (by omega)
    have w3 : IntKind.i64.wrap (q + 1 + 1 + 1 + 1) = q + 1 + 1 + 1 + 1 := wrap_ok (by omega) (by omega)
    simp only [hi, Option.bind_some, wi, w0, w1, w2, w3, mk_Ent, markText_eq (q) (by omega), markText_eq (q + 1 + 1 + 1) (by omega)]
    rw [if_pos (by simpa using hil), hc]
    simp
    try omega
  case hd => simp
  rfl
theorem sz_EntSS (a : List (List Ent)) (left : Int) (h1 : 0 ≤ left) (h2 : left ≤ 1048576) (h : okl a) : laws_szEntSS a left = some (szV left (wS (fun l => wS wgt_Ent l) a)) := by
  unfold laws_szEntSS
  exact szS_of a laws_szEntS (fun l => wS wgt_Ent l) (fun x hx left h1 h2 => sz_EntS x left h1 h2 (h.2 x hx)) h.1 left h1 h2
theorem to_EntSS (a : List (List Ent)) (h : wS (fun l => wS wgt_Ent l) a ≤ 1048576) : laws_toEntSS a = some a := by
  have hl := wS_len h
  unfold laws_toEntSS
  rw [mkLen_ok (by omega) (by omega)]
  simp only [Option.bind_some]
  rw [to_loop a _ laws_toEntS (fun x hx => (to_EntS x (wS_len (wS_mem h hx)))) (by omega)]
  rfl
theorem eq_EntSS (a b : List (List Ent)) (h : a.length ≤ 4611686018427387904 ∧ ∀ y ∈ a, y.length ≤ 4611686018427387904) : laws_eqEntSS a b = some (decide (a = b)) :=
  eqS_of a b laws_eqEntS (fun x y hx _ => eq_EntS x y (h.2 x hx)) h.1
theorem mark_EntSS (a : List (List Ent)) (k : Int) (h1 : 1 ≤ k) (h2 : k + ((a.map (fun l => (l.map cnt_Ent).sum)).sum : Nat) ≤ 4611686018427387904) (h : a.length ≤ 4611686018427387904 ∧ ∀ y ∈ a, y.length ≤ 4611686018427387904) : laws_markEntSS a k = some (k + ((a.map (fun l => (l.map cnt_Ent).sum)).sum : Nat), mkL (fun q l => mkL mk_Ent cnt_Ent q l) (fun l => (l.map cnt_Ent).sum) k a) := by
  unfold laws_markEntSS
  rw [markV_loop (fun q l => mkL mk_Ent cnt_Ent q l) (fun l => (l.map cnt_Ent).sum) a k h1 h2 h.1 ?hb ?hd]
  case hb =>
    intro q i l x hi hx h3 h4 hl hil
    have h5 := h.1
    have wi : IntKind.i64.wrap ((i : Int) + 1) = (i : Int) + 1 := wrap_ok (by omega) (by omega)
    simp only [hi, Option.bind_some, wi, mark_EntS x q h3 h4 (h.2 x hx)]
    rw [if_pos (by simpa [hl] using hil), Int.toNat_natCast]
  case hd => intro q l hl; simp
  rfl
theorem held_EntSS (a : List (List Ent)) (k : Int) (h1 : 1 ≤ k) (h2 : k + ((a.map (fun l => (l.map cnt_Ent).sum)).sum : Nat) ≤ 4611686018427387904) (h : a.length ≤ 4611686018427387904 ∧ ∀ y ∈ a, y.length ≤ 4611686018427387904) : laws_heldEntSS (mkL (fun q l => mkL mk_Ent cnt_Ent q l) (fun l => (l.map cnt_Ent).sum) k a) k = some (k + ((a.map (fun l => (l.map cnt_Ent).sum)).sum : Nat)) := by
  unfold laws_heldEntSS
  rw [mkL_length, heldV_loop (fun q l => mkL mk_Ent cnt_Ent q l) (fun l => (l.map cnt_Ent).sum) a k (Ctl.go (k + ((a.map (fun l => (l.map cnt_Ent).sum)).sum : Nat))) h1 h2 ?hb ?hd]
  case hb =>
    intro q i x hi hx h3 h4 hil
    have h5 := h.1
    have wi : IntKind.i64.wrap ((i : Int) + 1) = (i : Int) + 1 := wrap_ok (by omega) (by omega)
    simp only [hi, Option.bind_some, wi, held_EntS x q h3 h4 (h.2 x hx)]
    rw [if_pos (by simpa using hil), if_neg (by simp; omega)]
  case hd => simp
  rfl
theorem sz_IntS (a : List Int) (left : Int) (h1 : 0 ≤ left) (h2 : left ≤ 1048576) (h : okl a) : laws_szIntS a left = some (szV left a.length) := by
  unfold laws_szIntS
  exact sz_len h1 h2 h.1
theorem to_IntS (a : List Int) (h : a.length ≤ 1048576) : laws_toIntS a = some a := by
  have := fun z => to_loop a z (fun x => some x) (fun _ _ => rfl) (by omega)
  simp only [Option.bind_some] at this
  unfold laws_toIntS
  rw [mkLen_ok (by omega) (by omega)]
  simp only [Option.bind_some]
  rw [this]
  rfl
theorem eq_IntS (a b : List Int) (h : a.length ≤ 4611686018427387904) : laws_eqIntS a b = some (decide (a = b)) := by
  have := eqS_of a b (fun x y => some (decide (x = y))) (fun _ _ _ _ => rfl) h
  simp only [Option.bind_some] at this
  exact this
theorem mark_IntS (a : List Int) (k : Int) (h1 : 1 ≤ k) (h2 : k + ((a.map (fun _ => 1)).sum : Nat) ≤ 4611686018427387904) (h : a.length ≤ 4611686018427387904) : laws_markIntS a k = some (k + ((a.map (fun _ => 1)).sum : Nat), mkL (fun q _ => q) (fun _ => 1) k a) := by
  unfold laws_markIntS
  rw [markV_loop (fun q _ => q) (fun _ => 1) a k h1 h2 h ?hb ?hd]
  case hb =>
    intro q i l x hi hx h3 h4 hl hil
    have hc : (((fun _ => 1) x : Nat) : Int) = 1 := rfl
    rw [hc] at h4
    have wi : IntKind.i64.wrap ((i : Int) + 1) = (i : Int) + 1 := wrap_ok (by omega) (by omega)
    have w0 : IntKind.i64.wrap (q + 1) = q + 1 := wrap_ok (by omega) (by omega)
    simp only [hi, Option.bind_some, wi, w0]
    rw [if_pos (by simpa [hl] using hil), Int.toNat_natCast, hc]
    first | done | rfl | (congr 3 <;> omega)
  case hd => intro q l hl; simp
  rfl
theorem held_IntS (a : List Int) (k : Int) (h1 : 1 ≤ k) (h2 : k + ((a.map (fun _ => 1)).sum : Nat) ≤ 4611686018427387904) (h : a.length ≤ 4611686018427387904) : laws_heldIntS (mkL (fun q _ => q) (fun _ => 1) k a) k = some (k + ((a.map (fun _ => 1)).sum : Nat)) := by
  unfold laws_heldIntS
  rw [mkL_length, heldV_loop (fun q _ => q) (fun _ => 1) a k (Ctl.go (k + ((a.map (fun _ => 1)).sum : Nat))) h1 h2 ?hb ?hd]
  case hb =>
    intro q i x hi hx h3 h4 hil
    have hc : (((fun _ => 1) x : Nat) : Int) = 1 := rfl
    rw [hc] at h4
    have wi : IntKind.i64.wrap ((i : Int) + 1) = (i : Int) + 1 := wrap_ok (by omega) (by omega)
    have w0 : IntKind.i64.wrap (q + 1) = q + 1 := wrap_ok (by omega) (by omega)
    simp only [hi, Option.bind_some, wi, w0]
    rw [if_pos (by simpa using hil), hc]
    simp
    try omega
  case hd => simp
  rfl
def wgt_Eng (x : Eng) : Nat := wS wgt_Ent x.Mem + (wS (fun l => wS wgt_Ent l) x.Tables + (x.Snaps.length + 0))
theorem sz_Eng (x : Eng) (left : Int) (h1 : 0 ≤ left) (h2 : left ≤ 1048576) (h : Dec.ok x) : laws_szEng x left = some (szV left (wgt_Eng x)) := by
  unfold laws_szEng
  show _ = some (szV left (wS wgt_Ent x.Mem + (wS (fun l => wS wgt_Ent l) x.Tables + (x.Snaps.length + 0))))
  rw [sz_EntS x.Mem _ h1 h2 (h.1)]
  refine sz_call h1 fun hle0 => ?_
  have g1_0 : 0 ≤ left - ((wS wgt_Ent x.Mem : Nat) : Int) := by omega
  have g2_0 : left - ((wS wgt_Ent x.Mem : Nat) : Int) ≤ 1048576 := by omega
  rw [sz_EntSS x.Tables _ g1_0 g2_0 (h.2.1)]
  refine sz_call g1_0 fun hle1 => ?_
  have g1_1 : 0 ≤ left - ((wS wgt_Ent x.Mem : Nat) : Int) - ((wS (fun l => wS wgt_Ent l) x.Tables : Nat) : Int) := by omega
  have g2_1 : left - ((wS wgt_Ent x.Mem : Nat) : Int) - ((wS (fun l => wS wgt_Ent l) x.Tables : Nat) : Int) ≤ 1048576 := by omega
  rw [sz_IntS x.Snaps _ g1_1 g2_1 (h.2.2.2)]
  refine sz_call g1_1 fun hle2 => ?_
  have g1_2 : 0 ≤ left - ((wS wgt_Ent x.Mem : Nat) : Int) - ((wS (fun l => wS wgt_Ent l) x.Tables : Nat) : Int) - ((x.Snaps.length : Nat) : Int) := by omega
  have g2_2 : left - ((wS wgt_Ent x.Mem : Nat) : Int) - ((wS (fun l => wS wgt_Ent l) x.Tables : Nat) : Int) - ((x.Snaps.length : Nat) : Int) ≤ 1048576 := by omega
  exact sz_end g1_2
def bnd_Eng (x : Eng) : Prop := x.Mem.length ≤ 4611686018427387904 ∧ (x.Tables.length ≤ 4611686018427387904 ∧ ∀ y ∈ x.Tables, y.length ≤ 4611686018427387904) ∧ x.Snaps.length ≤ 4611686018427387904
theorem to_Eng (x : Eng) (h : wgt_Eng x ≤ 1048576) : laws_toEng x = some x := by
  unfold laws_toEng
  have h0 : wS wgt_Ent x.Mem + (wS (fun l => wS wgt_Ent l) x.Tables + (x.Snaps.length + 0)) ≤ 1048576 := h
  simp only [to_EntS x.Mem (wS_len (w := wgt_Ent) (l := x.Mem) (by omega)), to_EntSS x.Tables (by omega), to_IntS x.Snaps (by omega), Option.bind_some]
theorem bnd_of_Eng (x : Eng) (h : wgt_Eng x ≤ 1048576) : bnd_Eng x := by
  have h0 : wS wgt_Ent x.Mem + (wS (fun l => wS wgt_Ent l) x.Tables + (x.Snaps.length + 0)) ≤ 1048576 := h
  exact ⟨Nat.le_trans (wS_len (w := wgt_Ent) (n := 1048576) (by omega)) (by decide), ⟨Nat.le_trans (wS_len (w := (fun l => wS wgt_Ent l)) (l := x.Tables) (n := 1048576) (by omega)) (by decide), fun y hy => Nat.le_trans (wS_len (wS_mem (w := (fun l => wS wgt_Ent l)) (l := x.Tables) (n := 1048576) (by omega) hy)) (by decide)⟩, (show x.Snaps.length ≤ 4611686018427387904 by omega)⟩
theorem eq_Eng (a b : Eng) (h : bnd_Eng a) : laws_eqEng a b = some (decide (a = b)) := by
  have he : (a = b) ↔ (a.Mem = b.Mem ∧ a.Tables = b.Tables ∧ a.Seq = b.Seq ∧ a.Snaps = b.Snaps ∧ True) := ⟨fun e => by subst e; simp, fun h => by cases a; cases b; simp_all⟩
  rw [decide_eq_decide.2 he]
  unfold laws_eqEng
  rw [eq_EntS a.Mem b.Mem h.1]
  refine eq_call fun _ => ?_
  rw [eq_EntSS a.Tables b.Tables h.2.1]
  refine eq_call fun _ => ?_
  refine eq_step fun _ => ?_
  rw [eq_IntS a.Snaps b.Snaps h.2.2]
  refine eq_call fun _ => ?_
  exact eq_end
def cntS_Eng (x : Eng) : Nat := ((x.Mem.map cnt_Ent).sum : Nat) + ((x.Tables.map (fun l => (l.map cnt_Ent).sum)).sum : Nat) + ((x.Snaps.map (fun _ => 1)).sum : Nat)
theorem mark_Eng (x : Eng) (k : Int) (h1 : 1 ≤ k) (h2 : k + cntS_Eng x ≤ 4611686018427387904) (h : bnd_Eng x) : laws_markEng x k = some (k + cntS_Eng x, mkL mk_Ent cnt_Ent (k) x.Mem, mkL (fun q l => mkL mk_Ent cnt_Ent q l) (fun l => (l.map cnt_Ent).sum) (k + (((x.Mem.map cnt_Ent).sum : Nat) : Int)) x.Tables, mkL (fun q _ => q) (fun _ => 1) (k + (((x.Mem.map cnt_Ent).sum : Nat) : Int) + (((x.Tables.map (fun l => (l.map cnt_Ent).sum)).sum : Nat) : Int)) x.Snaps) := by
  have h3 : k + ((((x.Mem.map cnt_Ent).sum : Nat) + ((x.Tables.map (fun l => (l.map cnt_Ent).sum)).sum : Nat) + ((x.Snaps.map (fun _ => 1)).sum : Nat) : Nat) : Int) ≤ 4611686018427387904 := h2
  have e : k + ((cntS_Eng x : Nat) : Int) = k + (((x.Mem.map cnt_Ent).sum : Nat) : Int) + (((x.Tables.map (fun l => (l.map cnt_Ent).sum)).sum : Nat) : Int) + (((x.Snaps.map (fun _ => 1)).sum : Nat) : Int) := by unfold cntS_Eng; omega
  rw [e]
  unfold laws_markEng
  simp only [mark_EntS x.Mem (k) (by omega) (by omega) h.1, Option.bind_some]
  simp only [mark_EntSS x.Tables (k + (((x.Mem.map cnt_Ent).sum : Nat) : Int)) (by omega) (by omega) h.2.1, Option.bind_some]
  simp only [mark_IntS x.Snaps (k + (((x.Mem.map cnt_Ent).sum : Nat) : Int) + (((x.Tables.map (fun l => (l.map cnt_Ent).sum)).sum : Nat) : Int)) (by omega) (by omega) h.2.2, Option.bind_some]
theorem held_Eng (x : Eng) (k : Int) (h1 : 1 ≤ k) (h2 : k + cntS_Eng x ≤ 4611686018427387904) (h : bnd_Eng x) : laws_heldEng ({ Mem := mkL mk_Ent cnt_Ent (k) x.Mem, Tables := mkL (fun q l => mkL mk_Ent cnt_Ent q l) (fun l => (l.map cnt_Ent).sum) (k + (((x.Mem.map cnt_Ent).sum : Nat) : Int)) x.Tables, Seq := x.Seq, Snaps := mkL (fun q _ => q) (fun _ => 1) (k + (((x.Mem.map cnt_Ent).sum : Nat) : Int) + (((x.Tables.map (fun l => (l.map cnt_Ent).sum)).sum : Nat) : Int)) x.Snaps : Eng }) k = some (k + cntS_Eng x) := by
  have h3 : k + ((((x.Mem.map cnt_Ent).sum : Nat) + ((x.Tables.map (fun l => (l.map cnt_Ent).sum)).sum : Nat) + ((x.Snaps.map (fun _ => 1)).sum : Nat) : Nat) : Int) ≤ 4611686018427387904 := h2
  have e : k + ((cntS_Eng x : Nat) : Int) = k + (((x.Mem.map cnt_Ent).sum : Nat) : Int) + (((x.Tables.map (fun l => (l.map cnt_Ent).sum)).sum : Nat) : Int) + (((x.Snaps.map (fun _ => 1)).sum : Nat) : Int) := by unfold cntS_Eng; omega
  rw [e]
  unfold laws_heldEng
  simp only [held_EntS x.Mem (k) (by omega) (by omega) h.1, Option.bind_some]
  repeat (rw [if_neg (by simp; omega)]; try simp only [Option.bind_some])
  simp only [held_EntSS x.Tables (k + (((x.Mem.map cnt_Ent).sum : Nat) : Int)) (by omega) (by omega) h.2.1, Option.bind_some]
  repeat (rw [if_neg (by simp; omega)]; try simp only [Option.bind_some])
  simp only [held_IntS x.Snaps (k + (((x.Mem.map cnt_Ent).sum : Nat) : Int) + (((x.Tables.map (fun l => (l.map cnt_Ent).sum)).sum : Nat) : Int)) (by omega) (by omega) h.2.2, Option.bind_some]
  repeat (rw [if_neg (by simp; omega)]; try simp only [Option.bind_some])
def wgt_Op (x : Op) : Nat := x.Key.length + (x.Val.length + 0)
theorem sz_Op (x : Op) (left : Int) (h1 : 0 ≤ left) (h2 : left ≤ 1048576) (h : Dec.ok x) : laws_szOp x left = some (szV left (wgt_Op x)) := by
  unfold laws_szOp
  show _ = some (szV left (x.Key.length + (x.Val.length + 0)))
  refine sz_str h1 h2 (h.1) fun hle0 hw0 => ?_
  simp only [hw0]
  have g1_0 : 0 ≤ left - ((x.Key.length : Nat) : Int) := by omega
  have g2_0 : left - ((x.Key.length : Nat) : Int) ≤ 1048576 := by omega
  refine sz_str g1_0 g2_0 (h.2.2) fun hle1 hw1 => ?_
  simp only [hw1]
  have g1_1 : 0 ≤ left - ((x.Key.length : Nat) : Int) - ((x.Val.length : Nat) : Int) := by omega
  have g2_1 : left - ((x.Key.length : Nat) : Int) - ((x.Val.length : Nat) : Int) ≤ 1048576 := by omega
  exact sz_end g1_1
theorem to_Op (x : Op) : laws_toOp x = some x := rfl
theorem eq_Op (a b : Op) : laws_eqOp a b = some (decide (a = b)) := by
  have he : (a = b) ↔ (a.Key = b.Key ∧ a.Del = b.Del ∧ a.Val = b.Val ∧ True) := ⟨fun e => by subst e; simp, fun h => by cases a; cases b; simp_all⟩
  rw [decide_eq_decide.2 he]
  unfold laws_eqOp
  refine eq_step fun _ => ?_
  refine eq_step fun _ => ?_
  refine eq_step fun _ => ?_
  exact eq_end
theorem sz_OpS (a : List Op) (left : Int) (h1 : 0 ≤ left) (h2 : left ≤ 1048576) (h : okl a) : laws_szOpS a left = some (szV left (wS wgt_Op a)) := by
  unfold laws_szOpS
  exact szS_of a laws_szOp wgt_Op (fun x hx left h1 h2 => sz_Op x left h1 h2 (h.2 x hx)) h.1 left h1 h2
theorem to_OpS (a : List Op) (h : a.length ≤ 1048576) : laws_toOpS a = some a := by
  unfold laws_toOpS
  rw [mkLen_ok (by omega) (by omega)]
  simp only [Option.bind_some]
  rw [to_loop a _ laws_toOp (fun x _ => rfl) (by omega)]
  rfl
theorem eq_OpS (a b : List Op) (h : a.length ≤ 4611686018427387904) : laws_eqOpS a b = some (decide (a = b)) :=
  eqS_of a b laws_eqOp (fun x y _ _ => eq_Op x y) h
def cnt_Op (_ : Op) : Nat := 3
noncomputable def mk_Op (q : Int) (_ : Op) : Op := { Key := markT (q), Del := decide (Int.tmod (q + 1) 3 = 0), Val := markT (q + 1 + 1) : Op }
theorem mark_OpS (a : List Op) (k : Int) (h1 : 1 ≤ k) (h2 : k + ((a.map cnt_Op).sum : Nat) ≤ 4611686018427387904) (h : a.length ≤ 4611686018427387904) : laws_markOpS a k = some (k + ((a.map cnt_Op).sum : Nat), mkL mk_Op cnt_Op k a) := by
  unfold laws_markOpS
  rw [markV_loop mk_Op cnt_Op a k h1 h2 h ?hb ?hd]
  case hb =>
    intro q i l x hi hx h3 h4 hl hil
    have hc : ((cnt_Op x : Nat) : Int) = 3 := rfl
    rw [hc] at h4
    have wi : IntKind.i64.wrap ((i : Int) + 1) = (i : Int) + 1 := wrap_ok (by omega) (by omega)
    have w0 : IntKind.i64.wrap (q + 1) = q + 1 := wrap_ok (by omega) (by omega)
    have w1 : IntKind.i64.wrap (q + 1 + 1) = q + 1 + 1 := wrap_ok (by omega) (by omega)
    have w2 : IntKind.i64.wrap (q + 1 + 1 + 1) = q + 1 + 1 + 1 := wrap_ok (by omega) (by omega)
    simp only [hi, Option.bind_some, wi, w0, w1, w2, markText_eq (q) (by omega), markText_eq (q + 1 + 1) (by omega)]
    rw [if_pos (by simpa [hl] using hil), Int.toNat_natCast, hc]
    first | done | rfl | (congr 3 <;> omega)
  case hd => intro q l hl; simp
  rfl
/-- a list turned up to a place -/
def preM {α : Type} (f : α → α) (l : List α) (k : Nat) : List α := (l.take k).map f ++ l.drop k
theorem preM_length {α : Type} (f : α → α) (l : List α) (k : Nat) : (preM f l k).length = l.length := by unfold preM; simp; omega
theorem preM_get {α : Type} (f : α → α) (l : List α) (k : Nat) (h : k < l.length) : idx (preM f l k) (k : Int) = some l[k] := by
  rw [idx_nat _ k (by rw [preM_length]; exact h)]
  congr 1
  have hl : ((l.take k).map f).length = k := by rw [List.length_map, List.length_take]; omega
  unfold preM
  rw [List.getElem_append_right (by omega)]
  simp only [hl, Nat.sub_self]
  simp
theorem preM_set {α : Type} (f : α → α) (l : List α) (k : Nat) (h : k < l.length) : (preM f l k).set k (f l[k]) = preM f l (k + 1) := by
  have hl : ((l.take k).map f).length = k := by rw [List.length_map, List.length_take]; omega
  have htk : l.take (k + 1) = l.take k ++ [l[k]] := by rw [List.take_add_one, List.getElem?_eq_getElem h]; rfl
  unfold preM
  rw [List.set_append_right _ _ (by omega), hl, Nat.sub_self, htk, List.drop_eq_getElem_cons h, List.set_cons_zero, List.map_append, List.append_assoc]
  rfl
theorem preM_same {α : Type} (f : α → α) (l : List α) (k : Nat) (h : k < l.length) (hf : f l[k] = l[k]) : preM f l (k + 1) = preM f l k := by
  rw [← preM_set f l k h, hf]
  apply List.ext_getElem?
  intro j
  rw [List.getElem?_set]
  split
  · rename_i he
    subst he
    have := preM_get f l k h
    unfold idx at this
    rw [if_pos (by omega), Int.toNat_natCast] at this
    rw [if_pos (by rw [preM_length]; exact h), this]
  · rfl
theorem preM_all {α : Type} (f : α → α) (l : List α) : preM f l l.length = l.map f := by unfold preM; simp
/-- a tenant's blocks, wiped -/
def wipeV (who : Int) (l : List Int) : List Int := l.map fun x => if x = who then 0 else x
/-- the first n free blocks of the first k -/
def freeIx (l : List Int) (n : Int) : Nat → List Nat
  | 0 => []
  | k + 1 => if l[k]? = some 0 ∧ ((freeIx l n k).length : Int) < n then freeIx l n k ++ [k] else freeIx l n k
theorem freeIx_lt (l : List Int) (n : Int) : ∀ k, ∀ i ∈ freeIx l n k, i < k
  | 0, i, h => by simp [freeIx] at h
  | k + 1, i, h => by
    unfold freeIx at h
    split at h
    · rcases List.mem_append.1 h with h | h
      · have := freeIx_lt l n k i h; omega
      · have : i = k := by simpa using h
        omega
    · have := freeIx_lt l n k i h; omega
theorem freeIx_length (l : List Int) (n : Int) : ∀ k, (freeIx l n k).length ≤ k
  | 0 => by simp [freeIx]
  | k + 1 => by
    have := freeIx_length l n k
    unfold freeIx
    split
    · simp; omega
    · omega
theorem freeIx_sat (l : List Int) (n : Int) (k : Nat) (h : ¬ ((freeIx l n k).length : Int) < n) : ∀ d, freeIx l n (k + d) = freeIx l n k
  | 0 => rfl
  | d + 1 => by
    have := freeIx_sat l n k h d
    have e : freeIx l n (k + (d + 1)) = if l[k + d]? = some 0 ∧ ((freeIx l n (k + d)).length : Int) < n then freeIx l n (k + d) ++ [k + d] else freeIx l n (k + d) := rfl
    rw [e, this, if_neg (fun h2 => h h2.2)]
theorem freeIx_count (l : List Int) (n : Int) (hn : 1 ≤ n) : ∀ k, k ≤ l.length → (((freeIx l n k).length : Int) < n ↔ (((l.take k).countP fun x => decide (x = 0) : Nat) : Int) < n) ∧ ((((l.take k).countP fun x => decide (x = 0) : Nat) : Int) < n → (freeIx l n k).length = ((l.take k).countP fun x => decide (x = 0))) ∧
    ((((l.take k).countP fun x => decide (x = 0) : Nat) : Int) = n → ((freeIx l n k).length : Int) = n)
  | 0, _ => by simp [freeIx]
  | k + 1, hk => by
    obtain ⟨h1, h2, h3⟩ := freeIx_count l n hn k (by omega)
    have hk' : k < l.length := by omega
    have htk : l.take (k + 1) = l.take k ++ [l[k]] := by rw [List.take_add_one, List.getElem?_eq_getElem hk']; rfl
    unfold freeIx
    rw [htk, List.countP_append, List.getElem?_eq_getElem hk']
    by_cases hx : l[k] = 0
    · simp only [hx, true_and, List.countP_cons, List.countP_nil, decide_true, if_true, Nat.zero_add]
      by_cases hc : ((freeIx l n k).length : Int) < n
      · rw [if_pos hc]
        have := h2 (h1.1 hc)
        simp only [List.length_append, List.length_cons, List.length_nil]
        omega
      · rw [if_neg hc]
        have : ¬ (((l.take k).countP fun x => decide (x = 0) : Nat) : Int) < n := fun h => hc (h1.2 h)
        omega
    · simp only [List.countP_cons, List.countP_nil, hx, decide_false, Bool.false_eq_true, if_false, Nat.add_zero]
      rw [if_neg (by simp [hx])]
      exact ⟨h1, h2, h3⟩
/-- blocks given to somebody -/
def setAll (who : Int) (l : List Int) (g : List Nat) : List Int := g.foldl (fun s i => s.set i who) l
theorem setAll_length (who : Int) (g : List Nat) : ∀ l, (setAll who l g).length = l.length := by
  induction g with
  | nil => intro l; rfl
  | cons i g ih => intro l; show (setAll who (l.set i who) g).length = _; rw [ih, List.length_set]
theorem setAll_snoc (who : Int) (l : List Int) (g : List Nat) (i : Nat) : setAll who l (g ++ [i]) = (setAll who l g).set i who := by
  unfold setAll; rw [List.foldl_append]; rfl
theorem sLt_nil (a : List UInt8) : sLt a [] = false := by cases a <;> rfl
theorem sLt_compl : ∀ a b : List UInt8, (sLt b a || decide (b = a)) = !sLt a b
  | [], [] => rfl
  | [], b :: y => by simp [sLt, Op.bytesLess]
  | a :: x, [] => by simp [sLt, Op.bytesLess]
  | a :: x, b :: y => by
    have ih := sLt_compl x y
    simp only [sLt] at ih
    simp only [sLt, Op.bytesLess]
    by_cases h1 : a < b
    · have h2 : ¬ b < a := fun h => absurd (UInt8.lt_trans h1 h) (UInt8.lt_irrefl _)
      have h3 : ¬ b = a := fun h => by subst h; exact UInt8.lt_irrefl _ h1
      simp [h1, h2, h3]
    · by_cases h2 : b < a
      · have h3 : ¬ a = b := fun h => by subst h; exact UInt8.lt_irrefl _ h2
        simp [h1, h2, h3]
      · have h3 : a = b := by
          rw [UInt8.lt_iff_toNat_lt] at h1 h2
          apply UInt8.toNat_inj.1
          omega
        subst h3
        simp only [h1, decide_false, Bool.false_or, beq_self_eq_true, Bool.true_and, List.cons.injEq, true_and]
        exact ih
theorem isKey_eq (s : List UInt8) : impl_isKey s = some (decide (1 ≤ (s.length : Int) ∧ (s.length : Int) ≤ 10)) := by
  unfold impl_isKey; rw [inRange_eq]; rfl
theorem scan_up (p : Nat → Bool) (n : Nat) : ∀ d a, a + d = n → ∃ j, a ≤ j ∧ j ≤ n ∧ (∀ i, a ≤ i → i < j → p i = false) ∧ (j < n → p j = true)
  | 0, a, h => ⟨a, Nat.le_refl _, by omega, fun i h1 h2 => by omega, fun h => by omega⟩
  | d + 1, a, h => by
    cases hp : p a with
    | true => exact ⟨a, Nat.le_refl _, by omega, fun i h1 h2 => by omega, fun _ => hp⟩
    | false =>
      obtain ⟨j, h1, h2, h3, h4⟩ := scan_up p n d (a + 1) (by omega)
      refine ⟨j, by omega, h2, fun i h5 h6 => ?_, h4⟩
      by_cases e : i = a
      · rw [e]; exact hp
      · exact h3 i (by omega) h6
theorem down_stop (p : Nat → Bool) : ∀ n : Nat, ∃ j : Nat, j ≤ n ∧ (∀ i, j ≤ i → i < n → p i = false) ∧ (0 < j → p (j - 1) = true)
  | 0 => ⟨0, Nat.le_refl _, fun i h1 h2 => by omega, fun h => by omega⟩
  | n + 1 => by
    cases hp : p n with
    | true => exact ⟨n + 1, Nat.le_refl _, fun i h1 h2 => by omega, fun _ => by simpa using hp⟩
    | false =>
      obtain ⟨j, h1, h2, h3⟩ := down_stop p n
      refine ⟨j, by omega, fun i h4 h5 => ?_, h3⟩
      by_cases e : i = n
      · rw [e]; exact hp
      · exact h2 i h4 (by omega)
theorem all_loop {body : Int → Option (Ctl Int (Ctl Unit Bool))} (pass : Nat → Bool) (n : Nat) (h : ∀ k, k < n → body (k : Int) = some (if pass k = true then .go ((k : Int) + 1) else .done (.done false))) (hn : body (n : Int) = some (.done (.go ()))) :
    loopO body 0 = some (if (List.range n).all pass = true then .go () else .done false) := by
  have key : ∀ d k, k + d = n → loopO body (k : Int) = some (if ((List.range n).drop k).all pass = true then .go () else .done false) := by
    intro d
    induction d with
    | zero =>
      intro k hk
      obtain rfl : k = n := by omega
      rw [loopO_eq, hn, List.drop_of_length_le (by simp)]
      rfl
    | succ d ih =>
      intro k hk
      have hd : (List.range n).drop k = k :: (List.range n).drop (k + 1) := by rw [List.drop_eq_getElem_cons (by simp; omega)]; simp
      rw [loopO_eq, h k (by omega), hd, List.all_cons]
      cases hp : pass k with
      | true =>
        have := ih (k + 1) (by omega)
        rw [show ((k + 1 : Nat) : Int) = (k : Int) + 1 by omega] at this
        simpa using this
      | false => simp
  have := key n 0 (by omega)
  simpa using this
theorem cmpI_eq (x y : Int) : cmp_Compare_26527 x y = some (if x < y then -1 else if x > y then 1 else 0) := by
  unfold cmp_Compare_26527 cmp_isNaN_26527
  by_cases h1 : x < y <;> by_cases h2 : x > y <;> simp [h1, h2]
theorem cmpS_eq (x y : List UInt8) : cmp_Compare_83645 x y = some (if sLt x y = true then -1 else if (!(sLt x y || decide (x = y))) = true then 1 else 0) := by
  unfold cmp_Compare_83645 cmp_isNaN_83645
  simp only [decide_true, Bool.not_true, Option.bind_some, Bool.false_eq_true, if_false]
  split
  · rfl
  · split <;> rfl
theorem sLt_compl' (a b : List UInt8) : (!sLt a b) = (sLt b a || decide (b = a)) := (sLt_compl a b).symm
theorem sLt_nil_iff (b : List UInt8) : sLt [] b = !decide (b = []) := by cases b <;> rfl
theorem len0 (out : List Int) : decide (((out.length : Nat) : Int) = 0) = decide (out = []) := by
  cases out with
  | nil => rfl
  | cons a l => simp; omega
theorem sMin_eq (a b : List UInt8) : sMin a b = if sLt b a = true then b else a := by
  unfold sMin
  rw [sLt_compl]
  cases sLt b a <;> simp
theorem sMax_eq (a b : List UInt8) : sMax a b = if sLt a b = true then b else a := by
  unfold sMax
  cases sLt a b <;> simp
theorem sLt_irr (a : List UInt8) : sLt a a = false := by
  have := sLt_compl a a
  simpa using this
theorem sLt_trans : ∀ {a b c : List UInt8}, sLt a b = true → sLt b c = true → sLt a c = true
  | [], [], _, h, _ => by simp [sLt, Op.bytesLess] at h
  | [], _ :: _, [], _, h => by simp [sLt, Op.bytesLess] at h
  | [], _ :: _, _ :: _, _, _ => rfl
  | _ :: _, [], _, h, _ => by simp [sLt, Op.bytesLess] at h
  | _ :: _, _ :: _, [], _, h => by simp [sLt, Op.bytesLess] at h
  | x :: a, y :: b, z :: c, h1, h2 => by
    simp only [sLt, Op.bytesLess, Bool.or_eq_true, decide_eq_true_eq, Bool.and_eq_true, beq_iff_eq] at h1 h2 ⊢
    rcases h1 with h1 | ⟨rfl, h1⟩
    · rcases h2 with h2 | ⟨rfl, _⟩
      · exact .inl (UInt8.lt_trans h1 h2)
      · exact .inl h1
    · rcases h2 with h2 | ⟨rfl, h2⟩
      · exact .inl h2
      · exact .inr ⟨rfl, sLt_trans h1 h2⟩
theorem sLt_irrefl (a : List UInt8) : sLt a a = false := by
  have := sLt_compl a a
  simpa using this
/-- an entry as required -/
def entV (e : Ent) : Bool := decide (1 ≤ (e.Key.length : Int) ∧ (e.Key.length : Int) ≤ 10) && (decide (0 ≤ e.Seq ∧ e.Seq ≤ 1000000) && (decide ((e.Val.length : Int) ≤ 16) && (!e.Del || decide (e.Val = []))))
/-- one entry ahead of another -/
def entLt (a b : Ent) : Bool := sLt a.Key b.Key || (decide (a.Key = b.Key) && decide (a.Seq > b.Seq))
/-- the entry at a place, and the one ahead of it -/
def entP (l : List Ent) (k : Nat) : Bool := match l[k]? with
  | some e => entV e && (match k with | 0 => true | j + 1 => match l[j]? with | some d => entLt d e | none => true)
  | none => true
theorem entP_at (l : List Ent) (k : Nat) (h : k < l.length) : entP l k = (entV l[k] && (if h0 : 0 < k then entLt (l[k - 1]'(by omega)) l[k] else true)) := by
  unfold entP
  rw [List.getElem?_eq_getElem h]
  cases k with
  | zero => rfl
  | succ j =>
    simp only [Nat.zero_lt_succ, dif_pos, Nat.add_sub_cancel]
    rw [List.getElem?_eq_getElem (by omega)]
/-- entries in order -/
def entsV (l : List Ent) : Bool := (List.range l.length).all (entP l)
theorem spec_l9Ent_eq (e : Ent) : spec_l9Ent e = some (entV e) := by
  unfold spec_l9Ent spec_l7Op entV
  simp only [l1In_eq, Option.bind_some]
  by_cases h1 : 1 ≤ (e.Key.length : Int) ∧ (e.Key.length : Int) ≤ 10 <;> by_cases h2 : 0 ≤ e.Seq ∧ e.Seq ≤ 1000000 <;> by_cases h3 : (e.Val.length : Int) ≤ 16 <;> cases h4 : e.Del <;>
    simp only [h1, h2, h3, and_self, decide_true, decide_false, if_true, if_false, Option.bind_some, Bool.true_and, Bool.false_and, Bool.not_true, Bool.not_false, Bool.false_eq_true, Bool.true_or, Bool.false_or, Bool.and_true, Bool.and_false] <;> cases decide (e.Val = []) <;> rfl
theorem entOk_eq (e : Ent) : impl_entOk e = some (entV e) := by
  unfold impl_entOk impl_isKey impl_isNumber impl_isVal entV
  simp only [inRange_eq, Option.bind_some]
  by_cases h1 : 1 ≤ (e.Key.length : Int) ∧ (e.Key.length : Int) ≤ 10 <;> by_cases h2 : 0 ≤ e.Seq ∧ e.Seq ≤ 1000000 <;> by_cases h3 : (e.Val.length : Int) ≤ 16 <;> cases h4 : e.Del <;>
    simp only [h1, h2, h3, and_self, decide_true, decide_false, if_true, if_false, Option.bind_some, Bool.true_and, Bool.false_and, Bool.not_true, Bool.not_false, Bool.false_eq_true, Bool.true_or, Bool.false_or, Bool.and_true, Bool.and_false, Bool.not_not] <;> cases decide (e.Val = []) <;> rfl
theorem spec_l9Ahead_eq (a b : Ent) : spec_l9Ahead a b = some (entLt a b) := by
  unfold spec_l9Ahead entLt
  cases sLt a.Key b.Key <;> by_cases h : a.Key = b.Key <;> simp [h]
theorem cmpOr_eq (x y : Int) : cmp_Or_26527 [x, y] = some (if x ≠ 0 then x else y) := by
  unfold cmp_Or_26527
  by_cases hx : x = 0
  · by_cases hy : y = 0
    · rw [loopO_count (fun k => (k : Int)) 2 (r := Ctl.go ()) ?h0]
      case h0 => rfl
      · simp [hx, hy]
      · intro k hk
        have : k = 0 ∨ k = 1 := by omega
        rcases this with rfl | rfl
        · simp [idx, hx]; rfl
        · simp [idx, hy]; rfl
      · rfl
    · rw [loopO_eq]
      simp only [idx, hx]
      simp
      rw [loopO_eq]
      have : IntKind.i64.wrap 1 = 1 := by decide
      simp [this, hy]
  · rw [loopO_eq]
    simp [idx, hx]
theorem compareEnts_eq (a b : Ent) : ∃ r, impl_compareEnts a b = some r ∧ decide (r ≥ 0) = !entLt a b := by
  unfold impl_compareEnts entLt
  rw [cmpS_eq, cmpI_eq]
  simp only [Option.bind_some, cmpOr_eq]
  refine ⟨_, rfl, ?_⟩
  by_cases c : sLt a.Key b.Key = true
  · simp [c]
  · have c' : sLt a.Key b.Key = false := by simpa using c
    rw [if_neg c, c']
    by_cases c2 : a.Key = b.Key
    · rw [decide_eq_true c2]
      by_cases c3 : b.Seq < a.Seq
      · simp [c3]
      · by_cases c4 : b.Seq > a.Seq <;> simp [c3, c4]
    · rw [decide_eq_false c2]
      rfl
theorem all_loop' {body : Int → Option (Ctl Int (Ctl Unit Bool))} (pass : Nat → Bool) (n : Nat) (h : ∀ k, k < n → body (k : Int) = some (if pass k = true then .go ((k : Int) + 1) else .done (.done false))) (hn : body (n : Int) = some (.done (.go ()))) :
    bindC (loopO body 0) (fun (_ : Unit) => some true) = some ((List.range n).all pass) := by
  rw [all_loop pass n h hn]
  cases (List.range n).all pass <;> rfl
theorem spec_l9Ents_eq (l : List Ent) (h : l.length ≤ 1048576) : spec_l9Ents l = some (entsV l) := by
  unfold spec_l9Ents entsV
  refine all_loop' (entP l) l.length ?_ (by simp)
  intro k hk
  simp only [idx_nat l k hk, Option.bind_some, spec_l9Ent_eq]
  rw [if_pos (by simpa using hk), wrap_ok (n := (k : Int) + 1) (by omega) (by omega), entP_at l k hk]
  cases hf : entV l[k] with
  | false => simp
  | true =>
    by_cases h0 : 0 < k
    · have hw : IntKind.i64.wrap ((k : Int) - 1) = ((k - 1 : Nat) : Int) := by rw [wrap_ok (by omega) (by omega)]; omega
      rw [dif_pos h0, if_neg (by simp), if_pos (by simp; omega)]
      simp only [hw, idx_nat l (k - 1) (by omega), Option.bind_some, spec_l9Ahead_eq]
      cases entLt (l[k - 1]'(by omega)) l[k] <;> simp
    · have hk0 : k = 0 := by omega
      subst hk0
      simp
theorem impl_inOrder_eq (l : List Ent) (h : l.length ≤ 1048576) : impl_inOrder l = some (entsV l) := by
  unfold impl_inOrder entsV
  refine all_loop' (entP l) l.length ?_ (by simp)
  intro k hk
  simp only [idx_nat l k hk, Option.bind_some, entOk_eq]
  rw [if_pos (by simpa using hk), wrap_ok (n := (k : Int) + 1) (by omega) (by omega), entP_at l k hk]
  cases hf : entV l[k] with
  | false => simp
  | true =>
    by_cases h0 : 0 < k
    · have hw : IntKind.i64.wrap ((k : Int) - 1) = ((k - 1 : Nat) : Int) := by rw [wrap_ok (by omega) (by omega)]; omega
      obtain ⟨c, hc, hc2⟩ := compareEnts_eq (l[k - 1]'(by omega)) l[k]
      rw [dif_pos h0, if_neg (by simp), if_pos (by simp; omega)]
      simp only [hw, idx_nat l (k - 1) (by omega), Option.bind_some, hc, hc2]
      cases entLt (l[k - 1]'(by omega)) l[k] <;> simp
    · have hk0 : k = 0 := by omega
      subst hk0
      simp
/-- of two entries in order: the key is less, or the same and newer -/
theorem ents_lt {l : List Ent} (hv : entsV l = true) : ∀ (j : Nat) (hj : j < l.length) (i : Nat) (hi : i < j), sLt (l[i]'(by omega)).Key l[j].Key = true ∨ ((l[i]'(by omega)).Key = l[j].Key ∧ (l[i]'(by omega)).Seq > l[j].Seq) := by
  intro j
  induction j with
  | zero => intro _ i hi; omega
  | succ j ih =>
    intro hj i hi
    have hp : entLt (l[j]'(by omega)) l[j + 1] = true := by
      unfold entsV at hv
      rw [List.all_eq_true] at hv
      have := hv (j + 1) (by simp; omega)
      rw [entP_at l (j + 1) hj, dif_pos (by omega), Bool.and_eq_true] at this
      exact this.2
    unfold entLt at hp
    simp only [Bool.or_eq_true, Bool.and_eq_true, decide_eq_true_eq] at hp
    by_cases e : i = j
    · subst e; exact hp
    · rcases ih (by omega) i (by omega) with h1 | ⟨h1, h2⟩
      · rcases hp with h3 | ⟨h3, _⟩
        · exact .inl (sLt_trans h1 h3)
        · rw [← h3]; exact .inl h1
      · rcases hp with h3 | ⟨h3, h4⟩
        · rw [h1]; exact .inl h3
        · exact .inr ⟨h1.trans h3, by omega⟩
/-- visible at a number: no newer one of its key is -/
def visE (l : List Ent) (seq : Int) (k : Nat) : Bool := match l[k]? with
  | some e => decide (e.Seq ≤ seq) && (l.take k).all fun d => !(decide (d.Key = e.Key) && decide (d.Seq ≤ seq))
  | none => false
theorem visE_at (l : List Ent) (seq : Int) (k : Nat) (h : k < l.length) : visE l seq k = (decide (l[k].Seq ≤ seq) && (l.take k).all fun d => !(decide (d.Key = l[k].Key) && decide (d.Seq ≤ seq))) := by
  unfold visE; rw [List.getElem?_eq_getElem h]
theorem visE_find {l : List Ent} {seq : Int} {k : Nat} (hk : k < l.length) (hv : visE l seq k = true) : l.find? (fun d => decide (d.Key = l[k].Key) && decide (d.Seq ≤ seq)) = some l[k] := by
  rw [visE_at l seq k hk, Bool.and_eq_true, List.all_eq_true] at hv
  have hs : l = l.take k ++ l[k] :: l.drop (k + 1) := by rw [← List.drop_eq_getElem_cons hk, List.take_append_drop]
  have hn : (l.take k).find? (fun d => decide (d.Key = l[k].Key) && decide (d.Seq ≤ seq)) = none := by
    rw [List.find?_eq_none]
    intro d hd
    intro hq
    have := hv.2 d hd
    rw [hq] at this
    cases this
  generalize hx : l[k] = x at *
  rw [hs, List.find?_append, hn, List.find?_cons_of_pos (by simpa using hv.1)]
  rfl
theorem visE_not {l : List Ent} {seq : Int} {k : Nat} (ho : entsV l = true) (hk : k < l.length) (hv : visE l seq k = false) :
    ∀ d, l.find? (fun d => decide (d.Key = l[k].Key) && decide (d.Seq ≤ seq)) = some d → ¬ d.Seq = l[k].Seq := by
  intro d hd he
  have hp := List.find?_some hd
  simp only [Bool.and_eq_true, decide_eq_true_eq] at hp
  rw [visE_at l seq k hk, decide_eq_true (by omega), Bool.true_and] at hv
  have hex : ∃ e ∈ l.take k, e.Key = l[k].Key ∧ e.Seq ≤ seq := by
    rw [← Bool.not_eq_true, List.all_eq_true] at hv
    simp only [Classical.not_forall] at hv
    obtain ⟨e, he, h2⟩ := hv
    exact ⟨e, he, by simpa using h2⟩
  obtain ⟨e, hem, hek⟩ := hex
  have hsome : ∃ f, (l.take k).find? (fun d => decide (d.Key = l[k].Key) && decide (d.Seq ≤ seq)) = some f := by
    cases hf : (l.take k).find? (fun d => decide (d.Key = l[k].Key) && decide (d.Seq ≤ seq)) with
    | some f => exact ⟨f, rfl⟩
    | none =>
      rw [List.find?_eq_none] at hf
      exact absurd (by simp [hek.1, hek.2]) (hf e hem)
  obtain ⟨f, hf⟩ := hsome
  have hfd : f = d := by
    have hs : l = l.take k ++ l.drop k := (List.take_append_drop k l).symm
    generalize hx : l[k] = x at *
    rw [hs, List.find?_append, hf] at hd
    simpa using hd
  subst hfd
  obtain ⟨i, hi, rfl⟩ := List.getElem_of_mem (List.mem_of_find?_eq_some hf)
  have hi' : i < k := by simp at hi; omega
  simp only [List.getElem_take] at he hp
  rcases ents_lt ho k hk i hi' with h1 | ⟨_, h1⟩
  · rw [hp.1, sLt_irrefl] at h1; cases h1
  · omega
/-- the key seen last, of the first k entries -/
def lastS (l : List Ent) (seq : Int) : Nat → List UInt8 × Bool
  | 0 => ([], false)
  | k + 1 => match l[k]? with | some e => if visE l seq k = true then (e.Key, true) else lastS l seq k | none => lastS l seq k
theorem lastS_succ (l : List Ent) (seq : Int) (k : Nat) (h : k < l.length) : lastS l seq (k + 1) = if visE l seq k = true then (l[k].Key, true) else lastS l seq k := by
  show (match l[k]? with | some e => _ | none => _) = _
  rw [List.getElem?_eq_getElem h]
theorem lastS_spec (l : List Ent) (seq : Int) : ∀ k, k ≤ l.length → (lastS l seq k).2 = true ∧ (∃ i, ∃ h : i < l.length, i < k ∧ visE l seq i = true ∧ l[i].Key = (lastS l seq k).1 ∧ ∀ j, i < j → j < k → visE l seq j = false) ∨ (lastS l seq k).2 = false ∧ ∀ j, j < k → visE l seq j = false := by
  intro k
  induction k with
  | zero => intro _; exact .inr ⟨rfl, fun j hj => by omega⟩
  | succ k ih =>
    intro hk
    rw [lastS_succ l seq k (by omega)]
    cases hv : visE l seq k with
    | true => exact .inl ⟨rfl, k, by omega, by omega, hv, rfl, fun j h1 h2 => by omega⟩
    | false =>
      simp only [Bool.false_eq_true, if_false]
      have hx : ∀ j, j < k + 1 → (j < k → visE l seq j = false) → visE l seq j = false := by
        intro j hj hjk
        by_cases e : j = k
        · subst e; exact hv
        · exact hjk (by omega)
      rcases ih (by omega) with ⟨h1, i, hi, h2, h3, h4, h5⟩ | ⟨h1, h2⟩
      · exact .inl ⟨h1, i, hi, by omega, h3, h4, fun j h6 h7 => hx j h7 (h5 j h6)⟩
      · exact .inr ⟨h1, fun j hj => hx j hj (h2 j)⟩
theorem visE_first (l : List Ent) (seq : Int) : ∀ (n j : Nat) (hn : j ≤ n) (hj : j < l.length), l[j].Seq ≤ seq → ∃ i, ∃ h : i < l.length, i ≤ j ∧ visE l seq i = true ∧ l[i].Key = l[j].Key := by
  intro n
  induction n with
  | zero =>
    intro j hn hj hs
    obtain rfl : j = 0 := by omega
    exact ⟨0, hj, Nat.le_refl _, by rw [visE_at l seq 0 hj]; simp [hs], rfl⟩
  | succ n ih =>
    intro j hn hj hs
    cases hv : visE l seq j with
    | true => exact ⟨j, hj, Nat.le_refl _, hv, rfl⟩
    | false =>
      rw [visE_at l seq j hj, decide_eq_true hs, Bool.true_and, ← Bool.not_eq_true, List.all_eq_true] at hv
      simp only [Classical.not_forall] at hv
      obtain ⟨e, he, h2⟩ := hv
      obtain ⟨i, hi, rfl⟩ := List.getElem_of_mem he
      have hij : i < j := by simp at hi; omega
      simp only [List.getElem_take] at h2
      have h3 : (l[i]'(by omega)).Key = l[j].Key ∧ (l[i]'(by omega)).Seq ≤ seq := by simpa using h2
      obtain ⟨q, hq, h4, h5, h6⟩ := ih i (by omega) (by omega) h3.2
      exact ⟨q, hq, by omega, h5, h6.trans h3.1⟩
theorem skip_iff {l : List Ent} {seq : Int} {k : Nat} (ho : entsV l = true) (hk : k < l.length) (hs : l[k].Seq ≤ seq) : visE l seq k = !((lastS l seq k).2 && decide (l[k].Key = (lastS l seq k).1)) := by
  rw [visE_at l seq k hk, decide_eq_true hs, Bool.true_and]
  rcases lastS_spec l seq k (by omega) with ⟨h1, i, hi, h2, h3, h4, h5⟩ | ⟨h1, h2⟩
  · rw [h1, Bool.true_and]
    by_cases hkey : l[k].Key = (lastS l seq k).1
    · rw [decide_eq_true hkey]
      show _ = false
      rw [← Bool.not_eq_true, List.all_eq_true]
      intro hall
      have hm : l[i] ∈ l.take k := by
        have : (l.take k)[i]'(by simp; omega) = l[i] := by simp
        rw [← this]; exact List.getElem_mem _
      have := hall _ hm
      rw [visE_at l seq i hi, Bool.and_eq_true] at h3
      simp [h4, hkey] at this
      have h6 := of_decide_eq_true h3.1
      omega
    · rw [decide_eq_false hkey, Bool.not_false, List.all_eq_true]
      intro d hd
      obtain ⟨j, hj, rfl⟩ := List.getElem_of_mem hd
      have hjk : j < k := by simp at hj; omega
      simp only [List.getElem_take]
      cases hb : (decide ((l[j]'(by omega)).Key = l[k].Key) && decide ((l[j]'(by omega)).Seq ≤ seq)) with
      | false => rfl
      | true =>
        exfalso
        simp only [Bool.and_eq_true, decide_eq_true_eq] at hb
        obtain ⟨q, hq, h6, h7, h8⟩ := visE_first l seq j j (Nat.le_refl _) (by omega) hb.2
        have hqi : q ≤ i := by
          rcases Nat.lt_or_ge i q with h | h
          · have := h5 q h (by omega); rw [h7] at this; cases this
          · exact h
        have hqk : l[q].Key = l[k].Key := h8.trans hb.1
        refine hkey ?_
        rw [← h4]
        by_cases e : q = i
        · subst e; exact hqk.symm
        · rcases ents_lt ho i hi q (by omega) with h9 | ⟨h9, _⟩
          · rcases ents_lt ho k hk i h2 with h10 | ⟨h10, _⟩
            · have := sLt_trans h9 h10
              rw [hqk, sLt_irrefl] at this; cases this
            · exact h10.symm
          · exact hqk.symm.trans h9
  · rw [h1, Bool.false_and, Bool.not_false, List.all_eq_true]
    intro d hd
    obtain ⟨j, hj, rfl⟩ := List.getElem_of_mem hd
    have hjk : j < k := by simp at hj; omega
    simp only [List.getElem_take]
    cases hb : (decide ((l[j]'(by omega)).Key = l[k].Key) && decide ((l[j]'(by omega)).Seq ≤ seq)) with
    | false => rfl
    | true =>
      exfalso
      simp only [Bool.and_eq_true, decide_eq_true_eq] at hb
      obtain ⟨q, hq, h6, h7, h8⟩ := visE_first l seq j j (Nat.le_refl _) (by omega) hb.2
      have := h2 q (by omega)
      rw [h7] at this; cases this
/-- the least and the greatest number -/
def rangeV (l : List Ent) : Int × Int := l.foldl (fun s e => (goMin s.1 e.Seq, goMax s.2 e.Seq)) (1000001, -1)
theorem rangeV_take (l : List Ent) (k : Nat) (h : k < l.length) : rangeV (l.take (k + 1)) = (goMin (rangeV (l.take k)).1 l[k].Seq, goMax (rangeV (l.take k)).2 l[k].Seq) := by
  unfold rangeV
  rw [show l.take (k + 1) = l.take k ++ [l[k]] by rw [List.take_add_one, List.getElem?_eq_getElem h]; rfl, List.foldl_append]
  rfl
theorem impl_seqRange_eq (l : List Ent) (h : l.length ≤ 1048576) : impl_seqRange l = some (rangeV l) := by
  unfold impl_seqRange
  rw [loopO_count (fun k => ((rangeV (l.take k)).1, (rangeV (l.take k)).2, (k : Int))) l.length (r := Ctl.go (rangeV l)) ?h0]
  case h0 => rfl
  · rfl
  · intro k hk
    simp only [idx_nat l k hk, Option.bind_some, rangeV_take l k hk]
    rw [if_pos (by simpa using hk), wrap_ok (n := (k : Int) + 1) (by omega) (by omega)]
    rfl
  · simp
theorem spec_l20Bounds_eq (l : List Ent) (h : l.length ≤ 1048576) : spec_l20Bounds l = some (rangeV l) := by
  unfold spec_l20Bounds
  rw [loopO_count (fun k => ((rangeV (l.take k)).1, (rangeV (l.take k)).2, (k : Int))) l.length (r := Ctl.go (rangeV l)) ?h0]
  case h0 => rfl
  · rfl
  · intro k hk
    simp only [idx_nat l k hk, Option.bind_some, rangeV_take l k hk]
    rw [if_pos (by simpa using hk), wrap_ok (n := (k : Int) + 1) (by omega) (by omega)]
    unfold goMin goMax
    by_cases c1 : l[k].Seq < (rangeV (l.take k)).1 <;> by_cases c2 : l[k].Seq > (rangeV (l.take k)).2 <;> simp [c1, c2]
  · simp
/-- at most so many entries, in order -/
def memV (l : List Ent) : Bool := decide (l.length ≤ 60) && entsV l
theorem spec_MemOk_eq (l : List Ent) (h : l.length ≤ 1048576) : spec_MemOk l = some (memV l) := by
  unfold spec_MemOk memV
  simp only [spec_l9Ents_eq l h, Option.bind_some]
  by_cases c : l.length ≤ 60
  · simp [c]; omega
  · simp [c]; omega
theorem impl_MemOk_eq (l : List Ent) (h : l.length ≤ 1048576) : impl_MemOk l = some (memV l) := by
  unfold impl_MemOk memV
  simp only [impl_inOrder_eq l h, Option.bind_some]
  by_cases c : l.length ≤ 60
  · simp [c]; omega
  · simp [c]; omega
/-- tables below a number, each below the one ahead of it -/
def tabsV (seq : Int) : Int → List (List Ent) → Bool
  | _, [] => true
  | low, t :: r => (decide (t ≠ []) && (entsV t && (decide ((rangeV t).2 < low) && decide ((rangeV t).2 ≤ seq)))) && tabsV seq (rangeV t).1 r
/-- snapshots in order -/
def snapP (seq : Int) (l : List Int) (k : Nat) : Bool := match l[k]? with
  | some s => decide (0 ≤ s ∧ s ≤ seq) && (match k with | 0 => true | j + 1 => match l[j]? with | some d => decide (d < s) | none => true)
  | none => true
theorem snapP_at (seq : Int) (l : List Int) (k : Nat) (h : k < l.length) : snapP seq l k = (decide (0 ≤ l[k] ∧ l[k] ≤ seq) && (if h0 : 0 < k then decide (l[k - 1]'(by omega) < l[k]) else true)) := by
  unfold snapP
  rw [List.getElem?_eq_getElem h]
  cases k with
  | zero => rfl
  | succ j =>
    simp only [Nat.zero_lt_succ, dif_pos, Nat.add_sub_cancel]
    rw [List.getElem?_eq_getElem (by omega)]
def snapsV (seq : Int) (l : List Int) : Bool := (List.range l.length).all (snapP seq l)
def totalV (l : List (List Ent)) : Nat := (l.map List.length).sum
/-- an engine as required -/
def engV (e : Eng) : Bool := (decide (0 ≤ e.Seq ∧ e.Seq ≤ 1000000) && (decide (e.Snaps.length ≤ 4) && (decide (e.Tables.length ≤ 6) && (decide (totalV e.Tables + e.Mem.length ≤ 400) && (memV e.Mem && (decide ((rangeV e.Mem).2 ≤ e.Seq) && tabsV e.Seq (rangeV e.Mem).1 e.Tables)))))) && snapsV e.Seq e.Snaps
theorem total_take (l : List (List Ent)) (k : Nat) (h : k < l.length) : totalV (l.take (k + 1)) = totalV (l.take k) + l[k].length := by
  unfold totalV
  rw [show l.take (k + 1) = l.take k ++ [l[k]] by rw [List.take_add_one, List.getElem?_eq_getElem h]; rfl, List.map_append, List.sum_append]
  simp
theorem total_le (l : List (List Ent)) (k : Nat) : totalV (l.take k) ≤ totalV l := by
  unfold totalV
  conv => rhs; rw [← List.take_append_drop k l]
  rw [List.map_append, List.sum_append]
  omega
theorem impl_totalOf_eq (l : List (List Ent)) (h : l.length ≤ 1048576) (ht : totalV l ≤ 1048576) : impl_totalOf l = some (totalV l : Int) := by
  unfold impl_totalOf
  rw [loopO_count (fun k => ((totalV (l.take k) : Int), (k : Int))) l.length (r := Ctl.go (totalV l : Int)) ?h0]
  case h0 => rfl
  · rfl
  · intro k hk
    have h1 := total_take l k hk
    have h2 := total_le l (k + 1)
    simp only [idx_nat l k hk, Option.bind_some, h1]
    rw [if_pos (by simpa using hk), wrap_ok (n := (k : Int) + 1) (by omega) (by omega), wrap_ok (by omega) (by omega)]
    rfl
  · simp
theorem impl_tablesOk_eq (e : Eng) (h1 : e.Mem.length ≤ 1048576) (h2 : e.Tables.length ≤ 1048576) (h3 : totalV e.Tables ≤ 1048576) :
    impl_tablesOk e = some (decide (e.Tables.length ≤ 6) && (decide (totalV e.Tables + e.Mem.length ≤ 400) && (memV e.Mem && (decide ((rangeV e.Mem).2 ≤ e.Seq) && tabsV e.Seq (rangeV e.Mem).1 e.Tables)))) := by
  have hlen : ∀ t ∈ e.Tables, t.length ≤ 1048576 := fun t ht => Nat.le_trans (sum_mem List.length ht) h3
  unfold impl_tablesOk
  rw [impl_totalOf_eq _ h2 h3]
  simp only [impl_MemOk_eq _ h1, impl_seqRange_eq _ h1, Option.bind_some]
  by_cases c1 : e.Tables.length ≤ 6
  · rw [decide_eq_true c1, decide_eq_false (by omega : ¬ ((e.Tables.length : Nat) : Int) > 6), wrap_ok (by omega) (by omega)]
    by_cases c2 : totalV e.Tables + e.Mem.length ≤ 400
    · rw [decide_eq_true c2, decide_eq_false (by omega : ¬ ((totalV e.Tables : Int) + ((e.Mem.length : Nat) : Int) > 400))]
      cases c3 : memV e.Mem with
      | false => simp
      | true =>
        by_cases c4 : (rangeV e.Mem).2 ≤ e.Seq
        · rw [decide_eq_true c4, decide_eq_false (by omega : ¬ (rangeV e.Mem).2 > e.Seq)]
          simp only [Bool.false_eq_true, if_false, Option.bind_some, Bool.not_true, Bool.true_and]
          rw [loopO_is (fun k s => s.2 = (k : Int) ∧ tabsV e.Seq (rangeV e.Mem).1 e.Tables = tabsV e.Seq s.1 (e.Tables.drop k)) e.Tables.length (bif tabsV e.Seq (rangeV e.Mem).1 e.Tables then Ctl.go () else Ctl.done false) ?h0 ?h1 ?h2]
          case h0 => exact ⟨rfl, rfl⟩
          · cases tabsV e.Seq (rangeV e.Mem).1 e.Tables <;> rfl
          · rintro k ⟨low, i⟩ hk ⟨rfl, he⟩
            have hd : e.Tables.drop k = e.Tables[k] :: e.Tables.drop (k + 1) := List.drop_eq_getElem_cons hk
            have hkl := hlen _ (List.getElem_mem hk)
            rw [he, hd]
            simp only [tabsV, idx_nat e.Tables k hk, Option.bind_some, impl_seqRange_eq _ hkl, impl_inOrder_eq _ hkl]
            rw [if_pos (by simpa using hk), wrap_ok (n := (k : Int) + 1) (by omega) (by omega)]
            by_cases d1 : e.Tables[k] = []
            · right; simp [d1]
            · have d1' : ¬ ((e.Tables[k].length : Nat) : Int) = 0 := by have := List.length_pos_iff.2 d1; omega
              rw [decide_eq_false d1', decide_eq_true d1]
              cases d2 : entsV e.Tables[k] with
              | false => right; simp
              | true =>
                by_cases d3 : (rangeV e.Tables[k]).2 < low
                · by_cases d4 : (rangeV e.Tables[k]).2 ≤ e.Seq
                  · left
                    refine ⟨((rangeV e.Tables[k]).1, (k : Int) + 1), ?_, by simp, ?_⟩
                    · simp [show ¬ low ≤ (rangeV e.Tables[k]).2 by omega, show ¬ e.Seq < (rangeV e.Tables[k]).2 by omega]
                    · simp [d3, d4]
                  · right; simp [d4, show ¬ low ≤ (rangeV e.Tables[k]).2 by omega, show e.Seq < (rangeV e.Tables[k]).2 by omega]
                · right; simp [d3, show low ≤ (rangeV e.Tables[k]).2 by omega]
          · rintro ⟨low, i⟩ ⟨rfl, he⟩
            rw [he, List.drop_length]
            simp [tabsV]
        · rw [decide_eq_false c4, decide_eq_true (by omega : (rangeV e.Mem).2 > e.Seq)]
          simp
    · rw [decide_eq_false c2, decide_eq_true (by omega : (totalV e.Tables : Int) + ((e.Mem.length : Nat) : Int) > 400)]
      simp
  · rw [decide_eq_false c1, decide_eq_true (by omega : ((e.Tables.length : Nat) : Int) > 6)]
    rfl
theorem impl_EngOk_eq (e : Eng) (h1 : e.Mem.length ≤ 1048576) (h2 : e.Tables.length ≤ 1048576) (h3 : totalV e.Tables ≤ 1048576) (h4 : e.Snaps.length ≤ 1048576) : impl_EngOk e = some (engV e) := by
  unfold impl_EngOk impl_isNumber engV
  simp only [impl_tablesOk_eq e h1 h2 h3, inRange_eq, Option.bind_some]
  by_cases c1 : 0 ≤ e.Seq ∧ e.Seq ≤ 1000000
  · rw [decide_eq_true c1]
    by_cases c2 : e.Snaps.length ≤ 4
    · rw [decide_eq_true c2, decide_eq_false (by omega : ¬ ((e.Snaps.length : Nat) : Int) > 4)]
      simp only [Bool.not_true, Bool.false_eq_true, if_false, Option.bind_some, Bool.true_and]
      generalize (decide (e.Tables.length ≤ 6) && (decide (totalV e.Tables + e.Mem.length ≤ 400) && (memV e.Mem && (decide ((rangeV e.Mem).2 ≤ e.Seq) && tabsV e.Seq (rangeV e.Mem).1 e.Tables)))) = q
      cases q with
      | false => rfl
      | true =>
        simp only [Bool.not_true, Bool.false_eq_true, if_false, Bool.true_and]
        unfold snapsV
        refine all_loop' (snapP e.Seq e.Snaps) e.Snaps.length ?_ (by simp)
        intro k hk
        simp only [idx_nat e.Snaps k hk, Option.bind_some]
        rw [if_pos (by simpa using hk), wrap_ok (n := (k : Int) + 1) (by omega) (by omega), snapP_at e.Seq e.Snaps k hk]
        by_cases d1 : 0 ≤ e.Snaps[k] ∧ e.Snaps[k] ≤ e.Seq
        · rw [decide_eq_true d1]
          by_cases h0 : 0 < k
          · have hw : IntKind.i64.wrap ((k : Int) - 1) = ((k - 1 : Nat) : Int) := by rw [wrap_ok (by omega) (by omega)]; omega
            rw [dif_pos h0, if_neg (by simp), if_pos (by simp; omega)]
            simp only [hw, idx_nat e.Snaps (k - 1) (by omega), Option.bind_some]
            by_cases d2 : e.Snaps[k - 1]'(by omega) < e.Snaps[k]
            · simp [d2, show ¬ e.Snaps[k] ≤ e.Snaps[k - 1]'(by omega) by omega]
            · simp [d2, show e.Snaps[k] ≤ e.Snaps[k - 1]'(by omega) by omega]
          · obtain rfl : k = 0 := by omega
            simp
        · rw [decide_eq_false d1]
          simp
    · rw [decide_eq_false c2, decide_eq_true (by omega : ((e.Snaps.length : Nat) : Int) > 4)]
      simp
  · rw [decide_eq_false c1]
    simp
theorem spec_EngOk_eq (e : Eng) (h1 : e.Mem.length ≤ 1048576) (h2 : e.Tables.length ≤ 1048576) (h3 : totalV e.Tables ≤ 1048576) (h4 : e.Snaps.length ≤ 1048576) : spec_EngOk e = some (engV e) := by
  have hlen : ∀ t ∈ e.Tables, t.length ≤ 1048576 := fun t ht => Nat.le_trans (sum_mem List.length ht) h3
  unfold spec_EngOk engV
  simp only [spec_MemOk_eq _ h1, l1In_eq, spec_l20Bounds_eq _ h1, Option.bind_some]
  cases c3 : memV e.Mem with
  | false => simp
  | true =>
    by_cases c1 : e.Tables.length ≤ 6
    · rw [decide_eq_true c1, decide_eq_false (by omega : ¬ ((e.Tables.length : Nat) : Int) > 6)]
      by_cases c5 : 0 ≤ e.Seq ∧ e.Seq ≤ 1000000
      · rw [decide_eq_true c5]
        by_cases c6 : e.Snaps.length ≤ 4
        · rw [decide_eq_true c6, decide_eq_false (by omega : ¬ ((e.Snaps.length : Nat) : Int) > 4)]
          by_cases c4 : (rangeV e.Mem).2 ≤ e.Seq
          · rw [decide_eq_true c4, decide_eq_false (by omega : ¬ (rangeV e.Mem).2 > e.Seq)]
            simp only [Bool.not_true, Bool.false_eq_true, if_false, Option.bind_some, Bool.true_and]
            have hL := loopO_is (ρ := Ctl Int Bool) (s0 := ((rangeV e.Mem).1, ((e.Mem.length : Nat) : Int), (0 : Int))) (body := fun (S18 : Int × Int × Int) => if (decide (S18.2.2 < ((e.Tables.length : Nat) : Int))) = true then ((idx e.Tables S18.2.2).bind fun E23 =>
                (spec_l20Bounds E23).bind fun R26 =>
                (if (decide (((E23.length : Nat) : Int) = (0 : Int))) = true then (some true)
                else ((spec_l9Ents E23).bind fun R32 =>
                if (!R32) = true then (some true)
                else (if (decide (R26.2 ≥ S18.1)) = true then (some true)
                else (some (decide (R26.2 > e.Seq)))))).bind (fun (T29 : Bool) =>
                if T29 = true then (some (.done (.done false)))
                else (some (.go (R26.1, IntKind.i64.wrap (S18.2.1 + ((E23.length : Nat) : Int)), IntKind.i64.wrap (S18.2.2 + (1 : Int)))))))
                else (some (.done (.go S18.2.1))))
              (fun k s => s.2.2 = (k : Int) ∧ s.2.1 = (totalV (e.Tables.take k) : Int) + e.Mem.length ∧ tabsV e.Seq (rangeV e.Mem).1 e.Tables = tabsV e.Seq s.1 (e.Tables.drop k)) e.Tables.length
              (bif tabsV e.Seq (rangeV e.Mem).1 e.Tables then Ctl.go ((totalV e.Tables : Int) + e.Mem.length) else Ctl.done false) ⟨rfl, by simp [totalV], rfl⟩ (by
                rintro k ⟨low, tot, i⟩ hk ⟨h5, h6, he⟩
                simp only at h5 h6 he
                subst h5 h6
                have hd : e.Tables.drop k = e.Tables[k] :: e.Tables.drop (k + 1) := List.drop_eq_getElem_cons hk
                have hkl := hlen _ (List.getElem_mem hk)
                have t1 := total_take e.Tables k hk
                have t2 := total_le e.Tables (k + 1)
                rw [he, hd]
                simp only [tabsV, idx_nat e.Tables k hk, Option.bind_some, spec_l20Bounds_eq _ hkl, spec_l9Ents_eq _ hkl]
                rw [if_pos (by simpa using hk), wrap_ok (n := (k : Int) + 1) (by omega) (by omega), wrap_ok (n := (totalV (e.Tables.take k) : Int) + e.Mem.length + ((e.Tables[k].length : Nat) : Int)) (by omega) (by omega)]
                by_cases d1 : e.Tables[k] = []
                · right; simp [d1]
                · have d1' : ¬ ((e.Tables[k].length : Nat) : Int) = 0 := by have := List.length_pos_iff.2 d1; omega
                  rw [decide_eq_false d1', decide_eq_true d1]
                  cases d2 : entsV e.Tables[k] with
                  | false => right; simp
                  | true =>
                    by_cases d3 : (rangeV e.Tables[k]).2 < low
                    · by_cases d4 : (rangeV e.Tables[k]).2 ≤ e.Seq
                      · left
                        refine ⟨((rangeV e.Tables[k]).1, (totalV (e.Tables.take k) : Int) + e.Mem.length + ((e.Tables[k].length : Nat) : Int), (k : Int) + 1), ?_, by simp, by simp only [t1]; omega, ?_⟩
                        · simp [show ¬ low ≤ (rangeV e.Tables[k]).2 by omega, show ¬ e.Seq < (rangeV e.Tables[k]).2 by omega]
                        · simp [d3, d4]
                      · right; simp [d4, show ¬ low ≤ (rangeV e.Tables[k]).2 by omega, show e.Seq < (rangeV e.Tables[k]).2 by omega]
                    · right; simp [d3, show low ≤ (rangeV e.Tables[k]).2 by omega]) (by
                rintro ⟨low, tot, i⟩ ⟨h5, h6, he⟩
                simp only at h5 h6 he
                subst h5 h6
                rw [he, List.drop_length]
                simp [tabsV])
            rw [hL]
            cases tabsV e.Seq (rangeV e.Mem).1 e.Tables with
            | false => simp
            | true =>
              simp only [if_true, bindC_go, Bool.and_true]
              rw [all_loop (snapP e.Seq e.Snaps) e.Snaps.length ?hp ?hq]
              case hq => simp
              case hp =>
                intro k hk
                simp only [idx_nat e.Snaps k hk, Option.bind_some]
                rw [if_pos (by simpa using hk), wrap_ok (n := (k : Int) + 1) (by omega) (by omega), snapP_at e.Seq e.Snaps k hk]
                by_cases d1 : 0 ≤ e.Snaps[k] ∧ e.Snaps[k] ≤ e.Seq
                · rw [decide_eq_true d1]
                  by_cases h0 : 0 < k
                  · have hw : IntKind.i64.wrap ((k : Int) - 1) = ((k - 1 : Nat) : Int) := by rw [wrap_ok (by omega) (by omega)]; omega
                    rw [dif_pos h0, if_neg (by simp), if_pos (by simp; omega)]
                    simp only [hw, idx_nat e.Snaps (k - 1) (by omega), Option.bind_some]
                    by_cases d2 : e.Snaps[k - 1]'(by omega) < e.Snaps[k]
                    · simp [d2, show ¬ e.Snaps[k] ≤ e.Snaps[k - 1]'(by omega) by omega]
                    · simp [d2, show e.Snaps[k] ≤ e.Snaps[k - 1]'(by omega) by omega]
                  · obtain rfl : k = 0 := by omega
                    simp
                · rw [decide_eq_false d1]
                  simp
              have hS' : (List.range e.Snaps.length).all (snapP e.Seq e.Snaps) = snapsV e.Seq e.Snaps := rfl
              rw [hS']
              have hc : decide ((totalV e.Tables : Int) + ((e.Mem.length : Nat) : Int) ≤ 400) = decide (totalV e.Tables + e.Mem.length ≤ 400) := decide_eq_decide.2 (by omega)
              cases snapsV e.Seq e.Snaps with
              | false => simp
              | true => simp only [if_true, cond_true, bindC_go, hc, Bool.true_and, Bool.and_true]
          · rw [decide_eq_false c4, decide_eq_true (by omega : (rangeV e.Mem).2 > e.Seq)]
            simp
        · rw [decide_eq_false c6, decide_eq_true (by omega : ((e.Snaps.length : Nat) : Int) > 4)]
          simp
      · rw [decide_eq_false c5]
        simp
    · rw [decide_eq_false c1, decide_eq_true (by omega : ((e.Tables.length : Nat) : Int) > 6)]
      simp
theorem totalV_le (l : List (List Ent)) (n : Nat) (h : wS (fun t => wS wgt_Ent t) l ≤ n) : totalV l ≤ n := by
  have key : ∀ l : List (List Ent), totalV l ≤ (l.map fun t => wS wgt_Ent t).sum := by
    intro l
    induction l with
    | nil => exact Nat.le_refl _
    | cons t r ih =>
      have h2 : t.length ≤ wS wgt_Ent t := Nat.le_add_right _ _
      unfold totalV at ih ⊢
      simp only [List.map_cons, List.sum_cons]
      omega
  have := key l
  have h' : l.length + (l.map fun t => wS wgt_Ent t).sum ≤ n := h
  omega
theorem eng_lens (e : Eng) (h : wgt_Eng e ≤ 1048576) : e.Mem.length ≤ 1048576 ∧ e.Tables.length ≤ 1048576 ∧ totalV e.Tables ≤ 1048576 ∧ e.Snaps.length ≤ 1048576 := by
  have h0 : wS wgt_Ent e.Mem + (wS (fun t => wS wgt_Ent t) e.Tables + (e.Snaps.length + 0)) ≤ 1048576 := h
  exact ⟨wS_len (w := wgt_Ent) (by omega), wS_len (w := fun t => wS wgt_Ent t) (by omega), totalV_le _ _ (by omega), by omega⟩
theorem cloneEnts_eq (s : List Ent) (h : s.length ≤ 1048576) : slices_Clone_94167 s = some s := by
  unfold slices_Clone_94167
  rw [app_ok (by simp; omega) (by simp; omega)]
  rfl
theorem cloneInts_eq (s : List Int) (h : s.length ≤ 1048576) : slices_Clone_88240 s = some s := by
  unfold slices_Clone_88240
  rw [app_ok (by simp; omega) (by simp; omega)]
  rfl
theorem impl_copyEng_eq (e : Eng) (h1 : e.Mem.length ≤ 1048576) (h2 : e.Tables.length ≤ 1048576) (h3 : ∀ t ∈ e.Tables, t.length ≤ 1048576) (h4 : e.Snaps.length ≤ 1048576) : impl_copyEng e = some e := by
  unfold impl_copyEng
  simp only [cloneEnts_eq _ h1, cloneInts_eq _ h4, Option.bind_some]
  rw [loopO_count (fun k => ((k : Int), e.Tables.take k)) e.Tables.length (r := Ctl.go e.Tables) ?h0]
  case h0 => rfl
  · rfl
  · intro k hk
    have ht : e.Tables.take (k + 1) = e.Tables.take k ++ [e.Tables[k]] := by rw [List.take_add_one, List.getElem?_eq_getElem hk]; rfl
    simp only [idx_nat e.Tables k hk, Option.bind_some, cloneEnts_eq _ (h3 _ (List.getElem_mem hk))]
    rw [if_pos (by simpa using hk), wrap_ok (n := (k : Int) + 1) (by omega) (by omega), app_ok (by simp; omega) (by simp; omega), ht]
    rfl
  · simp
theorem spec_l20Copy_eq (e : Eng) (h1 : e.Mem.length ≤ 1048576) (h2 : e.Tables.length ≤ 1048576) (h3 : ∀ t ∈ e.Tables, t.length ≤ 1048576) (h4 : e.Snaps.length ≤ 1048576) : spec_l20Copy e = some e := by
  have happ : ∀ t : List Ent, t.length ≤ 1048576 → app 48 ([] : List Ent) t = some t := fun t ht => by rw [app_ok (by simp; omega) (by simp; omega)]; rfl
  unfold spec_l20Copy
  rw [happ _ h1, app_ok (l := ([] : List Int)) (k := e.Snaps) (by simp; omega) (by simp; omega)]
  simp only [Option.bind_some]
  rw [loopO_count (fun k => ((k : Int), e.Tables.take k)) e.Tables.length (r := Ctl.go e.Tables) ?h0]
  case h0 => rfl
  · rfl
  · intro k hk
    have ht : e.Tables.take (k + 1) = e.Tables.take k ++ [e.Tables[k]] := by rw [List.take_add_one, List.getElem?_eq_getElem hk]; rfl
    simp only [idx_nat e.Tables k hk, Option.bind_some, happ _ (h3 _ (List.getElem_mem hk))]
    rw [if_pos (by simpa using hk), wrap_ok (n := (k : Int) + 1) (by omega) (by omega), app_ok (by simp; omega) (by simp; omega), ht]
    rfl
  · simp
theorem snaps_at {seq : Int} {l : List Int} (hv : snapsV seq l = true) (k : Nat) (hk : k < l.length) : (0 ≤ l[k] ∧ l[k] ≤ seq) ∧ (0 < k → l[k - 1]'(by omega) < l[k]) := by
  unfold snapsV at hv
  rw [List.all_eq_true] at hv
  have := hv k (by simpa using hk)
  rw [snapP_at seq l k hk, Bool.and_eq_true] at this
  refine ⟨of_decide_eq_true this.1, fun h0 => ?_⟩
  have h2 := this.2
  rw [dif_pos h0] at h2
  exact of_decide_eq_true h2
theorem snaps_last {seq : Int} {l : List Int} (hv : snapsV seq l = true) (h0 : 0 < l.length) : (seq ∈ l) ↔ l[l.length - 1]'(by omega) = seq := by
  constructor
  · intro hm
    obtain ⟨i, hi, he⟩ := List.getElem_of_mem hm
    by_cases e : i = l.length - 1
    · subst e; exact he
    · have h1 := (snaps_at hv (i + 1) (by omega)).2 (by omega)
      have h2 := (snaps_at hv (i + 1) (by omega)).1
      simp only [Nat.add_sub_cancel] at h1
      omega
  · intro h
    rw [← h]
    exact List.getElem_mem _
/-- an engine with a snapshot more -/
def snapR (e : Eng) : Eng × Int × Bool :=
  if engV e = true then (if e.Seq ∈ e.Snaps then (e, e.Seq, true) else if e.Snaps.length = 4 then (e, 0, false) else ({ e with Snaps := e.Snaps ++ [e.Seq] }, e.Seq, true))
  else ({ Mem := [], Tables := [], Seq := 0, Snaps := [] }, 0, false)
theorem engV_parts {e : Eng} (h : engV e = true) : e.Snaps.length ≤ 4 ∧ snapsV e.Seq e.Snaps = true := by
  unfold engV at h
  simp only [Bool.and_eq_true, decide_eq_true_eq] at h
  exact ⟨h.1.2.1, h.2⟩
theorem eng_cnt (x : Eng) (h1 : x.Mem.length ≤ 1048577) (h2 : x.Tables.length ≤ 1048577) (h3 : ∀ t ∈ x.Tables, t.length ≤ 1048577) (h4 : x.Snaps.length ≤ 1048577) : cntS_Eng x ≤ 4398063288320 ∧ bnd_Eng x := by
  have c1 : (x.Mem.map cnt_Ent).sum ≤ 4 * x.Mem.length := sum_le cnt_Ent 4 fun _ _ => Nat.le_refl _
  have c2 : (x.Snaps.map (fun _ => 1)).sum ≤ 1 * x.Snaps.length := sum_le _ 1 fun _ _ => Nat.le_refl _
  have c3 : (x.Tables.map (fun l => (l.map cnt_Ent).sum)).sum ≤ 4194308 * x.Tables.length := sum_le _ 4194308 fun y hy => Nat.le_trans (sum_le cnt_Ent 4 fun _ _ => Nat.le_refl _) (by have := h3 y hy; omega)
  refine ⟨?_, Nat.le_trans h1 (by decide), ⟨Nat.le_trans h2 (by decide), fun y hy => Nat.le_trans (h3 y hy) (by decide)⟩, Nat.le_trans h4 (by decide)⟩
  unfold cntS_Eng
  omega
theorem snapR_bound (e : Eng) (h1 : e.Mem.length ≤ 1048576) (h2 : e.Tables.length ≤ 1048576) (h3 : ∀ t ∈ e.Tables, t.length ≤ 1048576) (h4 : e.Snaps.length ≤ 1048576) : cntS_Eng (snapR e).1 ≤ 4398063288320 ∧ bnd_Eng (snapR e).1 := by
  have h3' : ∀ t ∈ e.Tables, t.length ≤ 1048577 := fun t ht => Nat.le_succ_of_le (h3 t ht)
  unfold snapR
  split
  · split
    · exact eng_cnt e (by omega) (by omega) h3' (by omega)
    · split
      · exact eng_cnt e (by omega) (by omega) h3' (by omega)
      · exact eng_cnt _ (by simp only; omega) (by simp only; omega) h3' (by simp; omega)
  · exact eng_cnt _ (by simp) (by simp) (by simp) (by simp)
theorem piece_nat {α : Type} (l : List α) (a b : Nat) (lo hi : Int) (h1 : lo = (a : Int)) (h2 : hi = (b : Int)) (h3 : a ≤ b) (h4 : b ≤ l.length) : piece l lo hi = some ((l.drop a).take (b - a)) := by
  subst h1 h2
  unfold piece
  rw [if_pos ⟨by omega, by omega, by omega⟩, Int.toNat_natCast, Int.toNat_natCast]
theorem filter_one {α : Type} (l : List α) (p : α → Bool) (j : Nat) (hj : j < l.length) (h1 : p l[j] = false) (h2 : ∀ i (h : i < l.length), i ≠ j → p l[i] = true) : l.filter p = l.take j ++ l.drop (j + 1) := by
  have hs : l = l.take j ++ l[j] :: l.drop (j + 1) := by rw [← List.drop_eq_getElem_cons hj, List.take_append_drop]
  have ha : (l.take j).filter p = l.take j := by
    rw [List.filter_eq_self]
    intro x hx
    obtain ⟨i, hi, rfl⟩ := List.getElem_of_mem hx
    have hi' : i < j := by simp at hi; omega
    simp only [List.getElem_take]
    exact h2 i (by omega) (by omega)
  have hb : (l.drop (j + 1)).filter p = l.drop (j + 1) := by
    rw [List.filter_eq_self]
    intro x hx
    obtain ⟨i, hi, rfl⟩ := List.getElem_of_mem hx
    have hi' : j + 1 + i < l.length := by simp at hi; omega
    simp only [List.getElem_drop]
    exact h2 (j + 1 + i) hi' (by omega)
  conv => lhs; rw [hs]
  rw [List.filter_append, List.filter_cons_of_neg (by simpa using h1), ha, hb]
theorem filter_take {α : Type} (p : α → Bool) (l : List α) (k : Nat) (h : k < l.length) : (l.take (k + 1)).filter p = (l.take k).filter p ++ if p l[k] = true then [l[k]] else [] := by
  rw [show l.take (k + 1) = l.take k ++ [l[k]] by rw [List.take_add_one, List.getElem?_eq_getElem h]; rfl, List.filter_append]
  congr 1
  by_cases c : p l[k] = true
  · rw [if_pos c, List.filter_cons_of_pos c]; rfl
  · rw [if_neg c, List.filter_cons_of_neg c]; rfl
theorem filter_len {α : Type} (p : α → Bool) (l : List α) (k : Nat) : ((l.take k).filter p).length ≤ k := Nat.le_trans (List.length_filter_le _ _) (by simp; omega)
theorem snaps_lt {seq : Int} {l : List Int} (hv : snapsV seq l = true) : ∀ (j : Nat) (hj : j < l.length) (i : Nat) (hi : i < j), l[i]'(by omega) < l[j] := by
  intro j
  induction j with
  | zero => intro _ i hi; omega
  | succ j ih =>
    intro hj i hi
    have h1 := (snaps_at hv (j + 1) hj).2 (by omega)
    simp only [Nat.add_sub_cancel] at h1
    by_cases e : i = j
    · subst e; exact h1
    · have := ih (by omega) i (by omega); omega
def dropS (l : List Int) (x : Int) : List Int := l.filter fun s => !decide (s = x)
theorem dropS_at {seq : Int} {l : List Int} (hv : snapsV seq l = true) (j : Nat) (hj : j < l.length) : dropS l l[j] = l.take j ++ l.drop (j + 1) := by
  unfold dropS
  refine filter_one l _ j hj (by simp) fun i hi hij => ?_
  have : ¬ l[i] = l[j] := by
    rcases Nat.lt_or_ge i j with h | h
    · have := snaps_lt hv j hj i h; omega
    · have := snaps_lt hv i hi j (by omega); omega
  simp [this]
/-- an engine without a snapshot -/
def engDropR (e : Eng) (x : Int) : Eng × Bool := if engV e = true then (if x ∈ e.Snaps then ({ e with Snaps := dropS e.Snaps x }, true) else (e, false)) else ({ Mem := [], Tables := [], Seq := 0, Snaps := [] }, false)
theorem engDropR_bound (e : Eng) (x : Int) (h1 : e.Mem.length ≤ 1048576) (h2 : e.Tables.length ≤ 1048576) (h3 : ∀ t ∈ e.Tables, t.length ≤ 1048576) (h4 : e.Snaps.length ≤ 1048576) : cntS_Eng (engDropR e x).1 ≤ 4398063288320 ∧ bnd_Eng (engDropR e x).1 := by
  have h3' : ∀ t ∈ e.Tables, t.length ≤ 1048577 := fun t ht => Nat.le_succ_of_le (h3 t ht)
  unfold engDropR
  split
  · split
    · exact eng_cnt _ (by simp only; omega) (by simp only; omega) h3' (Nat.le_trans (List.length_filter_le _ _) (by omega))
    · exact eng_cnt e (by omega) (by omega) h3' (by omega)
  · exact eng_cnt _ (by simp) (by simp) (by simp) (by simp)
theorem sLt_asymm {a b : List UInt8} (h : sLt a b = true) : sLt b a = false := by
  have := sLt_compl a b
  rw [h] at this
  simp only [Bool.not_true, Bool.or_eq_false_iff] at this
  exact this.1
theorem sLt_same {a b : List UInt8} (h1 : sLt a b = false) (h2 : sLt b a = false) : a = b := by
  have := sLt_compl a b
  rw [h1, h2] at this
  have h : decide (b = a) = true := by simpa using this
  exact (of_decide_eq_true h).symm
theorem any_loop {α : Type} {body : Int → Option (Ctl Int (Ctl Unit Bool))} (l : List α) (p : α → Bool) (h : ∀ k (hk : k < l.length), body (k : Int) = some (if p l[k] = true then .done (.done true) else .go ((k : Int) + 1))) (hn : body (l.length : Int) = some (.done (.go ()))) :
    bindC (loopO body 0) (fun (_ : Unit) => some false) = some (l.any p) := by
  rw [loopO_is (fun k s => s = (k : Int) ∧ l.any p = (l.drop k).any p) l.length (if l.any p = true then Ctl.done true else Ctl.go ()) ?h0 ?h1 ?h2]
  · cases l.any p <;> rfl
  case h0 => exact ⟨rfl, rfl⟩
  · rintro k s hk ⟨rfl, he⟩
    rw [h k hk, he, List.drop_eq_getElem_cons hk, List.any_cons]
    cases hp : p l[k] with
    | true => right; rfl
    | false =>
      left
      refine ⟨(k : Int) + 1, rfl, by omega, ?_⟩
      rw [Bool.false_or]
  · rintro s ⟨rfl, he⟩
    rw [he, List.drop_length, hn]
    rfl
/-- the entry at a place stays -/
def stayV (snaps : List Int) (l : List Ent) : Nat → Bool
  | 0 => true
  | j + 1 => match l[j]?, l[j + 1]? with
    | some d, some e => !decide (d.Key = e.Key) || snaps.any (fun s => decide (e.Seq ≤ s) && decide (s < d.Seq))
    | _, _ => false
theorem stayV_succ (snaps : List Int) (l : List Ent) (j : Nat) (h : j + 1 < l.length) : stayV snaps l (j + 1) = (!decide ((l[j]'(by omega)).Key = l[j + 1].Key) || snaps.any (fun s => decide (l[j + 1].Seq ≤ s) && decide (s < (l[j]'(by omega)).Seq))) := by
  show (match l[j]?, l[j + 1]? with | some d, some e => _ | _, _ => false) = _
  rw [List.getElem?_eq_getElem h, List.getElem?_eq_getElem (by omega : j < l.length)]
/-- those that stay, of n from a on -/
def keepT (snaps : List Int) (l : List Ent) (a : Nat) : Nat → List Ent
  | 0 => []
  | n + 1 => keepT snaps l a n ++ (if stayV snaps l (a + n) = true then l[a + n]?.toList else [])
theorem keepT_succ (snaps : List Int) (l : List Ent) (a n : Nat) (h : a + n < l.length) : keepT snaps l a (n + 1) = keepT snaps l a n ++ (if stayV snaps l (a + n) = true then [l[a + n]] else []) := by
  show keepT snaps l a n ++ (if stayV snaps l (a + n) = true then l[a + n]?.toList else []) = _
  rw [List.getElem?_eq_getElem h]
  rfl
theorem keepT_len (snaps : List Int) (l : List Ent) (a : Nat) : ∀ n, (keepT snaps l a n).length ≤ n := by
  intro n
  induction n with
  | zero => simp [keepT]
  | succ n ih =>
    show (keepT snaps l a n ++ (if stayV snaps l (a + n) = true then l[a + n]?.toList else [])).length ≤ n + 1
    rw [List.length_append]
    split
    · cases l[a + n]? <;> simp <;> omega
    · simp; omega
theorem keepT_add (snaps : List Int) (l : List Ent) (a n : Nat) : ∀ m, keepT snaps l a (n + m) = keepT snaps l a n ++ keepT snaps l (a + n) m := by
  intro m
  induction m with
  | zero => simp [keepT]
  | succ m ih =>
    show keepT snaps l a (n + m) ++ (if stayV snaps l (a + (n + m)) = true then l[a + (n + m)]?.toList else []) = keepT snaps l a n ++ (keepT snaps l (a + n) m ++ (if stayV snaps l (a + n + m) = true then l[a + n + m]?.toList else []))
    rw [ih, Nat.add_assoc a n m, List.append_assoc]
theorem keepT_mem (snaps : List Int) (l : List Ent) (a : Nat) : ∀ n, ∀ x ∈ keepT snaps l a n, ∃ i, i < n ∧ ∃ h : a + i < l.length, x = l[a + i] := by
  intro n
  induction n with
  | zero => intro x hx; simp [keepT] at hx
  | succ n ih =>
    intro x hx
    have hx' : x ∈ keepT snaps l a n ++ (if stayV snaps l (a + n) = true then l[a + n]?.toList else []) := hx
    rcases List.mem_append.1 hx' with h | h
    · obtain ⟨i, hi, h2, h3⟩ := ih x h
      exact ⟨i, by omega, h2, h3⟩
    · by_cases hl : a + n < l.length
      · rw [List.getElem?_eq_getElem hl] at h
        split at h
        · exact ⟨n, by omega, hl, by simpa using h⟩
        · simp at h
      · rw [List.getElem?_eq_none (by omega)] at h
        simp at h
def sameK (e : Ent) : List Ent → Bool
  | y :: _ => decide (e.Key = y.Key)
  | [] => false
/-- without the deletions at each key's end; whether something newer is needed -/
def tid : List Ent → Bool × List Ent
  | [] => (false, [])
  | e :: t => bif (((tid t).1 && sameK e t) || !e.Del) then (true, e :: (tid t).2) else (false, (tid t).2)
theorem tid_cons (e : Ent) (t : List Ent) : tid (e :: t) = bif (((tid t).1 && sameK e t) || !e.Del) then (true, e :: (tid t).2) else (false, (tid t).2) := rfl
theorem tid_len : ∀ l : List Ent, (tid l).2.length ≤ l.length := by
  intro l
  induction l with
  | nil => simp [tid]
  | cons e t ih =>
    rw [tid_cons]
    cases (((tid t).1 && sameK e t) || !e.Del)
    · simp; omega
    · simp; omega
theorem tid_append : ∀ (A B : List Ent), (∀ x ∈ A, ∀ y ∈ B, x.Key ≠ y.Key) → (tid (A ++ B)).2 = (tid A).2 ++ (tid B).2 ∧ (A ≠ [] → (tid (A ++ B)).1 = (tid A).1) := by
  intro A
  induction A with
  | nil => intro B _; exact ⟨by simp [tid], fun h => absurd rfl h⟩
  | cons e t ih =>
    intro B hd
    obtain ⟨h1, h2⟩ := ih B fun x hx y hy => hd x (.tail _ hx) y hy
    have hc : ((tid (t ++ B)).1 && sameK e (t ++ B)) = ((tid t).1 && sameK e t) := by
      cases t with
      | nil =>
        cases B with
        | nil => rfl
        | cons y B =>
          have : sameK e ([] ++ y :: B) = false := decide_eq_false (hd e (.head _) y (.head _))
          rw [this, Bool.and_false, show sameK e [] = false from rfl, Bool.and_false]
      | cons z t =>
        rw [h2 (by simp)]
        rfl
    show (tid (e :: (t ++ B))).2 = (tid (e :: t)).2 ++ (tid B).2 ∧ (_ → (tid (e :: (t ++ B))).1 = (tid (e :: t)).1)
    rw [tid_cons, tid_cons, hc, h1]
    cases (((tid t).1 && sameK e t) || !e.Del)
    · exact ⟨rfl, fun _ => rfl⟩
    · exact ⟨rfl, fun _ => rfl⟩
theorem tid_del (e : Ent) (hd : e.Del = true) : ∀ A : List Ent, (∀ x ∈ A, x.Key = e.Key) → tid (A ++ [e]) = tid A := by
  intro A
  induction A with
  | nil => intro _; simp [tid, sameK, hd]
  | cons x t ih =>
    intro hk
    have h1 := ih fun y hy => hk y (.tail _ hy)
    show tid (x :: (t ++ [e])) = tid (x :: t)
    have hc : ((tid (t ++ [e])).1 && sameK x (t ++ [e])) = ((tid t).1 && sameK x t) := by
      rw [h1]
      cases t with
      | nil => rfl
      | cons z t => rfl
    rw [tid_cons, hc, h1]
    rfl
theorem tid_keep (e : Ent) (hd : e.Del = false) : ∀ A : List Ent, (∀ x ∈ A, x.Key = e.Key) → tid (A ++ [e]) = (true, A ++ [e]) := by
  intro A
  induction A with
  | nil => intro _; simp [tid, sameK, hd]
  | cons x t ih =>
    intro hk
    have h1 := ih fun y hy => hk y (.tail _ hy)
    show tid (x :: (t ++ [e])) = _
    have hc : sameK x (t ++ [e]) = true := by
      cases t with
      | nil => exact decide_eq_true (hk x (.head _))
      | cons z t => exact decide_eq_true ((hk x (.head _)).trans (hk z (.tail _ (.head _))).symm)
    rw [tid_cons, hc, h1]
    rfl
def finE (bottom : Bool) (A : List Ent) : List Ent := bif bottom then (tid A).2 else A
theorem finE_len (b : Bool) (A : List Ent) : (finE b A).length ≤ A.length := by
  cases b
  · exact Nat.le_refl _
  · exact tid_len A
theorem finE_append (b : Bool) (A B : List Ent) (h : ∀ x ∈ A, ∀ y ∈ B, x.Key ≠ y.Key) : finE b (A ++ B) = finE b A ++ finE b B := by
  cases b
  · rfl
  · exact (tid_append A B h).1
theorem trim_loop (bottom : Bool) : ∀ (n : Nat) (A : List Ent), A.length = n → n ≤ 1048576 → (∀ x ∈ A, ∀ y ∈ A, x.Key = y.Key) →
    loopO (ρ := Ctl (List Ent) (List Ent)) (fun (S31 : List Ent) => (if bottom = true then (if (decide (((S31.length : Nat) : Int) > (0 : Int))) = true then ((idx S31 (IntKind.i64.wrap (((S31.length : Nat) : Int) - (1 : Int)))).bind fun E39 =>
  some E39.Del)
  else (some false))
  else (some false)).bind (fun (T35 : Bool) =>
  if T35 = true then ((piece S31 (0 : Int) (IntKind.i64.wrap (((S31.length : Nat) : Int) - (1 : Int)))).bind fun E43 =>
  (app 48 ([] : List Ent) E43).bind fun E46 =>
  some (.go E46))
  else (some (.done (.go S31))))) A = some (.go (finE bottom A)) := by
  intro n
  induction n with
  | zero =>
    intro A hA _ _
    obtain rfl : A = [] := List.eq_nil_of_length_eq_zero hA
    rw [loopO_eq]
    cases bottom <;> rfl
  | succ n ih =>
    intro A hA hn hk
    obtain ⟨B, e, rfl⟩ : ∃ B e, A = B ++ [e] := ⟨A.dropLast, A.getLast (by intro c; rw [c] at hA; simp at hA), (List.dropLast_concat_getLast _).symm⟩
    have hB : B.length = n := by simpa using hA
    rw [loopO_eq]
    have hw : IntKind.i64.wrap ((((B ++ [e]).length : Nat) : Int) - 1) = (B.length : Int) := by rw [wrap_ok (by omega) (by omega)]; simp
    have hke : ∀ x ∈ B, x.Key = e.Key := fun x hx => hk x (List.mem_append.2 (.inl hx)) e (by simp)
    cases bottom with
    | false => rfl
    | true =>
      rw [hw, idx_nat (B ++ [e]) B.length (by simp)]
      have hd : decide ((((B ++ [e]).length : Nat) : Int) > 0) = true := decide_eq_true (by simp)
      simp only [if_true, hd, Option.bind_some, List.getElem_concat_length]
      cases hdel : e.Del with
      | false =>
        simp only [Bool.false_eq_true, if_false]
        show some (Ctl.go (B ++ [e])) = some (Ctl.go (tid (B ++ [e])).2)
        rw [tid_keep e hdel B hke]
      | true =>
        simp only [if_true]
        rw [piece_nat _ 0 B.length (0 : Int) _ rfl rfl (by omega) (by simp)]
        have hp : ((B ++ [e]).drop 0).take (B.length - 0) = B := by simp
        rw [hp]
        simp only [Option.bind_some]
        rw [app_ok (by simp; omega) (by simp; omega)]
        simp only [Option.bind_some, List.nil_append]
        have ih' := ih B hB (by omega) fun x hx y hy => hk x (List.mem_append.2 (.inl hx)) y (List.mem_append.2 (.inl hy))
        simp only [if_true] at ih'
        rw [ih']
        show some (Ctl.go (tid B).2) = some (Ctl.go (tid (B ++ [e])).2)
        rw [tid_del e hdel B hke]
theorem revEnts_eq (l : List Ent) (h : l.length ≤ 1048576) : slices_Reverse_94167 l = some l.reverse := by
  unfold slices_Reverse_94167
  rw [loopO_is (fun m s => s.1 = (m : Int) ∧ s.2.1 = (l.length : Int) - 1 - m ∧ ∃ hl : s.2.2.length = l.length, ∀ k (hk : k < l.length), s.2.2[k]'(by omega) = if k < m ∨ l.length ≤ k + m then l[l.length - 1 - k]'(by omega) else l[k]) (l.length / 2) (Ctl.go l.reverse) ?h0 ?h1 ?h2]
  · rfl
  case h0 =>
    refine ⟨rfl, ?_, rfl, fun k hk => ?_⟩
    · show IntKind.i64.wrap ((l.length : Int) - 1) = (l.length : Int) - 1 - ((0 : Nat) : Int)
      rw [wrap_ok (by omega) (by omega)]; omega
    · rw [if_neg (by omega)]
  · rintro m ⟨i, j, s⟩ hm ⟨h1, h2, hl, h3⟩
    simp only at h1 h2 hl h3
    subst h1
    have hj : j = ((l.length - 1 - m : Nat) : Int) := by omega
    subst hj
    clear h2
    left
    have hm1 : m < s.length := by omega
    have hm2 : l.length - 1 - m < s.length := by omega
    refine ⟨((m : Int) + 1, ((l.length - 1 - m : Nat) : Int) - 1, (s.set m (s[l.length - 1 - m]'hm2)).set (l.length - 1 - m) (s[m]'hm1)), ?_, by simp, ?_, by simp [hl], ?_⟩
    · simp only [idx_nat s _ hm2, idx_nat s _ hm1, Option.bind_some, Int.toNat_natCast]
      rw [if_pos (by simp; omega), idx_nat _ _ (by simp; omega)]
      simp only [Option.bind_some, bindC_go]
      rw [wrap_ok (by omega) (by omega), wrap_ok (by omega) (by omega)]
    · simp only; omega
    · intro k hk
      simp only [List.getElem_set]
      by_cases c1 : l.length - 1 - m = k
      · rw [if_pos c1, h3 m (by omega), if_neg (by omega), if_pos (by omega)]
        congr 1
        omega
      · rw [if_neg c1]
        by_cases c2 : m = k
        · rw [if_pos c2, h3 _ (by omega), if_neg (by omega), if_pos (by omega)]
          congr 1
          omega
        · rw [if_neg c2, h3 k hk]
          by_cases c3 : k < m ∨ l.length ≤ k + m
          · rw [if_pos c3, if_pos (by omega)]
          · rw [if_neg c3, if_neg (by omega)]
  · rintro ⟨i, j, s⟩ ⟨h1, h2, hl, h3⟩
    simp only at h1 h2 hl h3
    subst h1 h2
    simp only
    rw [if_neg (by simp; omega)]
    congr 3
    refine List.ext_getElem (by simp [hl]) fun k hk1 hk2 => ?_
    rw [h3 k (by omega), List.getElem_reverse]
    by_cases c : k < l.length / 2 ∨ l.length ≤ k + l.length / 2
    · rw [if_pos c]
    · rw [if_neg c]
      congr 1
      omega
theorem entP_of {l : List Ent} (hv : entsV l = true) (k : Nat) (hk : k < l.length) : entP l k = true := by
  unfold entsV at hv
  rw [List.all_eq_true] at hv
  exact hv k (by simpa using hk)
theorem entsV_sub {l : List Ent} (hv : entsV l = true) (a n : Nat) : entsV ((l.drop a).take n) = true := by
  unfold entsV
  rw [List.all_eq_true]
  intro k hk
  have hk' : k < ((l.drop a).take n).length := by simpa using hk
  have hk2 : a + k < l.length := by simp at hk'; omega
  have hp := entP_of hv (a + k) hk2
  rw [entP_at l (a + k) hk2, Bool.and_eq_true] at hp
  rw [entP_at _ k hk']
  simp only [List.getElem_take, List.getElem_drop]
  rw [hp.1, Bool.true_and]
  by_cases h0 : 0 < k
  · rw [dif_pos h0]
    have := hp.2
    rw [dif_pos (by omega)] at this
    simpa only [show a + k - 1 = a + (k - 1) by omega] using this
  · rw [dif_neg h0]
/-- the keys before a place are none of those from it on -/
def cutV (l : List Ent) (a : Nat) : Prop := ∀ i (hi : i < l.length) j (hj : j < l.length), i < a → a ≤ j → l[i].Key ≠ l[j].Key
theorem cutV_next {l : List Ent} (hv : entsV l = true) {a e : Nat} (hc : cutV l a) (hae : a < e) (ha : a < l.length) (h1 : ∀ i (hi : i < l.length), a ≤ i → i < e → l[i].Key = l[a].Key) (h2 : ∀ hi : e < l.length, l[e].Key ≠ l[a].Key) : cutV l e := by
  intro i hi j hj hie hej heq
  by_cases hia : i < a
  · exact hc i hi j hj hia (by omega) heq
  · rw [h1 i hi (by omega) hie] at heq
    have hel : e < l.length := by omega
    have hne := h2 hel
    have hlt : sLt l[a].Key l[e].Key = true := by
      rcases ents_lt hv e hel a hae with h | ⟨h, _⟩
      · exact h
      · exact absurd h.symm hne
    by_cases hj2 : j = e
    · subst hj2; exact hne heq.symm
    · rcases ents_lt hv j hj e (by omega) with h | ⟨h, _⟩
      · have := sLt_trans hlt h
        rw [← heq, sLt_irrefl] at this
        cases this
      · exact hne (h.trans heq.symm)
def compactR (l : List Ent) (snaps : List Int) (bottom : Bool) : List Ent := if l.length ≤ 400 ∧ entsV l = true then finE bottom (keepT snaps l 0 l.length) else []
theorem compactR_len (l : List Ent) (snaps : List Int) (bottom : Bool) : (compactR l snaps bottom).length ≤ l.length := by
  unfold compactR
  split
  · exact Nat.le_trans (finE_len _ _) (keepT_len _ _ _ _)
  · simp
/-- an engine whose entries in hand have become a table -/
def flushS (e : Eng) : Bool × Eng := bif decide (e.Mem.length = 0 ∨ 6 ≤ e.Tables.length) then (false, e) else (true, { Mem := [], Tables := e.Mem :: e.Tables, Seq := e.Seq, Snaps := e.Snaps })
theorem flushS_pos {e : Eng} (h : e.Mem.length = 0 ∨ 6 ≤ e.Tables.length) : flushS e = (false, e) := by unfold flushS; rw [decide_eq_true h]; rfl
theorem flushS_neg {e : Eng} (h : ¬ (e.Mem.length = 0 ∨ 6 ≤ e.Tables.length)) : flushS e = (true, { Mem := [], Tables := e.Mem :: e.Tables, Seq := e.Seq, Snaps := e.Snaps }) := by unfold flushS; rw [decide_eq_false h]; rfl
def flushR (e : Eng) : Eng × Bool := bif engV e then ((flushS e).2, (flushS e).1) else ({ Mem := [], Tables := [], Seq := 0, Snaps := [] }, false)
theorem flushR_bound (e : Eng) (h1 : e.Mem.length ≤ 1048576) (h2 : e.Tables.length ≤ 1048576) (h3 : ∀ t ∈ e.Tables, t.length ≤ 1048576) (h4 : e.Snaps.length ≤ 1048576) : cntS_Eng (flushR e).1 ≤ 4398063288320 ∧ bnd_Eng (flushR e).1 := by
  have h3' : ∀ t ∈ e.Tables, t.length ≤ 1048577 := fun t ht => Nat.le_succ_of_le (h3 t ht)
  unfold flushR
  cases engV e
  · exact eng_cnt _ (by simp) (by simp) (by simp) (by simp)
  · by_cases c : e.Mem.length = 0 ∨ 6 ≤ e.Tables.length
    · rw [flushS_pos c]
      exact eng_cnt e (by omega) (by omega) h3' (by omega)
    · rw [flushS_neg c, cond_true]
      refine eng_cnt _ (by simp) (by simp only [List.length_cons]; omega) (fun t ht => ?_) (by simp only; omega)
      rcases List.mem_cons.1 ht with rfl | ht
      · omega
      · exact h3' t ht
theorem half_eq {a : Int} (h0 : 0 ≤ a) (h1 : a ≤ 4611686018427387904) : IntKind.i64.wrap (ishr .u64 (IntKind.u64.wrap (IntKind.i64.wrap a)) (1 : Int)) = a / 2 := by
  have hu : IntKind.u64.wrap a = a := by simp [IntKind.wrap, IntKind.bits, IntKind.signed]; omega
  have hs : ishr .u64 a (1 : Int) = a / 2 := by
    unfold ishr
    show a.fdiv (2 ^ 1) = a / 2
    rw [Int.fdiv_eq_ediv_of_nonneg a (by decide)]
    rfl
  rw [wrap_ok (n := a) (by omega) (by omega), hu, hs, wrap_ok (by omega) (by omega)]
/-- a search by halves: the place where it ends -/
theorem bisect {α ρ : Type} (x : List α) (cf : α → Option Int) (c : α → Int) (hcf : ∀ e ∈ x, cf e = some (c e)) (hx : x.length ≤ 1048576) :
    ∃ j, j ≤ x.length ∧ loopO (ρ := Ctl Int ρ) (fun (S2 : Int × Int) => if (decide (S2.1 < S2.2)) = true then ((idx x (IntKind.i64.wrap (ishr .u64 (IntKind.u64.wrap (IntKind.i64.wrap (S2.1 + S2.2))) (1 : Int)))).bind fun E7 =>
  (cf E7).bind fun R9 =>
  bindC (if (decide (R9 < (0 : Int))) = true then (some (.go (IntKind.i64.wrap (IntKind.i64.wrap (ishr .u64 (IntKind.u64.wrap (IntKind.i64.wrap (S2.1 + S2.2))) (1 : Int)) + (1 : Int)), S2.2)))
  else (some (.go (S2.1, IntKind.i64.wrap (ishr .u64 (IntKind.u64.wrap (IntKind.i64.wrap (S2.1 + S2.2))) (1 : Int))))))
  (fun (T12 : Int × Int) => some (.go (T12.1, T12.2))))
  else (some (.done (.go S2.1)))) ((0 : Int), ((x.length : Nat) : Int)) = some (.go (j : Int)) ∧ (∀ i (hi : i < x.length), i + 1 = j → c x[i] < 0) ∧ (∀ hj : j < x.length, 0 ≤ c x[j]) := by
  obtain ⟨r, hr, j, rfl, h1, h2, h3⟩ := loopO_total (ρ := Ctl Int ρ) (s0 := ((0 : Int), ((x.length : Nat) : Int))) (body := fun (S2 : Int × Int) => if (decide (S2.1 < S2.2)) = true then ((idx x (IntKind.i64.wrap (ishr .u64 (IntKind.u64.wrap (IntKind.i64.wrap (S2.1 + S2.2))) (1 : Int)))).bind fun E7 =>
  (cf E7).bind fun R9 =>
  bindC (if (decide (R9 < (0 : Int))) = true then (some (.go (IntKind.i64.wrap (IntKind.i64.wrap (ishr .u64 (IntKind.u64.wrap (IntKind.i64.wrap (S2.1 + S2.2))) (1 : Int)) + (1 : Int)), S2.2)))
  else (some (.go (S2.1, IntKind.i64.wrap (ishr .u64 (IntKind.u64.wrap (IntKind.i64.wrap (S2.1 + S2.2))) (1 : Int))))))
  (fun (T12 : Int × Int) => some (.go (T12.1, T12.2))))
  else (some (.done (.go S2.1))))
    (fun k s => ∃ a b : Nat, s = ((a : Int), (b : Int)) ∧ a ≤ b ∧ b ≤ x.length ∧ b - a + k ≤ x.length ∧ (∀ i (hi : i < x.length), i + 1 = a → c x[i] < 0) ∧ (∀ hj : b < x.length, 0 ≤ c x[b])) x.length
    (fun r => ∃ j : Nat, r = .go (j : Int) ∧ j ≤ x.length ∧ (∀ i (hi : i < x.length), i + 1 = j → c x[i] < 0) ∧ (∀ hj : j < x.length, 0 ≤ c x[j]))
    ⟨0, x.length, rfl, Nat.zero_le _, Nat.le_refl _, by omega, fun i hi h => by omega, fun h => by omega⟩ (by
      rintro k s hk ⟨a, b, rfl, hab, hb, hd, h1, h2⟩
      by_cases hlt : a < b
      · left
        have hm : ((a : Int) + (b : Int)) / 2 = (((a + b) / 2 : Nat) : Int) := by omega
        have hmx : (a + b) / 2 < x.length := by omega
        simp only [half_eq (a := (a : Int) + (b : Int)) (by omega) (by omega), hm, idx_nat x _ hmx, Option.bind_some, hcf _ (List.getElem_mem hmx)]
        rw [if_pos (by simpa using hlt)]
        by_cases hc : c x[(a + b) / 2] < 0
        · rw [if_pos (by simpa using hc), wrap_ok (by omega) (by omega)]
          refine ⟨_, rfl, (a + b) / 2 + 1, b, rfl, by omega, hb, by omega, fun i hi h => ?_, h2⟩
          obtain rfl : i = (a + b) / 2 := by omega
          exact hc
        · rw [if_neg (by simpa using hc)]
          exact ⟨_, rfl, a, (a + b) / 2, rfl, by omega, by omega, by omega, h1, fun _ => by omega⟩
      · right
        obtain rfl : a = b := by omega
        exact ⟨.go (a : Int), by simp, a, rfl, hb, h1, h2⟩) (by
      rintro s ⟨a, b, rfl, hab, hb, hd, h1, h2⟩
      obtain rfl : a = b := by omega
      exact ⟨.go (a : Int), by simp, a, rfl, hb, h1, h2⟩)
  exact ⟨j, h1, hr, h2, h3⟩
theorem entLt_trans {a b c : Ent} (h1 : entLt a b = true) (h2 : entLt b c = true) : entLt a c = true := by
  unfold entLt at h1 h2 ⊢
  simp only [Bool.or_eq_true, Bool.and_eq_true, decide_eq_true_eq] at h1 h2 ⊢
  rcases h1 with h1 | ⟨h1, h3⟩
  · rcases h2 with h2 | ⟨h2, _⟩
    · exact .inl (sLt_trans h1 h2)
    · rw [← h2]; exact .inl h1
  · rcases h2 with h2 | ⟨h2, h4⟩
    · rw [h1]; exact .inl h2
    · exact .inr ⟨h1.trans h2, by omega⟩
theorem entLt_total {a b : Ent} (h : ¬ (a.Key = b.Key ∧ a.Seq = b.Seq)) (h2 : entLt a b = false) : entLt b a = true := by
  unfold entLt at h2 ⊢
  simp only [Bool.or_eq_false_iff, Bool.and_eq_false_iff, decide_eq_false_iff_not] at h2
  simp only [Bool.or_eq_true, Bool.and_eq_true, decide_eq_true_eq]
  have hc := sLt_compl a.Key b.Key
  rw [h2.1] at hc
  simp only [Bool.not_false] at hc
  by_cases hk : a.Key = b.Key
  · right
    refine ⟨hk.symm, ?_⟩
    rcases h2.2 with h3 | h3
    · exact absurd hk h3
    · have : ¬ a.Seq = b.Seq := fun e => h ⟨hk, e⟩
      omega
  · left
    have h5 : decide (b.Key = a.Key) = false := decide_eq_false fun e => hk e.symm
    rw [h5, Bool.or_false] at hc
    exact hc
theorem compareEnts_sign (a b : Ent) : ∃ r, impl_compareEnts a b = some r ∧ decide (r < 0) = entLt a b ∧ (r = 0 ↔ (a.Key = b.Key ∧ a.Seq = b.Seq)) := by
  unfold impl_compareEnts entLt
  rw [cmpS_eq, cmpI_eq]
  simp only [Option.bind_some, cmpOr_eq]
  refine ⟨_, rfl, ?_⟩
  by_cases c : sLt a.Key b.Key = true
  · have hne : ¬ a.Key = b.Key := fun e => by rw [e, sLt_irrefl] at c; cases c
    simp [c, hne]
  · have c' : sLt a.Key b.Key = false := by simpa using c
    rw [if_neg c, c']
    by_cases c2 : a.Key = b.Key
    · rw [decide_eq_true c2]
      by_cases c3 : b.Seq < a.Seq
      · have : ¬ a.Seq = b.Seq := by omega
        simp [c2, c3, this]
      · by_cases c4 : b.Seq > a.Seq
        · have : ¬ a.Seq = b.Seq := by omega
          simp [c2, c3, c4, this]
        · have : a.Seq = b.Seq := by omega
          simp [c2, this]
    · rw [decide_eq_false c2]
      simp [c2]
/-- entries with one more at a place -/
def insE (l : List Ent) (e : Ent) (j : Nat) : List Ent := l.take j ++ (e :: l.drop j)
theorem insE_mem {l : List Ent} {e x : Ent} {j : Nat} : x ∈ insE l e j ↔ x = e ∨ x ∈ l := by
  unfold insE
  rw [List.mem_append, List.mem_cons]
  conv => rhs; rw [← List.take_append_drop j l, List.mem_append]
  constructor
  · rintro (h | h | h)
    · exact .inr (.inl h)
    · exact .inl h
    · exact .inr (.inr h)
  · rintro (h | h | h)
    · exact .inr (.inl h)
    · exact .inl h
    · exact .inr (.inr h)
theorem insE_len (l : List Ent) (e : Ent) (j : Nat) (h : j ≤ l.length) : (insE l e j).length = l.length + 1 := by
  unfold insE; simp; omega
def ordE (l : List Ent) : Prop := l.Pairwise fun a b => entLt a b = true
theorem ordE_ins {l : List Ent} {e : Ent} {j : Nat} (hl : ordE l) (h1 : ∀ i (hi : i < l.length), i < j → entLt l[i] e = true) (h2 : ∀ i (hi : i < l.length), j ≤ i → entLt e l[i] = true) : ordE (insE l e j) := by
  unfold ordE insE at *
  have hl2 := hl
  rw [← List.take_append_drop j l, List.pairwise_append] at hl2
  have m1 : ∀ x ∈ l.take j, entLt x e = true := by
    intro x hx
    obtain ⟨i, hi, rfl⟩ := List.getElem_of_mem hx
    rw [List.getElem_take]
    exact h1 i _ (by simp at hi; omega)
  have m2 : ∀ x ∈ l.drop j, entLt e x = true := by
    intro x hx
    obtain ⟨i, hi, rfl⟩ := List.getElem_of_mem hx
    rw [List.getElem_drop]
    exact h2 _ _ (by omega)
  rw [List.pairwise_append, List.pairwise_cons]
  refine ⟨hl2.1, ⟨m2, hl2.2.1⟩, fun x hx y hy => ?_⟩
  rcases List.mem_cons.1 hy with rfl | hy
  · exact m1 x hx
  · exact hl2.2.2 x hx y hy
theorem entsV_iff (l : List Ent) : entsV l = true ↔ (∀ x ∈ l, entV x = true) ∧ ordE l := by
  constructor
  · intro h
    refine ⟨fun x hx => ?_, ?_⟩
    · obtain ⟨k, hk, rfl⟩ := List.getElem_of_mem hx
      unfold entsV at h
      rw [List.all_eq_true] at h
      have := h k (by simpa using hk)
      rw [entP_at l k hk, Bool.and_eq_true] at this
      exact this.1
    · unfold ordE
      rw [List.pairwise_iff_getElem]
      intro i j hi hj hij
      unfold entLt
      simp only [Bool.or_eq_true, Bool.and_eq_true, decide_eq_true_eq]
      exact ents_lt h j hj i hij
  · rintro ⟨h1, h2⟩
    unfold ordE at h2
    rw [List.pairwise_iff_getElem] at h2
    unfold entsV
    rw [List.all_eq_true]
    intro k hk
    have hk' : k < l.length := by simpa using hk
    rw [entP_at l k hk', h1 _ (List.getElem_mem hk')]
    by_cases h0 : 0 < k
    · rw [dif_pos h0, h2 (k - 1) k (by omega) hk' (by omega)]
      rfl
    · rw [dif_neg h0]
      rfl
def putF (l : List Ent) (f : Ent) (j k : Nat) : Bool × Int × List Ent := bif Nat.ble k j then (false, (k : Int), l.take k) else (true, (k : Int), l.take j ++ (f :: (l.drop j).take (k - j)))
theorem putF_le (l : List Ent) (f : Ent) (j k : Nat) (h : k ≤ j) : putF l f j k = (false, (k : Int), l.take k) := by
  unfold putF
  rw [Nat.ble_eq_true_of_le h]
  rfl
theorem putF_gt (l : List Ent) (f : Ent) (j k : Nat) (h : j < k) : putF l f j k = (true, (k : Int), l.take j ++ (f :: (l.drop j).take (k - j))) := by
  unfold putF
  have : Nat.ble k j = false := by
    cases hb : Nat.ble k j
    · rfl
    · exact absurd (Nat.le_of_ble_eq_true hb) (by omega)
  rw [this]
  rfl
theorem spec_l9Put_at (l : List Ent) (f : Ent) (j : Nat) (hl : l.length ≤ 1048576) (hj : j ≤ l.length) (h1 : ∀ i (hi : i < l.length), i < j → entLt f l[i] = false) (h2 : ∀ hi : j < l.length, entLt f l[j] = true) :
    spec_l9Put l f = some (insE l f j) := by
  unfold spec_l9Put
  rw [loopO_count (putF l f j) l.length (r := Ctl.go ((putF l f j l.length).1, (putF l f j l.length).2.2)) ?h0]
  case h0 => rw [putF_le _ _ _ _ (Nat.zero_le _)]; rfl
  · by_cases hjl : j = l.length
    · subst hjl
      rw [putF_le _ _ _ _ (Nat.le_refl _)]
      simp only [bindC_go, Bool.not_false, if_true]
      rw [app_ok (by simp; omega) (by simp; omega)]
      simp [insE]
    · rw [putF_gt _ _ _ _ (by omega)]
      simp only [bindC_go, Bool.not_true, Bool.false_eq_true, if_false]
      unfold insE
      rw [List.take_of_length_le (l := l.drop j) (by simp)]
  · intro k hk
    have hw := wrap_ok (n := (k : Int) + 1) (by omega) (by omega)
    rcases Nat.lt_trichotomy k j with hkj | hkj | hkj
    · have ht : l.take (k + 1) = l.take k ++ [l[k]] := by rw [List.take_add_one, List.getElem?_eq_getElem hk]; rfl
      rw [putF_le _ _ _ _ (by omega), putF_le _ _ _ _ (by omega)]
      simp only [idx_nat l k hk, Option.bind_some, Bool.not_false, if_true, hw, spec_l9Ahead_eq, h1 k hk hkj, Bool.false_eq_true, if_false, bindC_go]
      rw [if_pos (by simpa using hk), app_ok (by simp; omega) (by simp; omega), ht]
      rfl
    · subst hkj
      rw [putF_le _ _ _ _ (Nat.le_refl _), putF_gt _ _ _ _ (by omega)]
      simp only [idx_nat l k hk, Option.bind_some, Bool.not_false, if_true, hw, spec_l9Ahead_eq, h2 hk]
      rw [if_pos (by simpa using hk), app_ok (by simp; omega) (by simp; omega)]
      simp only [Option.bind_some, bindC_go]
      rw [app_ok (by simp; omega) (by simp; omega)]
      have : (l.drop k).take (k + 1 - k) = [l[k]] := by
        rw [List.drop_eq_getElem_cons hk, show k + 1 - k = 1 by omega]; rfl
      rw [this]
      simp
    · rw [putF_gt _ _ _ _ (by omega), putF_gt _ _ _ _ (by omega)]
      simp only [idx_nat l k hk, Option.bind_some, Bool.not_true, Bool.false_eq_true, if_false, hw, bindC_go]
      rw [if_pos (by simpa using hk), app_ok (by simp; omega) (by simp; omega)]
      have hkd : k - j < (l.drop j).length := by simp; omega
      have ht : (l.drop j).take (k + 1 - j) = (l.drop j).take (k - j) ++ [l[k]] := by
        rw [show k + 1 - j = (k - j) + 1 by omega, List.take_add_one, List.getElem?_eq_getElem hkd, List.getElem_drop]
        congr 2
        simp only [Option.toList_some]
        congr 2
        omega
      rw [ht]
      simp
  · have hi : (putF l f j l.length).2.1 = (l.length : Int) := by unfold putF; cases Nat.ble l.length j <;> rfl
    rw [hi, if_neg (by simp)]
theorem insEnts_eq (l : List Ent) (x : Ent) (j : Nat) (hj : j ≤ l.length) (h : l.length ≤ 1048576) : slices_Insert_94167 l (j : Int) [x] = some (insE l x j) := by
  unfold slices_Insert_94167 ins insE
  rw [if_pos ⟨by omega, by omega, by simp; omega, by simp; omega⟩, Int.toNat_natCast]
  rfl
theorem put_both (l : List Ent) (e : Ent) (hl : ordE l) (h : l.length ≤ 1048576) (hne : ∀ x ∈ l, ¬ (x.Key = e.Key ∧ x.Seq = e.Seq)) :
    ∃ j, j ≤ l.length ∧ impl_put l e = some (insE l e j, true) ∧ spec_l9Put l e = some (insE l e j) ∧ ordE (insE l e j) := by
  have hcf : ∀ x ∈ l, impl_compareEnts x e = some ((impl_compareEnts x e).getD 0) := by
    intro x _
    obtain ⟨r, hr, _⟩ := compareEnts_sign x e
    rw [hr]; rfl
  have hsg : ∀ x : Ent, (((impl_compareEnts x e).getD 0 < 0) ↔ entLt x e = true) ∧ ((impl_compareEnts x e).getD 0 = 0 ↔ (x.Key = e.Key ∧ x.Seq = e.Seq)) := by
    intro x
    obtain ⟨r, hr, h1, h2⟩ := compareEnts_sign x e
    rw [hr]
    refine ⟨?_, h2⟩
    show r < 0 ↔ _
    rw [← h1]; simp
  obtain ⟨j, hj, hb, h1, h2⟩ := bisect (ρ := Int × Bool) l (fun x => impl_compareEnts x e) (fun x => (impl_compareEnts x e).getD 0) hcf h
  have hp : ∀ a b (ha : a < l.length) (hb : b < l.length), a < b → entLt l[a] l[b] = true := by
    unfold ordE at hl
    rw [List.pairwise_iff_getElem] at hl
    exact fun a b ha hb hab => hl a b ha hb hab
  have a1 : ∀ i (hi : i < l.length), i < j → entLt l[i] e = true := by
    intro i hi hij
    have h3 := ((hsg _).1.1 (h1 (j - 1) (by omega) (by omega)))
    by_cases e1 : i = j - 1
    · subst e1; exact h3
    · exact entLt_trans (hp i (j - 1) hi (by omega) (by omega)) h3
  have a2 : ∀ i (hi : i < l.length), j ≤ i → entLt e l[i] = true := by
    intro i hi hij
    have hjl : j < l.length := by omega
    have h3 := h2 hjl
    have h4 : entLt e l[j] = true := by
      refine entLt_total (hne _ (List.getElem_mem hjl)) ?_
      cases hc : entLt l[j] e with
      | false => rfl
      | true => have := (hsg _).1.2 hc; omega
    by_cases e1 : j = i
    · subst e1; exact h4
    · exact entLt_trans h4 (hp j i hjl hi (by omega))
  have asym : ∀ a b : Ent, entLt a b = true → entLt b a = false := by
    intro a b hab
    cases hc : entLt b a with
    | false => rfl
    | true =>
      have := entLt_trans hab hc
      unfold entLt at this
      rw [sLt_irrefl] at this
      simp at this
  refine ⟨j, hj, ?_, spec_l9Put_at l e j h hj (fun i hi hij => asym _ _ (a1 i hi hij)) (fun hi => a2 j hi (Nat.le_refl _)), ordE_ins hl a1 a2⟩
  unfold impl_put slices_BinarySearchFunc_39542_at_impl_compareEnts
  rw [hb]
  simp only [bindC_go]
  have hfound : (if (decide ((j : Int) < ((l.length : Nat) : Int))) = true then ((idx l (j : Int)).bind fun E18 => (impl_compareEnts E18 e).bind fun R20 => some (decide (R20 = (0 : Int)))) else (some false)) = some false := by
    by_cases hjl : j < l.length
    · rw [if_pos (by simpa using hjl), idx_nat l j hjl]
      obtain ⟨r, hr, _, hr2⟩ := compareEnts_sign l[j] e
      simp only [Option.bind_some, hr]
      rw [decide_eq_false fun h0 => hne _ (List.getElem_mem hjl) (hr2.1 h0)]
    · rw [if_neg (by simpa using hjl)]
  rw [hfound]
  simp only [Option.bind_some, Bool.false_eq_true, if_false, insEnts_eq l e j hj h]
/-- an op as required -/
def opV (o : Op) : Bool := decide (1 ≤ (o.Key.length : Int) ∧ (o.Key.length : Int) ≤ 10) && (decide ((o.Val.length : Int) ≤ 16) && (!o.Del || decide (o.Val = [])))
theorem spec_l7Op_eq (o : Op) : spec_l7Op o = some (opV o) := by
  unfold spec_l7Op opV
  simp only [l1In_eq, Option.bind_some]
  by_cases h1 : 1 ≤ (o.Key.length : Int) ∧ (o.Key.length : Int) ≤ 10 <;> by_cases h3 : (o.Val.length : Int) ≤ 16 <;> cases h4 : o.Del <;>
    simp only [h1, h3, and_self, decide_true, decide_false, if_true, if_false, Option.bind_some, Bool.true_and, Bool.false_and, Bool.not_true, Bool.not_false, Bool.false_eq_true, Bool.true_or, Bool.false_or, Bool.and_true, Bool.and_false]
theorem impl_opOk_eq (o : Op) : ((impl_isKey o.Key).bind fun R11 => if (!R11) = true then (some true) else ((impl_isVal o.Del o.Val).bind fun R15 => some (!R15))) = some (!opV o) := by
  unfold impl_isKey impl_isVal opV
  simp only [inRange_eq, Option.bind_some]
  by_cases h1 : 1 ≤ (o.Key.length : Int) ∧ (o.Key.length : Int) ≤ 10 <;> by_cases h3 : (o.Val.length : Int) ≤ 16 <;> cases h4 : o.Del <;>
    simp only [h1, h3, and_self, decide_true, decide_false, if_true, if_false, Option.bind_some, Bool.true_and, Bool.false_and, Bool.not_true, Bool.not_false, Bool.false_eq_true, Bool.true_or, Bool.false_or, Bool.and_true, Bool.and_false, Bool.not_not]
/-- a batch as required -/
def batchV (l : List Op) : Bool := decide (1 ≤ l.length ∧ l.length ≤ 6) && l.all opV
theorem batchI (l : List Op) : decide (1 ≤ ((l.length : Nat) : Int) ∧ ((l.length : Nat) : Int) ≤ 6) = decide (1 ≤ l.length ∧ l.length ≤ 6) := decide_eq_decide.2 (by omega)
theorem spec_BatchOk_eq (l : List Op) (h : l.length ≤ 1048576) : spec_BatchOk l = some (batchV l) := by
  unfold spec_BatchOk batchV
  simp only [l1In_eq, Option.bind_some, batchI]
  by_cases h6 : 1 ≤ l.length ∧ l.length ≤ 6
  · rw [decide_eq_true h6]
    simp only [Bool.not_true, Bool.false_eq_true, if_false, Bool.true_and]
    rw [loopO_is (fun k s => s = (k : Int) ∧ l.all opV = (l.drop k).all opV) l.length (if l.all opV = true then Ctl.go () else Ctl.done false) ?h0 ?h1 ?h2]
    · cases l.all opV <;> rfl
    case h0 => exact ⟨rfl, rfl⟩
    · rintro k s hk ⟨rfl, he⟩
      simp only [idx_nat l k hk, Option.bind_some, spec_l7Op_eq]
      rw [if_pos (by simpa using hk), wrap_ok (n := (k : Int) + 1) (by omega) (by omega), he, List.drop_eq_getElem_cons hk, List.all_cons]
      cases hc : opV l[k] with
      | false => right; rfl
      | true => left; exact ⟨(k : Int) + 1, rfl, by omega, by simp⟩
    · rintro s ⟨rfl, he⟩
      rw [he, List.drop_length]
      simp
  · rw [decide_eq_false h6]
    rfl
theorem impl_BatchOk_eq (l : List Op) (h : l.length ≤ 1048576) : impl_BatchOk l = some (batchV l) := by
  unfold impl_BatchOk batchV
  rw [loopO_is (fun k s => s = (k : Int) ∧ l.all opV = (l.drop k).all opV) l.length (if l.all opV = true then Ctl.go () else Ctl.done false) ?h0 ?h1 ?h2]
  · cases l.all opV with
    | false => simp
    | true => simp only [if_true, bindC_go, inRange_eq, Option.bind_some, batchI, Bool.and_true]
  case h0 => exact ⟨rfl, rfl⟩
  · rintro k s hk ⟨rfl, he⟩
    simp only [idx_nat l k hk, Option.bind_some, impl_opOk_eq]
    rw [if_pos (by simpa using hk), wrap_ok (n := (k : Int) + 1) (by omega) (by omega), he, List.drop_eq_getElem_cons hk, List.all_cons]
    cases hc : opV l[k] with
    | false => right; rfl
    | true => left; exact ⟨(k : Int) + 1, rfl, by omega, by simp⟩
  · rintro s ⟨rfl, he⟩
    rw [he, List.drop_length]
    simp

/-- is there a later op with this key -/
def laterV (l : List Op) (k : Nat) (key : List UInt8) : Bool := (l.drop (k + 1)).any fun x => decide (x.Key = key)
theorem contains_eq (s : List Op) (c : Op) (h : s.length ≤ 1048576) : slices_ContainsFunc_6733_at_impl_Eng_engPut_1 s c = some (s.any fun x => decide (x.Key = c.Key)) := by
  unfold slices_ContainsFunc_6733_at_impl_Eng_engPut_1
  have key : ∃ r : Int, slices_IndexFunc_6733_at_impl_Eng_engPut_1 s c = some r ∧ decide (r ≥ 0) = s.any fun x => decide (x.Key = c.Key) := by
    unfold slices_IndexFunc_6733_at_impl_Eng_engPut_1 impl_Eng_engPut_1
    obtain ⟨r, hr, hq⟩ := loopO_total (ρ := Ctl Unit Int) (s0 := (0 : Int)) (body := fun (S1 : Int) => if (decide (S1 < ((s.length : Nat) : Int))) = true then ((idx s S1).bind fun E6 =>
      (some (decide (E6.Key = c.Key))).bind fun R8 =>
      if R8 = true then (some (.done (.done S1)))
      else (some (.go (IntKind.i64.wrap (S1 + (1 : Int))))))
      else (some (.done (.go ()))))
      (fun k t => t = (k : Int) ∧ (s.any fun x => decide (x.Key = c.Key)) = (s.drop k).any fun x => decide (x.Key = c.Key)) s.length
      (fun r => (∃ i : Nat, r = .done (i : Int) ∧ (s.any fun x => decide (x.Key = c.Key)) = true) ∨ (r = .go () ∧ (s.any fun x => decide (x.Key = c.Key)) = false))
      ⟨rfl, rfl⟩ (by
        rintro k t hk ⟨rfl, he⟩
        rw [List.drop_eq_getElem_cons hk, List.any_cons] at he
        simp only [idx_nat s k hk, Option.bind_some]
        rw [if_pos (by simpa using hk), wrap_ok (n := (k : Int) + 1) (by omega) (by omega)]
        cases hc : decide (s[k].Key = c.Key) with
        | true =>
          right
          rw [hc] at he
          exact ⟨_, rfl, .inl ⟨k, rfl, he⟩⟩
        | false =>
          left
          rw [hc] at he
          exact ⟨(k : Int) + 1, rfl, by omega, he⟩) (by
        rintro t ⟨rfl, he⟩
        rw [List.drop_length] at he
        exact ⟨.go (), by simp, .inr ⟨rfl, he⟩⟩)
    rw [hr]
    rcases hq with ⟨i, rfl, h2⟩ | ⟨rfl, h2⟩
    · exact ⟨(i : Int), rfl, by rw [h2]; simp⟩
    · exact ⟨-1, rfl, by rw [h2]; rfl⟩
  obtain ⟨r, hr, h2⟩ := key
  rw [hr]
  simp only [Option.bind_some, h2]
theorem last_loop {ρ : Type} (l : List Op) (k : Nat) (hk : k < l.length) (h : l.length ≤ 1048576) :
    loopO (ρ := Ctl Bool ρ) (fun (S23 : Bool × Int) => if (decide (S23.2 < ((l.length : Nat) : Int))) = true then ((if S23.1 = true then ((idx l S23.2).bind fun E31 =>
  (idx l (k : Int)).bind fun E33 =>
  some (!(decide (E31.Key = E33.Key))))
  else (some false)).bind (fun (T28 : Bool) =>
  some (.go (T28, IntKind.i64.wrap (S23.2 + (1 : Int))))))
  else (some (.done (.go S23.1))))
  (true, IntKind.i64.wrap ((k : Int) + (1 : Int))) = some (.go (!laterV l k l[k].Key)) := by
  rw [loopO_count (fun d => (!(((l.drop (k + 1)).take d).any fun x => decide (x.Key = l[k].Key)), ((k + 1 + d : Nat) : Int))) (l.length - (k + 1)) (r := Ctl.go (!laterV l k l[k].Key)) ?h0]
  case h0 => rw [wrap_ok (by omega) (by omega)]; simp
  · intro d hd
    have hkd : k + 1 + d < l.length := by omega
    have hdd : d < (l.drop (k + 1)).length := by simp; omega
    have ht : (l.drop (k + 1)).take (d + 1) = (l.drop (k + 1)).take d ++ [l[k + 1 + d]] := by
      rw [List.take_add_one, List.getElem?_eq_getElem hdd, List.getElem_drop]; rfl
    simp only [idx_nat l _ hkd, idx_nat l k hk, Option.bind_some, ht, List.any_append, List.any_cons, List.any_nil, Bool.or_false]
    rw [if_pos (by simp only [decide_eq_true_eq]; omega), wrap_ok (by omega) (by omega)]
    cases ((l.drop (k + 1)).take d).any fun x => decide (x.Key = l[k].Key) with
    | false => simp; omega
    | true => simp; omega
  · rw [show k + 1 + (l.length - (k + 1)) = l.length by omega, List.take_of_length_le (by simp)]
    simp [laterV]
/-- the entry of an op -/
def entO (o : Op) (seq : Int) : Ent := { Key := o.Key, Seq := seq, Del := o.Del, Val := o.Val }
/-- the entries in hand behind the first k ops -/
noncomputable def memB (l : List Op) (seq : Int) (m : List Ent) : Nat → List Ent
  | 0 => m
  | k + 1 => match l[k]? with
    | some o => bif laterV l k o.Key then memB l seq m k else (spec_l9Put (memB l seq m k) (entO o seq)).getD []
    | none => memB l seq m k
theorem memB_later (l : List Op) (seq : Int) (m : List Ent) (k : Nat) (hk : k < l.length) (h : laterV l k l[k].Key = true) : memB l seq m (k + 1) = memB l seq m k := by
  show (match l[k]? with | some o => _ | none => _) = _
  rw [List.getElem?_eq_getElem hk]
  simp only [h, cond_true]
theorem memB_put (l : List Op) (seq : Int) (m : List Ent) (k : Nat) (hk : k < l.length) (h : laterV l k l[k].Key = false) : memB l seq m (k + 1) = (spec_l9Put (memB l seq m k) (entO l[k] seq)).getD [] := by
  show (match l[k]? with | some o => _ | none => _) = _
  rw [List.getElem?_eq_getElem hk]
  simp only [h, cond_false]
def invB (l : List Op) (seq : Int) (m : List Ent) (k : Nat) (x : Ent) : Prop := x ∈ m ∨ ∃ i, ∃ hi : i < l.length, i < k ∧ laterV l i l[i].Key = false ∧ x = entO l[i] seq
theorem memB_new (l : List Op) (seq : Int) (m M : List Ent) (k : Nat) (hk : k < l.length) (hs : ∀ x ∈ m, x.Seq < seq) (hM : ∀ x ∈ M, invB l seq m k x) : ∀ x ∈ M, ¬ (x.Key = (entO l[k] seq).Key ∧ x.Seq = (entO l[k] seq).Seq) := by
  rintro x hx ⟨h1, h2⟩
  rcases hM x hx with h | ⟨i, hi, hik, hla, rfl⟩
  · have := hs x h
    have h3 : x.Seq = seq := h2
    omega
  · unfold laterV at hla
    rw [List.any_eq_false] at hla
    have hm : l[k] ∈ l.drop (i + 1) := by
      have : (l.drop (i + 1))[k - (i + 1)]'(by simp; omega) = l[k] := by
        rw [List.getElem_drop]
        congr 1
        omega
      rw [← this]
      exact List.getElem_mem _
    refine hla _ hm ?_
    have h3 : l[i].Key = l[k].Key := h1
    rw [h3]
    simp
theorem memB_step (l : List Op) (seq : Int) (m : List Ent) (hm : ordE m) (hs : ∀ x ∈ m, x.Seq < seq) (hl : m.length + l.length ≤ 1048576) : ∀ k, k ≤ l.length → ordE (memB l seq m k) ∧ (memB l seq m k).length ≤ m.length + k ∧ (∀ x ∈ memB l seq m k, invB l seq m k x) ∧ (∀ x ∈ m, x ∈ memB l seq m k) := by
  intro k
  induction k with
  | zero => intro _; exact ⟨hm, Nat.le_refl _, fun x hx => .inl hx, fun x hx => hx⟩
  | succ k ih =>
    intro hk
    obtain ⟨i1, i2, i3, i4⟩ := ih (by omega)
    have hk' : k < l.length := by omega
    cases hla : laterV l k l[k].Key with
    | true =>
      rw [memB_later l seq m k hk' hla]
      refine ⟨i1, by omega, fun x hx => ?_, i4⟩
      rcases i3 x hx with h | ⟨i, hi, hik, h⟩
      · exact .inl h
      · exact .inr ⟨i, hi, by omega, h⟩
    | false =>
      obtain ⟨j, hj, _, h2, h3⟩ := put_both (memB l seq m k) (entO l[k] seq) i1 (by omega) (memB_new l seq m _ k hk' hs i3)
      rw [memB_put l seq m k hk' hla, h2]
      refine ⟨h3, ?_, fun x hx => ?_, fun x hx => ?_⟩
      · rw [Option.getD_some, insE_len _ _ _ hj]; omega
      · rcases insE_mem.1 hx with rfl | hx
        · exact .inr ⟨k, hk', by omega, hla, rfl⟩
        · rcases i3 x hx with h | ⟨i, hi, hik, h⟩
          · exact .inl h
          · exact .inr ⟨i, hi, by omega, h⟩
      · exact insE_mem.2 (.inr (i4 x hx))
theorem memB_both (l : List Op) (seq : Int) (m : List Ent) (hm : ordE m) (hs : ∀ x ∈ m, x.Seq < seq) (hl : m.length + l.length ≤ 1048576) (k : Nat) (hk : k < l.length) (hla : laterV l k l[k].Key = false) :
    impl_put (memB l seq m k) (entO l[k] seq) = some (memB l seq m (k + 1), true) ∧ spec_l9Put (memB l seq m k) (entO l[k] seq) = some (memB l seq m (k + 1)) := by
  obtain ⟨i1, i2, i3, _⟩ := memB_step l seq m hm hs hl k (by omega)
  obtain ⟨j, hj, h1, h2, _⟩ := put_both (memB l seq m k) (entO l[k] seq) i1 (by omega) (memB_new l seq m _ k hk hs i3)
  rw [memB_put l seq m k hk hla, h1, h2]
  exact ⟨rfl, rfl⟩
theorem rangeV_bounds (m : Int) : ∀ (l : List Ent) (s : Int × Int), (m ≤ (l.foldl (fun s e => (goMin s.1 e.Seq, goMax s.2 e.Seq)) s).1 ↔ m ≤ s.1 ∧ ∀ x ∈ l, m ≤ x.Seq) ∧ ((l.foldl (fun s e => (goMin s.1 e.Seq, goMax s.2 e.Seq)) s).2 ≤ m ↔ s.2 ≤ m ∧ ∀ x ∈ l, x.Seq ≤ m)
  | [], s => by simp
  | e :: l, s => by
    obtain ⟨h1, h2⟩ := rangeV_bounds m l (goMin s.1 e.Seq, goMax s.2 e.Seq)
    simp only [List.foldl_cons]
    rw [h1, h2]
    have e1 : m ≤ goMin s.1 e.Seq ↔ m ≤ s.1 ∧ m ≤ e.Seq := by unfold goMin; split <;> omega
    have e2 : goMax s.2 e.Seq ≤ m ↔ s.2 ≤ m ∧ e.Seq ≤ m := by unfold goMax; split <;> omega
    rw [e1, e2]
    exact ⟨by simp only [List.mem_cons, forall_eq_or_imp, and_assoc], by simp only [List.mem_cons, forall_eq_or_imp, and_assoc]⟩
theorem rangeV_lo (l : List Ent) (m : Int) : m ≤ (rangeV l).1 ↔ m ≤ 1000001 ∧ ∀ x ∈ l, m ≤ x.Seq := (rangeV_bounds m l _).1
theorem rangeV_hi (l : List Ent) (m : Int) : (rangeV l).2 ≤ m ↔ -1 ≤ m ∧ ∀ x ∈ l, x.Seq ≤ m := (rangeV_bounds m l _).2
theorem tabsV_up {seq seq' low low' : Int} (h1 : low ≤ low' ∨ seq < low') (h2 : seq ≤ seq') : ∀ t : List (List Ent), tabsV seq low t = true → tabsV seq' low' t = true := by
  have go : ∀ (t : List (List Ent)) (low : Int), tabsV seq low t = true → tabsV seq' low t = true := by
    intro t
    induction t with
    | nil => intro _ _; rfl
    | cons x t ih =>
      intro low h
      simp only [tabsV, Bool.and_eq_true, decide_eq_true_eq] at h ⊢
      exact ⟨⟨h.1.1, h.1.2.1, h.1.2.2.1, by omega⟩, ih _ h.2⟩
  intro t h
  cases t with
  | nil => rfl
  | cons x t =>
    simp only [tabsV, Bool.and_eq_true, decide_eq_true_eq] at h ⊢
    exact ⟨⟨h.1.1, h.1.2.1, by omega, by omega⟩, go _ _ h.2⟩
theorem snapsV_up {seq seq' : Int} {l : List Int} (h2 : seq ≤ seq') (h : snapsV seq l = true) : snapsV seq' l = true := by
  unfold snapsV
  rw [List.all_eq_true]
  intro k hk
  have hk' : k < l.length := by simpa using hk
  obtain ⟨a, b⟩ := snaps_at h k hk'
  rw [snapP_at seq' l k hk', Bool.and_eq_true]
  refine ⟨decide_eq_true ⟨a.1, by omega⟩, ?_⟩
  by_cases h0 : 0 < k
  · rw [dif_pos h0]; exact decide_eq_true (b h0)
  · rw [dif_neg h0]
noncomputable def engB (e : Eng) (l : List Op) : Eng := { Mem := memB l (e.Seq + 1) e.Mem l.length, Tables := e.Tables, Seq := e.Seq + 1, Snaps := e.Snaps }
noncomputable def okB (e : Eng) (l : List Op) : Bool := decide (e.Seq + 1 ≤ 1000000) && (decide ((memB l (e.Seq + 1) e.Mem l.length).length ≤ 60) && decide (totalV e.Tables + (memB l (e.Seq + 1) e.Mem l.length).length ≤ 400))
theorem engV_all {e : Eng} (h : engV e = true) : (0 ≤ e.Seq ∧ e.Seq ≤ 1000000) ∧ e.Snaps.length ≤ 4 ∧ e.Tables.length ≤ 6 ∧ totalV e.Tables + e.Mem.length ≤ 400 ∧ (e.Mem.length ≤ 60 ∧ entsV e.Mem = true) ∧ (rangeV e.Mem).2 ≤ e.Seq ∧ tabsV e.Seq (rangeV e.Mem).1 e.Tables = true ∧ snapsV e.Seq e.Snaps = true := by
  unfold engV memV at h
  simp only [Bool.and_eq_true, decide_eq_true_eq] at h
  obtain ⟨⟨h1, h2, h3, h4, h5, h6, h7⟩, h8⟩ := h
  exact ⟨h1, h2, h3, h4, h5, h6, h7, h8⟩
theorem engB_mem {e : Eng} {l : List Op} (h : engV e = true) (hb : batchV l = true) : ordE e.Mem ∧ (∀ x ∈ e.Mem, x.Seq < e.Seq + 1) ∧ e.Mem.length + l.length ≤ 66 := by
  obtain ⟨h1, h2, h3, h4, h5, h6, h7, h8⟩ := engV_all h
  unfold batchV at hb
  rw [Bool.and_eq_true, decide_eq_true_eq] at hb
  refine ⟨((entsV_iff _).1 h5.2).2, fun x hx => ?_, by omega⟩
  have := ((rangeV_hi _ _).1 h6).2 x hx
  omega
theorem engB_ok {e : Eng} {l : List Op} (h : engV e = true) (hb : batchV l = true) : engV (engB e l) = okB e l := by
  obtain ⟨h1, h2, h3, h4, h5, h6, h7, h8⟩ := engV_all h
  obtain ⟨g1, g2, g3⟩ := engB_mem h hb
  obtain ⟨i1, i2, i3, i4⟩ := memB_step l (e.Seq + 1) e.Mem g1 g2 (by omega) l.length (Nat.le_refl _)
  unfold batchV at hb
  rw [Bool.and_eq_true, decide_eq_true_eq, List.all_eq_true] at hb
  unfold okB engB engV memV
  simp only
  rw [decide_eq_true h2, decide_eq_true h3, snapsV_up (by omega) h8]
  by_cases c1 : e.Seq + 1 ≤ 1000000
  · have c1' : 0 ≤ e.Seq + 1 ∧ e.Seq + 1 ≤ 1000000 := by omega
    rw [decide_eq_true c1, decide_eq_true c1']
    have hents : entsV (memB l (e.Seq + 1) e.Mem l.length) = true := by
      rw [entsV_iff]
      refine ⟨fun x hx => ?_, i1⟩
      rcases i3 x hx with hx | ⟨i, hi, _, _, rfl⟩
      · exact ((entsV_iff _).1 h5.2).1 x hx
      · have := hb.2 _ (List.getElem_mem hi)
        unfold opV at this
        rw [Bool.and_eq_true, Bool.and_eq_true] at this
        unfold entV entO
        simp only
        rw [this.1, this.2.1, this.2.2, decide_eq_true c1']
        rfl
    have hhi : (rangeV (memB l (e.Seq + 1) e.Mem l.length)).2 ≤ e.Seq + 1 := by
      rw [rangeV_hi]
      refine ⟨by omega, fun x hx => ?_⟩
      rcases i3 x hx with hx | ⟨i, hi, _, _, rfl⟩
      · have := g2 x hx; omega
      · exact Int.le_refl _
    have hlo : (rangeV e.Mem).1 ≤ (rangeV (memB l (e.Seq + 1) e.Mem l.length)).1 ∨ e.Seq < (rangeV (memB l (e.Seq + 1) e.Mem l.length)).1 := by
      by_cases c : (rangeV e.Mem).1 ≤ e.Seq + 1
      · left
        rw [rangeV_lo]
        have := (rangeV_lo e.Mem (rangeV e.Mem).1).1 (Int.le_refl _)
        refine ⟨this.1, fun x hx => ?_⟩
        rcases i3 x hx with hx | ⟨i, hi, _, _, rfl⟩
        · exact this.2 x hx
        · exact c
      · right
        have : e.Seq + 1 ≤ (rangeV (memB l (e.Seq + 1) e.Mem l.length)).1 := by
          rw [rangeV_lo]
          have h9 := (rangeV_lo e.Mem (rangeV e.Mem).1).1 (Int.le_refl _)
          refine ⟨by omega, fun x hx => ?_⟩
          rcases i3 x hx with hx | ⟨i, hi, _, _, rfl⟩
          · have := h9.2 x hx; omega
          · exact Int.le_refl _
        omega
    rw [hents, decide_eq_true hhi, tabsV_up hlo (by omega) _ h7]
    cases decide ((memB l (e.Seq + 1) e.Mem l.length).length ≤ 60) <;> cases decide (totalV e.Tables + (memB l (e.Seq + 1) e.Mem l.length).length ≤ 400) <;> rfl
  · have c1' : ¬ (0 ≤ e.Seq + 1 ∧ e.Seq + 1 ≤ 1000000) := by omega
    rw [decide_eq_false c1, decide_eq_false c1']
    rfl
noncomputable def putR (e : Eng) (l : List Op) : Eng × Bool := bif engV e then (bif batchV l then (bif okB e l then (engB e l, true) else (e, false)) else (e, false)) else ({ Mem := [], Tables := [], Seq := 0, Snaps := [] }, false)
theorem spec_EngPut_eq (e : Eng) (l : List Op) (h1 : e.Mem.length ≤ 1048576) (h2 : e.Tables.length ≤ 1048576) (h3 : totalV e.Tables ≤ 1048576) (h4 : e.Snaps.length ≤ 1048576) (h5 : l.length ≤ 1048576) : spec_EngPut e l = some (putR e l) := by
  have hlen : ∀ t ∈ e.Tables, t.length ≤ 1048576 := fun t ht => Nat.le_trans (sum_mem List.length ht) h3
  unfold spec_EngPut putR
  rw [spec_EngOk_eq e h1 h2 h3 h4]
  cases hv : engV e with
  | false => rfl
  | true =>
    simp only [Option.bind_some, Bool.not_true, Bool.false_eq_true, if_false, spec_l20Copy_eq e h1 h2 hlen h4, cond_true, spec_BatchOk_eq l h5]
    cases hb : batchV l with
    | false => rfl
    | true =>
      have hseq := (engV_all hv).1
      obtain ⟨g1, g2, g3⟩ := engB_mem hv hb
      have hw : IntKind.i64.wrap (e.Seq + (1 : Int)) = e.Seq + 1 := wrap_ok (by omega) (by omega)
      obtain ⟨i1, i2, i3, i4⟩ := memB_step l (e.Seq + 1) e.Mem g1 g2 (by omega) l.length (Nat.le_refl _)
      simp only [Bool.not_true, Bool.false_eq_true, if_false, cond_true, hw]
      rw [loopO_count (fun k => ((k : Int), memB l (e.Seq + 1) e.Mem k)) l.length (r := Ctl.go (memB l (e.Seq + 1) e.Mem l.length)) ?h0]
      case h0 => rfl
      · simp only [bindC_go]
        have hx := spec_EngOk_eq (engB e l) (by show (memB l (e.Seq + 1) e.Mem l.length).length ≤ _; omega) h2 h3 h4
        rw [engB_ok hv hb] at hx
        unfold engB at hx ⊢
        rw [hx]
        cases okB e l <;> rfl
      · intro k hk
        rw [if_pos (by simpa using hk), last_loop l k hk h5]
        simp only [bindC_go, idx_nat l k hk, Option.bind_some]
        rw [wrap_ok (n := (k : Int) + 1) (by omega) (by omega)]
        cases hla : laterV l k l[k].Key with
        | true =>
          rw [memB_later l _ _ k hk hla]
          rfl
        | false =>
          have hp := (memB_both l (e.Seq + 1) e.Mem g1 g2 (by omega) k hk hla).2
          unfold entO at hp
          simp only [Bool.not_false, if_true, hp, Option.bind_some, bindC_go]
          rfl
      · simp
theorem impl_engPut_eq (e : Eng) (l : List Op) (hv : engV e = true) (hb : batchV l = true) : impl_Eng_engPut e l = some (okB e l, engB e l) := by
  obtain ⟨hseq, s2, s3, s4, s5, _⟩ := engV_all hv
  obtain ⟨g1, g2, g3⟩ := engB_mem hv hb
  have hw : IntKind.i64.wrap (e.Seq + (1 : Int)) = e.Seq + 1 := wrap_ok (by omega) (by omega)
  obtain ⟨i1, i2, i3, i4⟩ := memB_step l (e.Seq + 1) e.Mem g1 g2 (by omega) l.length (Nat.le_refl _)
  unfold impl_Eng_engPut
  simp only [hw]
  rw [loopO_count (fun k => (true, (k : Int), memB l (e.Seq + 1) e.Mem k)) l.length (r := Ctl.go (true, memB l (e.Seq + 1) e.Mem l.length)) ?h0]
  case h0 => rfl
  · simp only [bindC_go, if_true, impl_totalOf_eq e.Tables (by omega) (by omega), Option.bind_some]
    rw [wrap_ok (by omega) (by omega)]
    unfold okB engB
    have d1 : decide ((((memB l (e.Seq + 1) e.Mem l.length).length : Nat) : Int) ≤ 60) = decide ((memB l (e.Seq + 1) e.Mem l.length).length ≤ 60) := decide_eq_decide.2 (by omega)
    have d2 : decide ((totalV e.Tables : Int) + (((memB l (e.Seq + 1) e.Mem l.length).length : Nat) : Int) ≤ 400) = decide (totalV e.Tables + (memB l (e.Seq + 1) e.Mem l.length).length ≤ 400) := decide_eq_decide.2 (by omega)
    rw [d1, d2]
    cases decide (e.Seq + 1 ≤ 1000000) <;> cases decide ((memB l (e.Seq + 1) e.Mem l.length).length ≤ 60) <;> cases decide (totalV e.Tables + (memB l (e.Seq + 1) e.Mem l.length).length ≤ 400) <;> rfl
  · intro k hk
    have hpc : piece l (IntKind.i64.wrap ((k : Int) + (1 : Int))) ((l.length : Nat) : Int) = some (l.drop (k + 1)) := by
      rw [wrap_ok (by omega) (by omega), piece_nat l (k + 1) l.length _ _ (by omega) rfl (by omega) (Nat.le_refl _), List.take_of_length_le (by simp)]
    simp only [idx_nat l k hk, Option.bind_some, hpc, contains_eq _ l[k] (by simp; omega : (l.drop (k + 1)).length ≤ 1048576)]
    rw [if_pos (by simpa using hk), wrap_ok (n := (k : Int) + 1) (by omega) (by omega)]
    have hlv : ((l.drop (k + 1)).any fun x => decide (x.Key = l[k].Key)) = laterV l k l[k].Key := rfl
    rw [hlv]
    cases hla : laterV l k l[k].Key with
    | true =>
      rw [memB_later l _ _ k hk hla]
      rfl
    | false =>
      have hp := (memB_both l (e.Seq + 1) e.Mem g1 g2 (by omega) k hk hla).1
      unfold entO at hp
      simp only [Bool.not_false, if_true, hp, Option.bind_some, bindC_go]
      rfl
  · simp
theorem impl_EngPut_eq (e : Eng) (l : List Op) (h1 : e.Mem.length ≤ 1048576) (h2 : e.Tables.length ≤ 1048576) (h3 : totalV e.Tables ≤ 1048576) (h4 : e.Snaps.length ≤ 1048576) (h5 : l.length ≤ 1048576) : impl_EngPut e l = some (putR e l) := by
  have hlen : ∀ t ∈ e.Tables, t.length ≤ 1048576 := fun t ht => Nat.le_trans (sum_mem List.length ht) h3
  unfold impl_EngPut putR
  rw [impl_EngOk_eq e h1 h2 h3 h4]
  cases hv : engV e with
  | false => rfl
  | true =>
    simp only [Option.bind_some, Bool.not_true, Bool.false_eq_true, if_false, impl_copyEng_eq e h1 h2 hlen h4, cond_true, impl_BatchOk_eq l h5]
    cases hb : batchV l with
    | false => rfl
    | true =>
      simp only [Bool.not_true, Bool.false_eq_true, if_false, cond_true, impl_engPut_eq e l hv hb, Option.bind_some]
      cases okB e l <;> rfl
theorem putR_bound (e : Eng) (l : List Op) (h1 : e.Mem.length ≤ 1048576) (h2 : e.Tables.length ≤ 1048576) (h3 : ∀ t ∈ e.Tables, t.length ≤ 1048576) (h4 : e.Snaps.length ≤ 1048576) : cntS_Eng (putR e l).1 ≤ 4398063288320 ∧ bnd_Eng (putR e l).1 := by
  have h3' : ∀ t ∈ e.Tables, t.length ≤ 1048577 := fun t ht => Nat.le_succ_of_le (h3 t ht)
  have he := eng_cnt e (by omega) (by omega) h3' (by omega)
  unfold putR
  cases hv : engV e
  · exact eng_cnt _ (by simp) (by simp) (by simp) (by simp)
  · cases hb : batchV l
    · exact he
    · cases hok : okB e l
      · exact he
      · simp only [cond_true]
        rw [← engB_ok hv hb] at hok
        have hm := (engV_all hok).2.2.2.2.1.1
        exact eng_cnt _ (by omega) (by show e.Tables.length ≤ _; omega) h3' (by show e.Snaps.length ≤ _; omega)
theorem FnExactEngPut_pure (a : Eng) (l : List Op) (h : Dec.ok a) (ho : okl l) : laws_FnExactEngPut a l = some true := by
  unfold laws_FnExactEngPut
  rw [sz_Eng a 1048576 (by omega) (by omega) h]
  simp only [Option.bind_some]
  by_cases hl : szV 1048576 (wgt_Eng a) < 0
  · rw [if_pos (by simpa using hl)]
  · have hn := szV_nonneg hl
    have hw : wgt_Eng a ≤ 1048576 := by omega
    obtain ⟨h1, h2, h3, h4⟩ := eng_lens a hw
    have hlen : ∀ t ∈ a.Tables, t.length ≤ 1048576 := fun t ht => Nat.le_trans (sum_mem List.length ht) h3
    have hb0 : szV 1048576 (wgt_Eng a) ≤ 1048576 := (szV_le (by omega) (by omega)).2
    rw [if_neg (by simpa using hl), sz_OpS l _ (by omega) hb0 ho]
    simp only [Option.bind_some]
    by_cases hl2 : szV (szV 1048576 (wgt_Eng a)) (wS wgt_Op l) < 0
    · rw [if_pos (by simpa using hl2)]
    · have hn2 := szV_nonneg hl2
      have hw2 : wS wgt_Op l ≤ 1048576 := by omega
      have h5 := wS_len hw2
      obtain ⟨b1, b2⟩ := putR_bound a l h1 h2 hlen h4
      obtain ⟨b3, _⟩ := eng_cnt a (by omega) (by omega) (fun t ht => Nat.le_succ_of_le (hlen t ht)) (by omega)
      have hb := bnd_of_Eng a hw
      rw [if_neg (by simpa using hl2), to_Eng a hw, to_OpS l h5]
      simp only [Option.bind_some, spec_EngPut_eq a l h1 h2 h3 h4 h5, impl_EngPut_eq a l h1 h2 h3 h4 h5]
      generalize putR a l = r at b1 b2
      obtain ⟨x, b⟩ := r
      simp only at b1 b2
      have c1 : (l.map cnt_Op).sum ≤ 4 * l.length := sum_le cnt_Op 4 fun _ _ => Nat.le_of_ble_eq_true rfl
      simp only [eq_Eng x x b2, eq_Eng a a hb, eq_OpS l l (by omega), mark_Eng a 1 (by omega) (by omega) hb, mark_OpS l (1 + ((cntS_Eng a : Nat) : Int)) (by omega) (by omega) (by omega), mark_Eng x 1 (by omega) (by omega) b2, held_Eng x 1 (by omega) (by omega) b2, Option.bind_some]
      generalize (l.map cnt_Op).sum = m3 at c1
      generalize cntS_Eng x = m1
      generalize cntS_Eng a = m2
      have n1 : ¬ (1 + (m1 : Int) < 0) := by omega
      have n2 : ¬ (1 + (m2 : Int) + (m3 : Int) < 0) := by omega
      simp [n1, n2]
theorem FnExactEngPut_proved : Rows.FnExactEngPutSaid := FnExactEngPut_over fun a l h ho => FnExactEngPut_pure a l h ho

end Go.Proofs.Ytfanigbmjmiidaa
