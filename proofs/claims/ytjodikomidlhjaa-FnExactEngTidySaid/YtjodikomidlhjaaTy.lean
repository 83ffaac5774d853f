/-
  The plain laws: what the pure functions come to, and the statements. Conditions: none.
-/
import Derived.Test.YtjodikomidlhjaaPm
import Derived.Test.YtjodikomidlhjaaT5
set_option linter.unusedVariables false
set_option linter.unusedSimpArgs false
namespace Go.Proofs.Ytjodikomidlhjaa
open Go Sl

theorem inRange_eq (n a b : Int) : impl_inRange n a b = some (decide (a ≤ n ∧ n ≤ b)) := by
  unfold impl_inRange
  by_cases h : n ≥ a <;> simp [h]
theorem l1In_eq (n a b : Int) : spec_l1In n a b = some (decide (a ≤ n ∧ n ≤ b)) := by
  unfold spec_l1In
  by_cases h : n ≥ a <;> simp [h]
/-! ### SpaceOk -/
theorem markText_loop (m : Nat) : ∀ s : List UInt8, s.length + m ≤ 9223372036854775806 → ∃ r : List UInt8, loopO (ρ := Ctl (List UInt8) (List UInt8)) (fun (S2 : Int × List UInt8) => if (decide (S2.1 > (0 : Int))) = true then ((cat ([toU8 (IntKind.i64.wrap ((48 : Int) + (Int.tmod S2.1 (10 : Int))))]) S2.2).bind fun E8 =>
  some (.go (IntKind.i64.wrap (Int.tdiv S2.1 (10 : Int)), E8)))
  else (some (.done (.go S2.2)))) ((m : Int), s) = some (.go r) ∧ r.length ≤ s.length + m := by
  induction m using Nat.strongRecOn with
  | _ m ih =>
    intro s hs
    rw [loopO_eq]
    by_cases h0 : m = 0
    · subst h0
      exact ⟨s, by simp, by omega⟩
    · simp only
      rw [if_pos (by simp; omega), cat_ok (by simp; omega)]
      have hd : Int.tdiv (m : Int) 10 = ((m / 10 : Nat) : Int) := rfl
      rw [hd, wrap_ok (n := ((m / 10 : Nat) : Int)) (by omega) (by omega)]
      simp only [Option.bind_some]
      obtain ⟨r, hr, hl⟩ := ih (m / 10) (by omega) ([toU8 (IntKind.i64.wrap ((48 : Int) + (Int.tmod (m : Int) (10 : Int))))] ++ s) (by simp; omega)
      exact ⟨r, hr, by simp at hl; omega⟩
theorem markText_some (k : Int) (h : k ≤ 9223372036854775800) : ∃ t, laws_markText k = some t := by
  unfold laws_markText
  by_cases h0 : k ≤ 0
  · exact ⟨_, by rw [if_pos (by simpa using h0)]⟩
  · rw [if_neg (by simpa using h0)]
    obtain ⟨r, hr, hl⟩ := markText_loop k.toNat [] (by simp; omega)
    rw [show ((k.toNat : Nat) : Int) = k by omega] at hr
    refine ⟨[109] ++ r, ?_⟩
    rw [hr]
    simp only [bindC_go]
    rw [cat_ok (by simp at hl ⊢; omega)]
    rfl
noncomputable def markT (k : Int) : List UInt8 := (laws_markText k).getD []
theorem markText_eq (k : Int) (h : k ≤ 9223372036854775800) : laws_markText k = some (markT k) := by
  obtain ⟨t, ht⟩ := markText_some k h
  unfold markT; rw [ht]; rfl
def wgt_Ent (x : Ent) : Nat := x.Key.length + (x.Val.length + 0)
theorem sz_Ent (x : Ent) (left : Int) (h1 : 0 ≤ left) (h2 : left ≤ 1048576) (h : Dec.ok x) : laws_szEnt x left = some (szV left (wgt_Ent x)) := by
  unfold laws_szEnt
  show _ = some (szV left (x.Key.length + (x.Val.length + 0)))
  refine sz_str h1 h2 (h.1) fun hle0 hw0 => ?_
  simp only [hw0]
  have g1_0 : 0 ≤ left - ((x.Key.length : Nat) : Int) := by omega
  have g2_0 : left - ((x.Key.length : Nat) : Int) ≤ 1048576 := by omega
  refine sz_str g1_0 g2_0 (h.2.2.2) fun hle1 hw1 => ?_
  simp only [hw1]
  have g1_1 : 0 ≤ left - ((x.Key.length : Nat) : Int) - ((x.Val.length : Nat) : Int) := by omega
  have g2_1 : left - ((x.Key.length : Nat) : Int) - ((x.Val.length : Nat) : Int) ≤ 1048576 := by omega
  exact sz_end g1_1
theorem eq_Ent (a b : Ent) : laws_eqEnt a b = some (decide (a = b)) := by
  have he : (a = b) ↔ (a.Key = b.Key ∧ a.Seq = b.Seq ∧ a.Del = b.Del ∧ a.Val = b.Val ∧ True) := ⟨fun e => by subst e; simp, fun h => by cases a; cases b; simp_all⟩
  rw [decide_eq_decide.2 he]
  unfold laws_eqEnt
  refine eq_step fun _ => ?_
  refine eq_step fun _ => ?_
  refine eq_step fun _ => ?_
  refine eq_step fun _ => ?_
  exact eq_end
theorem sz_EntS (a : List Ent) (left : Int) (h1 : 0 ≤ left) (h2 : left ≤ 1048576) (h : okl a) : laws_szEntS a left = some (szV left (wS wgt_Ent a)) := by
  unfold laws_szEntS
  exact szS_of a laws_szEnt wgt_Ent (fun x hx left h1 h2 => sz_Ent x left h1 h2 (h.2 x hx)) h.1 left h1 h2
theorem to_EntS (a : List Ent) (h : a.length ≤ 1048576) : laws_toEntS a = some a := by
  unfold laws_toEntS
  rw [mkLen_ok (by omega) (by omega)]
  simp only [Option.bind_some]
  rw [to_loop a _ laws_toEnt (fun x _ => rfl) (by omega)]
  rfl
theorem eq_EntS (a b : List Ent) (h : a.length ≤ 4611686018427387904) : laws_eqEntS a b = some (decide (a = b)) :=
  eqS_of a b laws_eqEnt (fun x y _ _ => eq_Ent x y) h
def cnt_Ent (_ : Ent) : Nat := 4
noncomputable def mk_Ent (q : Int) (_ : Ent) : Ent := { Key := markT (q), Seq := q + 1, Del := decide (Int.tmod (q + 1 + 1) 3 = 0), Val := markT (q + 1 + 1 + 1) : Ent }
theorem mark_EntS (a : List Ent) (k : Int) (h1 : 1 ≤ k) (h2 : k + ((a.map cnt_Ent).sum : Nat) ≤ 4611686018427387904) (h : a.length ≤ 4611686018427387904) : laws_markEntS a k = some (k + ((a.map cnt_Ent).sum : Nat), mkL mk_Ent cnt_Ent k a) := by
  unfold laws_markEntS
  rw [markV_loop mk_Ent cnt_Ent a k h1 h2 h ?hb ?hd]
  case hb =>
    intro q i l x hi hx h3 h4 hl hil
    have hc : ((cnt_Ent x : Nat) : Int) = 4 := rfl
    rw [hc] at h4
    have wi : IntKind.i64.wrap ((i : Int) + 1) = (i : Int) + 1 := wrap_ok (by omega) (by omega)
    have w0 : IntKind.i64.wrap (q + 1) = q + 1 := wrap_ok (by omega) (by omega)
    have w1 : IntKind.i64.wrap (q + 1 + 1) = q + 1 + 1 := wrap_ok (by omega) (by omega)
    have w2 : IntKind.i64.wrap (q + 1 + 1 + 1) = q + 1 + 1 + 1 := wrap_ok (by omega) (by omega)
    have w3 : IntKind.i64.wrap (q + 1 + 1 + 1 + 1) = q + 1 + 1 + 1 + 1 := wrap_ok (by omega) (by omega)
    simp only [hi, Option.bind_some, wi, w0, w1, w2, w3, markText_eq (q) (by omega), markText_eq (q + 1 + 1 + 1) (by omega)]
    rw [if_pos (by simpa [hl] using hil), Int.toNat_natCast, hc]
    first | done | rfl | (congr 3 <;> omega)
  case hd => intro q l hl; simp
  rfl
theorem held_EntS (a : List Ent) (k : Int) (h1 : 1 ≤ k) (h2 : k + ((a.map cnt_Ent).sum : Nat) ≤ 4611686018427387904) (h : a.length ≤ 4611686018427387904) : laws_heldEntS (mkL mk_Ent cnt_Ent k a) k = some (k + ((a.map cnt_Ent).sum : Nat)) := by
  unfold laws_heldEntS
  rw [mkL_length, heldV_loop mk_Ent cnt_Ent a k (Ctl.go (k + ((a.map cnt_Ent).sum : Nat))) h1 h2 ?hb ?hd]
  case hb =>
    intro q i x hi hx h3 h4 hil
    have hc : ((cnt_Ent x : Nat) : Int) = 4 := rfl
    rw [hc] at h4
    have wi : IntKind.i64.wrap ((i : Int) + 1) = (i : Int) + 1 := wrap_ok (by omega) (by omega)
    have w0 : IntKind.i64.wrap (q + 1) = q + 1 := wrap_ok (by omega) (by omega)
    have w1 : IntKind.i64.wrap (q + 1 + 1) = q + 1 + 1 := wrap_ok (by omega) (by omega)
    have w2 : IntKind.i64.wrap (q + 1 + 1 + 1) = q + 1 + 1 + 1 := wrap_ok (by omega) (by omega)
    have w3 : IntKind.i64.wrap (q + 1 + 1 + 1 + 1) = q + 1 + 1 + 1 + 1 := wrap_ok (by omega) (by omega)
    simp only [hi, Option.bind_some, wi, w0, w1, w2, w3, mk_Ent, markText_eq (q) (by omega), markText_eq (q + 1 + 1 + 1) (by omega)]
    rw [if_pos (by simpa using hil), hc]
    simp
    try omega
  case hd => simp
  rfl
theorem sz_EntSS (a : List (List Ent)) (left : Int) (h1 : 0 ≤ left) (h2 : left ≤ 1048576) (h : okl a) : laws_szEntSS a left = some (szV left (wS (fun l => wS wgt_Ent l) a)) := by
  unfold laws_szEntSS
  exact szS_of a laws_szEntS (fun l => wS wgt_Ent l) (fun x hx left h1 h2 => sz_EntS x left h1 h2 (h.2 x hx)) h.1 left h1 h2
theorem to_EntSS (a : List (List Ent)) (h : wS (fun l => wS wgt_Ent l) a ≤ 1048576) : laws_toEntSS a = some a := by
  have hl := wS_len h
  unfold laws_toEntSS
  rw [mkLen_ok (by omega) (by omega)]
  simp only [Option.bind_some]
  rw [to_loop a _ laws_toEntS (fun x hx => (to_EntS x (wS_len (wS_mem h hx)))) (by omega)]
  rfl
theorem eq_EntSS (a b : List (List Ent)) (h : a.length ≤ 4611686018427387904 ∧ ∀ y ∈ a, y.length ≤ 4611686018427387904) : laws_eqEntSS a b = some (decide (a = b)) :=
  eqS_of a b laws_eqEntS (fun x y hx _ => eq_EntS x y (h.2 x hx)) h.1
theorem mark_EntSS (a : List (List Ent)) (k : Int) (h1 : 1 ≤ k) (h2 : k + ((a.map (fun l => (l.map cnt_Ent).sum)).sum : Nat) ≤ 4611686018427387904) (h : a.length ≤ 4611686018427387904 ∧ ∀ y ∈ a, y.length ≤ 4611686018427387904) : laws_markEntSS a k = some (k + ((a.map (fun l => (l.map cnt_Ent).sum)).sum : Nat), mkL (fun q l => mkL mk_Ent cnt_Ent q l) (fun l => (l.map cnt_Ent).sum) k a) := by
  unfold laws_markEntSS
  rw [markV_loop (fun q l => mkL mk_Ent cnt_Ent q l) (fun l => (l.map cnt_Ent).sum) a k h1 h2 h.1 ?hb ?hd]
  case hb =>
    intro q i l x hi hx h3 h4 hl hil
    have h5 := h.1
    have wi : IntKind.i64.wrap ((i : Int) + 1) = (i : Int) + 1 := wrap_ok (by omega) (by omega)
    simp only [hi, Option.bind_some, wi, mark_EntS x q h3 h4 (h.2 x hx)]
    rw [if_pos (by simpa [hl] using hil), Int.toNat_natCast]
  case hd => intro q l hl; simp
  rfl
theorem held_EntSS (a : List (List Ent)) (k : Int) (h1 : 1 ≤ k) (h2 : k + ((a.map (fun l => (l.map cnt_Ent).sum)).sum : Nat) ≤ 4611686018427387904) (h : a.length ≤ 4611686018427387904 ∧ ∀ y ∈ a, y.length ≤ 4611686018427387904) : laws_heldEntSS (mkL (fun q l => mkL mk_Ent cnt_Ent q l) (fun l => (l.map cnt_Ent).sum) k a) k = some (k + ((a.map (fun l => (l.map cnt_Ent).sum)).sum : Nat)) := by
  unfold laws_heldEntSS
  rw [mkL_length, heldV_loop (fun q l => mkL mk_Ent cnt_Ent q l) (fun l => (l.map cnt_Ent).sum) a k (Ctl.go (k + ((a.map (fun l => (l.map cnt_Ent).sum)).sum : Nat))) h1 h2 ?hb ?hd]
  case hb =>
    intro q i x hi hx h3 h4 hil
    have h5 := h.1
    have wi : IntKind.i64.wrap ((i : Int) + 1) = (i : Int) + 1 := wrap_ok (by omega) (by omega)
    simp only [hi, Option.bind_some, wi, held_EntS x q h3 h4 (h.2 x hx)]
    rw [if_pos (by simpa using hil), if_neg (by simp; omega)]
  case hd => simp
  rfl
theorem sz_IntS (a : List Int) (left : Int) (h1 : 0 ≤ left) (h2 : left ≤ 1048576) (h : okl a) : laws_szIntS a left = some (szV left a.length) := by
  unfold laws_szIntS
  exact sz_len h1 h2 h.1
theorem to_IntS (a : List Int) (h : a.length ≤ 1048576) : laws_toIntS a = some a := by
  have := fun z => to_loop a z (fun x => some x) (fun _ _ => rfl) (by omega)
  simp only [Option.bind_some] at this
  unfold laws_toIntS
  rw [mkLen_ok (by omega) (by omega)]
  simp only [Option.bind_some]
  rw [this]
  rfl
theorem eq_IntS (a b : List Int) (h : a.length ≤ 4611686018427387904) : laws_eqIntS a b = some (decide (a = b)) := by
  have := eqS_of a b (fun x y => some (decide (x = y))) (fun _ _ _ _ => rfl) h
  simp only [Option.bind_some] at this
  exact this
theorem mark_IntS (a : List Int) (k : Int) (h1 : 1 ≤ k) (h2 : k + ((a.map (fun _ => 1)).sum : Nat) ≤ 4611686018427387904) (h : a.length ≤ 4611686018427387904) : laws_markIntS a k = some (k + ((a.map (fun _ => 1)).sum : Nat), mkL (fun q _ => q) (fun _ => 1) k a) := by
  unfold laws_markIntS
  rw [markV_loop (fun q _ => q) (fun _ => 1) a k h1 h2 h ?hb ?hd]
  case hb =>
    intro q i l x hi hx h3 h4 hl hil
    have hc : (((fun _ => 1) x : Nat) : Int) = 1 := rfl
    rw [hc] at h4
    have wi : IntKind.i64.wrap ((i : Int) + 1) = (i : Int) + 1 := wrap_ok (by omega) (by omega)
    have w0 : IntKind.i64.wrap (q + 1) = q + 1 := wrap_ok (by omega) (by omega)
    simp only [hi, Option.bind_some, wi, w0]
    rw [if_pos (by simpa [hl] using hil), Int.toNat_natCast, hc]
    first | done | rfl | (congr 3 <;> omega)
  case hd => intro q l hl; simp
  rfl
theorem held_IntS (a : List Int) (k : Int) (h1 : 1 ≤ k) (h2 : k + ((a.map (fun _ => 1)).sum : Nat) ≤ 4611686018427387904) (h : a.length ≤ 4611686018427387904) : laws_heldIntS (mkL (fun q _ => q) (fun _ => 1) k a) k = some (k + ((a.map (fun _ => 1)).sum : Nat)) := by
  unfold laws_heldIntS
  rw [mkL_length, heldV_loop (fun q _ => q) (fun _ => 1) a k (Ctl.go (k + ((a.map (fun _ => 1)).sum : Nat))) h1 h2 ?hb ?hd]
  case hb =>
    intro q i x hi hx h3 h4 hil
    have hc : (((fun _ => 1) x : Nat) : Int) = 1 := rfl
    rw [hc] at h4
    have wi : IntKind.i64.wrap ((i : Int) + 1) = (i : Int) + 1 := wrap_ok (by omega) (by omega)
    have w0 : IntKind.i64.wrap (q + 1) = q + 1 := wrap_ok (by omega) (by omega)
    simp only [hi, Option.bind_some, wi, w0]
    rw [if_pos (by simpa using hil), hc]
    simp
    try omega
  case hd => simp
  rfl
def wgt_Eng (x : Eng) : Nat := wS wgt_Ent x.Mem + (wS (fun l => wS wgt_Ent l) x.Tables + (x.Snaps.length + 0))
theorem sz_Eng (x : Eng) (left : Int) (h1 : 0 ≤ left) (h2 : left ≤ 1048576) (h : Dec.ok x) : laws_szEng x left = some (szV left (wgt_Eng x)) := by
  unfold laws_szEng
  show _ = some (szV left (wS wgt_Ent x.Mem + (wS (fun l => wS wgt_Ent l) x.Tables + (x.Snaps.length + 0))))
  rw [sz_EntS x.Mem _ h1 h2 (h.1)]
  refine sz_call h1 fun hle0 => ?_
  have g1_0 : 0 ≤ left - ((wS wgt_Ent x.Mem : Nat) : Int) := by omega
  have g2_0 : left - ((wS wgt_Ent x.Mem : Nat) : Int) ≤ 1048576 := by omega
  rw [sz_EntSS x.Tables _ g1_0 g2_0 (h.2.1)]
  refine sz_call g1_0 fun hle1 => ?_
  have g1_1 : 0 ≤ left - ((wS wgt_Ent x.Mem : Nat) : Int) - ((wS (fun l => wS wgt_Ent l) x.Tables : Nat) : Int) := by omega
  have g2_1 : left - ((wS wgt_Ent x.Mem : Nat) : Int) - ((wS (fun l => wS wgt_Ent l) x.Tables : Nat) : Int) ≤ 1048576 := by omega
  rw [sz_IntS x.Snaps _ g1_1 g2_1 (h.2.2.2)]
  refine sz_call g1_1 fun hle2 => ?_
  have g1_2 : 0 ≤ left - ((wS wgt_Ent x.Mem : Nat) : Int) - ((wS (fun l => wS wgt_Ent l) x.Tables : Nat) : Int) - ((x.Snaps.length : Nat) : Int) := by omega
  have g2_2 : left - ((wS wgt_Ent x.Mem : Nat) : Int) - ((wS (fun l => wS wgt_Ent l) x.Tables : Nat) : Int) - ((x.Snaps.length : Nat) : Int) ≤ 1048576 := by omega
  exact sz_end g1_2
def bnd_Eng (x : Eng) : Prop := x.Mem.length ≤ 4611686018427387904 ∧ (x.Tables.length ≤ 4611686018427387904 ∧ ∀ y ∈ x.Tables, y.length ≤ 4611686018427387904) ∧ x.Snaps.length ≤ 4611686018427387904
theorem to_Eng (x : Eng) (h : wgt_Eng x ≤ 1048576) : laws_toEng x = some x := by
  unfold laws_toEng
  have h0 : wS wgt_Ent x.Mem + (wS (fun l => wS wgt_Ent l) x.Tables + (x.Snaps.length + 0)) ≤ 1048576 := h
  simp only [to_EntS x.Mem (wS_len (w := wgt_Ent) (l := x.Mem) (by omega)), to_EntSS x.Tables (by omega), to_IntS x.Snaps (by omega), Option.bind_some]
theorem bnd_of_Eng (x : Eng) (h : wgt_Eng x ≤ 1048576) : bnd_Eng x := by
  have h0 : wS wgt_Ent x.Mem + (wS (fun l => wS wgt_Ent l) x.Tables + (x.Snaps.length + 0)) ≤ 1048576 := h
  exact ⟨Nat.le_trans (wS_len (w := wgt_Ent) (n := 1048576) (by omega)) (by decide), ⟨Nat.le_trans (wS_len (w := (fun l => wS wgt_Ent l)) (l := x.Tables) (n := 1048576) (by omega)) (by decide), fun y hy => Nat.le_trans (wS_len (wS_mem (w := (fun l => wS wgt_Ent l)) (l := x.Tables) (n := 1048576) (by omega) hy)) (by decide)⟩, (show x.Snaps.length ≤ 4611686018427387904 by omega)⟩
theorem eq_Eng (a b : Eng) (h : bnd_Eng a) : laws_eqEng a b = some (decide (a = b)) := by
  have he : (a = b) ↔ (a.Mem = b.Mem ∧ a.Tables = b.Tables ∧ a.Seq = b.Seq ∧ a.Snaps = b.Snaps ∧ True) := ⟨fun e => by subst e; simp, fun h => by cases a; cases b; simp_all⟩
  rw [decide_eq_decide.2 he]
  unfold laws_eqEng
  rw [eq_EntS a.Mem b.Mem h.1]
  refine eq_call fun _ => ?_
  rw [eq_EntSS a.Tables b.Tables h.2.1]
  refine eq_call fun _ => ?_
  refine eq_step fun _ => ?_
  rw [eq_IntS a.Snaps b.Snaps h.2.2]
  refine eq_call fun _ => ?_
  exact eq_end
def cntS_Eng (x : Eng) : Nat := ((x.Mem.map cnt_Ent).sum : Nat) + ((x.Tables.map (fun l => (l.map cnt_Ent).sum)).sum : Nat) + ((x.Snaps.map (fun _ => 1)).sum : Nat)
theorem mark_Eng (x : Eng) (k : Int) (h1 : 1 ≤ k) (h2 : k + cntS_Eng x ≤ 4611686018427387904) (h : bnd_Eng x) : laws_markEng x k = some (k + cntS_Eng x, mkL mk_Ent cnt_Ent (k) x.Mem, mkL (fun q l => mkL mk_Ent cnt_Ent q l) (fun l => (l.map cnt_Ent).sum) (k + (((x.Mem.map cnt_Ent).sum : Nat) : Int)) x.Tables, mkL (fun q _ => q) (fun _ => 1) (k + (((x.Mem.map cnt_Ent).sum : Nat) : Int) + (((x.Tables.map (fun l => (l.map cnt_Ent).sum)).sum : Nat) : Int)) x.Snaps) := by
  have h3 : k + ((((x.Mem.map cnt_Ent).sum : Nat) + ((x.Tables.map (fun l => (l.map cnt_Ent).sum)).sum : Nat) + ((x.Snaps.map (fun _ => 1)).sum : Nat) : Nat) : Int) ≤ 4611686018427387904 := h2
  have e : k + ((cntS_Eng x : Nat) : Int) = k + (((x.Mem.map cnt_Ent).sum : Nat) : Int) + (((x.Tables.map (fun l => (l.map cnt_Ent).sum)).sum : Nat) : Int) + (((x.Snaps.map (fun _ => 1)).sum : Nat) : Int) := by unfold cntS_Eng; omega
  rw [e]
  unfold laws_markEng
  simp only [mark_EntS x.Mem (k) (by omega) (by omega) h.1, Option.bind_some]
  simp only [mark_EntSS x.Tables (k + (((x.Mem.map cnt_Ent).sum : Nat) : Int)) (by omega) (by omega) h.2.1, Option.bind_some]
  simp only [mark_IntS x.Snaps (k + (((x.Mem.map cnt_Ent).sum : Nat) : Int) + (((x.Tables.map (fun l => (l.map cnt_Ent).sum)).sum : Nat) : Int)) (by omega) (by omega) h.2.2, Option.bind_some]
theorem held_Eng (x : Eng) (k : Int) (h1 : 1 ≤ k) (h2 : k + cntS_Eng x ≤ 4611686018427387904) (h : bnd_Eng x) : laws_heldEng ({ Mem := mkL mk_Ent cnt_Ent (k) x.Mem, Tables := mkL (fun q l => mkL mk_Ent cnt_Ent q l) (fun l => (l.map cnt_Ent).sum) (k + (((x.Mem.map cnt_Ent).sum : Nat) : Int)) x.Tables, Seq := x.Seq, Snaps := mkL (fun q _ => q) (fun _ => 1) (k + (((x.Mem.map cnt_Ent).sum : Nat) : Int) + (((x.Tables.map (fun l => (l.map cnt_Ent).sum)).sum : Nat) : Int)) x.Snaps : Eng }) k = some (k + cntS_Eng x) := by
  have h3 : k + ((((x.Mem.map cnt_Ent).sum : Nat) + ((x.Tables.map (fun l => (l.map cnt_Ent).sum)).sum : Nat) + ((x.Snaps.map (fun _ => 1)).sum : Nat) : Nat) : Int) ≤ 4611686018427387904 := h2
  have e : k + ((cntS_Eng x : Nat) : Int) = k + (((x.Mem.map cnt_Ent).sum : Nat) : Int) + (((x.Tables.map (fun l => (l.map cnt_Ent).sum)).sum : Nat) : Int) + (((x.Snaps.map (fun _ => 1)).sum : Nat) : Int) := by unfold cntS_Eng; omega
  rw [e]
  unfold laws_heldEng
  simp only [held_EntS x.Mem (k) (by omega) (by omega) h.1, Option.bind_some]
  repeat (rw [if_neg (by simp; omega)]; try simp only [Option.bind_some])
  simp only [held_EntSS x.Tables (k + (((x.Mem.map cnt_Ent).sum : Nat) : Int)) (by omega) (by omega) h.2.1, Option.bind_some]
  repeat (rw [if_neg (by simp; omega)]; try simp only [Option.bind_some])
  simp only [held_IntS x.Snaps (k + (((x.Mem.map cnt_Ent).sum : Nat) : Int) + (((x.Tables.map (fun l => (l.map cnt_Ent).sum)).sum : Nat) : Int)) (by omega) (by omega) h.2.2, Option.bind_some]
  repeat (rw [if_neg (by simp; omega)]; try simp only [Option.bind_some])
theorem sLt_compl : ∀ a b : List UInt8, (sLt b a || decide (b = a)) = !sLt a b
  | [], [] => rfl
  | [], b :: y => by simp [sLt, Op.bytesLess]
  | a :: x, [] => by simp [sLt, Op.bytesLess]
  | a :: x, b :: y => by
    have ih := sLt_compl x y
    simp only [sLt] at ih
    simp only [sLt, Op.bytesLess]
    by_cases h1 : a < b
    · have h2 : ¬ b < a := fun h => absurd (UInt8.lt_trans h1 h) (UInt8.lt_irrefl _)
      have h3 : ¬ b = a := fun h => by subst h; exact UInt8.lt_irrefl _ h1
      simp [h1, h2, h3]
    · by_cases h2 : b < a
      · have h3 : ¬ a = b := fun h => by subst h; exact UInt8.lt_irrefl _ h2
        simp [h1, h2, h3]
      · have h3 : a = b := by
          rw [UInt8.lt_iff_toNat_lt] at h1 h2
          apply UInt8.toNat_inj.1
          omega
        subst h3
        simp only [h1, decide_false, Bool.false_or, beq_self_eq_true, Bool.true_and, List.cons.injEq, true_and]
        exact ih
theorem all_loop {body : Int → Option (Ctl Int (Ctl Unit Bool))} (pass : Nat → Bool) (n : Nat) (h : ∀ k, k < n → body (k : Int) = some (if pass k = true then .go ((k : Int) + 1) else .done (.done false))) (hn : body (n : Int) = some (.done (.go ()))) :
    loopO body 0 = some (if (List.range n).all pass = true then .go () else .done false) := by
  have key : ∀ d k, k + d = n → loopO body (k : Int) = some (if ((List.range n).drop k).all pass = true then .go () else .done false) := by
    intro d
    induction d with
    | zero =>
      intro k hk
      obtain rfl : k = n := by omega
      rw [loopO_eq, hn, List.drop_of_length_le (by simp)]
      rfl
    | succ d ih =>
      intro k hk
      have hd : (List.range n).drop k = k :: (List.range n).drop (k + 1) := by rw [List.drop_eq_getElem_cons (by simp; omega)]; simp
      rw [loopO_eq, h k (by omega), hd, List.all_cons]
      cases hp : pass k with
      | true =>
        have := ih (k + 1) (by omega)
        rw [show ((k + 1 : Nat) : Int) = (k : Int) + 1 by omega] at this
        simpa using this
      | false => simp
  have := key n 0 (by omega)
  simpa using this
theorem cmpI_eq (x y : Int) : cmp_Compare_26527 x y = some (if x < y then -1 else if x > y then 1 else 0) := by
  unfold cmp_Compare_26527 cmp_isNaN_26527
  by_cases h1 : x < y <;> by_cases h2 : x > y <;> simp [h1, h2]
theorem cmpS_eq (x y : List UInt8) : cmp_Compare_83645 x y = some (if sLt x y = true then -1 else if (!(sLt x y || decide (x = y))) = true then 1 else 0) := by
  unfold cmp_Compare_83645 cmp_isNaN_83645
  simp only [decide_true, Bool.not_true, Option.bind_some, Bool.false_eq_true, if_false]
  split
  · rfl
  · split <;> rfl
theorem sLt_trans : ∀ {a b c : List UInt8}, sLt a b = true → sLt b c = true → sLt a c = true
  | [], [], _, h, _ => by simp [sLt, Op.bytesLess] at h
  | [], _ :: _, [], _, h => by simp [sLt, Op.bytesLess] at h
  | [], _ :: _, _ :: _, _, _ => rfl
  | _ :: _, [], _, h, _ => by simp [sLt, Op.bytesLess] at h
  | _ :: _, _ :: _, [], _, h => by simp [sLt, Op.bytesLess] at h
  | x :: a, y :: b, z :: c, h1, h2 => by
    simp only [sLt, Op.bytesLess, Bool.or_eq_true, decide_eq_true_eq, Bool.and_eq_true, beq_iff_eq] at h1 h2 ⊢
    rcases h1 with h1 | ⟨rfl, h1⟩
    · rcases h2 with h2 | ⟨rfl, _⟩
      · exact .inl (UInt8.lt_trans h1 h2)
      · exact .inl h1
    · rcases h2 with h2 | ⟨rfl, h2⟩
      · exact .inl h2
      · exact .inr ⟨rfl, sLt_trans h1 h2⟩
theorem sLt_irrefl (a : List UInt8) : sLt a a = false := by
  have := sLt_compl a a
  simpa using this
/-- an entry as required -/
def entV (e : Ent) : Bool := decide (1 ≤ (e.Key.length : Int) ∧ (e.Key.length : Int) ≤ 10) && (decide (0 ≤ e.Seq ∧ e.Seq ≤ 1000000) && (decide ((e.Val.length : Int) ≤ 16) && (!e.Del || decide (e.Val = []))))
/-- one entry ahead of another -/
def entLt (a b : Ent) : Bool := sLt a.Key b.Key || (decide (a.Key = b.Key) && decide (a.Seq > b.Seq))
/-- the entry at a place, and the one ahead of it -/
def entP (l : List Ent) (k : Nat) : Bool := match l[k]? with
  | some e => entV e && (match k with | 0 => true | j + 1 => match l[j]? with | some d => entLt d e | none => true)
  | none => true
theorem entP_at (l : List Ent) (k : Nat) (h : k < l.length) : entP l k = (entV l[k] && (if h0 : 0 < k then entLt (l[k - 1]'(by omega)) l[k] else true)) := by
  unfold entP
  rw [List.getElem?_eq_getElem h]
  cases k with
  | zero => rfl
  | succ j =>
    simp only [Nat.zero_lt_succ, dif_pos, Nat.add_sub_cancel]
    rw [List.getElem?_eq_getElem (by omega)]
/-- entries in order -/
def entsV (l : List Ent) : Bool := (List.range l.length).all (entP l)
theorem spec_l9Ent_eq (e : Ent) : spec_l9Ent e = some (entV e) := by
  unfold spec_l9Ent spec_l7Op entV
  simp only [l1In_eq, Option.bind_some]
  by_cases h1 : 1 ≤ (e.Key.length : Int) ∧ (e.Key.length : Int) ≤ 10 <;> by_cases h2 : 0 ≤ e.Seq ∧ e.Seq ≤ 1000000 <;> by_cases h3 : (e.Val.length : Int) ≤ 16 <;> cases h4 : e.Del <;>
    simp only [h1, h2, h3, and_self, decide_true, decide_false, if_true, if_false, Option.bind_some, Bool.true_and, Bool.false_and, Bool.not_true, Bool.not_false, Bool.false_eq_true, Bool.true_or, Bool.false_or, Bool.and_true, Bool.and_false] <;> cases decide (e.Val = []) <;> rfl
theorem entOk_eq (e : Ent) : impl_entOk e = some (entV e) := by
  unfold impl_entOk impl_isKey impl_isNumber impl_isVal entV
  simp only [inRange_eq, Option.bind_some]
  by_cases h1 : 1 ≤ (e.Key.length : Int) ∧ (e.Key.length : Int) ≤ 10 <;> by_cases h2 : 0 ≤ e.Seq ∧ e.Seq ≤ 1000000 <;> by_cases h3 : (e.Val.length : Int) ≤ 16 <;> cases h4 : e.Del <;>
    simp only [h1, h2, h3, and_self, decide_true, decide_false, if_true, if_false, Option.bind_some, Bool.true_and, Bool.false_and, Bool.not_true, Bool.not_false, Bool.false_eq_true, Bool.true_or, Bool.false_or, Bool.and_true, Bool.and_false, Bool.not_not] <;> cases decide (e.Val = []) <;> rfl
theorem spec_l9Ahead_eq (a b : Ent) : spec_l9Ahead a b = some (entLt a b) := by
  unfold spec_l9Ahead entLt
  cases sLt a.Key b.Key <;> by_cases h : a.Key = b.Key <;> simp [h]
theorem cmpOr_eq (x y : Int) : cmp_Or_26527 [x, y] = some (if x ≠ 0 then x else y) := by
  unfold cmp_Or_26527
  by_cases hx : x = 0
  · by_cases hy : y = 0
    · rw [loopO_count (fun k => (k : Int)) 2 (r := Ctl.go ()) ?h0]
      case h0 => rfl
      · simp [hx, hy]
      · intro k hk
        have : k = 0 ∨ k = 1 := by omega
        rcases this with rfl | rfl
        · simp [idx, hx]; rfl
        · simp [idx, hy]; rfl
      · rfl
    · rw [loopO_eq]
      simp only [idx, hx]
      simp
      rw [loopO_eq]
      have : IntKind.i64.wrap 1 = 1 := by decide
      simp [this, hy]
  · rw [loopO_eq]
    simp [idx, hx]
theorem compareEnts_eq (a b : Ent) : ∃ r, impl_compareEnts a b = some r ∧ decide (r ≥ 0) = !entLt a b := by
  unfold impl_compareEnts entLt
  rw [cmpS_eq, cmpI_eq]
  simp only [Option.bind_some, cmpOr_eq]
  refine ⟨_, rfl, ?_⟩
  by_cases c : sLt a.Key b.Key = true
  · simp [c]
  · have c' : sLt a.Key b.Key = false := by simpa using c
    rw [if_neg c, c']
    by_cases c2 : a.Key = b.Key
    · rw [decide_eq_true c2]
      by_cases c3 : b.Seq < a.Seq
      · simp [c3]
      · by_cases c4 : b.Seq > a.Seq <;> simp [c3, c4]
    · rw [decide_eq_false c2]
      rfl
theorem all_loop' {body : Int → Option (Ctl Int (Ctl Unit Bool))} (pass : Nat → Bool) (n : Nat) (h : ∀ k, k < n → body (k : Int) = some (if pass k = true then .go ((k : Int) + 1) else .done (.done false))) (hn : body (n : Int) = some (.done (.go ()))) :
    bindC (loopO body 0) (fun (_ : Unit) => some true) = some ((List.range n).all pass) := by
  rw [all_loop pass n h hn]
  cases (List.range n).all pass <;> rfl
theorem spec_l9Ents_eq (l : List Ent) (h : l.length ≤ 1048576) : spec_l9Ents l = some (entsV l) := by
  unfold spec_l9Ents entsV
  refine all_loop' (entP l) l.length ?_ (by simp)
  intro k hk
  simp only [idx_nat l k hk, Option.bind_some, spec_l9Ent_eq]
  rw [if_pos (by simpa using hk), wrap_ok (n := (k : Int) + 1) (by omega) (by omega), entP_at l k hk]
  cases hf : entV l[k] with
  | false => simp
  | true =>
    by_cases h0 : 0 < k
    · have hw : IntKind.i64.wrap ((k : Int) - 1) = ((k - 1 : Nat) : Int) := by rw [wrap_ok (by omega) (by omega)]; omega
      rw [dif_pos h0, if_neg (by simp), if_pos (by simp; omega)]
      simp only [hw, idx_nat l (k - 1) (by omega), Option.bind_some, spec_l9Ahead_eq]
      cases entLt (l[k - 1]'(by omega)) l[k] <;> simp
    · have hk0 : k = 0 := by omega
      subst hk0
      simp
theorem impl_inOrder_eq (l : List Ent) (h : l.length ≤ 1048576) : impl_inOrder l = some (entsV l) := by
  unfold impl_inOrder entsV
  refine all_loop' (entP l) l.length ?_ (by simp)
  intro k hk
  simp only [idx_nat l k hk, Option.bind_some, entOk_eq]
  rw [if_pos (by simpa using hk), wrap_ok (n := (k : Int) + 1) (by omega) (by omega), entP_at l k hk]
  cases hf : entV l[k] with
  | false => simp
  | true =>
    by_cases h0 : 0 < k
    · have hw : IntKind.i64.wrap ((k : Int) - 1) = ((k - 1 : Nat) : Int) := by rw [wrap_ok (by omega) (by omega)]; omega
      obtain ⟨c, hc, hc2⟩ := compareEnts_eq (l[k - 1]'(by omega)) l[k]
      rw [dif_pos h0, if_neg (by simp), if_pos (by simp; omega)]
      simp only [hw, idx_nat l (k - 1) (by omega), Option.bind_some, hc, hc2]
      cases entLt (l[k - 1]'(by omega)) l[k] <;> simp
    · have hk0 : k = 0 := by omega
      subst hk0
      simp
/-- of two entries in order: the key is less, or the same and newer -/
theorem ents_lt {l : List Ent} (hv : entsV l = true) : ∀ (j : Nat) (hj : j < l.length) (i : Nat) (hi : i < j), sLt (l[i]'(by omega)).Key l[j].Key = true ∨ ((l[i]'(by omega)).Key = l[j].Key ∧ (l[i]'(by omega)).Seq > l[j].Seq) := by
  intro j
  induction j with
  | zero => intro _ i hi; omega
  | succ j ih =>
    intro hj i hi
    have hp : entLt (l[j]'(by omega)) l[j + 1] = true := by
      unfold entsV at hv
      rw [List.all_eq_true] at hv
      have := hv (j + 1) (by simp; omega)
      rw [entP_at l (j + 1) hj, dif_pos (by omega), Bool.and_eq_true] at this
      exact this.2
    unfold entLt at hp
    simp only [Bool.or_eq_true, Bool.and_eq_true, decide_eq_true_eq] at hp
    by_cases e : i = j
    · subst e; exact hp
    · rcases ih (by omega) i (by omega) with h1 | ⟨h1, h2⟩
      · rcases hp with h3 | ⟨h3, _⟩
        · exact .inl (sLt_trans h1 h3)
        · rw [← h3]; exact .inl h1
      · rcases hp with h3 | ⟨h3, h4⟩
        · rw [h1]; exact .inl h3
        · exact .inr ⟨h1.trans h3, by omega⟩
/-- visible at a number: no newer one of its key is -/
def visE (l : List Ent) (seq : Int) (k : Nat) : Bool := match l[k]? with
  | some e => decide (e.Seq ≤ seq) && (l.take k).all fun d => !(decide (d.Key = e.Key) && decide (d.Seq ≤ seq))
  | none => false
theorem visE_at (l : List Ent) (seq : Int) (k : Nat) (h : k < l.length) : visE l seq k = (decide (l[k].Seq ≤ seq) && (l.take k).all fun d => !(decide (d.Key = l[k].Key) && decide (d.Seq ≤ seq))) := by
  unfold visE; rw [List.getElem?_eq_getElem h]
theorem spec_l9Get_eq (l : List Ent) (key : List UInt8) (seq : Int) (h : l.length ≤ 1048576) :
    spec_l9Get l key seq = some (match l.find? (fun d => decide (d.Key = key) && decide (d.Seq ≤ seq)) with | some d => (d, true) | none => ({ Key := [], Seq := 0, Del := false, Val := [] }, false)) := by
  unfold spec_l9Get
  rw [loopO_is (fun k s => s = (k : Int) ∧ l.find? (fun d => decide (d.Key = key) && decide (d.Seq ≤ seq)) = (l.drop k).find? (fun d => decide (d.Key = key) && decide (d.Seq ≤ seq))) l.length
    (match l.find? (fun d => decide (d.Key = key) && decide (d.Seq ≤ seq)) with | some d => Ctl.done (d, true) | none => Ctl.go ()) ?h0 ?h1 ?h2]
  · cases l.find? (fun d => decide (d.Key = key) && decide (d.Seq ≤ seq)) <;> rfl
  case h0 => exact ⟨rfl, rfl⟩
  · rintro k s hk ⟨rfl, he⟩
    rw [he, List.drop_eq_getElem_cons hk]
    simp only [idx_nat l k hk, Option.bind_some]
    rw [if_pos (by simpa using hk), wrap_ok (n := (k : Int) + 1) (by omega) (by omega)]
    by_cases h1 : l[k].Key = key
    · by_cases h2 : l[k].Seq ≤ seq
      · right
        rw [List.find?_cons_of_pos (by simp [h1, h2])]
        simp [h1, h2]
      · left
        refine ⟨(k : Int) + 1, by simp [h1, h2], by omega, ?_⟩
        rw [List.find?_cons_of_neg (by simp [h2])]
    · left
      refine ⟨(k : Int) + 1, by simp [h1], by omega, ?_⟩
      rw [List.find?_cons_of_neg (by simp [h1])]
  · rintro s ⟨rfl, he⟩
    rw [he, List.drop_length]
    simp
theorem visE_find {l : List Ent} {seq : Int} {k : Nat} (hk : k < l.length) (hv : visE l seq k = true) : l.find? (fun d => decide (d.Key = l[k].Key) && decide (d.Seq ≤ seq)) = some l[k] := by
  rw [visE_at l seq k hk, Bool.and_eq_true, List.all_eq_true] at hv
  have hs : l = l.take k ++ l[k] :: l.drop (k + 1) := by rw [← List.drop_eq_getElem_cons hk, List.take_append_drop]
  have hn : (l.take k).find? (fun d => decide (d.Key = l[k].Key) && decide (d.Seq ≤ seq)) = none := by
    rw [List.find?_eq_none]
    intro d hd
    intro hq
    have := hv.2 d hd
    rw [hq] at this
    cases this
  generalize hx : l[k] = x at *
  rw [hs, List.find?_append, hn, List.find?_cons_of_pos (by simpa using hv.1)]
  rfl
theorem visE_not {l : List Ent} {seq : Int} {k : Nat} (ho : entsV l = true) (hk : k < l.length) (hv : visE l seq k = false) :
    ∀ d, l.find? (fun d => decide (d.Key = l[k].Key) && decide (d.Seq ≤ seq)) = some d → ¬ d.Seq = l[k].Seq := by
  intro d hd he
  have hp := List.find?_some hd
  simp only [Bool.and_eq_true, decide_eq_true_eq] at hp
  rw [visE_at l seq k hk, decide_eq_true (by omega), Bool.true_and] at hv
  have hex : ∃ e ∈ l.take k, e.Key = l[k].Key ∧ e.Seq ≤ seq := by
    rw [← Bool.not_eq_true, List.all_eq_true] at hv
    simp only [Classical.not_forall] at hv
    obtain ⟨e, he, h2⟩ := hv
    exact ⟨e, he, by simpa using h2⟩
  obtain ⟨e, hem, hek⟩ := hex
  have hsome : ∃ f, (l.take k).find? (fun d => decide (d.Key = l[k].Key) && decide (d.Seq ≤ seq)) = some f := by
    cases hf : (l.take k).find? (fun d => decide (d.Key = l[k].Key) && decide (d.Seq ≤ seq)) with
    | some f => exact ⟨f, rfl⟩
    | none =>
      rw [List.find?_eq_none] at hf
      exact absurd (by simp [hek.1, hek.2]) (hf e hem)
  obtain ⟨f, hf⟩ := hsome
  have hfd : f = d := by
    have hs : l = l.take k ++ l.drop k := (List.take_append_drop k l).symm
    generalize hx : l[k] = x at *
    rw [hs, List.find?_append, hf] at hd
    simpa using hd
  subst hfd
  obtain ⟨i, hi, rfl⟩ := List.getElem_of_mem (List.mem_of_find?_eq_some hf)
  have hi' : i < k := by simp at hi; omega
  simp only [List.getElem_take] at he hp
  rcases ents_lt ho k hk i hi' with h1 | ⟨_, h1⟩
  · rw [hp.1, sLt_irrefl] at h1; cases h1
  · omega
/-- the least and the greatest number -/
def rangeV (l : List Ent) : Int × Int := l.foldl (fun s e => (goMin s.1 e.Seq, goMax s.2 e.Seq)) (1000001, -1)
theorem rangeV_take (l : List Ent) (k : Nat) (h : k < l.length) : rangeV (l.take (k + 1)) = (goMin (rangeV (l.take k)).1 l[k].Seq, goMax (rangeV (l.take k)).2 l[k].Seq) := by
  unfold rangeV
  rw [show l.take (k + 1) = l.take k ++ [l[k]] by rw [List.take_add_one, List.getElem?_eq_getElem h]; rfl, List.foldl_append]
  rfl
theorem impl_seqRange_eq (l : List Ent) (h : l.length ≤ 1048576) : impl_seqRange l = some (rangeV l) := by
  unfold impl_seqRange
  rw [loopO_count (fun k => ((rangeV (l.take k)).1, (rangeV (l.take k)).2, (k : Int))) l.length (r := Ctl.go (rangeV l)) ?h0]
  case h0 => rfl
  · rfl
  · intro k hk
    simp only [idx_nat l k hk, Option.bind_some, rangeV_take l k hk]
    rw [if_pos (by simpa using hk), wrap_ok (n := (k : Int) + 1) (by omega) (by omega)]
    rfl
  · simp
theorem spec_l20Bounds_eq (l : List Ent) (h : l.length ≤ 1048576) : spec_l20Bounds l = some (rangeV l) := by
  unfold spec_l20Bounds
  rw [loopO_count (fun k => ((rangeV (l.take k)).1, (rangeV (l.take k)).2, (k : Int))) l.length (r := Ctl.go (rangeV l)) ?h0]
  case h0 => rfl
  · rfl
  · intro k hk
    simp only [idx_nat l k hk, Option.bind_some, rangeV_take l k hk]
    rw [if_pos (by simpa using hk), wrap_ok (n := (k : Int) + 1) (by omega) (by omega)]
    unfold goMin goMax
    by_cases c1 : l[k].Seq < (rangeV (l.take k)).1 <;> by_cases c2 : l[k].Seq > (rangeV (l.take k)).2 <;> simp [c1, c2]
  · simp
/-- at most so many entries, in order -/
def memV (l : List Ent) : Bool := decide (l.length ≤ 60) && entsV l
theorem spec_MemOk_eq (l : List Ent) (h : l.length ≤ 1048576) : spec_MemOk l = some (memV l) := by
  unfold spec_MemOk memV
  simp only [spec_l9Ents_eq l h, Option.bind_some]
  by_cases c : l.length ≤ 60
  · simp [c]; omega
  · simp [c]; omega
theorem impl_MemOk_eq (l : List Ent) (h : l.length ≤ 1048576) : impl_MemOk l = some (memV l) := by
  unfold impl_MemOk memV
  simp only [impl_inOrder_eq l h, Option.bind_some]
  by_cases c : l.length ≤ 60
  · simp [c]; omega
  · simp [c]; omega
/-- tables below a number, each below the one ahead of it -/
def tabsV (seq : Int) : Int → List (List Ent) → Bool
  | _, [] => true
  | low, t :: r => (decide (t ≠ []) && (entsV t && (decide ((rangeV t).2 < low) && decide ((rangeV t).2 ≤ seq)))) && tabsV seq (rangeV t).1 r
/-- snapshots in order -/
def snapP (seq : Int) (l : List Int) (k : Nat) : Bool := match l[k]? with
  | some s => decide (0 ≤ s ∧ s ≤ seq) && (match k with | 0 => true | j + 1 => match l[j]? with | some d => decide (d < s) | none => true)
  | none => true
theorem snapP_at (seq : Int) (l : List Int) (k : Nat) (h : k < l.length) : snapP seq l k = (decide (0 ≤ l[k] ∧ l[k] ≤ seq) && (if h0 : 0 < k then decide (l[k - 1]'(by omega) < l[k]) else true)) := by
  unfold snapP
  rw [List.getElem?_eq_getElem h]
  cases k with
  | zero => rfl
  | succ j =>
    simp only [Nat.zero_lt_succ, dif_pos, Nat.add_sub_cancel]
    rw [List.getElem?_eq_getElem (by omega)]
def snapsV (seq : Int) (l : List Int) : Bool := (List.range l.length).all (snapP seq l)
def totalV (l : List (List Ent)) : Nat := (l.map List.length).sum
/-- an engine as required -/
def engV (e : Eng) : Bool := (decide (0 ≤ e.Seq ∧ e.Seq ≤ 1000000) && (decide (e.Snaps.length ≤ 4) && (decide (e.Tables.length ≤ 6) && (decide (totalV e.Tables + e.Mem.length ≤ 400) && (memV e.Mem && (decide ((rangeV e.Mem).2 ≤ e.Seq) && tabsV e.Seq (rangeV e.Mem).1 e.Tables)))))) && snapsV e.Seq e.Snaps
theorem total_take (l : List (List Ent)) (k : Nat) (h : k < l.length) : totalV (l.take (k + 1)) = totalV (l.take k) + l[k].length := by
  unfold totalV
  rw [show l.take (k + 1) = l.take k ++ [l[k]] by rw [List.take_add_one, List.getElem?_eq_getElem h]; rfl, List.map_append, List.sum_append]
  simp
theorem total_le (l : List (List Ent)) (k : Nat) : totalV (l.take k) ≤ totalV l := by
  unfold totalV
  conv => rhs; rw [← List.take_append_drop k l]
  rw [List.map_append, List.sum_append]
  omega
theorem impl_totalOf_eq (l : List (List Ent)) (h : l.length ≤ 1048576) (ht : totalV l ≤ 1048576) : impl_totalOf l = some (totalV l : Int) := by
  unfold impl_totalOf
  rw [loopO_count (fun k => ((totalV (l.take k) : Int), (k : Int))) l.length (r := Ctl.go (totalV l : Int)) ?h0]
  case h0 => rfl
  · rfl
  · intro k hk
    have h1 := total_take l k hk
    have h2 := total_le l (k + 1)
    simp only [idx_nat l k hk, Option.bind_some, h1]
    rw [if_pos (by simpa using hk), wrap_ok (n := (k : Int) + 1) (by omega) (by omega), wrap_ok (by omega) (by omega)]
    rfl
  · simp
theorem impl_tablesOk_eq (e : Eng) (h1 : e.Mem.length ≤ 1048576) (h2 : e.Tables.length ≤ 1048576) (h3 : totalV e.Tables ≤ 1048576) :
    impl_tablesOk e = some (decide (e.Tables.length ≤ 6) && (decide (totalV e.Tables + e.Mem.length ≤ 400) && (memV e.Mem && (decide ((rangeV e.Mem).2 ≤ e.Seq) && tabsV e.Seq (rangeV e.Mem).1 e.Tables)))) := by
  have hlen : ∀ t ∈ e.Tables, t.length ≤ 1048576 := fun t ht => Nat.le_trans (sum_mem List.length ht) h3
  unfold impl_tablesOk
  rw [impl_totalOf_eq _ h2 h3]
  simp only [impl_MemOk_eq _ h1, impl_seqRange_eq _ h1, Option.bind_some]
  by_cases c1 : e.Tables.length ≤ 6
  · rw [decide_eq_true c1, decide_eq_false (by omega : ¬ ((e.Tables.length : Nat) : Int) > 6), wrap_ok (by omega) (by omega)]
    by_cases c2 : totalV e.Tables + e.Mem.length ≤ 400
    · rw [decide_eq_true c2, decide_eq_false (by omega : ¬ ((totalV e.Tables : Int) + ((e.Mem.length : Nat) : Int) > 400))]
      cases c3 : memV e.Mem with
      | false => simp
      | true =>
        by_cases c4 : (rangeV e.Mem).2 ≤ e.Seq
        · rw [decide_eq_true c4, decide_eq_false (by omega : ¬ (rangeV e.Mem).2 > e.Seq)]
          simp only [Bool.false_eq_true, if_false, Option.bind_some, Bool.not_true, Bool.true_and]
          rw [loopO_is (fun k s => s.2 = (k : Int) ∧ tabsV e.Seq (rangeV e.Mem).1 e.Tables = tabsV e.Seq s.1 (e.Tables.drop k)) e.Tables.length (bif tabsV e.Seq (rangeV e.Mem).1 e.Tables then Ctl.go () else Ctl.done false) ?h0 ?h1 ?h2]
          case h0 => exact ⟨rfl, rfl⟩
          · cases tabsV e.Seq (rangeV e.Mem).1 e.Tables <;> rfl
          · rintro k ⟨low, i⟩ hk ⟨rfl, he⟩
            have hd : e.Tables.drop k = e.Tables[k] :: e.Tables.drop (k + 1) := List.drop_eq_getElem_cons hk
            have hkl := hlen _ (List.getElem_mem hk)
            rw [he, hd]
            simp only [tabsV, idx_nat e.Tables k hk, Option.bind_some, impl_seqRange_eq _ hkl, impl_inOrder_eq _ hkl]
            rw [if_pos (by simpa using hk), wrap_ok (n := (k : Int) + 1) (by omega) (by omega)]
            by_cases d1 : e.Tables[k] = []
            · right; simp [d1]
            · have d1' : ¬ ((e.Tables[k].length : Nat) : Int) = 0 := by have := List.length_pos_iff.2 d1; omega
              rw [decide_eq_false d1', decide_eq_true d1]
              cases d2 : entsV e.Tables[k] with
              | false => right; simp
              | true =>
                by_cases d3 : (rangeV e.Tables[k]).2 < low
                · by_cases d4 : (rangeV e.Tables[k]).2 ≤ e.Seq
                  · left
                    refine ⟨((rangeV e.Tables[k]).1, (k : Int) + 1), ?_, by simp, ?_⟩
                    · simp [show ¬ low ≤ (rangeV e.Tables[k]).2 by omega, show ¬ e.Seq < (rangeV e.Tables[k]).2 by omega]
                    · simp [d3, d4]
                  · right; simp [d4, show ¬ low ≤ (rangeV e.Tables[k]).2 by omega, show e.Seq < (rangeV e.Tables[k]).2 by omega]
                · right; simp [d3, show low ≤ (rangeV e.Tables[k]).2 by omega]
          · rintro ⟨low, i⟩ ⟨rfl, he⟩
            rw [he, List.drop_length]
            simp [tabsV]
        · rw [decide_eq_false c4, decide_eq_true (by omega : (rangeV e.Mem).2 > e.Seq)]
          simp
    · rw [decide_eq_false c2, decide_eq_true (by omega : (totalV e.Tables : Int) + ((e.Mem.length : Nat) : Int) > 400)]
      simp
  · rw [decide_eq_false c1, decide_eq_true (by omega : ((e.Tables.length : Nat) : Int) > 6)]
    rfl
theorem impl_EngOk_eq (e : Eng) (h1 : e.Mem.length ≤ 1048576) (h2 : e.Tables.length ≤ 1048576) (h3 : totalV e.Tables ≤ 1048576) (h4 : e.Snaps.length ≤ 1048576) : impl_EngOk e = some (engV e) := by
  unfold impl_EngOk impl_isNumber engV
  simp only [impl_tablesOk_eq e h1 h2 h3, inRange_eq, Option.bind_some]
  by_cases c1 : 0 ≤ e.Seq ∧ e.Seq ≤ 1000000
  · rw [decide_eq_true c1]
    by_cases c2 : e.Snaps.length ≤ 4
    · rw [decide_eq_true c2, decide_eq_false (by omega : ¬ ((e.Snaps.length : Nat) : Int) > 4)]
      simp only [Bool.not_true, Bool.false_eq_true, if_false, Option.bind_some, Bool.true_and]
      generalize (decide (e.Tables.length ≤ 6) && (decide (totalV e.Tables + e.Mem.length ≤ 400) && (memV e.Mem && (decide ((rangeV e.Mem).2 ≤ e.Seq) && tabsV e.Seq (rangeV e.Mem).1 e.Tables)))) = q
      cases q with
      | false => rfl
      | true =>
        simp only [Bool.not_true, Bool.false_eq_true, if_false, Bool.true_and]
        unfold snapsV
        refine all_loop' (snapP e.Seq e.Snaps) e.Snaps.length ?_ (by simp)
        intro k hk
        simp only [idx_nat e.Snaps k hk, Option.bind_some]
        rw [if_pos (by simpa using hk), wrap_ok (n := (k : Int) + 1) (by omega) (by omega), snapP_at e.Seq e.Snaps k hk]
        by_cases d1 : 0 ≤ e.Snaps[k] ∧ e.Snaps[k] ≤ e.Seq
        · rw [decide_eq_true d1]
          by_cases h0 : 0 < k
          · have hw : IntKind.i64.wrap ((k : Int) - 1) = ((k - 1 : Nat) : Int) := by rw [wrap_ok (by omega) (by omega)]; omega
            rw [dif_pos h0, if_neg (by simp), if_pos (by simp; omega)]
            simp only [hw, idx_nat e.Snaps (k - 1) (by omega), Option.bind_some]
            by_cases d2 : e.Snaps[k - 1]'(by omega) < e.Snaps[k]
            · simp [d2, show ¬ e.Snaps[k] ≤ e.Snaps[k - 1]'(by omega) by omega]
            · simp [d2, show e.Snaps[k] ≤ e.Snaps[k - 1]'(by omega) by omega]
          · obtain rfl : k = 0 := by omega
            simp
        · rw [decide_eq_false d1]
          simp
    · rw [decide_eq_false c2, decide_eq_true (by omega : ((e.Snaps.length : Nat) : Int) > 4)]
      simp
  · rw [decide_eq_false c1]
    simp
theorem spec_EngOk_eq (e : Eng) (h1 : e.Mem.length ≤ 1048576) (h2 : e.Tables.length ≤ 1048576) (h3 : totalV e.Tables ≤ 1048576) (h4 : e.Snaps.length ≤ 1048576) : spec_EngOk e = some (engV e) := by
  have hlen : ∀ t ∈ e.Tables, t.length ≤ 1048576 := fun t ht => Nat.le_trans (sum_mem List.length ht) h3
  unfold spec_EngOk engV
  simp only [spec_MemOk_eq _ h1, l1In_eq, spec_l20Bounds_eq _ h1, Option.bind_some]
  cases c3 : memV e.Mem with
  | false => simp
  | true =>
    by_cases c1 : e.Tables.length ≤ 6
    · rw [decide_eq_true c1, decide_eq_false (by omega : ¬ ((e.Tables.length : Nat) : Int) > 6)]
      by_cases c5 : 0 ≤ e.Seq ∧ e.Seq ≤ 1000000
      · rw [decide_eq_true c5]
        by_cases c6 : e.Snaps.length ≤ 4
        · rw [decide_eq_true c6, decide_eq_false (by omega : ¬ ((e.Snaps.length : Nat) : Int) > 4)]
          by_cases c4 : (rangeV e.Mem).2 ≤ e.Seq
          · rw [decide_eq_true c4, decide_eq_false (by omega : ¬ (rangeV e.Mem).2 > e.Seq)]
            simp only [Bool.not_true, Bool.false_eq_true, if_false, Option.bind_some, Bool.true_and]
            have hL := loopO_is (ρ := Ctl Int Bool) (s0 := ((rangeV e.Mem).1, ((e.Mem.length : Nat) : Int), (0 : Int))) (body := fun (S18 : Int × Int × Int) => if (decide (S18.2.2 < ((e.Tables.length : Nat) : Int))) = true then ((idx e.Tables S18.2.2).bind fun E23 =>
                (spec_l20Bounds E23).bind fun R26 =>
                (if (decide (((E23.length : Nat) : Int) = (0 : Int))) = true then (some true)
                else ((spec_l9Ents E23).bind fun R32 =>
                if (!R32) = true then (some true)
                else (if (decide (R26.2 ≥ S18.1)) = true then (some true)
                else (some (decide (R26.2 > e.Seq)))))).bind (fun (T29 : Bool) =>
                if T29 = true then (some (.done (.done false)))
                else (some (.go (R26.1, IntKind.i64.wrap (S18.2.1 + ((E23.length : Nat) : Int)), IntKind.i64.wrap (S18.2.2 + (1 : Int)))))))
                else (some (.done (.go S18.2.1))))
              (fun k s => s.2.2 = (k : Int) ∧ s.2.1 = (totalV (e.Tables.take k) : Int) + e.Mem.length ∧ tabsV e.Seq (rangeV e.Mem).1 e.Tables = tabsV e.Seq s.1 (e.Tables.drop k)) e.Tables.length
              (bif tabsV e.Seq (rangeV e.Mem).1 e.Tables then Ctl.go ((totalV e.Tables : Int) + e.Mem.length) else Ctl.done false) ⟨rfl, by simp [totalV], rfl⟩ (by
                rintro k ⟨low, tot, i⟩ hk ⟨h5, h6, he⟩
                simp only at h5 h6 he
                subst h5 h6
                have hd : e.Tables.drop k = e.Tables[k] :: e.Tables.drop (k + 1) := List.drop_eq_getElem_cons hk
                have hkl := hlen _ (List.getElem_mem hk)
                have t1 := total_take e.Tables k hk
                have t2 := total_le e.Tables (k + 1)
                rw [he, hd]
                simp only [tabsV, idx_nat e.Tables k hk, Option.bind_some, spec_l20Bounds_eq _ hkl, spec_l9Ents_eq _ hkl]
                rw [if_pos (by simpa using hk), wrap_ok (n := (k : Int) + 1) (by omega) (by omega), wrap_ok (n := (totalV (e.Tables.take k) : Int) + e.Mem.length + ((e.Tables[k].length : Nat) : Int)) (by omega) (by omega)]
                by_cases d1 : e.Tables[k] = []
                · right; simp [d1]
                · have d1' : ¬ ((e.Tables[k].length : Nat) : Int) = 0 := by have := List.length_pos_iff.2 d1; omega
                  rw [decide_eq_false d1', decide_eq_true d1]
                  cases d2 : entsV e.Tables[k] with
                  | false => right; simp
                  | true =>
                    by_cases d3 : (rangeV e.Tables[k]).2 < low
                    · by_cases d4 : (rangeV e.Tables[k]).2 ≤ e.Seq
                      · left
                        refine ⟨((rangeV e.Tables[k]).1, (totalV (e.Tables.take k) : Int) + e.Mem.length + ((e.Tables[k].length : Nat) : Int), (k : Int) + 1), ?_, by simp, by simp only [t1]; omega, ?_⟩
                        · simp [show ¬ low ≤ (rangeV e.Tables[k]).2 by omega, show ¬ e.Seq < (rangeV e.Tables[k]).2 by omega]
                        · simp [d3, d4]
                      · right; simp [d4, show ¬ low ≤ (rangeV e.Tables[k]).2 by omega, show e.Seq < (rangeV e.Tables[k]).2 by omega]
                    · right; simp [d3, show low ≤ (rangeV e.Tables[k]).2 by omega]) (by
                rintro ⟨low, tot, i⟩ ⟨h5, h6, he⟩
                simp only at h5 h6 he
                subst h5 h6
                rw [he, List.drop_length]
                simp [tabsV])
            rw [hL]
            cases tabsV e.Seq (rangeV e.Mem).1 e.Tables with
            | false => simp
            | true =>
              simp only [if_true, bindC_go, Bool.and_true]
              rw [all_loop (snapP e.Seq e.Snaps) e.Snaps.length ?hp ?hq]
              case hq => simp
              case hp =>
                intro k hk
                simp only [idx_nat e.Snaps k hk, Option.bind_some]
                rw [if_pos (by simpa using hk), wrap_ok (n := (k : Int) + 1) (by omega) (by omega), snapP_at e.Seq e.Snaps k hk]
                by_cases d1 : 0 ≤ e.Snaps[k] ∧ e.Snaps[k] ≤ e.Seq
                · rw [decide_eq_true d1]
                  by_cases h0 : 0 < k
                  · have hw : IntKind.i64.wrap ((k : Int) - 1) = ((k - 1 : Nat) : Int) := by rw [wrap_ok (by omega) (by omega)]; omega
                    rw [dif_pos h0, if_neg (by simp), if_pos (by simp; omega)]
                    simp only [hw, idx_nat e.Snaps (k - 1) (by omega), Option.bind_some]
                    by_cases d2 : e.Snaps[k - 1]'(by omega) < e.Snaps[k]
                    · simp [d2, show ¬ e.Snaps[k] ≤ e.Snaps[k - 1]'(by omega) by omega]
                    · simp [d2, show e.Snaps[k] ≤ e.Snaps[k - 1]'(by omega) by omega]
                  · obtain rfl : k = 0 := by omega
                    simp
                · rw [decide_eq_false d1]
                  simp
              have hS' : (List.range e.Snaps.length).all (snapP e.Seq e.Snaps) = snapsV e.Seq e.Snaps := rfl
              rw [hS']
              have hc : decide ((totalV e.Tables : Int) + ((e.Mem.length : Nat) : Int) ≤ 400) = decide (totalV e.Tables + e.Mem.length ≤ 400) := decide_eq_decide.2 (by omega)
              cases snapsV e.Seq e.Snaps with
              | false => simp
              | true => simp only [if_true, cond_true, bindC_go, hc, Bool.true_and, Bool.and_true]
          · rw [decide_eq_false c4, decide_eq_true (by omega : (rangeV e.Mem).2 > e.Seq)]
            simp
        · rw [decide_eq_false c6, decide_eq_true (by omega : ((e.Snaps.length : Nat) : Int) > 4)]
          simp
      · rw [decide_eq_false c5]
        simp
    · rw [decide_eq_false c1, decide_eq_true (by omega : ((e.Tables.length : Nat) : Int) > 6)]
      simp
theorem totalV_le (l : List (List Ent)) (n : Nat) (h : wS (fun t => wS wgt_Ent t) l ≤ n) : totalV l ≤ n := by
  have key : ∀ l : List (List Ent), totalV l ≤ (l.map fun t => wS wgt_Ent t).sum := by
    intro l
    induction l with
    | nil => exact Nat.le_refl _
    | cons t r ih =>
      have h2 : t.length ≤ wS wgt_Ent t := Nat.le_add_right _ _
      unfold totalV at ih ⊢
      simp only [List.map_cons, List.sum_cons]
      omega
  have := key l
  have h' : l.length + (l.map fun t => wS wgt_Ent t).sum ≤ n := h
  omega
theorem eng_lens (e : Eng) (h : wgt_Eng e ≤ 1048576) : e.Mem.length ≤ 1048576 ∧ e.Tables.length ≤ 1048576 ∧ totalV e.Tables ≤ 1048576 ∧ e.Snaps.length ≤ 1048576 := by
  have h0 : wS wgt_Ent e.Mem + (wS (fun t => wS wgt_Ent t) e.Tables + (e.Snaps.length + 0)) ≤ 1048576 := h
  exact ⟨wS_len (w := wgt_Ent) (by omega), wS_len (w := fun t => wS wgt_Ent t) (by omega), totalV_le _ _ (by omega), by omega⟩
theorem cloneEnts_eq (s : List Ent) (h : s.length ≤ 1048576) : slices_Clone_94167 s = some s := by
  unfold slices_Clone_94167
  rw [app_ok (by simp; omega) (by simp; omega)]
  rfl
theorem cloneInts_eq (s : List Int) (h : s.length ≤ 1048576) : slices_Clone_88240 s = some s := by
  unfold slices_Clone_88240
  rw [app_ok (by simp; omega) (by simp; omega)]
  rfl
theorem impl_copyEng_eq (e : Eng) (h1 : e.Mem.length ≤ 1048576) (h2 : e.Tables.length ≤ 1048576) (h3 : ∀ t ∈ e.Tables, t.length ≤ 1048576) (h4 : e.Snaps.length ≤ 1048576) : impl_copyEng e = some e := by
  unfold impl_copyEng
  simp only [cloneEnts_eq _ h1, cloneInts_eq _ h4, Option.bind_some]
  rw [loopO_count (fun k => ((k : Int), e.Tables.take k)) e.Tables.length (r := Ctl.go e.Tables) ?h0]
  case h0 => rfl
  · rfl
  · intro k hk
    have ht : e.Tables.take (k + 1) = e.Tables.take k ++ [e.Tables[k]] := by rw [List.take_add_one, List.getElem?_eq_getElem hk]; rfl
    simp only [idx_nat e.Tables k hk, Option.bind_some, cloneEnts_eq _ (h3 _ (List.getElem_mem hk))]
    rw [if_pos (by simpa using hk), wrap_ok (n := (k : Int) + 1) (by omega) (by omega), app_ok (by simp; omega) (by simp; omega), ht]
    rfl
  · simp
theorem spec_l20Copy_eq (e : Eng) (h1 : e.Mem.length ≤ 1048576) (h2 : e.Tables.length ≤ 1048576) (h3 : ∀ t ∈ e.Tables, t.length ≤ 1048576) (h4 : e.Snaps.length ≤ 1048576) : spec_l20Copy e = some e := by
  have happ : ∀ t : List Ent, t.length ≤ 1048576 → app 48 ([] : List Ent) t = some t := fun t ht => by rw [app_ok (by simp; omega) (by simp; omega)]; rfl
  unfold spec_l20Copy
  rw [happ _ h1, app_ok (l := ([] : List Int)) (k := e.Snaps) (by simp; omega) (by simp; omega)]
  simp only [Option.bind_some]
  rw [loopO_count (fun k => ((k : Int), e.Tables.take k)) e.Tables.length (r := Ctl.go e.Tables) ?h0]
  case h0 => rfl
  · rfl
  · intro k hk
    have ht : e.Tables.take (k + 1) = e.Tables.take k ++ [e.Tables[k]] := by rw [List.take_add_one, List.getElem?_eq_getElem hk]; rfl
    simp only [idx_nat e.Tables k hk, Option.bind_some, happ _ (h3 _ (List.getElem_mem hk))]
    rw [if_pos (by simpa using hk), wrap_ok (n := (k : Int) + 1) (by omega) (by omega), app_ok (by simp; omega) (by simp; omega), ht]
    rfl
  · simp
theorem eng_cnt (x : Eng) (h1 : x.Mem.length ≤ 1048577) (h2 : x.Tables.length ≤ 1048577) (h3 : ∀ t ∈ x.Tables, t.length ≤ 1048577) (h4 : x.Snaps.length ≤ 1048577) : cntS_Eng x ≤ 4398063288320 ∧ bnd_Eng x := by
  have c1 : (x.Mem.map cnt_Ent).sum ≤ 4 * x.Mem.length := sum_le cnt_Ent 4 fun _ _ => Nat.le_refl _
  have c2 : (x.Snaps.map (fun _ => 1)).sum ≤ 1 * x.Snaps.length := sum_le _ 1 fun _ _ => Nat.le_refl _
  have c3 : (x.Tables.map (fun l => (l.map cnt_Ent).sum)).sum ≤ 4194308 * x.Tables.length := sum_le _ 4194308 fun y hy => Nat.le_trans (sum_le cnt_Ent 4 fun _ _ => Nat.le_refl _) (by have := h3 y hy; omega)
  refine ⟨?_, Nat.le_trans h1 (by decide), ⟨Nat.le_trans h2 (by decide), fun y hy => Nat.le_trans (h3 y hy) (by decide)⟩, Nat.le_trans h4 (by decide)⟩
  unfold cntS_Eng
  omega
theorem piece_nat {α : Type} (l : List α) (a b : Nat) (lo hi : Int) (h1 : lo = (a : Int)) (h2 : hi = (b : Int)) (h3 : a ≤ b) (h4 : b ≤ l.length) : piece l lo hi = some ((l.drop a).take (b - a)) := by
  subst h1 h2
  unfold piece
  rw [if_pos ⟨by omega, by omega, by omega⟩, Int.toNat_natCast, Int.toNat_natCast]
theorem any_loop {α : Type} {body : Int → Option (Ctl Int (Ctl Unit Bool))} (l : List α) (p : α → Bool) (h : ∀ k (hk : k < l.length), body (k : Int) = some (if p l[k] = true then .done (.done true) else .go ((k : Int) + 1))) (hn : body (l.length : Int) = some (.done (.go ()))) :
    bindC (loopO body 0) (fun (_ : Unit) => some false) = some (l.any p) := by
  rw [loopO_is (fun k s => s = (k : Int) ∧ l.any p = (l.drop k).any p) l.length (if l.any p = true then Ctl.done true else Ctl.go ()) ?h0 ?h1 ?h2]
  · cases l.any p <;> rfl
  case h0 => exact ⟨rfl, rfl⟩
  · rintro k s hk ⟨rfl, he⟩
    rw [h k hk, he, List.drop_eq_getElem_cons hk, List.any_cons]
    cases hp : p l[k] with
    | true => right; rfl
    | false =>
      left
      refine ⟨(k : Int) + 1, rfl, by omega, ?_⟩
      rw [Bool.false_or]
  · rintro s ⟨rfl, he⟩
    rw [he, List.drop_length, hn]
    rfl
/-- the entry at a place stays -/
def stayV (snaps : List Int) (l : List Ent) : Nat → Bool
  | 0 => true
  | j + 1 => match l[j]?, l[j + 1]? with
    | some d, some e => !decide (d.Key = e.Key) || snaps.any (fun s => decide (e.Seq ≤ s) && decide (s < d.Seq))
    | _, _ => false
theorem stayV_succ (snaps : List Int) (l : List Ent) (j : Nat) (h : j + 1 < l.length) : stayV snaps l (j + 1) = (!decide ((l[j]'(by omega)).Key = l[j + 1].Key) || snaps.any (fun s => decide (l[j + 1].Seq ≤ s) && decide (s < (l[j]'(by omega)).Seq))) := by
  show (match l[j]?, l[j + 1]? with | some d, some e => _ | _, _ => false) = _
  rw [List.getElem?_eq_getElem h, List.getElem?_eq_getElem (by omega : j < l.length)]
theorem isSeen_eq (l : List Ent) (snaps : List Int) (k : Nat) (hk : k < l.length) (h : l.length ≤ 1048576) (hs : snaps.length ≤ 1048576) : impl_isSeen l (k : Int) snaps = some (stayV snaps l k) := by
  unfold impl_isSeen
  cases k with
  | zero => rfl
  | succ j =>
    have hw : IntKind.i64.wrap (((j + 1 : Nat) : Int) - 1) = (j : Int) := by rw [wrap_ok (by omega) (by omega)]; omega
    rw [if_neg (by simp; omega), hw, idx_nat l j (by omega), idx_nat l (j + 1) hk, stayV_succ snaps l j hk]
    simp only [Option.bind_some]
    by_cases c : (l[j]'(by omega)).Key = l[j + 1].Key
    · rw [decide_eq_true c]
      simp only [Bool.not_true, Bool.false_eq_true, if_false, Bool.false_or]
      refine any_loop snaps _ ?_ (by simp)
      intro m hm
      simp only [idx_nat snaps m hm, Option.bind_some]
      rw [if_pos (by simpa using hm), wrap_ok (n := (m : Int) + 1) (by omega) (by omega)]
      by_cases c1 : l[j + 1].Seq ≤ snaps[m]
      · by_cases c2 : snaps[m] < (l[j]'(by omega)).Seq <;> simp [c1, c2]
      · simp [c1]
    · rw [decide_eq_false c]
      rfl
/-- those that stay, of n from a on -/
def keepT (snaps : List Int) (l : List Ent) (a : Nat) : Nat → List Ent
  | 0 => []
  | n + 1 => keepT snaps l a n ++ (if stayV snaps l (a + n) = true then l[a + n]?.toList else [])
theorem keepT_succ (snaps : List Int) (l : List Ent) (a n : Nat) (h : a + n < l.length) : keepT snaps l a (n + 1) = keepT snaps l a n ++ (if stayV snaps l (a + n) = true then [l[a + n]] else []) := by
  show keepT snaps l a n ++ (if stayV snaps l (a + n) = true then l[a + n]?.toList else []) = _
  rw [List.getElem?_eq_getElem h]
  rfl
theorem keepT_len (snaps : List Int) (l : List Ent) (a : Nat) : ∀ n, (keepT snaps l a n).length ≤ n := by
  intro n
  induction n with
  | zero => simp [keepT]
  | succ n ih =>
    show (keepT snaps l a n ++ (if stayV snaps l (a + n) = true then l[a + n]?.toList else [])).length ≤ n + 1
    rw [List.length_append]
    split
    · cases l[a + n]? <;> simp <;> omega
    · simp; omega
theorem keepT_add (snaps : List Int) (l : List Ent) (a n : Nat) : ∀ m, keepT snaps l a (n + m) = keepT snaps l a n ++ keepT snaps l (a + n) m := by
  intro m
  induction m with
  | zero => simp [keepT]
  | succ m ih =>
    show keepT snaps l a (n + m) ++ (if stayV snaps l (a + (n + m)) = true then l[a + (n + m)]?.toList else []) = keepT snaps l a n ++ (keepT snaps l (a + n) m ++ (if stayV snaps l (a + n + m) = true then l[a + n + m]?.toList else []))
    rw [ih, Nat.add_assoc a n m, List.append_assoc]
theorem keepT_mem (snaps : List Int) (l : List Ent) (a : Nat) : ∀ n, ∀ x ∈ keepT snaps l a n, ∃ i, i < n ∧ ∃ h : a + i < l.length, x = l[a + i] := by
  intro n
  induction n with
  | zero => intro x hx; simp [keepT] at hx
  | succ n ih =>
    intro x hx
    have hx' : x ∈ keepT snaps l a n ++ (if stayV snaps l (a + n) = true then l[a + n]?.toList else []) := hx
    rcases List.mem_append.1 hx' with h | h
    · obtain ⟨i, hi, h2, h3⟩ := ih x h
      exact ⟨i, by omega, h2, h3⟩
    · by_cases hl : a + n < l.length
      · rw [List.getElem?_eq_getElem hl] at h
        split at h
        · exact ⟨n, by omega, hl, by simpa using h⟩
        · simp at h
      · rw [List.getElem?_eq_none (by omega)] at h
        simp at h
def sameK (e : Ent) : List Ent → Bool
  | y :: _ => decide (e.Key = y.Key)
  | [] => false
/-- without the deletions at each key's end; whether something newer is needed -/
def tid : List Ent → Bool × List Ent
  | [] => (false, [])
  | e :: t => bif (((tid t).1 && sameK e t) || !e.Del) then (true, e :: (tid t).2) else (false, (tid t).2)
theorem tid_cons (e : Ent) (t : List Ent) : tid (e :: t) = bif (((tid t).1 && sameK e t) || !e.Del) then (true, e :: (tid t).2) else (false, (tid t).2) := rfl
theorem tid_len : ∀ l : List Ent, (tid l).2.length ≤ l.length := by
  intro l
  induction l with
  | nil => simp [tid]
  | cons e t ih =>
    rw [tid_cons]
    cases (((tid t).1 && sameK e t) || !e.Del)
    · simp; omega
    · simp; omega
theorem tid_append : ∀ (A B : List Ent), (∀ x ∈ A, ∀ y ∈ B, x.Key ≠ y.Key) → (tid (A ++ B)).2 = (tid A).2 ++ (tid B).2 ∧ (A ≠ [] → (tid (A ++ B)).1 = (tid A).1) := by
  intro A
  induction A with
  | nil => intro B _; exact ⟨by simp [tid], fun h => absurd rfl h⟩
  | cons e t ih =>
    intro B hd
    obtain ⟨h1, h2⟩ := ih B fun x hx y hy => hd x (.tail _ hx) y hy
    have hc : ((tid (t ++ B)).1 && sameK e (t ++ B)) = ((tid t).1 && sameK e t) := by
      cases t with
      | nil =>
        cases B with
        | nil => rfl
        | cons y B =>
          have : sameK e ([] ++ y :: B) = false := decide_eq_false (hd e (.head _) y (.head _))
          rw [this, Bool.and_false, show sameK e [] = false from rfl, Bool.and_false]
      | cons z t =>
        rw [h2 (by simp)]
        rfl
    show (tid (e :: (t ++ B))).2 = (tid (e :: t)).2 ++ (tid B).2 ∧ (_ → (tid (e :: (t ++ B))).1 = (tid (e :: t)).1)
    rw [tid_cons, tid_cons, hc, h1]
    cases (((tid t).1 && sameK e t) || !e.Del)
    · exact ⟨rfl, fun _ => rfl⟩
    · exact ⟨rfl, fun _ => rfl⟩
theorem tid_del (e : Ent) (hd : e.Del = true) : ∀ A : List Ent, (∀ x ∈ A, x.Key = e.Key) → tid (A ++ [e]) = tid A := by
  intro A
  induction A with
  | nil => intro _; simp [tid, sameK, hd]
  | cons x t ih =>
    intro hk
    have h1 := ih fun y hy => hk y (.tail _ hy)
    show tid (x :: (t ++ [e])) = tid (x :: t)
    have hc : ((tid (t ++ [e])).1 && sameK x (t ++ [e])) = ((tid t).1 && sameK x t) := by
      rw [h1]
      cases t with
      | nil => rfl
      | cons z t => rfl
    rw [tid_cons, hc, h1]
    rfl
theorem tid_keep (e : Ent) (hd : e.Del = false) : ∀ A : List Ent, (∀ x ∈ A, x.Key = e.Key) → tid (A ++ [e]) = (true, A ++ [e]) := by
  intro A
  induction A with
  | nil => intro _; simp [tid, sameK, hd]
  | cons x t ih =>
    intro hk
    have h1 := ih fun y hy => hk y (.tail _ hy)
    show tid (x :: (t ++ [e])) = _
    have hc : sameK x (t ++ [e]) = true := by
      cases t with
      | nil => exact decide_eq_true (hk x (.head _))
      | cons z t => exact decide_eq_true ((hk x (.head _)).trans (hk z (.tail _ (.head _))).symm)
    rw [tid_cons, hc, h1]
    rfl
def finE (bottom : Bool) (A : List Ent) : List Ent := bif bottom then (tid A).2 else A
theorem finE_len (b : Bool) (A : List Ent) : (finE b A).length ≤ A.length := by
  cases b
  · exact Nat.le_refl _
  · exact tid_len A
theorem finE_append (b : Bool) (A B : List Ent) (h : ∀ x ∈ A, ∀ y ∈ B, x.Key ≠ y.Key) : finE b (A ++ B) = finE b A ++ finE b B := by
  cases b
  · rfl
  · exact (tid_append A B h).1
theorem trim_loop (bottom : Bool) : ∀ (n : Nat) (A : List Ent), A.length = n → n ≤ 1048576 → (∀ x ∈ A, ∀ y ∈ A, x.Key = y.Key) →
    loopO (ρ := Ctl (List Ent) (List Ent)) (fun (S31 : List Ent) => (if bottom = true then (if (decide (((S31.length : Nat) : Int) > (0 : Int))) = true then ((idx S31 (IntKind.i64.wrap (((S31.length : Nat) : Int) - (1 : Int)))).bind fun E39 =>
  some E39.Del)
  else (some false))
  else (some false)).bind (fun (T35 : Bool) =>
  if T35 = true then ((piece S31 (0 : Int) (IntKind.i64.wrap (((S31.length : Nat) : Int) - (1 : Int)))).bind fun E43 =>
  (app 48 ([] : List Ent) E43).bind fun E46 =>
  some (.go E46))
  else (some (.done (.go S31))))) A = some (.go (finE bottom A)) := by
  intro n
  induction n with
  | zero =>
    intro A hA _ _
    obtain rfl : A = [] := List.eq_nil_of_length_eq_zero hA
    rw [loopO_eq]
    cases bottom <;> rfl
  | succ n ih =>
    intro A hA hn hk
    obtain ⟨B, e, rfl⟩ : ∃ B e, A = B ++ [e] := ⟨A.dropLast, A.getLast (by intro c; rw [c] at hA; simp at hA), (List.dropLast_concat_getLast _).symm⟩
    have hB : B.length = n := by simpa using hA
    rw [loopO_eq]
    have hw : IntKind.i64.wrap ((((B ++ [e]).length : Nat) : Int) - 1) = (B.length : Int) := by rw [wrap_ok (by omega) (by omega)]; simp
    have hke : ∀ x ∈ B, x.Key = e.Key := fun x hx => hk x (List.mem_append.2 (.inl hx)) e (by simp)
    cases bottom with
    | false => rfl
    | true =>
      rw [hw, idx_nat (B ++ [e]) B.length (by simp)]
      have hd : decide ((((B ++ [e]).length : Nat) : Int) > 0) = true := decide_eq_true (by simp)
      simp only [if_true, hd, Option.bind_some, List.getElem_concat_length]
      cases hdel : e.Del with
      | false =>
        simp only [Bool.false_eq_true, if_false]
        show some (Ctl.go (B ++ [e])) = some (Ctl.go (tid (B ++ [e])).2)
        rw [tid_keep e hdel B hke]
      | true =>
        simp only [if_true]
        rw [piece_nat _ 0 B.length (0 : Int) _ rfl rfl (by omega) (by simp)]
        have hp : ((B ++ [e]).drop 0).take (B.length - 0) = B := by simp
        rw [hp]
        simp only [Option.bind_some]
        rw [app_ok (by simp; omega) (by simp; omega)]
        simp only [Option.bind_some, List.nil_append]
        have ih' := ih B hB (by omega) fun x hx y hy => hk x (List.mem_append.2 (.inl hx)) y (List.mem_append.2 (.inl hy))
        simp only [if_true] at ih'
        rw [ih']
        show some (Ctl.go (tid B).2) = some (Ctl.go (tid (B ++ [e])).2)
        rw [tid_del e hdel B hke]
theorem revEnts_eq (l : List Ent) (h : l.length ≤ 1048576) : slices_Reverse_94167 l = some l.reverse := by
  unfold slices_Reverse_94167
  rw [loopO_is (fun m s => s.1 = (m : Int) ∧ s.2.1 = (l.length : Int) - 1 - m ∧ ∃ hl : s.2.2.length = l.length, ∀ k (hk : k < l.length), s.2.2[k]'(by omega) = if k < m ∨ l.length ≤ k + m then l[l.length - 1 - k]'(by omega) else l[k]) (l.length / 2) (Ctl.go l.reverse) ?h0 ?h1 ?h2]
  · rfl
  case h0 =>
    refine ⟨rfl, ?_, rfl, fun k hk => ?_⟩
    · show IntKind.i64.wrap ((l.length : Int) - 1) = (l.length : Int) - 1 - ((0 : Nat) : Int)
      rw [wrap_ok (by omega) (by omega)]; omega
    · rw [if_neg (by omega)]
  · rintro m ⟨i, j, s⟩ hm ⟨h1, h2, hl, h3⟩
    simp only at h1 h2 hl h3
    subst h1
    have hj : j = ((l.length - 1 - m : Nat) : Int) := by omega
    subst hj
    clear h2
    left
    have hm1 : m < s.length := by omega
    have hm2 : l.length - 1 - m < s.length := by omega
    refine ⟨((m : Int) + 1, ((l.length - 1 - m : Nat) : Int) - 1, (s.set m (s[l.length - 1 - m]'hm2)).set (l.length - 1 - m) (s[m]'hm1)), ?_, by simp, ?_, by simp [hl], ?_⟩
    · simp only [idx_nat s _ hm2, idx_nat s _ hm1, Option.bind_some, Int.toNat_natCast]
      rw [if_pos (by simp; omega), idx_nat _ _ (by simp; omega)]
      simp only [Option.bind_some, bindC_go]
      rw [wrap_ok (by omega) (by omega), wrap_ok (by omega) (by omega)]
    · simp only; omega
    · intro k hk
      simp only [List.getElem_set]
      by_cases c1 : l.length - 1 - m = k
      · rw [if_pos c1, h3 m (by omega), if_neg (by omega), if_pos (by omega)]
        congr 1
        omega
      · rw [if_neg c1]
        by_cases c2 : m = k
        · rw [if_pos c2, h3 _ (by omega), if_neg (by omega), if_pos (by omega)]
          congr 1
          omega
        · rw [if_neg c2, h3 k hk]
          by_cases c3 : k < m ∨ l.length ≤ k + m
          · rw [if_pos c3, if_pos (by omega)]
          · rw [if_neg c3, if_neg (by omega)]
  · rintro ⟨i, j, s⟩ ⟨h1, h2, hl, h3⟩
    simp only at h1 h2 hl h3
    subst h1 h2
    simp only
    rw [if_neg (by simp; omega)]
    congr 3
    refine List.ext_getElem (by simp [hl]) fun k hk1 hk2 => ?_
    rw [h3 k (by omega), List.getElem_reverse]
    by_cases c : k < l.length / 2 ∨ l.length ≤ k + l.length / 2
    · rw [if_pos c]
    · rw [if_neg c]
      congr 1
      omega
theorem impl_compacted_eq (l : List Ent) (snaps : List Int) (bottom : Bool) (h : l.length ≤ 1048576) (hs : snaps.length ≤ 1048576) : impl_compacted l snaps bottom = some (finE bottom (keepT snaps l 0 l.length)) := by
  unfold impl_compacted
  rw [loopO_count (fun k => ((k : Int), keepT snaps l 0 k)) l.length (r := Ctl.go (keepT snaps l 0 l.length)) ?h0]
  case h0 => rfl
  · simp only [bindC_go]
    cases bottom with
    | false => rfl
    | true =>
      simp only [Bool.not_true, Bool.false_eq_true, if_false]
      have hKl : (keepT snaps l 0 l.length).length ≤ 1048576 := Nat.le_trans (keepT_len snaps l 0 _) h
      generalize keepT snaps l 0 l.length = K at hKl
      rw [loopO_count (fun m => ((tid (K.drop (K.length - m))).1, (K.length : Int) - 1 - m, (tid (K.drop (K.length - m))).2.reverse)) K.length (r := Ctl.go (tid K).2.reverse) ?g0]
      case g0 =>
        rw [Nat.sub_zero, List.drop_length, wrap_ok (by omega) (by omega)]
        simp [tid]
      · simp only [bindC_go]
        rw [revEnts_eq _ (by rw [List.length_reverse]; exact Nat.le_trans (tid_len K) hKl), List.reverse_reverse]
        rfl
      · intro m hm
        have hi : (K.length : Int) - 1 - m = ((K.length - 1 - m : Nat) : Int) := by omega
        have hi1 : (K.length : Int) - 1 - ((m + 1 : Nat) : Int) = ((K.length - 1 - m : Nat) : Int) - 1 := by omega
        have hk1 : K.length - 1 - m < K.length := by omega
        have hdr : K.drop (K.length - (m + 1)) = K[K.length - 1 - m] :: K.drop (K.length - m) := by
          rw [show K.length - (m + 1) = K.length - 1 - m by omega, List.drop_eq_getElem_cons hk1, show K.length - 1 - m + 1 = K.length - m by omega]
        have hlen := tid_len (K.drop (K.length - m))
        rw [List.length_drop] at hlen
        rw [hdr, tid_cons, hi, hi1]
        have hc : (if decide (((K.length - 1 - m : Nat) : Int) = IntKind.i64.wrap (((K.length : Nat) : Int) - (1 : Int))) = true then (some true)
  else ((idx K ((K.length - 1 - m : Nat) : Int)).bind fun E28 =>
  (idx K (IntKind.i64.wrap (((K.length - 1 - m : Nat) : Int) + (1 : Int)))).bind fun E30 =>
  some (!(decide (E28.Key = E30.Key))))) = some (!sameK K[K.length - 1 - m] (K.drop (K.length - m))) := by
          by_cases h0 : m = 0
          · subst h0
            rw [if_pos (by rw [wrap_ok (by omega) (by omega)]; simp; omega), show K.drop (K.length - 0) = [] by simp]
            rfl
          · rw [if_neg (by rw [wrap_ok (by omega) (by omega)]; simp; omega), idx_nat K _ hk1, wrap_ok (by omega) (by omega)]
            rw [show ((K.length - 1 - m : Nat) : Int) + 1 = ((K.length - m : Nat) : Int) by omega, idx_nat K (K.length - m) (by omega), List.drop_eq_getElem_cons (by omega : K.length - m < K.length)]
            rfl
        simp only [hc]
        rw [if_pos (by simp), wrap_ok (n := ((K.length - 1 - m : Nat) : Int) - 1) (by omega) (by omega)]
        simp only [idx_nat K _ hk1, Option.bind_some]
        generalize sameK K[K.length - 1 - m] (K.drop (K.length - m)) = q
        generalize tid (K.drop (K.length - m)) = tt at hlen ⊢
        obtain ⟨nd, o⟩ := tt
        simp only at hlen ⊢
        have happ : app 48 o.reverse [K[K.length - 1 - m]] = some (o.reverse ++ [K[K.length - 1 - m]]) := app_ok (by simp; omega) (by simp; omega)
        cases q <;> cases nd <;> cases hd : K[K.length - 1 - m].Del <;> simp [happ, hd]
      · rw [Nat.sub_self, List.drop_zero]
        simp
        omega
  · intro k hk
    have hlen := keepT_len snaps l 0 k
    simp only [idx_nat l k hk, Option.bind_some, isSeen_eq l snaps k hk h hs, keepT_succ snaps l 0 k (by omega), Nat.zero_add]
    rw [if_pos (by simpa using hk), wrap_ok (n := (k : Int) + 1) (by omega) (by omega)]
    cases stayV snaps l k with
    | true =>
      simp only [if_true]
      rw [app_ok (by simp; omega) (by simp; omega)]
      rfl
    | false => simp
  · simp
theorem entP_of {l : List Ent} (hv : entsV l = true) (k : Nat) (hk : k < l.length) : entP l k = true := by
  unfold entsV at hv
  rw [List.all_eq_true] at hv
  exact hv k (by simpa using hk)
theorem entsV_sub {l : List Ent} (hv : entsV l = true) (a n : Nat) : entsV ((l.drop a).take n) = true := by
  unfold entsV
  rw [List.all_eq_true]
  intro k hk
  have hk' : k < ((l.drop a).take n).length := by simpa using hk
  have hk2 : a + k < l.length := by simp at hk'; omega
  have hp := entP_of hv (a + k) hk2
  rw [entP_at l (a + k) hk2, Bool.and_eq_true] at hp
  rw [entP_at _ k hk']
  simp only [List.getElem_take, List.getElem_drop]
  rw [hp.1, Bool.true_and]
  by_cases h0 : 0 < k
  · rw [dif_pos h0]
    have := hp.2
    rw [dif_pos (by omega)] at this
    simpa only [show a + k - 1 = a + (k - 1) by omega] using this
  · rw [dif_neg h0]
/-- the keys before a place are none of those from it on -/
def cutV (l : List Ent) (a : Nat) : Prop := ∀ i (hi : i < l.length) j (hj : j < l.length), i < a → a ≤ j → l[i].Key ≠ l[j].Key
theorem l15Key_eq (l : List Ent) (snaps : List Int) (bottom : Bool) (a n : Nat) (hv : entsV l = true) (h : l.length ≤ 1048576) (hs : snaps.length ≤ 1048576) (hn : a + n ≤ l.length) (hc : cutV l a)
    (hk : ∀ i (hi : i < l.length) j (hj : j < l.length), a ≤ i → i < a + n → a ≤ j → j < a + n → l[i].Key = l[j].Key) : spec_l15Key ((l.drop a).take n) snaps bottom = some (finE bottom (keepT snaps l a n)) := by
  have hgl : ((l.drop a).take n).length = n := by simp; omega
  have hgv := entsV_sub hv a n
  have hg : ∀ i, i < n → ((l.drop a).take n)[i]? = l[a + i]? := fun i hi => by rw [List.getElem?_take, if_pos hi, List.getElem?_drop]
  generalize (l.drop a).take n = g at hgl hgv hg
  have hge : ∀ i (hi : i < n), g[i]'(by omega) = l[a + i]'(by omega) := fun i hi => by
    have := hg i hi
    rw [List.getElem?_eq_getElem (by omega), List.getElem?_eq_getElem (by omega)] at this
    exact Option.some.inj this
  unfold spec_l15Key
  rw [loopO_count (fun k => ((k : Int), keepT snaps l a k)) g.length (r := Ctl.go (keepT snaps l a n)) ?h0]
  case h0 => rfl
  · simp only [bindC_go]
    rw [trim_loop bottom (keepT snaps l a n).length _ rfl (Nat.le_trans (keepT_len snaps l a n) (by omega)) ?_]
    · rfl
    · intro x hx y hy
      obtain ⟨i, hi, h1, rfl⟩ := keepT_mem snaps l a n x hx
      obtain ⟨j, hj, h2, rfl⟩ := keepT_mem snaps l a n y hy
      exact hk _ _ _ _ (by omega) (by omega) (by omega) (by omega)
  · intro k hk1
    have hkn : k < n := by omega
    have hlen := keepT_len snaps l a k
    have hin : loopO (ρ := Ctl Bool (Ctl (Int × List Ent) (Ctl (List Ent) (List Ent)))) (fun (S7 : Bool × Int) => if (decide (S7.2 < ((snaps.length : Nat) : Int))) = true then ((idx g (k : Int)).bind fun E12 =>
  (idx snaps S7.2).bind fun E14 =>
  (spec_l9Get g E12.Key E14).bind fun R16 =>
  (if S7.1 = true then (some true)
  else (if R16.2 = true then (some (decide (R16.1.Seq = E12.Seq)))
  else (some false))).bind (fun (T25 : Bool) =>
  some (.go (T25, IntKind.i64.wrap (S7.2 + (1 : Int))))))
  else (some (.done (.go S7.1)))) (decide ((k : Int) = (0 : Int)), (0 : Int)) = some (.go (stayV snaps l (a + k))) := by
      rw [loopO_count (fun m => (decide (k = 0) || (snaps.take m).any (fun s => visE g s k), (m : Int))) snaps.length (r := Ctl.go (decide (k = 0) || snaps.any (fun s => visE g s k))) ?i0]
      case i0 =>
        rw [show decide ((k : Int) = 0) = decide (k = 0) from decide_eq_decide.2 (by omega)]
        simp
      · congr 2
        cases k with
        | zero =>
          simp only [decide_true, Bool.true_or, Nat.add_zero]
          cases a with
          | zero => rfl
          | succ b =>
            have := hc b (by omega) (b + 1) (by omega) (by omega) (Nat.le_refl _)
            rw [stayV_succ snaps l b (by omega), decide_eq_false this]
            rfl
        | succ j =>
          rw [show a + (j + 1) = (a + j) + 1 by omega, stayV_succ snaps l (a + j) (by omega)]
          have e1 : (l[a + j]'(by omega)).Key = (l[a + j + 1]'(by omega)).Key := hk _ _ _ _ (by omega) (by omega) (by omega) (by omega)
          rw [decide_eq_true e1]
          simp only [Nat.add_one_ne_zero, decide_false, Bool.false_or, Bool.not_true]
          congr 1
          funext s
          rw [visE_at g s (j + 1) hk1]
          have e2 := hge (j + 1) hkn
          have e3 := hge j (by omega)
          rw [e2, show l[a + (j + 1)]'(by omega) = l[a + j + 1]'(by omega) from rfl]
          congr 1
          rw [Bool.eq_iff_iff, List.all_eq_true, decide_eq_true_eq]
          constructor
          · intro hall
            have hm : g[j]'(by omega) ∈ g.take (j + 1) := by
              have : (g.take (j + 1))[j]'(by simp; omega) = g[j]'(by omega) := by simp
              rw [← this]; exact List.getElem_mem _
            have := hall _ hm
            rw [e3, e1] at this
            simp at this
            omega
          · intro hlt d hd
            obtain ⟨i, hi, rfl⟩ := List.getElem_of_mem hd
            have hij : i < j + 1 := by simp at hi; omega
            simp only [List.getElem_take]
            rw [hge i (by omega)]
            have hge2 : (l[a + j]'(by omega)).Seq ≤ (l[a + i]'(by omega)).Seq := by
              by_cases e : i = j
              · subst e; exact Int.le_refl _
              · rcases ents_lt hv (a + j) (by omega) (a + i) (by omega) with h1 | ⟨_, h1⟩
                · rw [hk (a + i) (by omega) (a + j) (by omega) (by omega) (by omega) (by omega) (by omega), sLt_irrefl] at h1
                  cases h1
                · omega
            have : ¬ (l[a + i]'(by omega)).Seq ≤ s := by omega
            simp [this]
      · intro m hm
        simp only [idx_nat g k hk1, idx_nat snaps m hm, Option.bind_some, spec_l9Get_eq g _ _ (by omega)]
        rw [if_pos (by simpa using hm), wrap_ok (n := (m : Int) + 1) (by omega) (by omega), List.take_add_one, List.getElem?_eq_getElem hm, List.any_append, ← Bool.or_assoc]
        simp only [Option.toList_some, List.any_cons, List.any_nil, Bool.or_false]
        generalize (decide (k = 0) || (snaps.take m).any (fun s => visE g s k)) = st
        cases hvis : visE g snaps[m] k with
        | true =>
          rw [visE_find hk1 hvis]
          cases st <;> simp
        | false =>
          have hn := visE_not hgv hk1 hvis
          cases hf : g.find? (fun d => decide (d.Key = g[k].Key) && decide (d.Seq ≤ snaps[m])) with
          | none => cases st <;> simp
          | some d =>
            have := hn d hf
            cases st <;> simp [this]
      · simp
    rw [if_pos (by simpa using hk1)]
    simp only [hin, bindC_go, keepT_succ snaps l a k (by omega)]
    rw [wrap_ok (n := (k : Int) + 1) (by omega) (by omega)]
    cases stayV snaps l (a + k) with
    | true =>
      simp only [if_true, idx_nat g k hk1, Option.bind_some, hge k hkn]
      rw [app_ok (by simp; omega) (by simp; omega)]
      rfl
    | false => simp
  · rw [hgl]
    simp
theorem l15Last_eq (l : List Ent) (a : Nat) (ha : a < l.length) (h : l.length ≤ 1048576) : ∃ e : Nat, spec_l15Last l (a : Int) = some (e : Int) ∧ a < e ∧ e ≤ l.length ∧ (∀ i (hi : i < l.length), a ≤ i → i < e → l[i].Key = l[a].Key) ∧ (∀ hi : e < l.length, l[e].Key ≠ l[a].Key) := by
  unfold spec_l15Last
  have key : ∃ c, loopO (ρ := Ctl Int Int) (fun (S1 : Int) => (if (decide (S1 < ((l.length : Nat) : Int))) = true then ((idx l S1).bind fun E8 =>
  (idx l (a : Int)).bind fun E10 =>
  some (decide (E8.Key = E10.Key)))
  else (some false)).bind (fun (T5 : Bool) =>
  if T5 = true then (some (.go (IntKind.i64.wrap (S1 + (1 : Int)))))
  else (some (.done (.go S1))))) (a : Int) = some c ∧ ∃ e : Nat, c = .go (e : Int) ∧ a < e ∧ e ≤ l.length ∧ (∀ i (hi : i < l.length), a ≤ i → i < e → l[i].Key = l[a].Key) ∧ (∀ hi : e < l.length, l[e].Key ≠ l[a].Key) := by
    refine loopO_total (fun k s => s = ((a + k : Nat) : Int) ∧ ∀ i (hi : i < l.length), a ≤ i → i < a + k → l[i].Key = l[a].Key) (l.length - a) _ ⟨rfl, fun i hi h1 h2 => by omega⟩ ?_ ?_
    · rintro k s hk ⟨rfl, hI⟩
      have hak : a + k < l.length := by omega
      simp only [idx_nat l (a + k) hak, idx_nat l a ha, Option.bind_some]
      rw [if_pos (by simp; omega), wrap_ok (by omega) (by omega)]
      by_cases c : l[a + k].Key = l[a].Key
      · left
        refine ⟨((a + k : Nat) : Int) + 1, by simp [c], by omega, fun i hi h1 h2 => ?_⟩
        by_cases e : i = a + k
        · subst e; exact c
        · exact hI i hi h1 (by omega)
      · right
        refine ⟨.go ((a + k : Nat) : Int), by simp [c], a + k, rfl, ?_, by omega, hI, fun _ => c⟩
        have : k ≠ 0 := by rintro rfl; exact c rfl
        omega
    · rintro s ⟨rfl, hI⟩
      have he : a + (l.length - a) = l.length := by omega
      rw [he] at hI ⊢
      exact ⟨.go ((l.length : Nat) : Int), by simp, l.length, rfl, ha, Nat.le_refl _, hI, fun hi => absurd hi (by omega)⟩
  obtain ⟨c, hc, e, rfl, h1⟩ := key
  exact ⟨e, by rw [hc]; rfl, h1⟩
theorem cutV_next {l : List Ent} (hv : entsV l = true) {a e : Nat} (hc : cutV l a) (hae : a < e) (ha : a < l.length) (h1 : ∀ i (hi : i < l.length), a ≤ i → i < e → l[i].Key = l[a].Key) (h2 : ∀ hi : e < l.length, l[e].Key ≠ l[a].Key) : cutV l e := by
  intro i hi j hj hie hej heq
  by_cases hia : i < a
  · exact hc i hi j hj hia (by omega) heq
  · rw [h1 i hi (by omega) hie] at heq
    have hel : e < l.length := by omega
    have hne := h2 hel
    have hlt : sLt l[a].Key l[e].Key = true := by
      rcases ents_lt hv e hel a hae with h | ⟨h, _⟩
      · exact h
      · exact absurd h.symm hne
    by_cases hj2 : j = e
    · subst hj2; exact hne heq.symm
    · rcases ents_lt hv j hj e (by omega) with h | ⟨h, _⟩
      · have := sLt_trans hlt h
        rw [← heq, sLt_irrefl] at this
        cases this
      · exact hne (h.trans heq.symm)
def compactR (l : List Ent) (snaps : List Int) (bottom : Bool) : List Ent := if l.length ≤ 400 ∧ entsV l = true then finE bottom (keepT snaps l 0 l.length) else []
theorem spec_CompactEnts_eq (l : List Ent) (snaps : List Int) (bottom : Bool) (h : l.length ≤ 1048576) (hs : snaps.length ≤ 1048576) : spec_CompactEnts l snaps bottom = some (compactR l snaps bottom) := by
  unfold spec_CompactEnts compactR
  rw [spec_l9Ents_eq l h]
  by_cases hl : l.length ≤ 400
  · rw [if_neg (by simp; omega)]
    cases hv : entsV l with
    | false => simp
    | true =>
      simp only [Option.bind_some, Bool.not_true, Bool.false_eq_true, if_false]
      rw [if_pos ⟨hl, trivial⟩]
      rw [loopO_is (fun k s => ∃ a : Nat, s = ((a : Int), finE bottom (keepT snaps l 0 a)) ∧ a ≤ l.length ∧ k ≤ a ∧ cutV l a) l.length (Ctl.go (finE bottom (keepT snaps l 0 l.length))) ?h0 ?h1 ?h2]
      · rfl
      case h0 => 
        refine ⟨0, ?_, Nat.zero_le _, Nat.le_refl _, fun i hi j hj h1 h2 => by omega⟩
        cases bottom <;> rfl
      · rintro k s hk ⟨a, rfl, ha, hka, hc⟩
        by_cases hal : a < l.length
        · left
          obtain ⟨e, he, h1, h2, h3, h4⟩ := l15Last_eq l a hal h
          have hsplit : keepT snaps l 0 e = keepT snaps l 0 a ++ keepT snaps l a (e - a) := by
            have := keepT_add snaps l 0 a (e - a)
            rw [Nat.zero_add, show a + (e - a) = e by omega] at this
            exact this
          have hfe : finE bottom (keepT snaps l 0 e) = finE bottom (keepT snaps l 0 a) ++ finE bottom (keepT snaps l a (e - a)) := by
            rw [hsplit]
            refine finE_append bottom _ _ fun x hx y hy => ?_
            obtain ⟨i, hi, p1, rfl⟩ := keepT_mem snaps l 0 a x hx
            obtain ⟨j, hj, p2, rfl⟩ := keepT_mem snaps l a (e - a) y hy
            exact hc _ _ _ _ (by omega) (by omega)
          refine ⟨((e : Int), finE bottom (keepT snaps l 0 e)), ?_, e, rfl, h2, by omega, cutV_next hv hc h1 hal h3 h4⟩
          have hb1 := Nat.le_trans (finE_len bottom (keepT snaps l 0 a)) (keepT_len snaps l 0 a)
          have hb2 := Nat.le_trans (finE_len bottom (keepT snaps l a (e - a))) (keepT_len snaps l a (e - a))
          simp only [he, Option.bind_some]
          rw [if_pos (by simpa using hal), piece_nat l a e _ _ rfl rfl (by omega) h2]
          simp only [Option.bind_some]
          rw [l15Key_eq l snaps bottom a (e - a) hv h hs (by omega) hc (fun i hi j hj p1 p2 p3 p4 => (h3 i hi p1 (by omega)).trans (h3 j hj p3 (by omega)).symm)]
          simp only [Option.bind_some]
          rw [app_ok (by omega) (by omega), hfe]
          rfl
        · right
          obtain rfl : a = l.length := by omega
          simp
      · rintro s ⟨a, rfl, ha, hka, hc⟩
        obtain rfl : a = l.length := by omega
        simp
  · rw [if_pos (by simp; omega), if_neg (fun hx => hl hx.1)]
    rfl
/-- an engine whose entries in hand have become a table -/
def flushS (e : Eng) : Bool × Eng := bif decide (e.Mem.length = 0 ∨ 6 ≤ e.Tables.length) then (false, e) else (true, { Mem := [], Tables := e.Mem :: e.Tables, Seq := e.Seq, Snaps := e.Snaps })
theorem flushS_pos {e : Eng} (h : e.Mem.length = 0 ∨ 6 ≤ e.Tables.length) : flushS e = (false, e) := by unfold flushS; rw [decide_eq_true h]; rfl
theorem flushS_neg {e : Eng} (h : ¬ (e.Mem.length = 0 ∨ 6 ≤ e.Tables.length)) : flushS e = (true, { Mem := [], Tables := e.Mem :: e.Tables, Seq := e.Seq, Snaps := e.Snaps }) := by unfold flushS; rw [decide_eq_false h]; rfl
def flushR (e : Eng) : Eng × Bool := bif engV e then ((flushS e).2, (flushS e).1) else ({ Mem := [], Tables := [], Seq := 0, Snaps := [] }, false)
theorem impl_flush_eq (e : Eng) (h2 : e.Tables.length ≤ 1048576) : impl_Eng_flush e = some (flushS e) := by
  unfold impl_Eng_flush slices_Insert_87572 ins
  by_cases c1 : e.Mem.length = 0
  · have d1 : ((e.Mem.length : Nat) : Int) = 0 := by omega
    rw [flushS_pos (Or.inl c1), if_pos (decide_eq_true d1)]
    rfl
  · have d1 : ¬ ((e.Mem.length : Nat) : Int) = 0 := by omega
    rw [if_neg (by simpa using d1)]
    by_cases c2 : 6 ≤ e.Tables.length
    · have d2 : ((e.Tables.length : Nat) : Int) ≥ 6 := by omega
      rw [flushS_pos (Or.inr c2), decide_eq_true d2]
      rfl
    · have d2 : ¬ ((e.Tables.length : Nat) : Int) ≥ 6 := by omega
      rw [flushS_neg (by omega), decide_eq_false d2]
      simp only [Option.bind_some, Bool.false_eq_true, if_false]
      rw [if_pos ⟨by omega, by omega, by simp; omega, by simp; omega⟩]
      rfl
theorem spec_EngFlush_eq (e : Eng) (h1 : e.Mem.length ≤ 1048576) (h2 : e.Tables.length ≤ 1048576) (h3 : totalV e.Tables ≤ 1048576) (h4 : e.Snaps.length ≤ 1048576) : spec_EngFlush e = some (flushR e) := by
  have hlen : ∀ t ∈ e.Tables, t.length ≤ 1048576 := fun t ht => Nat.le_trans (sum_mem List.length ht) h3
  unfold spec_EngFlush flushR
  rw [spec_EngOk_eq e h1 h2 h3 h4]
  cases hv : engV e with
  | false => rfl
  | true =>
    simp only [Option.bind_some, Bool.not_true, Bool.false_eq_true, if_false, if_true, spec_l20Copy_eq e h1 h2 hlen h4, cond_true]
    by_cases c1 : e.Mem.length = 0
    · have d1 : ((e.Mem.length : Nat) : Int) = 0 := by omega
      rw [if_pos (decide_eq_true d1), flushS_pos (Or.inl c1)]
      rfl
    · have d1 : ¬ ((e.Mem.length : Nat) : Int) = 0 := by omega
      rw [if_neg (by simpa using d1)]
      by_cases c2 : 6 ≤ e.Tables.length
      · have d2 : ((e.Tables.length : Nat) : Int) ≥ 6 := by omega
        rw [flushS_pos (Or.inr c2), decide_eq_true d2]
        rfl
      · have d2 : ¬ ((e.Tables.length : Nat) : Int) ≥ 6 := by omega
        rw [flushS_neg (by omega), decide_eq_false d2]
        simp only [Option.bind_some, Bool.false_eq_true, if_false]
        rw [app_ok (by simp; omega) (by simp; omega)]
        rfl
theorem half_eq {a : Int} (h0 : 0 ≤ a) (h1 : a ≤ 4611686018427387904) : IntKind.i64.wrap (ishr .u64 (IntKind.u64.wrap (IntKind.i64.wrap a)) (1 : Int)) = a / 2 := by
  have hu : IntKind.u64.wrap a = a := by simp [IntKind.wrap, IntKind.bits, IntKind.signed]; omega
  have hs : ishr .u64 a (1 : Int) = a / 2 := by
    unfold ishr
    show a.fdiv (2 ^ 1) = a / 2
    rw [Int.fdiv_eq_ediv_of_nonneg a (by decide)]
    rfl
  rw [wrap_ok (n := a) (by omega) (by omega), hu, hs, wrap_ok (by omega) (by omega)]
theorem entLt_trans {a b c : Ent} (h1 : entLt a b = true) (h2 : entLt b c = true) : entLt a c = true := by
  unfold entLt at h1 h2 ⊢
  simp only [Bool.or_eq_true, Bool.and_eq_true, decide_eq_true_eq] at h1 h2 ⊢
  rcases h1 with h1 | ⟨h1, h3⟩
  · rcases h2 with h2 | ⟨h2, _⟩
    · exact .inl (sLt_trans h1 h2)
    · rw [← h2]; exact .inl h1
  · rcases h2 with h2 | ⟨h2, h4⟩
    · rw [h1]; exact .inl h2
    · exact .inr ⟨h1.trans h2, by omega⟩
theorem entLt_total {a b : Ent} (h : ¬ (a.Key = b.Key ∧ a.Seq = b.Seq)) (h2 : entLt a b = false) : entLt b a = true := by
  unfold entLt at h2 ⊢
  simp only [Bool.or_eq_false_iff, Bool.and_eq_false_iff, decide_eq_false_iff_not] at h2
  simp only [Bool.or_eq_true, Bool.and_eq_true, decide_eq_true_eq]
  have hc := sLt_compl a.Key b.Key
  rw [h2.1] at hc
  simp only [Bool.not_false] at hc
  by_cases hk : a.Key = b.Key
  · right
    refine ⟨hk.symm, ?_⟩
    rcases h2.2 with h3 | h3
    · exact absurd hk h3
    · have : ¬ a.Seq = b.Seq := fun e => h ⟨hk, e⟩
      omega
  · left
    have h5 : decide (b.Key = a.Key) = false := decide_eq_false fun e => hk e.symm
    rw [h5, Bool.or_false] at hc
    exact hc
theorem compareEnts_sign (a b : Ent) : ∃ r, impl_compareEnts a b = some r ∧ decide (r < 0) = entLt a b ∧ (r = 0 ↔ (a.Key = b.Key ∧ a.Seq = b.Seq)) := by
  unfold impl_compareEnts entLt
  rw [cmpS_eq, cmpI_eq]
  simp only [Option.bind_some, cmpOr_eq]
  refine ⟨_, rfl, ?_⟩
  by_cases c : sLt a.Key b.Key = true
  · have hne : ¬ a.Key = b.Key := fun e => by rw [e, sLt_irrefl] at c; cases c
    simp [c, hne]
  · have c' : sLt a.Key b.Key = false := by simpa using c
    rw [if_neg c, c']
    by_cases c2 : a.Key = b.Key
    · rw [decide_eq_true c2]
      by_cases c3 : b.Seq < a.Seq
      · have : ¬ a.Seq = b.Seq := by omega
        simp [c2, c3, this]
      · by_cases c4 : b.Seq > a.Seq
        · have : ¬ a.Seq = b.Seq := by omega
          simp [c2, c3, c4, this]
        · have : a.Seq = b.Seq := by omega
          simp [c2, this]
    · rw [decide_eq_false c2]
      simp [c2]
def ordE (l : List Ent) : Prop := l.Pairwise fun a b => entLt a b = true
theorem entsV_iff (l : List Ent) : entsV l = true ↔ (∀ x ∈ l, entV x = true) ∧ ordE l := by
  constructor
  · intro h
    refine ⟨fun x hx => ?_, ?_⟩
    · obtain ⟨k, hk, rfl⟩ := List.getElem_of_mem hx
      unfold entsV at h
      rw [List.all_eq_true] at h
      have := h k (by simpa using hk)
      rw [entP_at l k hk, Bool.and_eq_true] at this
      exact this.1
    · unfold ordE
      rw [List.pairwise_iff_getElem]
      intro i j hi hj hij
      unfold entLt
      simp only [Bool.or_eq_true, Bool.and_eq_true, decide_eq_true_eq]
      exact ents_lt h j hj i hij
  · rintro ⟨h1, h2⟩
    unfold ordE at h2
    rw [List.pairwise_iff_getElem] at h2
    unfold entsV
    rw [List.all_eq_true]
    intro k hk
    have hk' : k < l.length := by simpa using hk
    rw [entP_at l k hk', h1 _ (List.getElem_mem hk')]
    by_cases h0 : 0 < k
    · rw [dif_pos h0, h2 (k - 1) k (by omega) hk' (by omega)]
      rfl
    · rw [dif_neg h0]
      rfl
theorem rangeV_bounds (m : Int) : ∀ (l : List Ent) (s : Int × Int), (m ≤ (l.foldl (fun s e => (goMin s.1 e.Seq, goMax s.2 e.Seq)) s).1 ↔ m ≤ s.1 ∧ ∀ x ∈ l, m ≤ x.Seq) ∧ ((l.foldl (fun s e => (goMin s.1 e.Seq, goMax s.2 e.Seq)) s).2 ≤ m ↔ s.2 ≤ m ∧ ∀ x ∈ l, x.Seq ≤ m)
  | [], s => by simp
  | e :: l, s => by
    obtain ⟨h1, h2⟩ := rangeV_bounds m l (goMin s.1 e.Seq, goMax s.2 e.Seq)
    simp only [List.foldl_cons]
    rw [h1, h2]
    have e1 : m ≤ goMin s.1 e.Seq ↔ m ≤ s.1 ∧ m ≤ e.Seq := by unfold goMin; split <;> omega
    have e2 : goMax s.2 e.Seq ≤ m ↔ s.2 ≤ m ∧ e.Seq ≤ m := by unfold goMax; split <;> omega
    rw [e1, e2]
    exact ⟨by simp only [List.mem_cons, forall_eq_or_imp, and_assoc], by simp only [List.mem_cons, forall_eq_or_imp, and_assoc]⟩
theorem rangeV_lo (l : List Ent) (m : Int) : m ≤ (rangeV l).1 ↔ m ≤ 1000001 ∧ ∀ x ∈ l, m ≤ x.Seq := (rangeV_bounds m l _).1
theorem rangeV_hi (l : List Ent) (m : Int) : (rangeV l).2 ≤ m ↔ -1 ≤ m ∧ ∀ x ∈ l, x.Seq ≤ m := (rangeV_bounds m l _).2
theorem engV_all {e : Eng} (h : engV e = true) : (0 ≤ e.Seq ∧ e.Seq ≤ 1000000) ∧ e.Snaps.length ≤ 4 ∧ e.Tables.length ≤ 6 ∧ totalV e.Tables + e.Mem.length ≤ 400 ∧ (e.Mem.length ≤ 60 ∧ entsV e.Mem = true) ∧ (rangeV e.Mem).2 ≤ e.Seq ∧ tabsV e.Seq (rangeV e.Mem).1 e.Tables = true ∧ snapsV e.Seq e.Snaps = true := by
  unfold engV memV at h
  simp only [Bool.and_eq_true, decide_eq_true_eq] at h
  obtain ⟨⟨h1, h2, h3, h4, h5, h6, h7⟩, h8⟩ := h
  exact ⟨h1, h2, h3, h4, h5, h6, h7, h8⟩
/-! words of bits -/
/-! draws -/
/-! draws of files and edits -/
theorem loopO_G {τ ρ R : Type} {body : τ → Option (Ctl τ (Ctl ρ R))} {s0 : τ} {f : ρ → Option R} (G : Option R → Prop) (I : Nat → τ → Prop) (n : Nat) (Q : Ctl ρ R → Prop) (h0 : I 0 s0)
    (h : ∀ k s, k < n → I k s → (∃ s', body s = some (.go s') ∧ I (k + 1) s') ∨ (∃ r, body s = some (.done r) ∧ Q r)) (hn : ∀ s, I n s → ∃ r, body s = some (.done r) ∧ Q r)
    (hk : ∀ r, Q r → G (bindC (some r) f)) : G (bindC (loopO body s0) f) := by
  obtain ⟨r, hr, hq⟩ := loopO_total I n Q h0 h hn
  rw [hr]
  exact hk r hq
/-! reservations: what fits -/
/-! rows of a log -/
/-! streams -/
/-! files sealed -/
/-! a known block -/
/-! all that an iterator meets -/
/-! compaction keeps what is seen -/
theorem entsV_pw (l : List Ent) : entsV l = true ↔ (∀ e ∈ l, entV e = true) ∧ l.Pairwise (fun a b => entLt a b = true) := by
  constructor
  · intro hv
    refine ⟨fun e he => ?_, ?_⟩
    · obtain ⟨k, hk, rfl⟩ := List.getElem_of_mem he
      have := entP_of hv k hk
      rw [entP_at l k hk, Bool.and_eq_true] at this
      exact this.1
    · rw [List.pairwise_iff_getElem]
      intro i j hi hj hij
      unfold entLt
      rcases ents_lt hv j hj i hij with h | ⟨h1, h2⟩
      · rw [h]; rfl
      · rw [decide_eq_true h1, decide_eq_true h2]; simp
  · rintro ⟨h1, h2⟩
    rw [List.pairwise_iff_getElem] at h2
    unfold entsV
    rw [List.all_eq_true]
    intro k hk
    have hk' : k < l.length := by simpa using hk
    rw [entP_at l k hk', h1 _ (List.getElem_mem hk'), Bool.true_and]
    by_cases h0 : 0 < k
    · rw [dif_pos h0]; exact h2 (k - 1) k (by omega) hk' (by omega)
    · rw [dif_neg h0]
/-- an entry stays behind another one -/
def stayG (snaps : List Int) : Option Ent → Ent → Bool
  | none, _ => true
  | some d, e => !decide (d.Key = e.Key) || snaps.any (fun s => decide (e.Seq ≤ s) && decide (s < d.Seq))
def keepG (snaps : List Int) : Option Ent → List Ent → List Ent
  | _, [] => []
  | p, e :: r => bif stayG snaps p e then e :: keepG snaps (some e) r else keepG snaps (some e) r
def prevG (l : List Ent) : Nat → Option Ent
  | 0 => none
  | k + 1 => l[k]?
theorem prevG_succ (l : List Ent) (k : Nat) : prevG l (k + 1) = l[k]? := rfl
theorem stayV_G (snaps : List Int) (l : List Ent) (k : Nat) (hk : k < l.length) : stayV snaps l k = stayG snaps (prevG l k) l[k] := by
  cases k with
  | zero => rfl
  | succ j =>
    rw [stayV_succ snaps l j hk]
    rw [prevG_succ, List.getElem?_eq_getElem (by omega)]
    rfl
theorem keepT_G (snaps : List Int) (l : List Ent) : ∀ (d k : Nat), k + d = l.length → keepT snaps l k d = keepG snaps (prevG l k) (l.drop k)
  | 0, k, h => by
    rw [List.drop_of_length_le (by omega)]
    rfl
  | d + 1, k, h => by
    have hk : k < l.length := by omega
    have h1 : keepT snaps l k 1 = if stayV snaps l k = true then [l[k]] else [] := by
      rw [keepT_succ snaps l k 0 hk]
      simp [keepT]
    have hp : prevG l (k + 1) = some l[k] := by rw [prevG_succ, List.getElem?_eq_getElem hk]
    rw [Nat.add_comm d 1, keepT_add, h1, keepT_G snaps l d (k + 1) (by omega), List.drop_eq_getElem_cons hk, keepG, stayV_G snaps l k hk, hp]
    cases stayG snaps (prevG l k) l[k] <;> simp
theorem compactR_G {l : List Ent} (snaps : List Int) (bottom : Bool) (h1 : l.length ≤ 400) (h2 : entsV l = true) : compactR l snaps bottom = finE bottom (keepG snaps none l) := by
  unfold compactR
  rw [if_pos ⟨h1, h2⟩, keepT_G snaps l l.length 0 (by omega)]
  rfl
theorem keepG_sub (snaps : List Int) : ∀ (p : Option Ent) (l : List Ent), (keepG snaps p l).Sublist l
  | _, [] => List.Sublist.slnil
  | p, e :: r => by
    rw [keepG]
    cases stayG snaps p e with
    | true => exact (keepG_sub snaps (some e) r).cons_cons e
    | false => exact (keepG_sub snaps (some e) r).cons e
theorem tid_sub : ∀ l : List Ent, (tid l).2.Sublist l
  | [] => List.Sublist.slnil
  | e :: t => by
    rw [tid_cons]
    cases ((tid t).1 && sameK e t) || !e.Del with
    | true => exact (tid_sub t).cons_cons e
    | false => exact (tid_sub t).cons e
theorem finE_sub (b : Bool) (l : List Ent) : (finE b l).Sublist l := by
  unfold finE
  cases b with
  | true => exact tid_sub l
  | false => exact List.Sublist.refl l
theorem entsV_sublist {l x : List Ent} (h : x.Sublist l) (hv : entsV l = true) : entsV x = true := by
  rw [entsV_pw] at hv ⊢
  exact ⟨fun e he => hv.1 e (h.mem he), hv.2.sublist h⟩
/-! draws of entries -/
/-! stable order: lists in order, class by class -/
structure Ord3 {α κ : Type} (lt : α → α → Bool) (K : α → κ) : Prop where
  tri : ∀ a b, lt a b = true ∨ K a = K b ∨ lt b a = true
  irr : ∀ a b, K a = K b → lt a b = false
  trans : ∀ a b c, lt a b = true → lt b c = true → lt a c = true
theorem Ord3.asym {α κ : Type} {lt : α → α → Bool} {K : α → κ} (o : Ord3 lt K) {a b : α} (h : lt a b = true) : lt b a = false := by
  cases hb : lt b a with
  | false => rfl
  | true => have := o.irr a a rfl; rw [o.trans a b a h hb] at this; cases this
theorem Ord3.le_trans {α κ : Type} {lt : α → α → Bool} {K : α → κ} (o : Ord3 lt K) {a b c : α} (h1 : lt b a = false) (h2 : lt c b = false) : lt c a = false := by
  cases hc : lt c a with
  | false => rfl
  | true =>
    rcases o.tri a b with h | h | h
    · rw [o.trans c a b hc h] at h2; cases h2
    · rcases o.tri c b with h' | h' | h'
      · rw [h'] at h2; cases h2
      · rw [o.irr c a (by rw [h', h])] at hc; cases hc
      · have := o.trans b c a h' hc; rw [this] at h1; cases h1
    · rw [h] at h1; cases h1
theorem Ord3.lt_le {α κ : Type} {lt : α → α → Bool} {K : α → κ} (o : Ord3 lt K) {a b c : α} (h1 : lt a b = true) (h2 : lt c b = false) : lt a c = true := by
  rcases o.tri b c with h | h | h
  · exact o.trans a b c h1 h
  · rcases o.tri a c with h' | h' | h'
    · exact h'
    · rw [o.irr a b (by rw [h', h])] at h1; cases h1
    · have := o.trans c a b h' h1; rw [this] at h2; cases h2
  · rw [h] at h2; cases h2
theorem Ord3.le_lt {α κ : Type} {lt : α → α → Bool} {K : α → κ} (o : Ord3 lt K) {a b c : α} (h1 : lt b a = false) (h2 : lt b c = true) : lt a c = true := by
  rcases o.tri a b with h | h | h
  · exact o.trans a b c h h2
  · rcases o.tri a c with h' | h' | h'
    · exact h'
    · rw [o.irr b c (by rw [← h, h'])] at h2; cases h2
    · have := o.trans b c a h2 h'; rw [this] at h1; cases h1
  · rw [h] at h1; cases h1
/-- in order, equals beside each other -/
def SrtL {α : Type} (lt : α → α → Bool) (l : List α) : Prop := l.Pairwise fun a b => lt b a = false
/-- each class with the same members in the same order -/
def ClsL {α κ : Type} [DecidableEq κ] (K : α → κ) (r l : List α) : Prop := ∀ c, r.filter (fun x => decide (K x = c)) = l.filter (fun x => decide (K x = c))
theorem ClsL.refl {α κ : Type} [DecidableEq κ] (K : α → κ) (l : List α) : ClsL K l l := fun _ => rfl
theorem ClsL.trans {α κ : Type} [DecidableEq κ] {K : α → κ} {a b c : List α} (h1 : ClsL K a b) (h2 : ClsL K b c) : ClsL K a c := fun k => (h1 k).trans (h2 k)
theorem ClsL.append {α κ : Type} [DecidableEq κ] {K : α → κ} {a b c d : List α} (h1 : ClsL K a b) (h2 : ClsL K c d) : ClsL K (a ++ c) (b ++ d) := fun k => by rw [List.filter_append, List.filter_append, h1 k, h2 k]
theorem ClsL.perm {α κ : Type} [DecidableEq κ] [DecidableEq α] {K : α → κ} {r l : List α} (h : ClsL K r l) : r.Perm l := by
  rw [List.perm_iff_count]
  intro a
  have h1 := congrArg (List.count a) (h (K a))
  rwa [List.count_filter (by simp), List.count_filter (by simp)] at h1
theorem ClsL.length {α κ : Type} [DecidableEq κ] [DecidableEq α] {K : α → κ} {r l : List α} (h : ClsL K r l) : r.length = l.length := h.perm.length_eq
/-- two parts that have no class in common change places -/
theorem ClsL.swap {α κ : Type} [DecidableEq κ] {K : α → κ} {lt : α → α → Bool} (o : Ord3 lt K) {u v : List α} (h : ∀ x ∈ v, ∀ y ∈ u, lt x y = true) : ClsL K (v ++ u) (u ++ v) := by
  intro c
  rw [List.filter_append, List.filter_append]
  by_cases hu : ∃ y ∈ u, K y = c
  · obtain ⟨y, hy, rfl⟩ := hu
    have : v.filter (fun x => decide (K x = K y)) = [] := by
      rw [List.filter_eq_nil_iff]
      intro x hx hk
      have := o.irr x y (by simpa using hk)
      rw [h x hx y hy] at this
      cases this
    rw [this]; simp
  · have : u.filter (fun x => decide (K x = c)) = [] := by
      rw [List.filter_eq_nil_iff]
      intro y hy hk
      exact hu ⟨y, hy, by simpa using hk⟩
    rw [this]; simp
theorem SrtL.append {α : Type} {lt : α → α → Bool} {a b : List α} (h1 : SrtL lt a) (h2 : SrtL lt b) (h : ∀ x ∈ a, ∀ y ∈ b, lt y x = false) : SrtL lt (a ++ b) := List.pairwise_append.2 ⟨h1, h2, h⟩
theorem SrtL.left {α : Type} {lt : α → α → Bool} {a b : List α} (h : SrtL lt (a ++ b)) : SrtL lt a := (List.pairwise_append.1 h).1
theorem SrtL.right {α : Type} {lt : α → α → Bool} {a b : List α} (h : SrtL lt (a ++ b)) : SrtL lt b := (List.pairwise_append.1 h).2.1
theorem SrtL.cross {α : Type} {lt : α → α → Bool} {a b : List α} (h : SrtL lt (a ++ b)) : ∀ x ∈ a, ∀ y ∈ b, lt y x = false := (List.pairwise_append.1 h).2.2
/-- what stands ahead of the last one is not behind it -/
theorem SrtL.last {α κ : Type} {lt : α → α → Bool} {K : α → κ} (o : Ord3 lt K) {a : List α} (h : SrtL lt a) (hne : 0 < a.length) : ∀ x ∈ a, lt (a[a.length - 1]'(by omega)) x = false := by
  intro x hx
  obtain ⟨i, hi, rfl⟩ := List.getElem_of_mem hx
  rcases Nat.lt_or_ge i (a.length - 1) with h' | h'
  · exact (List.pairwise_iff_getElem.1 h) i (a.length - 1) hi (by omega) h'
  · have : i = a.length - 1 := by omega
    subst this
    exact o.irr _ _ rfl
theorem SrtL.first {α κ : Type} {lt : α → α → Bool} {K : α → κ} (o : Ord3 lt K) {a : List α} (h : SrtL lt a) (hne : 0 < a.length) : ∀ x ∈ a, lt x (a[0]'hne) = false := by
  intro x hx
  obtain ⟨i, hi, rfl⟩ := List.getElem_of_mem hx
  rcases Nat.eq_zero_or_pos i with h' | h'
  · subst h'; exact o.irr _ _ rfl
  · exact (List.pairwise_iff_getElem.1 h) 0 i (by omega) hi h'
/-- two parts in order, with their last and first ones known, merge part by part -/
theorem mergeParts {α κ : Type} [DecidableEq κ] [DecidableEq α] {lt : α → α → Bool} {K : α → κ} (o : Ord3 lt K) {a1 a2 b1 b2 r1 r2 : List α} (hA : SrtL lt (a1 ++ a2)) (hB : SrtL lt (b1 ++ b2))
    (h1 : ∀ x ∈ b1, ∀ y ∈ a2, lt x y = true) (h2 : ∀ x ∈ a1, ∀ y ∈ b2, lt y x = false) (s1 : SrtL lt r1) (c1 : ClsL K r1 (a1 ++ b1)) (s2 : SrtL lt r2) (c2 : ClsL K r2 (a2 ++ b2)) :
    SrtL lt (r1 ++ r2) ∧ ClsL K (r1 ++ r2) ((a1 ++ a2) ++ (b1 ++ b2)) := by
  refine ⟨s1.append s2 ?_, ?_⟩
  · intro x hx y hy
    have hx' := c1.perm.mem_iff.1 hx
    have hy' := c2.perm.mem_iff.1 hy
    rcases List.mem_append.1 hx' with hx1 | hx1 <;> rcases List.mem_append.1 hy' with hy1 | hy1
    · exact hA.cross x hx1 y hy1
    · exact h2 x hx1 y hy1
    · exact o.asym (h1 x hx1 y hy1)
    · exact hB.cross x hx1 y hy1
  · refine (c1.append c2).trans ?_
    have e1 : (a1 ++ b1) ++ (a2 ++ b2) = a1 ++ ((b1 ++ a2) ++ b2) := by simp
    have e2 : (a1 ++ a2) ++ (b1 ++ b2) = a1 ++ ((a2 ++ b1) ++ b2) := by simp
    rw [e1, e2]
    exact (ClsL.refl K a1).append ((ClsL.swap o h1).append (ClsL.refl K b2))
/-- the place that halving finds -/
theorem halve {ρ : Type} {body : Int × Int → Option (Ctl (Int × Int) (Ctl Int ρ))} (p : Nat → Bool) (i0 j0 : Nat) (hij : i0 ≤ j0)
    (hb : ∀ i j : Nat, i0 ≤ i → i < j → j ≤ j0 → body ((i : Int), (j : Int)) = some (.go (if p ((i + j) / 2) then ((((i + j) / 2 + 1 : Nat) : Int), (j : Int)) else ((i : Int), (((i + j) / 2 : Nat) : Int)))))
    (hd : ∀ i : Nat, i0 ≤ i → i ≤ j0 → body ((i : Int), (i : Int)) = some (.done (.go (i : Int)))) :
    ∃ c : Nat, i0 ≤ c ∧ c ≤ j0 ∧ (i0 < c → p (c - 1) = true) ∧ (c < j0 → p c = false) ∧ loopO body ((i0 : Int), (j0 : Int)) = some (.go (c : Int)) := by
  have key : ∀ d i j : Nat, j - i ≤ d → i0 ≤ i → i ≤ j → j ≤ j0 → (i0 < i → p (i - 1) = true) → (j < j0 → p j = false) →
      ∃ c : Nat, i0 ≤ c ∧ c ≤ j0 ∧ (i0 < c → p (c - 1) = true) ∧ (c < j0 → p c = false) ∧ loopO body ((i : Int), (j : Int)) = some (.go (c : Int)) := by
    intro d
    induction d with
    | zero =>
      intro i j h1 h2 h3 h4 h5 h6
      obtain rfl : i = j := by omega
      exact ⟨i, h2, h4, h5, h6, by rw [loopO_eq, hd i h2 h4]⟩
    | succ d ih =>
      intro i j h1 h2 h3 h4 h5 h6
      rcases Nat.lt_or_ge i j with h | h
      · cases hp : p ((i + j) / 2) with
        | true =>
          obtain ⟨c, g⟩ := ih ((i + j) / 2 + 1) j (by omega) (by omega) (by omega) h4 (fun _ => by rw [Nat.add_sub_cancel]; exact hp) h6
          refine ⟨c, g.1, g.2.1, g.2.2.1, g.2.2.2.1, ?_⟩
          rw [loopO_eq, hb i j h2 h h4, hp]
          exact g.2.2.2.2
        | false =>
          obtain ⟨c, g⟩ := ih i ((i + j) / 2) (by omega) h2 (by omega) (by omega) h5 (fun _ => hp)
          refine ⟨c, g.1, g.2.1, g.2.2.1, g.2.2.2.1, ?_⟩
          rw [loopO_eq, hb i j h2 h h4, hp]
          exact g.2.2.2.2
      · obtain rfl : i = j := by omega
        exact ⟨i, h2, h4, h5, h6, by rw [loopO_eq, hd i h2 h4]⟩
  exact key (j0 - i0) i0 j0 (Nat.le_refl _) (Nat.le_refl _) hij (Nat.le_refl _) (fun h => by omega) (fun h => by omega)

/-! two elements change places -/
theorem swap_at {α : Type} (X Y Z : List α) (a b : α) (i j : Int) (hi : i = ((X.length : Nat) : Int)) (hj : j = ((X.length + 1 + Y.length : Nat) : Int)) :
    idx (X ++ a :: (Y ++ b :: Z)) i = some a ∧ idx (X ++ a :: (Y ++ b :: Z)) j = some b ∧ idx ((X ++ a :: (Y ++ b :: Z)).set i.toNat b) j = some b ∧ idx ((X ++ a :: (Y ++ b :: Z)).set j.toNat a) i = some a ∧
    ((X ++ a :: (Y ++ b :: Z)).set i.toNat b).set j.toNat a = X ++ b :: (Y ++ a :: Z) ∧ ((X ++ a :: (Y ++ b :: Z)).set j.toNat a).set i.toNat b = X ++ b :: (Y ++ a :: Z) := by
  subst hi hj
  have e1 : ∀ (c : α) (T : List α), idx (X ++ c :: T) ((X.length : Nat) : Int) = some c := by
    intro c T
    unfold idx
    rw [if_pos (by omega), Int.toNat_natCast, List.getElem?_append_right (Nat.le_refl _), Nat.sub_self]; rfl
  have e2 : ∀ (c d : α), idx (X ++ c :: (Y ++ d :: Z)) ((X.length + 1 + Y.length : Nat) : Int) = some d := by
    intro c d
    unfold idx
    rw [if_pos (by omega), Int.toNat_natCast, List.getElem?_append_right (by omega), show X.length + 1 + Y.length - X.length = Y.length + 1 by omega, List.getElem?_cons_succ, List.getElem?_append_right (Nat.le_refl _), Nat.sub_self]; rfl
  have s1 : ∀ (c d : α) (T : List α), (X ++ c :: T).set X.length d = X ++ d :: T := by
    intro c d T
    rw [List.set_append_right _ _ (Nat.le_refl _), Nat.sub_self]; rfl
  have s2 : ∀ (c d e : α), (X ++ c :: (Y ++ d :: Z)).set (X.length + 1 + Y.length) e = X ++ c :: (Y ++ e :: Z) := by
    intro c d e
    rw [List.set_append_right _ _ (by omega), show X.length + 1 + Y.length - X.length = Y.length + 1 by omega, List.set_cons_succ, List.set_append_right _ _ (Nat.le_refl _), Nat.sub_self]; rfl
  simp only [Int.toNat_natCast]
  refine ⟨e1 _ _, e2 _ _, ?_, ?_, ?_, ?_⟩
  · rw [s1]; exact e2 _ _
  · rw [s2]; exact e1 _ _
  · rw [s1, s2]
  · rw [s2, s1]
theorem idx_mid {α : Type} (X Z : List α) (a : α) (i : Int) (hi : i = ((X.length : Nat) : Int)) : idx (X ++ a :: Z) i = some a := by
  subst hi
  unfold idx
  rw [if_pos (by omega), Int.toNat_natCast, List.getElem?_append_right (Nat.le_refl _), Nat.sub_self]; rfl
theorem loopO_bind {τ ρ R : Type} {body : τ → Option (Ctl τ (Ctl ρ R))} {s0 : τ} {k : ρ → Option R} {res : R} (I : Nat → τ → Prop) (n : Nat) (Q : Ctl ρ R → Prop) (h0 : I 0 s0)
    (h : ∀ k s, k < n → I k s → (∃ s', body s = some (.go s') ∧ I (k + 1) s') ∨ (∃ r, body s = some (.done r) ∧ Q r)) (hn : ∀ s, I n s → ∃ r, body s = some (.done r) ∧ Q r)
    (hk : ∀ r, Q r → bindC (some r) k = some res) : bindC (loopO body s0) k = some res := by
  obtain ⟨r, hr, hq⟩ := loopO_total I n Q h0 h hn
  rw [hr]
  exact hk r hq
theorem take_snoc {α : Type} (l : List α) (t : Nat) (h : t < l.length) : l.take (t + 1) = l.take t ++ [l[t]] := by
  rw [List.take_add_one, List.getElem?_eq_getElem h]; rfl
theorem swapRange_eq (P A Q B S : List Ent) (a b n : Int) (ha : a = ((P.length : Nat) : Int)) (hb : b = ((P.length + A.length + Q.length : Nat) : Int)) (hn : n = ((A.length : Nat) : Int)) (hAB : B.length = A.length)
    (hl : P.length + A.length + Q.length + B.length ≤ 4611686018427387904) :
    slices_swapRangeCmpFunc_57869_at_impl_compareEnts (P ++ (A ++ (Q ++ (B ++ S)))) a b n = some (P ++ (B ++ (Q ++ (A ++ S)))) := by
  subst ha hb hn
  unfold slices_swapRangeCmpFunc_57869_at_impl_compareEnts
  rw [loopO_count (fun t => ((t : Int), P ++ (B.take t ++ (A.drop t ++ (Q ++ (A.take t ++ (B.drop t ++ S))))))) A.length (r := .go (P ++ (B ++ (Q ++ (A ++ S))))) ?h0]
  case h0 => simp
  · rfl
  · intro t ht
    have htB : t < B.length := by omega
    have e1 : P ++ (B.take t ++ (A.drop t ++ (Q ++ (A.take t ++ (B.drop t ++ S))))) = (P ++ B.take t) ++ A[t] :: ((A.drop (t + 1) ++ (Q ++ A.take t)) ++ B[t] :: (B.drop (t + 1) ++ S)) := by
      rw [List.drop_eq_getElem_cons ht, List.drop_eq_getElem_cons htB]; simp only [List.append_assoc, List.cons_append, List.nil_append]
    have e2 : P ++ (B.take (t + 1) ++ (A.drop (t + 1) ++ (Q ++ (A.take (t + 1) ++ (B.drop (t + 1) ++ S))))) = (P ++ B.take t) ++ B[t] :: ((A.drop (t + 1) ++ (Q ++ A.take t)) ++ A[t] :: (B.drop (t + 1) ++ S)) := by
      rw [take_snoc B t htB, take_snoc A t ht]; simp only [List.append_assoc, List.cons_append, List.nil_append]
    have w1 : IntKind.i64.wrap (((P.length : Nat) : Int) + (t : Int)) = ((P.length + t : Nat) : Int) := by rw [wrap_ok (by omega) (by omega)]; omega
    have w2 : IntKind.i64.wrap (((P.length + A.length + Q.length : Nat) : Int) + (t : Int)) = ((P.length + A.length + Q.length + t : Nat) : Int) := by rw [wrap_ok (by omega) (by omega)]; omega
    have w3 : IntKind.i64.wrap ((t : Int) + 1) = ((t + 1 : Nat) : Int) := by rw [wrap_ok (by omega) (by omega)]; omega
    obtain ⟨h1, h2, h3, h4, h5, h6⟩ := swap_at (P ++ B.take t) (A.drop (t + 1) ++ (Q ++ A.take t)) (B.drop (t + 1) ++ S) A[t] B[t] ((P.length + t : Nat) : Int) ((P.length + A.length + Q.length + t : Nat) : Int)
      (by rw [List.length_append, List.length_take]; omega) (by simp only [List.length_append, List.length_take, List.length_drop]; omega)
    simp only [w1, w2, w3]
    rw [if_pos (by simp; omega), e1, e2]
    simp only [h1, h2, h3, h5, Option.bind_some]
  · simp [hAB, List.take_of_length_le, List.drop_of_length_le, Nat.le_of_eq hAB]
theorem rotate_eq (P U V S : List Ent) (a m b : Int) (ha : a = ((P.length : Nat) : Int)) (hm : m = ((P.length + U.length : Nat) : Int)) (hb : b = ((P.length + U.length + V.length : Nat) : Int)) (hU : 0 < U.length) (hV : 0 < V.length)
    (hl : P.length + U.length + V.length ≤ 4611686018427387904) :
    slices_rotateCmpFunc_57869_at_impl_compareEnts (P ++ (U ++ (V ++ S))) a m b = some (P ++ (V ++ (U ++ S))) := by
  subst ha hm hb
  unfold slices_rotateCmpFunc_57869_at_impl_compareEnts
  have w1 : IntKind.i64.wrap (((P.length + U.length : Nat) : Int) - ((P.length : Nat) : Int)) = ((U.length : Nat) : Int) := by rw [wrap_ok (by omega) (by omega)]; omega
  have w2 : IntKind.i64.wrap (((P.length + U.length + V.length : Nat) : Int) - ((P.length + U.length : Nat) : Int)) = ((V.length : Nat) : Int) := by rw [wrap_ok (by omega) (by omega)]; omega
  rw [w1, w2]
  refine loopO_bind (fun k s => ∃ (i j : Nat) (P' U' V' S' : List Ent), s = ((i : Int), (j : Int), P' ++ (U' ++ (V' ++ S'))) ∧ U'.length = i ∧ V'.length = j ∧ 0 < i ∧ 0 < j ∧ P'.length + i = P.length + U.length ∧ P'.length + i + j ≤ P.length + U.length + V.length ∧ i + j + k ≤ U.length + V.length ∧ P' ++ (V' ++ (U' ++ S')) = P ++ (V ++ (U ++ S)))
    (U.length + V.length)
    (fun r => ∃ (i : Nat) (P' U' V' S' : List Ent), r = .go ((i : Int), P' ++ (U' ++ (V' ++ S'))) ∧ U'.length = i ∧ V'.length = i ∧ P'.length + i = P.length + U.length ∧ P'.length + i + i ≤ P.length + U.length + V.length ∧ P' ++ (V' ++ (U' ++ S')) = P ++ (V ++ (U ++ S)))
    ⟨U.length, V.length, P, U, V, S, rfl, rfl, rfl, hU, hV, rfl, Nat.le_refl _, Nat.le_refl _, rfl⟩ ?hs ?hf ?hk
  case hs =>
    rintro k _ hk ⟨i, j, P', U', V', S', rfl, q1, q2, q3, q4, q5, q6, q7, q8⟩
    rcases Nat.lt_trichotomy i j with h | h | h
    · left
      obtain ⟨Q, B, rfl, hB⟩ : ∃ Q B, V' = Q ++ B ∧ B.length = i := ⟨V'.take (j - i), V'.drop (j - i), (List.take_append_drop _ _).symm, by rw [List.length_drop]; omega⟩
      rw [List.length_append] at q2
      have w3 : IntKind.i64.wrap (((P.length + U.length : Nat) : Int) - (i : Int)) = ((P'.length : Nat) : Int) := by rw [wrap_ok (by omega) (by omega)]; omega
      have w4 : IntKind.i64.wrap (IntKind.i64.wrap (((P.length + U.length : Nat) : Int) + (j : Int)) - (i : Int)) = ((P'.length + U'.length + Q.length : Nat) : Int) := by
        rw [wrap_ok (n := ((P.length + U.length : Nat) : Int) + (j : Int)) (by omega) (by omega), wrap_ok (by omega) (by omega)]; omega
      have w5 : IntKind.i64.wrap ((j : Int) - (i : Int)) = ((j - i : Nat) : Int) := by rw [wrap_ok (by omega) (by omega)]; omega
      refine ⟨((i : Int), ((j - i : Nat) : Int), P' ++ (B ++ (Q ++ (U' ++ S')))), ?_, i, j - i, P', B, Q, U' ++ S', rfl, hB, by omega, q3, by omega, q5, by omega, by omega, ?_⟩
      · have hsw := swapRange_eq P' U' Q B S' _ _ _ w3 w4 (show (i : Int) = ((U'.length : Nat) : Int) by omega) (by omega) (by omega)
        have e : P' ++ (U' ++ (Q ++ B ++ S')) = P' ++ (U' ++ (Q ++ (B ++ S'))) := by simp
        simp only [e, hsw, w5, Option.bind_some]
        rw [if_pos (by simp; omega), if_neg (by simp; omega)]
        rfl
      · rw [← q8]; simp
    · right
      subst h
      refine ⟨.go ((i : Int), P' ++ (U' ++ (V' ++ S'))), ?_, i, P', U', V', S', rfl, q1, q2, q5, q6, q8⟩
      simp
    · left
      obtain ⟨A, Q, rfl, hA⟩ : ∃ A Q, U' = A ++ Q ∧ A.length = j := ⟨U'.take j, U'.drop j, (List.take_append_drop _ _).symm, by rw [List.length_take]; omega⟩
      rw [List.length_append] at q1
      have w3 : IntKind.i64.wrap (((P.length + U.length : Nat) : Int) - (i : Int)) = ((P'.length : Nat) : Int) := by rw [wrap_ok (by omega) (by omega)]; omega
      have w5 : IntKind.i64.wrap ((i : Int) - (j : Int)) = ((i - j : Nat) : Int) := by rw [wrap_ok (by omega) (by omega)]; omega
      refine ⟨(((i - j : Nat) : Int), (j : Int), (P' ++ V') ++ (Q ++ (A ++ S'))), ?_, i - j, j, P' ++ V', Q, A, S', rfl, by omega, hA, by omega, q4, by rw [List.length_append]; omega, by rw [List.length_append]; omega, by omega, ?_⟩
      · have hsw := swapRange_eq P' A Q V' S' _ ((P.length + U.length : Nat) : Int) (j : Int) w3 (by omega) (by omega) (by omega) (by omega)
        have e : P' ++ (A ++ Q ++ (V' ++ S')) = P' ++ (A ++ (Q ++ (V' ++ S'))) := by simp
        simp only [e, hsw, w5, Option.bind_some]
        rw [if_pos (by simp; omega), if_pos (by simp; omega)]
        simp
      · rw [← q8]; simp
  case hf =>
    rintro _ ⟨i, j, P', U', V', S', rfl, q1, q2, q3, q4, q5, q6, q7, q8⟩
    omega
  case hk =>
    rintro _ ⟨i, P', U', V', S', rfl, q1, q2, q3, q4, q5⟩
    simp only [bindC_go]
    have w3 : IntKind.i64.wrap (((P.length + U.length : Nat) : Int) - (i : Int)) = ((P'.length : Nat) : Int) := by rw [wrap_ok (by omega) (by omega)]; omega
    have hsw := swapRange_eq P' U' [] V' S' _ ((P.length + U.length : Nat) : Int) (i : Int) w3 (by simp; omega) (by omega) (by omega) (by simp; omega)
    simp only [List.nil_append] at hsw
    rw [hsw, ← q5]
    rfl

theorem entOrd3 : Ord3 entLt (fun e : Ent => (e.Key, e.Seq)) where
  tri a b := by
    cases h : entLt a b with
    | true => exact .inl rfl
    | false =>
      by_cases he : a.Key = b.Key ∧ a.Seq = b.Seq
      · exact .inr (.inl (by rw [he.1, he.2]))
      · exact .inr (.inr (entLt_total he h))
  irr a b h := by
    have h1 : a.Key = b.Key := congrArg Prod.fst h
    have h2 : a.Seq = b.Seq := congrArg Prod.snd h
    unfold entLt
    rw [h1, h2, sLt_irrefl]
    simp
  trans a b c h1 h2 := entLt_trans h1 h2
abbrev keyE (e : Ent) : List UInt8 × Int := (e.Key, e.Seq)
/-- the comparison, as it is used -/
theorem cmpE_lt (a b : Ent) : ((impl_compareEnts a b).bind fun R => some (decide (R < (0 : Int)))) = some (entLt a b) := by
  obtain ⟨r, hr, h1, _⟩ := compareEnts_sign a b
  rw [hr]
  simp [h1]
theorem insSort_eq (P M S : List Ent) (a b : Int) (ha : a = ((P.length : Nat) : Int)) (hb : b = ((P.length + M.length : Nat) : Int)) (hl : P.length + M.length + S.length ≤ 4611686018427387904) :
    ∃ R, slices_insertionSortCmpFunc_57869_at_impl_compareEnts (P ++ (M ++ S)) a b = some (P ++ (R ++ S)) ∧ SrtL entLt R ∧ ClsL keyE R M := by
  subst ha hb
  unfold slices_insertionSortCmpFunc_57869_at_impl_compareEnts
  have w0 : IntKind.i64.wrap (((P.length : Nat) : Int) + (1 : Int)) = ((P.length + 1 : Nat) : Int) := by rw [wrap_ok (by omega) (by omega)]; omega
  rw [w0]
  refine loopO_G (τ := Int × List Ent) (ρ := List Ent) (R := List Ent) (fun x => ∃ R, x = some (P ++ (R ++ S)) ∧ SrtL entLt R ∧ ClsL keyE R M)
    (fun k s => ∃ R, s = (((P.length + (k + 1) : Nat) : Int), P ++ (R ++ (M.drop (k + 1) ++ S))) ∧ SrtL entLt R ∧ ClsL keyE R (M.take (k + 1))) (M.length - 1)
    (fun r => ∃ R, r = .go (P ++ (R ++ S)) ∧ SrtL entLt R ∧ ClsL keyE R M) ⟨M.take 1, ?_, ?_, ClsL.refl _ _⟩ ?_ ?_ ?_
  · have e : M.take 1 ++ (M.drop 1 ++ S) = M ++ S := by rw [← List.append_assoc, List.take_append_drop]
    show _ = (_, P ++ (M.take 1 ++ (M.drop 1 ++ S)))
    rw [e]
  · cases M with
    | nil => exact List.Pairwise.nil
    | cons x M0 => simp [SrtL]
  · rintro k _ hk ⟨R, rfl, hs, hc⟩
    left
    have hk1 : k + 1 < M.length := by omega
    have hRl : R.length = k + 1 := by rw [hc.length, List.length_take]; omega
    have hd : M.drop (k + 1) = M[k + 1] :: M.drop (k + 2) := List.drop_eq_getElem_cons hk1
    have hcond : decide (((P.length + (k + 1) : Nat) : Int) < ((P.length + M.length : Nat) : Int)) = true := decide_eq_true (by omega)
    simp only [hcond, if_true]
    refine loopO_G (τ := Int × List Ent) (ρ := List Ent) (R := Ctl (Int × List Ent) (Ctl (List Ent) (List Ent)))
      (fun x => ∃ s', x = some (.go s') ∧ ∃ R', s' = (((P.length + (k + 1 + 1) : Nat) : Int), P ++ (R' ++ (M.drop (k + 1 + 1) ++ S))) ∧ SrtL entLt R' ∧ ClsL keyE R' (M.take (k + 1 + 1)))
      (fun t s => ∃ R1 R2, R = R1 ++ R2 ∧ R1.length + t = k + 1 ∧ s = (((P.length + R1.length : Nat) : Int), P ++ (R1 ++ (M[k + 1] :: (R2 ++ (M.drop (k + 2) ++ S))))) ∧ ∀ y ∈ R2, entLt M[k + 1] y = true) (k + 1)
      (fun r => ∃ R1 R2, R = R1 ++ R2 ∧ r = .go (P ++ (R1 ++ (M[k + 1] :: (R2 ++ (M.drop (k + 2) ++ S))))) ∧ (∀ y ∈ R2, entLt M[k + 1] y = true) ∧ ∀ y ∈ R1, entLt M[k + 1] y = false)
      ⟨R, [], by simp, by omega, by rw [hd, hRl]; rfl, by simp⟩ ?_ ?_ ?_
    · rintro t _ ht ⟨R1, R2, rfl, h1, rfl, h2⟩
      have hR1 : 0 < R1.length := by omega
      obtain ⟨R1', y, rfl⟩ : ∃ R1' y, R1 = R1' ++ [y] := ⟨R1.dropLast, R1.getLast (by intro e; rw [e] at hR1; simp at hR1), (List.dropLast_concat_getLast _).symm⟩
      rw [List.length_append, List.length_singleton] at h1 hR1
      have e : P ++ (R1' ++ [y] ++ (M[k + 1] :: (R2 ++ (M.drop (k + 2) ++ S)))) = (P ++ R1') ++ y :: ([] ++ M[k + 1] :: (R2 ++ (M.drop (k + 2) ++ S))) := by simp only [List.append_assoc, List.cons_append, List.nil_append]
      have w1 : IntKind.i64.wrap (((P.length + (R1' ++ [y]).length : Nat) : Int) - 1) = ((P.length + R1'.length : Nat) : Int) := by
        rw [List.length_append, List.length_singleton, wrap_ok (by omega) (by omega)]; omega
      obtain ⟨g1, g2, g3, g4, g5, g6⟩ := swap_at (P ++ R1') [] (R2 ++ (M.drop (k + 2) ++ S)) y M[k + 1] ((P.length + R1'.length : Nat) : Int) ((P.length + (R1' ++ [y]).length : Nat) : Int) (by simp) (by simp; omega)
      have hcond : decide (((P.length + (R1' ++ [y]).length : Nat) : Int) > ((P.length : Nat) : Int)) = true := by rw [List.length_append, List.length_singleton]; exact decide_eq_true (by omega)
      cases hlt : entLt M[k + 1] y with
      | true =>
        left
        refine ⟨(((P.length + R1'.length : Nat) : Int), P ++ (R1' ++ (M[k + 1] :: ((y :: R2) ++ (M.drop (k + 2) ++ S))))), ?_, R1', y :: R2, by simp, by omega, rfl, ?_⟩
        · have hc2 := cmpE_lt M[k + 1] y
          rw [hlt] at hc2
          simp only [e, w1, hcond, if_true, g1, g2, Option.bind_some, hc2, g4, g6]
          simp only [List.append_assoc, List.cons_append, List.nil_append]
        · intro z hz
          rcases List.mem_cons.1 hz with rfl | hz
          · exact hlt
          · exact h2 z hz
      | false =>
        right
        refine ⟨.go (P ++ (R1' ++ [y] ++ (M[k + 1] :: (R2 ++ (M.drop (k + 2) ++ S))))), ?_, R1' ++ [y], R2, rfl, rfl, h2, ?_⟩
        · have hc2 := cmpE_lt M[k + 1] y
          rw [hlt] at hc2
          simp only [e, w1, hcond, if_true, g1, g2, Option.bind_some, hc2]
          rfl
        · intro z hz
          have hlast := SrtL.last entOrd3 hs.left (by simp)
          have : entLt y z = false := by
            have := hlast z hz
            simpa using this
          exact entOrd3.le_trans this hlt
    · rintro _ ⟨R1, R2, rfl, h1, rfl, h2⟩
      have hR1 : R1 = [] := List.eq_nil_of_length_eq_zero (by omega)
      subst hR1
      refine ⟨.go (P ++ ([] ++ (M[k + 1] :: (R2 ++ (M.drop (k + 2) ++ S))))), ?_, [], R2, rfl, rfl, h2, by simp⟩
      simp
    · rintro _ ⟨R1, R2, rfl, rfl, hlt, hle⟩
      refine ⟨(((P.length + (k + 2) : Nat) : Int), P ++ ((R1 ++ M[k + 1] :: R2) ++ (M.drop (k + 2) ++ S))), ?_, R1 ++ M[k + 1] :: R2, rfl, ?_, ?_⟩
      · have w1 : IntKind.i64.wrap (((P.length + (k + 1) : Nat) : Int) + 1) = ((P.length + (k + 2) : Nat) : Int) := by rw [wrap_ok (by omega) (by omega)]; omega
        simp only [w1, bindC_go]
        simp only [List.append_assoc, List.cons_append, List.nil_append]
      · refine hs.left.append ?_ ?_
        · exact List.pairwise_cons.2 ⟨fun y hy => entOrd3.asym (hlt y hy), hs.right⟩
        · intro x hx y hy
          rcases List.mem_cons.1 hy with rfl | hy
          · exact hle x hx
          · exact hs.cross x hx y hy
      · have ht : M.take (k + 2) = M.take (k + 1) ++ [M[k + 1]] := take_snoc M (k + 1) hk1
        rw [show k + 1 + 1 = k + 2 from rfl, ht]
        have e2 : R1 ++ M[k + 1] :: R2 = R1 ++ ([M[k + 1]] ++ R2) := rfl
        rw [e2]
        refine ((ClsL.refl keyE R1).append (ClsL.swap (K := keyE) entOrd3 (u := R2) (v := [M[k + 1]]) ?_)).trans ?_
        · intro x hx y hy
          rw [List.mem_singleton.1 hx]
          exact hlt y hy
        · rw [← List.append_assoc]
          exact hc.append (ClsL.refl _ _)
  · rintro _ ⟨R, rfl, hs, hc⟩
    have e1 : M.length - 1 + 1 ≥ M.length := by omega
    rw [List.take_of_length_le e1] at hc
    rw [List.drop_of_length_le e1]
    refine ⟨.go (P ++ (R ++ S)), ?_, R, rfl, hs, hc⟩
    have hcond : decide (((P.length + (M.length - 1 + 1) : Nat) : Int) < ((P.length + M.length : Nat) : Int)) = false := decide_eq_false (by omega)
    simp only [hcond]
    rfl
  · rintro _ ⟨R, rfl, hs, hc⟩
    exact ⟨R, rfl, hs, hc⟩

/-! the merge of two parts beside each other -/
theorem idx_part {α : Type} (X V S : List α) (k : Nat) (i : Int) (hi : i = (k : Int)) (h1 : X.length ≤ k) (h2 : k - X.length < V.length) : idx (X ++ (V ++ S)) i = some V[k - X.length] := by
  subst hi
  unfold idx
  rw [if_pos (by omega), Int.toNat_natCast, List.getElem?_append_right h1, List.getElem?_append_left h2, List.getElem?_eq_getElem h2]
theorem part_down {α : Type} {lt : α → α → Bool} {V : List α} (hV : SrtL lt V) (q : α → Bool) (hq : ∀ x y, lt y x = false → q y = true → q x = true) (hi : ∀ x, lt x x = false) (k : Nat) (hk : k ≤ V.length) :
    ((∀ h : 0 < k, q (V[k - 1]'(by omega)) = true) → ∀ x ∈ V.take k, q x = true) ∧ ((∀ h : k < V.length, q V[k] = false) → ∀ x ∈ V.drop k, q x = false) := by
  have hp := List.pairwise_iff_getElem.1 hV
  constructor
  · intro h x hx
    obtain ⟨i, hi', rfl⟩ := List.getElem_of_mem hx
    rw [List.length_take] at hi'
    rw [List.getElem_take]
    rcases Nat.lt_or_ge i (k - 1) with h' | h'
    · exact hq _ _ (hp i (k - 1) (by omega) (by omega) h') (h (by omega))
    · have e : i = k - 1 := by omega
      subst e
      exact h (by omega)
  · intro h x hx
    obtain ⟨i, hi', rfl⟩ := List.getElem_of_mem hx
    rw [List.length_drop] at hi'
    rw [List.getElem_drop]
    have h0 := h (by omega)
    cases hc : q V[k + i] with
    | false => rfl
    | true =>
      rw [← h0]
      rcases Nat.eq_zero_or_pos i with h' | h'
      · subst h'; exact hc.symm
      · exact (hq _ _ (hp k (k + i) (by omega) (by omega) (by omega)) hc).symm
theorem halve_G {R : Type} {body : Int × Int → Option (Ctl (Int × Int) (Ctl Int R))} {f : Int → Option R} (G : Option R → Prop) (p : Nat → Bool) (i0 j0 : Nat) (i j : Int) (hi : i = (i0 : Int)) (hj : j = (j0 : Int)) (hij : i0 ≤ j0)
    (hb : ∀ i j : Nat, i0 ≤ i → i < j → j ≤ j0 → body ((i : Int), (j : Int)) = some (.go (if p ((i + j) / 2) then ((((i + j) / 2 + 1 : Nat) : Int), (j : Int)) else ((i : Int), (((i + j) / 2 : Nat) : Int)))))
    (hd : ∀ i : Nat, i0 ≤ i → i ≤ j0 → body ((i : Int), (i : Int)) = some (.done (.go (i : Int))))
    (hk : ∀ c : Nat, i0 ≤ c → c ≤ j0 → (i0 < c → p (c - 1) = true) → (c < j0 → p c = false) → G (f (c : Int))) : G (bindC (loopO body (i, j)) f) := by
  subst hi hj
  obtain ⟨c, h1, h2, h3, h4, h5⟩ := halve p i0 j0 hij hb hd
  rw [h5]
  exact hk c h1 h2 h3 h4
theorem half_nat (i j : Nat) (h : i + j ≤ 4611686018427387904) : IntKind.i64.wrap (ishr .u64 (IntKind.u64.wrap (IntKind.i64.wrap ((i : Int) + (j : Int)))) (1 : Int)) = (((i + j) / 2 : Nat) : Int) := by
  rw [half_eq (by omega) (by omega)]; omega
theorem bind_cmp {τ : Type} (a b : Ent) (k : Bool → Option τ) : ((impl_compareEnts a b).bind fun R => k (decide (R < (0 : Int)))) = k (entLt a b) := by
  obtain ⟨r, hr, h1, _⟩ := compareEnts_sign a b
  rw [hr]
  simp [h1]
theorem sym_left (f_ : Nat) (P V S : List Ent) (u : Ent) (a m b : Int) (ha : a = ((P.length : Nat) : Int)) (hm : m = ((P.length + 1 : Nat) : Int)) (hb : b = ((P.length + 1 + V.length : Nat) : Int))
    (hl : P.length + 1 + V.length + S.length ≤ 1048576) (hV : SrtL entLt V) :
    ∃ R, slices_symMergeCmpFunc_57869_at_impl_compareEntsF (f_ + 1) (P ++ (u :: (V ++ S))) a m b = some (P ++ (R ++ S)) ∧ SrtL entLt R ∧ ClsL keyE R ([u] ++ V) := by
  subst ha hm hb
  rw [slices_symMergeCmpFunc_57869_at_impl_compareEntsF]
  have w0 : decide (IntKind.i64.wrap (((P.length + 1 : Nat) : Int) - ((P.length : Nat) : Int)) = (1 : Int)) = true := by
    rw [wrap_ok (by omega) (by omega)]; exact decide_eq_true (by omega)
  simp only [w0, if_true]
  have eX : P ++ (u :: (V ++ S)) = (P ++ [u]) ++ (V ++ S) := by simp
  have lX : (P ++ [u]).length = P.length + 1 := by simp
  refine halve_G (fun x => ∃ R, x = some (P ++ (R ++ S)) ∧ SrtL entLt R ∧ ClsL keyE R ([u] ++ V)) (fun h => if hh : h - (P.length + 1) < V.length then entLt V[h - (P.length + 1)] u else false) (P.length + 1) (P.length + 1 + V.length) _ _ rfl rfl (by omega) ?_ ?_ ?_
  · intro i j h1 h2 h3
    have c1 : decide ((i : Int) < (j : Int)) = true := decide_eq_true (by omega)
    have hh : (i + j) / 2 - (P.length + 1) < V.length := by omega
    have e1 : idx (P ++ (u :: (V ++ S))) (((i + j) / 2 : Nat) : Int) = some V[(i + j) / 2 - (P.length + 1)] := by
      rw [eX, idx_part (P ++ [u]) V S ((i + j) / 2) _ rfl (by omega) (by omega)]
      congr 2
      omega
    have e2 : idx (P ++ (u :: (V ++ S))) ((P.length : Nat) : Int) = some u := idx_mid _ _ _ _ rfl
    have w1 : IntKind.i64.wrap ((((i + j) / 2 : Nat) : Int) + 1) = (((i + j) / 2 + 1 : Nat) : Int) := by rw [wrap_ok (by omega) (by omega)]; omega
    simp only [c1, if_true, half_nat i j (by omega), e1, e2, Option.bind_some, w1, dif_pos hh]
    rw [bind_cmp _ _ (fun q => bindC (if q = true then _ else _) _)]
    cases entLt V[(i + j) / 2 - (P.length + 1)] u <;> rfl
  · intro i h1 h2
    have c1 : decide ((i : Int) < (i : Int)) = false := decide_eq_false (by omega)
    simp only [c1]; rfl
  · intro c h1 h2 h3 h4
    obtain ⟨k, rfl⟩ : ∃ k, c = P.length + 1 + k := ⟨c - (P.length + 1), by omega⟩
    have hk : k ≤ V.length := by omega
    obtain ⟨p1, p2⟩ := part_down hV (fun x => entLt x u) (fun x y h h' => entOrd3.le_lt h h') (fun x => entOrd3.irr x x rfl) k hk
    have g1 := p1 (fun h0 => by
      have := h3 (by omega)
      have e : P.length + 1 + k - 1 - (P.length + 1) = k - 1 := by omega
      simp only [e] at this
      rwa [dif_pos (by omega)] at this)
    have g2 := p2 (fun h0 => by
      have := h4 (by omega)
      have e : P.length + 1 + k - (P.length + 1) = k := by omega
      simp only [e] at this
      rwa [dif_pos (by omega)] at this)
    generalize hV1 : V.take k = V1 at g1
    generalize hV2 : V.drop k = V2 at g2
    have hVe : V = V1 ++ V2 := by rw [← hV1, ← hV2, List.take_append_drop]
    have hV1l : V1.length = k := by rw [← hV1, List.length_take]; omega
    clear hV1 hV2 h3 h4 p1 p2
    subst hVe
    have w2 : IntKind.i64.wrap (((P.length + 1 + k : Nat) : Int) - (1 : Int)) = ((P.length + k : Nat) : Int) := by rw [wrap_ok (by omega) (by omega)]; omega
    simp only [w2]
    refine loopO_G (τ := Int × List Ent) (ρ := List Ent) (R := List Ent) (fun x => ∃ R, x = some (P ++ (R ++ S)) ∧ SrtL entLt R ∧ ClsL keyE R ([u] ++ (V1 ++ V2)))
      (fun t s => s = (((P.length + t : Nat) : Int), P ++ (V1.take t ++ (u :: (V1.drop t ++ (V2 ++ S)))))) k (fun r => r = .go (P ++ ((V1 ++ u :: V2) ++ S))) ?_ ?_ ?_ ?_
    · show _ = _
      simp
    · rintro t _ ht rfl
      left
      have ht1 : t < V1.length := by omega
      have e1 : P ++ (V1.take t ++ (u :: (V1.drop t ++ (V2 ++ S)))) = (P ++ V1.take t) ++ u :: ([] ++ V1[t] :: (V1.drop (t + 1) ++ (V2 ++ S))) := by
        rw [List.drop_eq_getElem_cons ht1]; simp only [List.append_assoc, List.cons_append, List.nil_append]
      have e2 : P ++ (V1.take (t + 1) ++ (u :: (V1.drop (t + 1) ++ (V2 ++ S)))) = (P ++ V1.take t) ++ V1[t] :: ([] ++ u :: (V1.drop (t + 1) ++ (V2 ++ S))) := by
        rw [take_snoc V1 t ht1]; simp only [List.append_assoc, List.cons_append, List.nil_append]
      have w3 : IntKind.i64.wrap (((P.length + t : Nat) : Int) + 1) = ((P.length + (t + 1) : Nat) : Int) := by rw [wrap_ok (by omega) (by omega)]; omega
      obtain ⟨q1, q2, q3, q4, q5, q6⟩ := swap_at (P ++ V1.take t) [] (V1.drop (t + 1) ++ (V2 ++ S)) u V1[t] ((P.length + t : Nat) : Int) ((P.length + (t + 1) : Nat) : Int)
        (by rw [List.length_append, List.length_take]; omega) (by simp only [List.length_append, List.length_take, List.length_nil]; omega)
      have c1 : decide (((P.length + t : Nat) : Int) < ((P.length + k : Nat) : Int)) = true := decide_eq_true (by omega)
      refine ⟨_, ?_, rfl⟩
      simp only [c1, if_true, w3]
      rw [e1, e2]
      simp only [q1, q2, q3, q5, Option.bind_some]
    · rintro _ rfl
      refine ⟨_, ?_, rfl⟩
      have c1 : decide (((P.length + k : Nat) : Int) < ((P.length + k : Nat) : Int)) = false := decide_eq_false (by omega)
      simp only [c1]
      rw [List.take_of_length_le (by omega), List.drop_of_length_le (by omega)]
      simp
    · rintro _ rfl
      refine ⟨V1 ++ u :: V2, rfl, ?_, ?_⟩
      · refine hV.left.append (List.pairwise_cons.2 ⟨fun y hy => g2 y hy, hV.right⟩) ?_
        intro x hx y hy
        rcases List.mem_cons.1 hy with rfl | hy
        · exact entOrd3.asym (g1 x hx)
        · exact hV.cross x hx y hy
      · have e2 : V1 ++ u :: V2 = (V1 ++ [u]) ++ V2 := by simp
        have e3 : [u] ++ (V1 ++ V2) = ([u] ++ V1) ++ V2 := by simp
        rw [e2, e3]
        refine (ClsL.swap entOrd3 (u := [u]) (v := V1) ?_).append (ClsL.refl _ _)
        intro x hx y hy
        rw [List.mem_singleton.1 hy]
        exact g1 x hx
theorem sym_right (f_ : Nat) (P U S : List Ent) (v : Ent) (a m b : Int) (ha : a = ((P.length : Nat) : Int)) (hm : m = ((P.length + U.length : Nat) : Int)) (hb : b = ((P.length + U.length + 1 : Nat) : Int)) (hU1 : 1 < U.length)
    (hl : P.length + 1 + U.length + S.length ≤ 1048576) (hU : SrtL entLt U) :
    ∃ R, slices_symMergeCmpFunc_57869_at_impl_compareEntsF (f_ + 1) (P ++ (U ++ (v :: S))) a m b = some (P ++ (R ++ S)) ∧ SrtL entLt R ∧ ClsL keyE R (U ++ [v]) := by
  subst ha hm hb
  rw [slices_symMergeCmpFunc_57869_at_impl_compareEntsF]
  have w0 : decide (IntKind.i64.wrap (((P.length + U.length : Nat) : Int) - ((P.length : Nat) : Int)) = (1 : Int)) = false := by
    rw [wrap_ok (by omega) (by omega)]; exact decide_eq_false (by omega)
  have w1 : decide (IntKind.i64.wrap (((P.length + U.length + 1 : Nat) : Int) - ((P.length + U.length : Nat) : Int)) = (1 : Int)) = true := by
    rw [wrap_ok (by omega) (by omega)]; exact decide_eq_true (by omega)
  simp only [w0, w1, if_true, Bool.false_eq_true, if_false]
  refine halve_G (fun x => ∃ R, x = some (P ++ (R ++ S)) ∧ SrtL entLt R ∧ ClsL keyE R (U ++ [v])) (fun h => if hh : h - P.length < U.length then !entLt v U[h - P.length] else false) P.length (P.length + U.length) _ _ rfl rfl (by omega) ?_ ?_ ?_
  · intro i j h1 h2 h3
    have c1 : decide ((i : Int) < (j : Int)) = true := decide_eq_true (by omega)
    have hh : (i + j) / 2 - P.length < U.length := by omega
    have e1 : idx (P ++ (U ++ (v :: S))) (((i + j) / 2 : Nat) : Int) = some U[(i + j) / 2 - P.length] := idx_part P U (v :: S) ((i + j) / 2) _ rfl (by omega) (by omega)
    have e2 : idx (P ++ (U ++ (v :: S))) ((P.length + U.length : Nat) : Int) = some v := by
      rw [← List.append_assoc]; exact idx_mid _ _ _ _ (by simp)
    have w1 : IntKind.i64.wrap ((((i + j) / 2 : Nat) : Int) + 1) = (((i + j) / 2 + 1 : Nat) : Int) := by rw [wrap_ok (by omega) (by omega)]; omega
    simp only [c1, if_true, half_nat i j (by omega), e1, e2, Option.bind_some, w1, dif_pos hh]
    rw [bind_cmp _ _ (fun q => bindC (if (!q) = true then _ else _) _)]
    cases entLt v U[(i + j) / 2 - P.length] <;> rfl
  · intro i h1 h2
    have c1 : decide ((i : Int) < (i : Int)) = false := decide_eq_false (by omega)
    simp only [c1]; rfl
  · intro c h1 h2 h3 h4
    obtain ⟨k, rfl⟩ : ∃ k, c = P.length + k := ⟨c - P.length, by omega⟩
    have hk : k ≤ U.length := by omega
    obtain ⟨p1, p2⟩ := part_down hU (fun x => !entLt v x) (fun x y h h' => by
      simp only [Bool.not_eq_true'] at h' ⊢
      exact entOrd3.le_trans h h') (fun x => entOrd3.irr x x rfl) k hk
    have g1 := p1 (fun h0 => by
      have := h3 (by omega)
      have e : P.length + k - 1 - P.length = k - 1 := by omega
      simp only [e] at this
      rwa [dif_pos (by omega)] at this)
    have g2 := p2 (fun h0 => by
      have := h4 (by omega)
      have e : P.length + k - P.length = k := by omega
      simp only [e] at this
      rwa [dif_pos (by omega)] at this)
    generalize hU1 : U.take k = U1 at g1
    generalize hU2 : U.drop k = U2 at g2
    have hUe : U = U1 ++ U2 := by rw [← hU1, ← hU2, List.take_append_drop]
    have hU1l : U1.length = k := by rw [← hU1, List.length_take]; omega
    clear hU1 hU2 h3 h4 p1 p2
    subst hUe
    rw [List.length_append] at *
    refine loopO_G (τ := Int × List Ent) (ρ := List Ent) (R := List Ent) (fun x => ∃ R, x = some (P ++ (R ++ S)) ∧ SrtL entLt R ∧ ClsL keyE R ((U1 ++ U2) ++ [v]))
      (fun t s => s = (((P.length + (U1.length + (U2.length - t)) : Nat) : Int), P ++ (U1 ++ (U2.take (U2.length - t) ++ (v :: (U2.drop (U2.length - t) ++ S)))))) U2.length (fun r => r = .go (P ++ ((U1 ++ v :: U2) ++ S))) ?_ ?_ ?_ ?_
    · show _ = _
      simp
    · rintro t _ ht rfl
      left
      obtain ⟨d, hd⟩ : ∃ d, U2.length - t = d + 1 := ⟨U2.length - t - 1, by omega⟩
      have hd2 : U2.length - (t + 1) = d := by omega
      have ht1 : d < U2.length := by omega
      rw [hd]
      have e1 : P ++ (U1 ++ (U2.take (d + 1) ++ (v :: (U2.drop (d + 1) ++ S)))) = (P ++ (U1 ++ U2.take d)) ++ U2[d] :: ([] ++ v :: (U2.drop (d + 1) ++ S)) := by
        rw [take_snoc U2 d ht1]; simp only [List.append_assoc, List.cons_append, List.nil_append]
      have e2 : P ++ (U1 ++ (U2.take d ++ (v :: (U2.drop d ++ S)))) = (P ++ (U1 ++ U2.take d)) ++ v :: ([] ++ U2[d] :: (U2.drop (d + 1) ++ S)) := by
        rw [List.drop_eq_getElem_cons ht1]; simp only [List.append_assoc, List.cons_append, List.nil_append]
      have w3 : IntKind.i64.wrap (((P.length + (U1.length + (d + 1)) : Nat) : Int) - 1) = ((P.length + (U1.length + d) : Nat) : Int) := by rw [wrap_ok (by omega) (by omega)]; omega
      obtain ⟨q1, q2, q3, q4, q5, q6⟩ := swap_at (P ++ (U1 ++ U2.take d)) [] (U2.drop (d + 1) ++ S) U2[d] v ((P.length + (U1.length + d) : Nat) : Int) ((P.length + (U1.length + (d + 1)) : Nat) : Int)
        (by simp only [List.length_append, List.length_take]; omega) (by simp only [List.length_append, List.length_take, List.length_nil]; omega)
      have c1 : decide (((P.length + (U1.length + (d + 1)) : Nat) : Int) > ((P.length + k : Nat) : Int)) = true := decide_eq_true (by omega)
      refine ⟨_, ?_, rfl⟩
      simp only [c1, if_true, w3, hd2]
      rw [e1, e2]
      simp only [q1, q2, q4, q6, Option.bind_some]
    · rintro _ rfl
      refine ⟨_, ?_, rfl⟩
      rw [Nat.sub_self]
      have c1 : decide (((P.length + (U1.length + 0) : Nat) : Int) > ((P.length + k : Nat) : Int)) = false := decide_eq_false (by omega)
      simp only [c1]
      simp
    · rintro _ rfl
      refine ⟨U1 ++ v :: U2, rfl, ?_, ?_⟩
      · refine hU.left.append (List.pairwise_cons.2 ⟨fun y hy => entOrd3.asym (by simpa using g2 y hy), hU.right⟩) ?_
        intro x hx y hy
        rcases List.mem_cons.1 hy with rfl | hy
        · simpa using g1 x hx
        · exact hU.cross x hx y hy
      · have e2 : U1 ++ v :: U2 = U1 ++ ([v] ++ U2) := by simp
        have e3 : (U1 ++ U2) ++ [v] = U1 ++ (U2 ++ [v]) := by simp
        rw [e2, e3]
        refine (ClsL.refl _ _).append (ClsL.swap entOrd3 (u := U2) (v := [v]) ?_)
        intro x hx y hy
        rw [List.mem_singleton.1 hx]
        simpa using g2 y hy

theorem guard_go {R : Type} (x y : Bool) (act : Option (List Ent)) (D D' : List Ent) (k : List Ent → Option R) (h1 : x = true → y = true → act = some D') (h2 : ¬ (x = true ∧ y = true) → D = D') :
    ((if x = true then some y else some false).bind fun T => bindC (if T = true then (act.bind fun R => some (.go R)) else some (.go D)) k) = k D' := by
  cases x with
  | false => rw [h2 (by simp)]; rfl
  | true =>
    cases y with
    | false => rw [h2 (by simp)]; rfl
    | true => rw [h1 rfl rfl]; rfl
theorem symMerge_eq : ∀ (f_ : Nat) (P U V S : List Ent) (a m b : Int) (A M B : Nat) (ha : a = (A : Int)) (hm : m = (M : Int)) (hb : b = (B : Int)) (hA : A = P.length) (hM : M = A + U.length) (hB : B = M + V.length) (hU0 : 0 < U.length) (hV0 : 0 < V.length)
    (hf : U.length + V.length ≤ 2 ^ f_) (hl : P.length + U.length + V.length + S.length ≤ 1048576) (hU : SrtL entLt U) (hV : SrtL entLt V),
    ∃ R, slices_symMergeCmpFunc_57869_at_impl_compareEntsF f_ (P ++ (U ++ (V ++ S))) a m b = some (P ++ (R ++ S)) ∧ SrtL entLt R ∧ ClsL keyE R (U ++ V) := by
  intro f_
  induction f_ with
  | zero =>
    intros
    omega
  | succ f_ ih =>
    intro P U V S a m b A M B ha hm hb hA hM hB hU0 hV0 hf hl hU hV
    rcases Nat.lt_or_ge 1 U.length with hU1 | hU1
    rcases Nat.lt_or_ge 1 V.length with hV1 | hV1
    · -- both of two or more
      rw [slices_symMergeCmpFunc_57869_at_impl_compareEntsF]
      subst ha hm hb
      have w0 : decide (IntKind.i64.wrap ((M : Int) - (A : Int)) = (1 : Int)) = false := by
        rw [wrap_ok (by omega) (by omega)]; exact decide_eq_false (by omega)
      have w1 : decide (IntKind.i64.wrap ((B : Int) - (M : Int)) = (1 : Int)) = false := by
        rw [wrap_ok (by omega) (by omega)]; exact decide_eq_false (by omega)
      obtain ⟨D, hD⟩ : ∃ D, D = (A + B) / 2 := ⟨_, rfl⟩
      have w2 := half_nat A B (by omega)
      rw [← hD] at w2
      have w3 : IntKind.i64.wrap ((D : Int) + (M : Int)) = ((D + M : Nat) : Int) := by rw [wrap_ok (by omega) (by omega)]; omega
      have w4 : IntKind.i64.wrap (((D + M : Nat) : Int) - (1 : Int)) = ((D + M - 1 : Nat) : Int) := by rw [wrap_ok (by omega) (by omega)]; omega
      simp only [w0, w1, w2, w3, w4, Bool.false_eq_true, if_false]
      obtain ⟨s0, r0, hs, b1, b2, b3, b4, b5, b6, b7⟩ : ∃ s0 r0 : Nat, (if (decide ((M : Int) > (D : Int))) = true then (some (Ctl.go (ρ := List Ent) (IntKind.i64.wrap (((D + M : Nat) : Int) - (B : Int)), (D : Int)))) else (some (.go ((A : Int), (M : Int))))) = some (.go ((s0 : Int), (r0 : Int))) ∧
          A ≤ s0 ∧ s0 ≤ r0 ∧ r0 ≤ M ∧ r0 ≤ D ∧ D + M ≤ s0 + B ∧ (r0 = D ∨ r0 = M) ∧ (s0 = A ∨ s0 + B = D + M) := by
        rcases Nat.lt_or_ge D M with h | h
        · refine ⟨D + M - B, D, ?_, by omega, by omega, by omega, by omega, by omega, by omega, by omega⟩
          rw [if_pos (decide_eq_true (by omega)), wrap_ok (by omega) (by omega)]
          congr 3
          omega
        · refine ⟨A, M, ?_, by omega, by omega, by omega, by omega, by omega, by omega, by omega⟩
          rw [if_neg (by simp; omega)]
      rw [hs, bindC_go]
      clear hs
      refine halve_G (fun x => ∃ R, x = some (P ++ (R ++ S)) ∧ SrtL entLt R ∧ ClsL keyE R (U ++ V)) (fun c => if hh : c - A < U.length ∧ D - 1 - c < V.length then !entLt (V[D - 1 - c]'hh.2) (U[c - A]'hh.1) else false) s0 r0 _ _ rfl rfl b2 ?_ ?_ ?_
      · intro i j h1 h2 h3
        have c1 : decide ((i : Int) < (j : Int)) = true := decide_eq_true (by omega)
        have hh : (i + j) / 2 - A < U.length ∧ D - 1 - (i + j) / 2 < V.length := by omega
        have w5 : IntKind.i64.wrap (((D + M - 1 : Nat) : Int) - (((i + j) / 2 : Nat) : Int)) = ((D + M - 1 - (i + j) / 2 : Nat) : Int) := by rw [wrap_ok (by omega) (by omega)]; omega
        have e1 : idx (P ++ (U ++ (V ++ S))) (((i + j) / 2 : Nat) : Int) = some (U[(i + j) / 2 - A]'hh.1) := by
          rw [idx_part P U (V ++ S) ((i + j) / 2) _ rfl (by omega) (by omega)]
          congr 2
          omega
        have e2 : idx (P ++ (U ++ (V ++ S))) ((D + M - 1 - (i + j) / 2 : Nat) : Int) = some (V[D - 1 - (i + j) / 2]'hh.2) := by
          rw [← List.append_assoc, idx_part (P ++ U) V S (D + M - 1 - (i + j) / 2) _ rfl (by rw [List.length_append]; omega) (by rw [List.length_append]; omega)]
          congr 2
          rw [List.length_append]
          omega
        have w1 : IntKind.i64.wrap ((((i + j) / 2 : Nat) : Int) + 1) = (((i + j) / 2 + 1 : Nat) : Int) := by rw [wrap_ok (by omega) (by omega)]; omega
        simp only [c1, if_true, half_nat i j (by omega), w5, e1, e2, Option.bind_some, w1, dif_pos hh]
        rw [bind_cmp _ _ (fun q => bindC (if (!q) = true then _ else _) _)]
        cases entLt (V[D - 1 - (i + j) / 2]'hh.2) (U[(i + j) / 2 - A]'hh.1) <;> rfl
      · intro i h1 h2
        have c1 : decide ((i : Int) < (i : Int)) = false := decide_eq_false (by omega)
        simp only [c1]; rfl
      · intro c h1 h2 h3 h4
        -- what lies in each part
        have hk1 : c - A ≤ U.length := by omega
        have hk2 : D - c ≤ V.length := by omega
        have x1 : ∀ x ∈ V.take (D - c), ∀ y ∈ U.drop (c - A), entLt x y = true := by
          rcases Nat.lt_or_ge c r0 with hc | hc
          · have hh : c - A < U.length ∧ D - 1 - c < V.length := by omega
            have h4 := h4 hc
            rw [dif_pos hh] at h4
            simp only [Bool.not_eq_false'] at h4
            have t1 := (part_down hV (fun x => entLt x (U[c - A]'hh.1)) (fun x y h h' => entOrd3.le_lt h h') (fun x => entOrd3.irr x x rfl) (D - c) hk2).1 (fun h0 => by
              have e : D - c - 1 = D - 1 - c := by omega
              simp only [e]; exact h4)
            intro x hx y hy
            have t2 := (part_down hU (fun y => !entLt x y) (fun y1 y2 h h' => by
              simp only [Bool.not_eq_true'] at h' ⊢
              cases hq : entLt x y1 with
              | false => rfl
              | true => rw [entOrd3.lt_le hq h] at h'; cases h') (fun x => entOrd3.irr x x rfl) (c - A) hk1).2 (fun h0 => by rw [t1 x hx]; rfl) y hy
            simpa using t2
          · intro x hx y hy
            rcases b6 with e | e
            · have : D - c = 0 := by omega
              rw [this] at hx; simp at hx
            · rw [List.drop_of_length_le (by omega)] at hy; simp at hy
        have x2 : ∀ x ∈ U.take (c - A), ∀ y ∈ V.drop (D - c), entLt y x = false := by
          rcases Nat.lt_or_ge s0 c with hc | hc
          · have h3 := h3 hc
            have hh : c - 1 - A < U.length ∧ D - 1 - (c - 1) < V.length := by
              refine Decidable.byContradiction fun hn => ?_
              rw [dif_neg hn] at h3; cases h3
            rw [dif_pos hh] at h3
            simp only [Bool.not_eq_true'] at h3
            have t1 := (part_down hV (fun y => entLt y (U[c - 1 - A]'hh.1)) (fun x y h h' => entOrd3.le_lt h h') (fun x => entOrd3.irr x x rfl) (D - c) hk2).2 (fun h0 => by
              have e : D - c = D - 1 - (c - 1) := by omega
              simp only [e]; exact h3)
            intro x hx y hy
            have t2 := (part_down hU (fun x => !entLt y x) (fun y1 y2 h h' => by
              simp only [Bool.not_eq_true'] at h' ⊢
              cases hq : entLt y y1 with
              | false => rfl
              | true => rw [entOrd3.lt_le hq h] at h'; cases h') (fun x => entOrd3.irr x x rfl) (c - A) hk1).1 (fun h0 => by
                have e : c - A - 1 = c - 1 - A := by omega
                simp only [e]; rw [t1 y hy]; rfl) x hx
            simpa using t2
          · intro x hx y hy
            rcases b7 with e | e
            · have : c - A = 0 := by omega
              rw [this] at hx; simp at hx
            · rw [List.drop_of_length_le (by omega)] at hy; simp at hy
        have hUe : U = U.take (c - A) ++ U.drop (c - A) := (List.take_append_drop _ _).symm
        have hVe : V = V.take (D - c) ++ V.drop (D - c) := (List.take_append_drop _ _).symm
        have l1 : (U.take (c - A)).length = c - A := by rw [List.length_take]; omega
        have l2 : (U.drop (c - A)).length = M - c := by rw [List.length_drop]; omega
        have l3 : (V.take (D - c)).length = D - c := by rw [List.length_take]; omega
        have l4 : (V.drop (D - c)).length = B + c - (D + M) := by rw [List.length_drop]; omega
        generalize U.take (c - A) = U1 at *
        generalize U.drop (c - A) = U2 at *
        generalize V.take (D - c) = V1 at *
        generalize V.drop (D - c) = V2 at *
        subst hUe hVe
        clear h3 h4 hk1 hk2
        have w6 : IntKind.i64.wrap (((D + M : Nat) : Int) - (c : Int)) = ((D + M - c : Nat) : Int) := by rw [wrap_ok (by omega) (by omega)]; omega
        simp only [List.length_append] at hM hB hl hf
        -- the left half
        obtain ⟨R1, s1, k1, q1, q2⟩ : ∃ R1, SrtL entLt R1 ∧ ClsL keyE R1 (U1 ++ V1) ∧
            (decide ((A : Int) < (c : Int)) = true → decide ((c : Int) < (D : Int)) = true → slices_symMergeCmpFunc_57869_at_impl_compareEntsF f_ (P ++ (U1 ++ (V1 ++ (U2 ++ (V2 ++ S))))) (A : Int) (c : Int) (D : Int) = some (P ++ (R1 ++ (U2 ++ (V2 ++ S))))) ∧
            (¬ (decide ((A : Int) < (c : Int)) = true ∧ decide ((c : Int) < (D : Int)) = true) → P ++ (U1 ++ (V1 ++ (U2 ++ (V2 ++ S)))) = P ++ (R1 ++ (U2 ++ (V2 ++ S)))) := by
          by_cases hc : A < c ∧ c < D
          · obtain ⟨R1, e1, e2, e3⟩ := ih P U1 V1 (U2 ++ (V2 ++ S)) (A : Int) (c : Int) (D : Int) A c D rfl rfl rfl hA (by omega) (by omega) (by omega) (by omega) (by rw [Nat.pow_succ] at hf; omega) (by simp only [List.length_append]; omega) hU.left hV.left
            exact ⟨R1, e2, e3, fun _ _ => e1, fun h => absurd ⟨decide_eq_true (by omega), decide_eq_true (by omega)⟩ h⟩
          · refine ⟨U1 ++ V1, ?_, ClsL.refl _ _, fun h h' => absurd ⟨by have := of_decide_eq_true h; omega, by have := of_decide_eq_true h'; omega⟩ hc, fun _ => by simp⟩
            have : U1 = [] ∨ V1 = [] := by
              rcases Nat.lt_or_ge A c with h | h
              · exact .inr (List.eq_nil_of_length_eq_zero (by omega))
              · exact .inl (List.eq_nil_of_length_eq_zero (by omega))
            rcases this with e | e
            · subst e; exact hV.left
            · subst e; rw [List.append_nil]; exact hU.left
        have hR1 : R1.length = D - A := by rw [k1.length, List.length_append]; omega
        -- the right half
        obtain ⟨R2, s2, k2, q3, q4⟩ : ∃ R2, SrtL entLt R2 ∧ ClsL keyE R2 (U2 ++ V2) ∧
            (decide ((D : Int) < ((D + M - c : Nat) : Int)) = true → decide (((D + M - c : Nat) : Int) < (B : Int)) = true → slices_symMergeCmpFunc_57869_at_impl_compareEntsF f_ (P ++ (R1 ++ (U2 ++ (V2 ++ S)))) (D : Int) ((D + M - c : Nat) : Int) (B : Int) = some (P ++ (R1 ++ R2 ++ S))) ∧
            (¬ (decide ((D : Int) < ((D + M - c : Nat) : Int)) = true ∧ decide (((D + M - c : Nat) : Int) < (B : Int)) = true) → P ++ (R1 ++ (U2 ++ (V2 ++ S))) = P ++ (R1 ++ R2 ++ S)) := by
          by_cases hc : D < D + M - c ∧ D + M - c < B
          · obtain ⟨R2, e1, e2, e3⟩ := ih (P ++ R1) U2 V2 S (D : Int) ((D + M - c : Nat) : Int) (B : Int) D (D + M - c) B rfl rfl rfl (by rw [List.length_append]; omega) (by omega) (by omega) (by omega) (by omega) (by rw [Nat.pow_succ] at hf; omega) (by simp only [List.length_append]; omega) hU.right hV.right
            refine ⟨R2, e2, e3, fun _ _ => ?_, fun h => absurd ⟨decide_eq_true (by omega), decide_eq_true (by omega)⟩ h⟩
            simp only [List.append_assoc] at e1 ⊢
            exact e1
          · refine ⟨U2 ++ V2, ?_, ClsL.refl _ _, fun h h' => absurd ⟨by have := of_decide_eq_true h; omega, by have := of_decide_eq_true h'; omega⟩ hc, fun _ => by simp⟩
            have : U2 = [] ∨ V2 = [] := by
              rcases Nat.lt_or_ge D (D + M - c) with h | h
              · exact .inr (List.eq_nil_of_length_eq_zero (by omega))
              · exact .inl (List.eq_nil_of_length_eq_zero (by omega))
            rcases this with e | e
            · subst e; exact hV.right
            · subst e; rw [List.append_nil]; exact hU.right
        refine ⟨R1 ++ R2, ?_, mergeParts entOrd3 hU hV x1 x2 s1 k1 s2 k2⟩
        simp only [w6]
        rw [guard_go _ _ _ _ (P ++ (U1 ++ (V1 ++ (U2 ++ (V2 ++ S))))), guard_go _ _ _ _ _ _ q1 q2, guard_go _ _ _ _ _ _ q3 q4]
        · intro h h'
          have h := of_decide_eq_true h
          have h' := of_decide_eq_true h'
          have := rotate_eq (P ++ U1) U2 V1 (V2 ++ S) (c : Int) (M : Int) ((D + M - c : Nat) : Int) (by rw [List.length_append]; omega) (by rw [List.length_append]; omega) (by rw [List.length_append]; omega) (by omega) (by omega) (by rw [List.length_append]; omega)
          simp only [List.append_assoc] at this ⊢
          exact this
        · intro h
          have : U2 = [] ∨ V1 = [] := by
            rcases Nat.lt_or_ge c M with h1 | h1
            · refine .inr (List.eq_nil_of_length_eq_zero ?_)
              rcases Nat.lt_or_ge M (D + M - c) with h2 | h2
              · exact absurd ⟨decide_eq_true (by omega), decide_eq_true (by omega)⟩ h
              · omega
            · exact .inl (List.eq_nil_of_length_eq_zero (by omega))
          rcases this with e | e
          · subst e; simp
          · subst e; simp
    · obtain ⟨v, rfl⟩ : ∃ v, V = [v] := by
        match V, hV0, hV1 with
        | [v], _, _ => exact ⟨v, rfl⟩
      exact sym_right f_ P U S v a m b (by omega) (by omega) (by simp only [List.length_singleton] at hB; omega) hU1 (by simp only [List.length_singleton] at hl; omega) hU
    · obtain ⟨u, rfl⟩ : ∃ u, U = [u] := by
        match U, hU0, hU1 with
        | [u], _, _ => exact ⟨u, rfl⟩
      simp only [List.length_singleton] at hl hM
      exact sym_left f_ P V S u a m b (by omega) (by omega) (by omega) (by omega) hV

theorem blk_left {α : Type} (P Y Y' : List α) (i z : Nat) (h : i + z ≤ P.length) : ((P ++ Y).drop i).take z = ((P ++ Y').drop i).take z := by
  rw [List.drop_append_of_le_length (by omega), List.take_append_of_le_length (by rw [List.length_drop]; omega), List.drop_append_of_le_length (by omega), List.take_append_of_le_length (by rw [List.length_drop]; omega)]
theorem blk_right {α : Type} (W W' S : List α) (i z : Nat) (h : W.length ≤ i) (h' : W'.length = W.length) : ((W ++ S).drop i).take z = ((W' ++ S).drop i).take z := by
  rw [List.drop_append, List.drop_append, List.drop_of_length_le h, List.drop_of_length_le (l := W') (by omega), h']
theorem blk_mid {α : Type} (P R S : List α) (i z : Nat) (h : P.length = i) (h' : R.length = z) : ((P ++ (R ++ S)).drop i).take z = R := by
  rw [List.drop_append_of_le_length (by omega), List.drop_of_length_le (by omega), List.nil_append, List.take_append_of_le_length (by omega), List.take_of_length_le (by omega)]
theorem cut3 {α : Type} (X : List α) (i z : Nat) : X = X.take i ++ ((X.drop i).take z ++ X.drop (i + z)) := by
  rw [show X.drop (i + z) = (X.drop i).drop z by rw [List.drop_drop], List.take_append_drop, List.take_append_drop]
theorem SrtL.nil {α : Type} {lt : α → α → Bool} : SrtL lt ([] : List α) := List.Pairwise.nil
theorem symMerge64_eq (P U V S : List Ent) (a m b : Int) (A M B : Nat) (ha : a = (A : Int)) (hm : m = (M : Int)) (hb : b = (B : Int)) (hA : A = P.length) (hM : M = A + U.length) (hB : B = M + V.length) (hU0 : 0 < U.length) (hV0 : 0 < V.length)
    (hl : P.length + U.length + V.length + S.length ≤ 1048576) (hU : SrtL entLt U) (hV : SrtL entLt V) :
    ∃ R, slices_symMergeCmpFunc_57869_at_impl_compareEnts (P ++ (U ++ (V ++ S))) a m b = some (P ++ (R ++ S)) ∧ SrtL entLt R ∧ ClsL keyE R (U ++ V) :=
  symMerge_eq 64 P U V S a m b A M B ha hm hb hA hM hB hU0 hV0 (Nat.le_trans (show U.length + V.length ≤ 1048576 by omega) (by decide)) hl hU hV
/-- the blocks of 20 are put in order -/
theorem stable_blocks (X0 : List Ent) (hl : X0.length ≤ 1048576) {R : Type} {f : Int × List Ent → Option R} (G : Option R → Prop)
    (hk : ∀ (t : Nat) (X : List Ent), X.length = X0.length → ClsL keyE X X0 → t * 20 ≤ X0.length → X0.length < t * 20 + 20 → (∀ i, i < t → SrtL entLt ((X.drop (i * 20)).take 20)) → G (f (((t * 20 : Nat) : Int), X))) :
    G (bindC (loopO (fun (S1 : Int × Int × List Ent) => if (decide (S1.2.1 ≤ ((X0.length : Nat) : Int))) = true then ((slices_insertionSortCmpFunc_57869_at_impl_compareEnts S1.2.2 S1.1 S1.2.1).bind fun R6 =>
  some (.go (S1.2.1, IntKind.i64.wrap (S1.2.1 + (20 : Int)), R6)))
  else (some (.done (.go (S1.1, S1.2.2)))))
  ((0 : Int), (20 : Int), X0)) f) := by
  refine loopO_G (τ := Int × Int × List Ent) (ρ := Int × List Ent) (R := R) G
    (fun t s => ∃ X : List Ent, s = (((t * 20 : Nat) : Int), ((t * 20 + 20 : Nat) : Int), X) ∧ X.length = X0.length ∧ ClsL keyE X X0 ∧ t * 20 ≤ X0.length ∧ (∀ i, i < t → SrtL entLt ((X.drop (i * 20)).take 20)))
    (X0.length + 1) (fun r => ∃ (t : Nat) (X : List Ent), r = .go (((t * 20 : Nat) : Int), X) ∧ X.length = X0.length ∧ ClsL keyE X X0 ∧ t * 20 ≤ X0.length ∧ X0.length < t * 20 + 20 ∧ (∀ i, i < t → SrtL entLt ((X.drop (i * 20)).take 20)))
    ⟨X0, rfl, rfl, ClsL.refl _ _, by omega, fun i h => by omega⟩ ?_ ?_ ?_
  · rintro t _ ht ⟨X, rfl, hx, hc, h1, h2⟩
    rcases Nat.lt_or_ge X0.length (t * 20 + 20) with h | h
    · right
      refine ⟨_, ?_, t, X, rfl, hx, hc, h1, h, h2⟩
      rw [if_neg (by simp; omega)]
    · left
      have hX := cut3 X (t * 20) 20
      have lP : (X.take (t * 20)).length = t * 20 := by rw [List.length_take]; omega
      have lM : ((X.drop (t * 20)).take 20).length = 20 := by rw [List.length_take, List.length_drop]; omega
      have lS : (X.drop (t * 20 + 20)).length = X0.length - (t * 20 + 20) := by rw [List.length_drop]; omega
      generalize X.take (t * 20) = P at *
      generalize (X.drop (t * 20)).take 20 = M at *
      generalize X.drop (t * 20 + 20) = S at *
      subst hX
      obtain ⟨N, hN, hs, hcl⟩ := insSort_eq P M S ((t * 20 : Nat) : Int) ((t * 20 + 20 : Nat) : Int) (by omega) (by omega) (by omega)
      have lN : N.length = 20 := by rw [hcl.length, lM]
      have w1 : IntKind.i64.wrap (((t * 20 + 20 : Nat) : Int) + 20) = (((t + 1) * 20 + 20 : Nat) : Int) := by rw [wrap_ok (by omega) (by omega)]; omega
      have w2 : ((t + 1) * 20 : Nat) = t * 20 + 20 := by omega
      refine ⟨(((t * 20 + 20 : Nat) : Int), (((t + 1) * 20 + 20 : Nat) : Int), P ++ (N ++ S)), ?_, P ++ (N ++ S), by rw [w2], ?_, ?_, by omega, ?_⟩
      · rw [if_pos (decide_eq_true (by show ((t * 20 + 20 : Nat) : Int) ≤ _; omega))]
        simp only [hN, Option.bind_some, w1]
      · simp only [List.length_append] at hx ⊢; omega
      · exact ((ClsL.refl keyE P).append (hcl.append (ClsL.refl _ _))).trans hc
      · intro i hi
        rcases Nat.lt_or_ge i t with h' | h'
        · rw [blk_left P _ (M ++ S) _ _ (by omega)]; exact h2 i h'
        · obtain rfl : i = t := by omega
          rw [blk_mid P N S _ _ lP lN]; exact hs
  · rintro _ ⟨X, rfl, hx, hc, h1, h2⟩
    omega
  · rintro _ ⟨t, X, rfl, hx, hc, h1, h3, h2⟩
    exact hk t X hx hc h1 h3 h2
/-- one pass: blocks of z become blocks of twice z -/
theorem stable_pass (X0 : List Ent) (n z : Nat) (hn : X0.length = n) (hz : 0 < z) (hzn : z < n) (hl : n ≤ 262144) (hb : ∀ i, SrtL entLt ((X0.drop (i * z)).take z)) {R : Type} {f : List Ent → Option R} (G : Option R → Prop)
    (hk : ∀ (X : List Ent), X.length = n → ClsL keyE X X0 → (∀ i, SrtL entLt ((X.drop (i * (2 * z))).take (2 * z))) → G (f X)) :
    G (bindC (loopO (fun (S17 : Int × Int × List Ent) => if (decide (S17.2.1 ≤ (n : Int))) = true then ((slices_symMergeCmpFunc_57869_at_impl_compareEnts S17.2.2 S17.1 (IntKind.i64.wrap (S17.1 + (z : Int))) S17.2.1).bind fun R22 =>
  some (.go (S17.2.1, IntKind.i64.wrap (S17.2.1 + (IntKind.i64.wrap ((2 : Int) * (z : Int)))), R22)))
  else (some (.done (.go (S17.1, S17.2.2)))))
  ((0 : Int), IntKind.i64.wrap ((2 : Int) * (z : Int)), X0))
  (fun (T19 : Int × List Ent) => bindC (if (decide (IntKind.i64.wrap (T19.1 + (z : Int)) < (n : Int))) = true then ((slices_symMergeCmpFunc_57869_at_impl_compareEnts T19.2 T19.1 (IntKind.i64.wrap (T19.1 + (z : Int))) (n : Int)).bind fun R28 =>
  some (.go R28))
  else (some (.go T19.2))) f)) := by
  have w0 : IntKind.i64.wrap ((2 : Int) * (z : Int)) = ((2 * z : Nat) : Int) := by rw [wrap_ok (by omega) (by omega)]; omega
  rw [w0]
  refine loopO_G (τ := Int × Int × List Ent) (ρ := Int × List Ent) (R := R) G
    (fun t s => ∃ (c : Nat) (X : List Ent), c = t * (2 * z) ∧ s = ((c : Int), ((c + 2 * z : Nat) : Int), X) ∧ X.length = n ∧ ClsL keyE X X0 ∧ c ≤ n ∧ (∀ i, i < t → SrtL entLt ((X.drop (i * (2 * z))).take (2 * z))) ∧ (∀ i, c ≤ i * z → SrtL entLt ((X.drop (i * z)).take z)))
    (n + 1) (fun r => ∃ (t c : Nat) (X : List Ent), c = t * (2 * z) ∧ r = .go ((c : Int), X) ∧ X.length = n ∧ ClsL keyE X X0 ∧ c ≤ n ∧ n < c + 2 * z ∧ (∀ i, i < t → SrtL entLt ((X.drop (i * (2 * z))).take (2 * z))) ∧ (∀ i, c ≤ i * z → SrtL entLt ((X.drop (i * z)).take z)))
    ⟨0, X0, by omega, by simp, hn, ClsL.refl _ _, by omega, fun i h => by omega, fun i _ => hb i⟩ ?_ ?_ ?_
  · rintro t _ ht ⟨c, X, hct, rfl, hx, hc, h1, h2, h3⟩
    rcases Nat.lt_or_ge n (c + 2 * z) with h | h
    · right
      refine ⟨_, ?_, t, c, X, hct, rfl, hx, hc, h1, h, h2, h3⟩
      rw [if_neg (by simp; omega)]
    · left
      have hX := cut3 X c z
      have hX2 := cut3 (X.drop (c + z)) 0 z
      rw [List.take_zero, List.nil_append, List.drop_zero, List.drop_drop] at hX2
      rw [hX2] at hX
      have lP : (X.take c).length = c := by rw [List.length_take]; omega
      have lU : ((X.drop c).take z).length = z := by rw [List.length_take, List.length_drop]; omega
      have lV : ((X.drop (c + z)).take z).length = z := by rw [List.length_take, List.length_drop]; omega
      have lS : (X.drop (c + z + (0 + z))).length = n - (c + 2 * z) := by rw [List.length_drop]; omega
      have sU : SrtL entLt ((X.drop c).take z) := by
        have := h3 (2 * t) (by rw [hct, Nat.mul_left_comm, Nat.mul_assoc]; exact Nat.le_refl _)
        rwa [show 2 * t * z = c by rw [hct, Nat.mul_left_comm, Nat.mul_assoc]] at this
      have sV : SrtL entLt ((X.drop (c + z)).take z) := by
        have := h3 (2 * t + 1) (by rw [hct, Nat.mul_left_comm, Nat.add_mul, Nat.mul_assoc]; omega)
        rwa [show (2 * t + 1) * z = c + z by rw [hct, Nat.mul_left_comm, Nat.add_mul, Nat.mul_assoc, Nat.one_mul]] at this
      generalize X.take c = P at *
      generalize (X.drop c).take z = U at *
      generalize (X.drop (c + z)).take z = V at *
      generalize X.drop (c + z + (0 + z)) = S at *
      clear hX2
      subst hX
      obtain ⟨N, hN, hs, hcl⟩ := symMerge64_eq P U V S (c : Int) ((c + z : Nat) : Int) ((c + 2 * z : Nat) : Int) c (c + z) (c + 2 * z) rfl rfl rfl (by omega) (by omega) (by omega) (by omega) (by omega) (by omega) sU sV
      have lN : N.length = 2 * z := by rw [hcl.length, List.length_append, lU, lV]; omega
      have w1 : IntKind.i64.wrap (((c + 2 * z : Nat) : Int) + ((2 * z : Nat) : Int)) = ((c + 2 * z + 2 * z : Nat) : Int) := by rw [wrap_ok (by omega) (by omega)]; omega
      have w2 : IntKind.i64.wrap ((c : Int) + (z : Int)) = ((c + z : Nat) : Int) := by rw [wrap_ok (by omega) (by omega)]; omega
      refine ⟨(((c + 2 * z : Nat) : Int), ((c + 2 * z + 2 * z : Nat) : Int), P ++ (N ++ S)), ?_, c + 2 * z, P ++ (N ++ S), by rw [hct, Nat.add_mul, Nat.one_mul], rfl, ?_, ?_, h, ?_, ?_⟩
      · rw [if_pos (decide_eq_true (by show ((c + 2 * z : Nat) : Int) ≤ _; omega))]
        simp only [w2, hN, Option.bind_some, w1]
      · simp only [List.length_append] at hx ⊢; omega
      · refine ClsL.trans ?_ hc
        rw [← List.append_assoc U V S]
        exact (ClsL.refl keyE P).append (hcl.append (ClsL.refl _ _))
      · intro i hi
        rcases Nat.lt_or_ge i t with h' | h'
        · rw [blk_left P _ (U ++ (V ++ S)) _ _ (by have := Nat.mul_le_mul_right (2 * z) h'; rw [Nat.succ_mul] at this; omega)]; exact h2 i h'
        · obtain rfl : i = t := by omega
          rw [blk_mid P N S _ _ (by omega) lN]; exact hs
      · intro i hi
        have := h3 i (by omega)
        rw [← List.append_assoc, blk_right (P ++ N) (P ++ (U ++ V)) S _ _ (by rw [List.length_append]; omega) (by simp only [List.length_append]; omega)]
        simp only [List.append_assoc] at this ⊢
        exact this
  · rintro _ ⟨c, X, hct, rfl, hx, hc, h1, h2, h3⟩
    have : (n + 1) * 1 ≤ (n + 1) * (2 * z) := Nat.mul_le_mul_left _ (by omega)
    omega
  · rintro _ ⟨t, c, X, hct, rfl, hx, hc, h1, h4, h2, h3⟩
    rw [bindC_go]
    have w2 : IntKind.i64.wrap ((c : Int) + (z : Int)) = ((c + z : Nat) : Int) := by rw [wrap_ok (by omega) (by omega)]; omega
    have sU : SrtL entLt ((X.drop c).take z) := by
      have := h3 (2 * t) (by rw [hct, Nat.mul_left_comm, Nat.mul_assoc]; exact Nat.le_refl _)
      rwa [show 2 * t * z = c by rw [hct, Nat.mul_left_comm, Nat.mul_assoc]] at this
    have sV : SrtL entLt ((X.drop (c + z)).take z) := by
      have := h3 (2 * t + 1) (by rw [hct, Nat.mul_left_comm, Nat.add_mul, Nat.mul_assoc]; omega)
      rwa [show (2 * t + 1) * z = c + z by rw [hct, Nat.mul_left_comm, Nat.add_mul, Nat.mul_assoc, Nat.one_mul]] at this
    -- what stands behind
    have hout : ∀ (P N : List Ent), P = X.take c → N.length = n - c → SrtL entLt N → ∀ i, SrtL entLt (((P ++ N).drop (i * (2 * z))).take (2 * z)) := by
      intro P N hP lN hs i
      have lP : P.length = c := by rw [hP, List.length_take]; omega
      rcases Nat.lt_trichotomy i t with h' | h' | h'
      · have := h2 i h'
        rw [show X = X.take c ++ X.drop c from (List.take_append_drop _ _).symm, ← hP] at this
        rw [blk_left P N (X.drop c) _ _ (by have := Nat.mul_le_mul_right (2 * z) h'; rw [Nat.succ_mul] at this; omega)]
        exact this
      · subst h'
        rw [List.drop_append_of_le_length (by omega), List.drop_of_length_le (by omega), List.nil_append, List.take_of_length_le (by omega)]
        exact hs
      · have := Nat.mul_le_mul_right (2 * z) h'
        rw [Nat.succ_mul] at this
        rw [List.drop_of_length_le (by rw [List.length_append]; omega), List.take_nil]
        exact SrtL.nil
    rcases Nat.lt_or_ge (c + z) n with h | h
    · rw [w2, if_pos (decide_eq_true (by omega))]
      have hX := cut3 X c z
      have lP : (X.take c).length = c := by rw [List.length_take]; omega
      have lU : ((X.drop c).take z).length = z := by rw [List.length_take, List.length_drop]; omega
      have lV : (X.drop (c + z)).length = n - (c + z) := by rw [List.length_drop]; omega
      have lV2 : (X.drop (c + z)).take z = X.drop (c + z) := List.take_of_length_le (by omega)
      rw [lV2] at sV
      generalize hP : X.take c = P at *
      generalize (X.drop c).take z = U at *
      generalize X.drop (c + z) = V at *
      obtain ⟨N, hN, hs, hcl⟩ := symMerge64_eq P U V [] (c : Int) ((c + z : Nat) : Int) (n : Int) c (c + z) n rfl rfl rfl (by omega) (by omega) (by omega) (by omega) (by omega) (by simp only [List.length_nil]; omega) sU sV
      simp only [List.append_nil] at hN
      have lN : N.length = n - c := by rw [hcl.length, List.length_append, lU, lV]; omega
      rw [← hX] at hN
      simp only [hN, Option.bind_some, bindC_go]
      refine hk (P ++ N) (by rw [List.length_append]; omega) ?_ (hout P N rfl lN hs)
      refine ClsL.trans ?_ hc
      rw [hX]
      exact (ClsL.refl keyE P).append hcl
    · rw [w2, if_neg (by simp; omega), bindC_go]
      refine hk X hx hc ?_
      have := hout (X.take c) (X.drop c) rfl (by rw [List.length_drop]; omega) (by rwa [List.take_of_length_le (by rw [List.length_drop]; omega)] at sU)
      rwa [List.take_append_drop] at this
theorem stable_eq (X0 : List Ent) (hl : X0.length ≤ 262144) : ∃ R, slices_SortStableFunc_94167_at_impl_compareEnts X0 = some R ∧ SrtL entLt R ∧ ClsL keyE R X0 := by
  unfold slices_SortStableFunc_94167_at_impl_compareEnts
  suffices h : ∃ R, slices_stableCmpFunc_57869_at_impl_compareEnts X0 ((X0.length : Nat) : Int) = some R ∧ SrtL entLt R ∧ ClsL keyE R X0 by
    obtain ⟨R, h1, h2⟩ := h
    exact ⟨R, by rw [h1]; rfl, h2⟩
  unfold slices_stableCmpFunc_57869_at_impl_compareEnts
  refine stable_blocks X0 (by omega) (fun x => ∃ R, x = some R ∧ SrtL entLt R ∧ ClsL keyE R X0) ?_
  intro t X hx hc h1 h2 h3
  have hX : X = X.take (t * 20) ++ (X.drop (t * 20) ++ []) := by rw [List.append_nil, List.take_append_drop]
  have lP : (X.take (t * 20)).length = t * 20 := by rw [List.length_take]; omega
  have lM : (X.drop (t * 20)).length = X0.length - t * 20 := by rw [List.length_drop]; omega
  generalize X.take (t * 20) = P at *
  generalize X.drop (t * 20) = M at *
  subst hX
  obtain ⟨N, hN, hs, hcl⟩ := insSort_eq P M [] ((t * 20 : Nat) : Int) ((X0.length : Nat) : Int) (by omega) (by simp only [List.append_nil, List.length_append] at hx; omega) (by simp only [List.length_nil]; omega)
  have lN : N.length = X0.length - t * 20 := by rw [hcl.length]; omega
  simp only [hN, Option.bind_some]
  have hb1 : ∀ i, SrtL entLt (((P ++ (N ++ [])).drop (i * 20)).take 20) := by
    intro i
    rcases Nat.lt_trichotomy i t with h' | h' | h'
    · rw [blk_left P _ (M ++ []) _ _ (by omega)]; exact h3 i h'
    · subst h'
      rw [List.append_nil, List.drop_append_of_le_length (by omega), List.drop_of_length_le (by omega), List.nil_append, List.take_of_length_le (by omega)]
      exact hs
    · rw [List.drop_of_length_le (by simp only [List.length_append, List.length_nil]; omega), List.take_nil]
      exact SrtL.nil
  have hc1 : ClsL keyE (P ++ (N ++ [])) X0 := ((ClsL.refl keyE P).append (hcl.append (ClsL.refl _ _))).trans hc
  have hx1 : (P ++ (N ++ [])).length = X0.length := by simp only [List.length_append, List.length_nil]; omega
  generalize P ++ (N ++ []) = Y at hb1 hc1 hx1
  refine loopO_G (τ := Int × List Ent) (ρ := List Ent) (R := List Ent) (fun x => ∃ R, x = some R ∧ SrtL entLt R ∧ ClsL keyE R X0)
    (fun k s => ∃ (z : Nat) (X : List Ent), 20 + k ≤ z ∧ z ≤ 1048576 ∧ s = ((z : Int), X) ∧ X.length = X0.length ∧ ClsL keyE X X0 ∧ (∀ i, SrtL entLt ((X.drop (i * z)).take z))) X0.length
    (fun r => ∃ X, r = .go X ∧ SrtL entLt X ∧ ClsL keyE X X0) ⟨20, Y, by omega, by omega, rfl, hx1, hc1, hb1⟩ ?_ ?_ ?_
  · rintro k _ hk ⟨z, X, q1, q2, rfl, q3, q4, q5⟩
    rcases Nat.lt_or_ge z X0.length with h | h
    · left
      simp only
      rw [if_pos (decide_eq_true (by omega))]
      refine stable_pass (R := Ctl (Int × List Ent) (Ctl (List Ent) (List Ent))) X X0.length z q3 (by omega) h hl q5 (fun x => ∃ s', x = some (.go s') ∧ ∃ (z : Nat) (X : List Ent), 20 + (k + 1) ≤ z ∧ z ≤ 1048576 ∧ s' = ((z : Int), X) ∧ X.length = X0.length ∧ ClsL keyE X X0 ∧ (∀ i, SrtL entLt ((X.drop (i * z)).take z))) ?_
      intro X' e1 e2 e3
      have w1 : IntKind.i64.wrap ((z : Int) * 2) = ((2 * z : Nat) : Int) := by rw [wrap_ok (by omega) (by omega)]; omega
      refine ⟨_, rfl, 2 * z, X', by omega, by omega, by rw [w1], e1, e2.trans q4, e3⟩
    · right
      refine ⟨.go X, by simp only; rw [if_neg (by simp; omega)], X, rfl, ?_, q4⟩
      have := q5 0
      rwa [Nat.zero_mul, List.drop_zero, List.take_of_length_le (by omega)] at this
  · rintro _ ⟨z, X, q1, q2, rfl, q3, q4, q5⟩
    refine ⟨.go X, by simp only; rw [if_neg (by simp; omega)], X, rfl, ?_, q4⟩
    have := q5 0
    rwa [Nat.zero_mul, List.drop_zero, List.take_of_length_le (by omega)] at this
  · rintro _ ⟨X, rfl, h⟩
    exact ⟨X, rfl, h⟩

/-! the first of each class, in order -/
theorem srt_ext {α κ : Type} [DecidableEq κ] [DecidableEq α] {lt : α → α → Bool} {K : α → κ} (o : Ord3 lt K) : ∀ (a b : List α), SrtL lt a → SrtL lt b → ClsL K a b → a = b := by
  intro a
  induction a with
  | nil => intro b _ _ h; exact (List.eq_nil_of_length_eq_zero h.length.symm).symm
  | cons x a ih =>
    intro b ha hb h
    match b, hb, h with
    | [], _, h => exact absurd h.length (by simp)
    | y :: b, hb, h =>
      have hk : K x = K y := by
        have h1 : lt x y = false := by
          rcases List.mem_cons.1 (h.perm.mem_iff.1 (List.mem_cons_self)) with e | e
          · rw [e]; exact o.irr y y rfl
          · exact (List.pairwise_cons.1 hb).1 x e
        have h2 : lt y x = false := by
          rcases List.mem_cons.1 (h.perm.mem_iff.2 (List.mem_cons_self)) with e | e
          · rw [e]; exact o.irr x x rfl
          · exact (List.pairwise_cons.1 ha).1 y e
        rcases o.tri x y with t | t | t
        · rw [t] at h1; cases h1
        · exact t
        · rw [t] at h2; cases h2
      have hxy : x = y := by
        have := h (K x)
        rw [List.filter_cons_of_pos (by simp), List.filter_cons_of_pos (by simp [hk])] at this
        exact (List.cons.inj this).1
      subst hxy
      rw [ih b (List.pairwise_cons.1 ha).2 (List.pairwise_cons.1 hb).2]
      intro c
      have := h c
      by_cases hc : K x = c
      · rw [List.filter_cons_of_pos (by simp [hc]), List.filter_cons_of_pos (by simp [hc])] at this
        exact (List.cons.inj this).2
      · rwa [List.filter_cons_of_neg (by simp [hc]), List.filter_cons_of_neg (by simp [hc])] at this
/-- of each class the first one -/
def FstL {α κ : Type} [DecidableEq κ] (K : α → κ) (r l : List α) : Prop := ∀ c, r.filter (fun x => decide (K x = c)) = (l.filter (fun x => decide (K x = c))).take 1
theorem FstL.mem {α κ : Type} [DecidableEq κ] {K : α → κ} {r l : List α} (h : FstL K r l) {x : α} (hx : x ∈ r) : x ∈ l := by
  have : x ∈ r.filter (fun y => decide (K y = K x)) := List.mem_filter.2 ⟨hx, by simp⟩
  rw [h (K x)] at this
  exact (List.mem_filter.1 (List.mem_of_mem_take this)).1
theorem ordE_srt {l : List Ent} (h : ordE l) : SrtL entLt l := List.Pairwise.imp (fun h => entOrd3.asym h) h
theorem FstL.uniq {r r' l l' : List Ent} (h1 : ordE r) (h2 : ordE r') (h3 : FstL keyE r l) (h4 : FstL keyE r' l') (h5 : ClsL keyE l l') : r = r' :=
  srt_ext entOrd3 r r' (ordE_srt h1) (ordE_srt h2) fun c => by rw [h3 c, h4 c, h5 c]
theorem cls_none {l : List Ent} {a : Ent} (h : ∀ x ∈ l, entLt a x = true ∨ entLt x a = true) : l.filter (fun x => decide (keyE x = keyE a)) = [] := by
  rw [List.filter_eq_nil_iff]
  intro x hx hk
  have hk : keyE x = keyE a := by simpa using hk
  rcases h x hx with e | e
  · rw [entOrd3.irr a x hk.symm] at e; cases e
  · rw [entOrd3.irr x a hk] at e; cases e
theorem cls_one {l : List Ent} (h : ordE l) (c : List UInt8 × Int) : (l.filter (fun x => decide (keyE x = c))).take 1 = l.filter (fun x => decide (keyE x = c)) := by
  have hp := h.filter (fun x => decide (keyE x = c))
  match hq : l.filter (fun x => decide (keyE x = c)), hp with
  | [], _ => rfl
  | [x], _ => rfl
  | x :: y :: t, hp =>
    have h1 := (List.pairwise_cons.1 hp).1 y (by simp)
    have hx : x ∈ l.filter (fun x => decide (keyE x = c)) := by rw [hq]; simp
    have hy : y ∈ l.filter (fun x => decide (keyE x = c)) := by rw [hq]; simp
    have ex : keyE x = c := by simpa using (List.mem_filter.1 hx).2
    have ey : keyE y = c := by simpa using (List.mem_filter.1 hy).2
    rw [entOrd3.irr x y (ex.trans ey.symm)] at h1; cases h1
/-- two lists merged, the first one first -/
def skp (a : Ent) : List Ent → List Ent
  | [] => []
  | x :: r => if entLt a x = true then x :: r else r
def mg : List Ent → List Ent → List Ent
  | [], e => e
  | a :: t, e => e.takeWhile (fun x => entLt x a) ++ a :: mg t (skp a (e.dropWhile (fun x => entLt x a)))
theorem ordE_dropWhile (a : Ent) : ∀ (e : List Ent), ordE e → ∀ x ∈ e.dropWhile (fun x => entLt x a), entLt x a = false
  | [], _, x, hx => by simp at hx
  | y :: e, h, x, hx => by
    rw [List.dropWhile_cons] at hx
    cases hy : entLt y a with
    | true =>
      rw [hy, if_pos rfl] at hx
      exact ordE_dropWhile a e (List.pairwise_cons.1 h).2 x hx
    | false =>
      rw [hy] at hx
      rcases List.mem_cons.1 (show x ∈ y :: e from hx) with rfl | hx
      · exact hy
      · exact entOrd3.le_trans hy (entOrd3.asym ((List.pairwise_cons.1 h).1 x hx))
theorem skp_eq (a : Ent) (l : List Ent) (h : ordE l) (h1 : ∀ x ∈ l, entLt x a = false) : ordE (skp a l) ∧ (∀ x ∈ skp a l, entLt a x = true) ∧ ∀ c, c ≠ keyE a → (skp a l).filter (fun x => decide (keyE x = c)) = l.filter (fun x => decide (keyE x = c)) := by
  match l, h, h1 with
  | [], _, _ => exact ⟨List.Pairwise.nil, fun x hx => by simp [skp] at hx, fun c _ => rfl⟩
  | y :: t, h, h1 =>
    have hp := List.pairwise_cons.1 h
    have e : skp a (y :: t) = if entLt a y = true then y :: t else t := rfl
    rw [e]
    cases hy : entLt a y with
    | true =>
      rw [if_pos rfl]
      refine ⟨h, fun x hx => ?_, fun c _ => rfl⟩
      rcases List.mem_cons.1 hx with rfl | hx
      · exact hy
      · exact entOrd3.trans a y x hy (hp.1 x hx)
    | false =>
      rw [if_neg (by simp)]
      have hk : keyE a = keyE y := by
        rcases entOrd3.tri a y with t | t | t
        · rw [t] at hy; cases hy
        · exact t
        · rw [h1 y (by simp)] at t; cases t
      refine ⟨hp.2, fun x hx => ?_, fun c hc => ?_⟩
      · exact entOrd3.le_lt (entOrd3.irr y a hk.symm) (hp.1 x hx)
      · rw [List.filter_cons_of_neg (by simp; rw [← hk]; exact fun e => hc e.symm)]
theorem mg_props : ∀ (l e : List Ent), ordE l → ordE e → ordE (mg l e) ∧ FstL keyE (mg l e) (l ++ e) := by
  intro l
  induction l with
  | nil => intro e _ he; exact ⟨he, fun c => (cls_one he c).symm⟩
  | cons a t ih =>
    intro e hl he
    unfold mg
    have hat := List.pairwise_cons.1 hl
    have hE : e = e.takeWhile (fun x => entLt x a) ++ e.dropWhile (fun x => entLt x a) := (List.takeWhile_append_dropWhile).symm
    have h2 := ordE_dropWhile a e he
    have h1 : ∀ x ∈ e.takeWhile (fun x => entLt x a), entLt x a = true := fun x hx => by
      have := List.all_eq_true.1 (List.all_takeWhile (p := fun x => entLt x a) (l := e)) x hx
      exact this
    generalize e.takeWhile (fun x => entLt x a) = E1 at *
    generalize e.dropWhile (fun x => entLt x a) = E2 at *
    subst hE
    have hp := List.pairwise_append.1 he
    obtain ⟨g1, g2, g3⟩ := skp_eq a E2 hp.2.1 h2
    generalize skp a E2 = E3 at *
    obtain ⟨i1, i2⟩ := ih E3 hat.2 g1
    have hgt : ∀ x ∈ mg t E3, entLt a x = true := fun x hx => by
      rcases List.mem_append.1 (i2.mem hx) with hx | hx
      · exact hat.1 x hx
      · exact g2 x hx
    refine ⟨List.pairwise_append.2 ⟨hp.1, List.pairwise_cons.2 ⟨hgt, i1⟩, ?_⟩, ?_⟩
    · intro x hx y hy
      rcases List.mem_cons.1 hy with rfl | hy
      · exact h1 x hx
      · exact entOrd3.trans x a y (h1 x hx) (hgt y hy)
    · intro c
      by_cases hc : keyE a = c
      · subst hc
        rw [List.filter_append, List.filter_cons_of_pos (by simp), cls_none (l := E1) (a := a) (fun x hx => .inr (h1 x hx)), cls_none (l := mg t E3) (a := a) (fun x hx => .inl (hgt x hx)), List.cons_append, List.filter_cons_of_pos (by simp)]
        rfl
      · have e3 := i2 c
        rw [List.filter_append] at e3
        rw [List.filter_append, List.filter_cons_of_neg (by simpa using hc), e3, List.cons_append, List.filter_cons_of_neg (by simpa using hc), List.filter_append, List.filter_append, g3 c (fun e => hc e.symm)]
        match hq : E1.filter (fun x => decide (keyE x = c)) with
        | [] => rw [List.nil_append, List.nil_append]
        | x :: r =>
          have hx : x ∈ E1.filter (fun x => decide (keyE x = c)) := by rw [hq]; simp
          have hx1 := (List.mem_filter.1 hx).1
          have hxc : keyE x = c := by simpa using (List.mem_filter.1 hx).2
          subst hxc
          have t1 : t.filter (fun y => decide (keyE y = keyE x)) = [] := cls_none fun y hy => .inl (entOrd3.trans x a y (h1 x hx1) (hat.1 y hy))
          have t2 : E2.filter (fun y => decide (keyE y = keyE x)) = [] := cls_none fun y hy => .inl (hp.2.2 x hx1 y hy)
          have t3 := cls_one hp.1 (keyE x)
          rw [hq] at t3
          rw [t1, t2]
          simp only [List.nil_append, List.append_nil, List.take_nil]
          exact t3.symm
/-- neighbours of one class: the first stays -/
def ddA : Option Ent → List Ent → List Ent
  | _, [] => []
  | p, x :: t => if p.any (fun y => decide (keyE y = keyE x)) = true then ddA (some x) t else x :: ddA (some x) t
theorem ddA_some : ∀ (l : List Ent) (y : Ent), SrtL entLt (y :: l) → ordE (y :: ddA (some y) l) ∧ ∀ c, (ddA (some y) l).filter (fun x => decide (keyE x = c)) = if keyE y = c then [] else (l.filter (fun x => decide (keyE x = c))).take 1 := by
  intro l
  induction l with
  | nil => intro y _; exact ⟨by simp [ddA, ordE], fun c => by simp [ddA]⟩
  | cons x t ih =>
    intro y h
    have h0 := List.pairwise_cons.1 h
    have h1 := List.pairwise_cons.1 h0.2
    obtain ⟨i1, i2⟩ := ih x h0.2
    have j1 := List.pairwise_cons.1 i1
    by_cases hk : keyE y = keyE x
    · have e : ddA (some y) (x :: t) = ddA (some x) t := by show (if _ then _ else _) = _; rw [if_pos (by simpa using hk)]
      rw [e]
      refine ⟨List.pairwise_cons.2 ⟨fun z hz => entOrd3.le_lt (entOrd3.irr x y hk.symm) (j1.1 z hz), j1.2⟩, fun c => ?_⟩
      rw [i2 c, ← hk]
      by_cases hc : keyE y = c
      · rw [if_pos hc, if_pos hc]
      · rw [if_neg hc, if_neg hc, List.filter_cons_of_neg (by rw [← hk]; simpa using hc)]
    · have e : ddA (some y) (x :: t) = x :: ddA (some x) t := by show (if _ then _ else _) = _; rw [if_neg (by simpa using hk)]
      rw [e]
      have hyx : entLt y x = true := by
        rcases entOrd3.tri y x with q | q | q
        · exact q
        · exact absurd q hk
        · rw [h0.1 x (by simp)] at q; cases q
      refine ⟨List.pairwise_cons.2 ⟨fun z hz => ?_, i1⟩, fun c => ?_⟩
      · rcases List.mem_cons.1 hz with rfl | hz
        · exact hyx
        · exact entOrd3.trans y x z hyx (j1.1 z hz)
      · by_cases hc : keyE x = c
        · subst hc
          rw [if_neg hk, List.filter_cons_of_pos (by simp), List.filter_cons_of_pos (by simp), i2, if_pos rfl]
          rfl
        · rw [List.filter_cons_of_neg (by simpa using hc), List.filter_cons_of_neg (by simpa using hc), i2, if_neg hc]
          by_cases hy : keyE y = c
          · subst hy
            rw [if_pos rfl, cls_none (fun z hz => .inl (entOrd3.lt_le hyx (h1.1 z hz)))]
            rfl
          · rw [if_neg hy]
theorem ddA_none (l : List Ent) (h : SrtL entLt l) : ordE (ddA none l) ∧ FstL keyE (ddA none l) l := by
  match l, h with
  | [], _ => exact ⟨List.Pairwise.nil, fun c => rfl⟩
  | x :: t, h =>
    obtain ⟨i1, i2⟩ := ddA_some t x h
    have e : ddA none (x :: t) = x :: ddA (some x) t := rfl
    rw [e]
    refine ⟨i1, fun c => ?_⟩
    by_cases hc : keyE x = c
    · subst hc
      rw [List.filter_cons_of_pos (by simp), List.filter_cons_of_pos (by simp), i2, if_pos rfl]
      rfl
    · rw [List.filter_cons_of_neg (by simpa using hc), List.filter_cons_of_neg (by simpa using hc), i2, if_neg hc]
theorem foldl_mg : ∀ (L : List (List Ent)) (acc F : List Ent), (∀ e ∈ L, ordE e) → ordE acc → FstL keyE acc F → ordE (L.foldl mg acc) ∧ FstL keyE (L.foldl mg acc) (F ++ L.flatten) := by
  intro L
  induction L with
  | nil => intro acc F _ h1 h2; simpa using ⟨h1, h2⟩
  | cons e L ih =>
    intro acc F h h1 h2
    obtain ⟨m1, m2⟩ := mg_props acc e h1 (h e (by simp))
    have := ih (mg acc e) (F ++ e) (fun e' he => h e' (List.mem_cons_of_mem _ he)) m1 (fun c => by
      rw [m2 c, List.filter_append, List.filter_append, h2 c]
      match F.filter (fun x => decide (keyE x = c)) with
      | [] => rfl
      | x :: r => rfl)
    simpa using this

theorem piece_zero {α : Type} (l : List α) (b : Nat) (hi : Int) (h2 : hi = (b : Int)) (h4 : b ≤ l.length) : piece l (0 : Int) hi = some (l.take b) := by
  rw [piece_nat l 0 b 0 hi rfl h2 (by omega) h4]; simp
theorem totalV_flatten (l : List (List Ent)) : l.flatten.length = totalV l := by
  unfold totalV
  rw [List.length_flatten]
theorem grow_nil_eq (n : Nat) (h : n ≤ 1048576) : slices_Grow_94167_nil (n : Int) = some [] := by
  unfold slices_Grow_94167_nil
  rw [if_neg (by simp)]
  have w1 : IntKind.i64.wrap (((0 : Nat) : Int) - ((([] : List Ent).length : Nat) : Int)) = 0 := by rw [wrap_ok (by simp) (by simp)] <;> rfl
  have w2 : IntKind.i64.wrap ((n : Int) - 0) = (n : Int) := by rw [wrap_ok (by omega) (by omega)]; omega
  simp only [w1, w2]
  rcases Nat.eq_zero_or_pos n with h0 | h0
  · subst h0; rfl
  · have z : zapp 48 (n : Int) = some n := by
      unfold zapp
      rw [if_pos ⟨by omega, by omega, by omega⟩, Int.toNat_natCast]
    rw [if_pos (decide_eq_true (by omega)), z]
    rw [piece_zero _ 0 _ rfl (by omega)]
    simp only [Option.bind_some]
    rw [piece_zero _ 0 _ (show ((([] : List Ent).length : Nat) : Int) = ((0 : Nat) : Int) from rfl) (by omega)]
    rfl
theorem concat_eq (l : List (List Ent)) (h : l.length ≤ 1048576) (ht : totalV l ≤ 1048576) : slices_Concat_94167 l = some l.flatten := by
  unfold slices_Concat_94167
  have hsum : ∀ k, k ≤ l.length → totalV (l.take k) ≤ totalV l := by
    intro k _
    have := totalV_flatten l
    have e := totalV_flatten (l.take k)
    rw [← List.take_append_drop k l, List.flatten_append, List.length_append] at this
    rw [List.take_append_drop] at this
    omega
  have hstep : ∀ k (hk : k < l.length), (l.take (k + 1)).flatten = (l.take k).flatten ++ l[k] := by
    intro k hk
    rw [take_snoc l k hk, List.flatten_append]; simp
  have hst2 : ∀ k (hk : k < l.length), totalV (l.take (k + 1)) = totalV (l.take k) + l[k].length := by
    intro k hk
    rw [← totalV_flatten, hstep k hk, List.length_append, totalV_flatten]
  refine loopO_G (τ := Int × Int) (ρ := Int) (R := List Ent) (fun x => x = some l.flatten) (fun k s => s = ((totalV (l.take k) : Int), (k : Int))) l.length (fun r => r = .go (totalV l : Int)) ?_ ?_ ?_ ?_
  · show _ = _
    simp [totalV]
  · rintro k _ hk rfl
    left
    have e1 : idx l (k : Int) = some l[k] := idx_nat l k hk
    have h1 := hst2 k hk
    have h2 := hsum (k + 1) (by omega)
    have w1 : IntKind.i64.wrap ((totalV (l.take k) : Int) + ((l[k].length : Nat) : Int)) = (totalV (l.take (k + 1)) : Int) := by rw [wrap_ok (by omega) (by omega)]; omega
    have w2 : IntKind.i64.wrap ((k : Int) + 1) = ((k + 1 : Nat) : Int) := by rw [wrap_ok (by omega) (by omega)]; omega
    refine ⟨_, ?_, rfl⟩
    simp only [e1, Option.bind_some, w1, w2]
    rw [if_pos (decide_eq_true (by omega)), if_neg (by simp)]
  · rintro _ rfl
    refine ⟨_, ?_, rfl⟩
    simp
  · rintro _ rfl
    rw [bindC_go, grow_nil_eq _ ht]
    simp only [Option.bind_some]
    refine loopO_G (τ := Int × List Ent) (ρ := List Ent) (R := List Ent) (fun x => x = some l.flatten) (fun k s => s = ((k : Int), (l.take k).flatten)) l.length (fun r => r = .go l.flatten) ?_ ?_ ?_ ?_
    · show _ = _
      simp
    · rintro k _ hk rfl
      left
      have e1 : idx l (k : Int) = some l[k] := idx_nat l k hk
      have h1 := hst2 k hk
      have h2 := hsum (k + 1) (by omega)
      have h3 := totalV_flatten (l.take k)
      have w2 : IntKind.i64.wrap ((k : Int) + 1) = ((k + 1 : Nat) : Int) := by rw [wrap_ok (by omega) (by omega)]; omega
      refine ⟨_, ?_, rfl⟩
      simp only [e1, Option.bind_some, w2]
      rw [if_pos (decide_eq_true (by omega)), app_ok (by omega) (by omega), hstep k hk]
      rfl
    · rintro _ rfl
      refine ⟨_, ?_, rfl⟩
      simp
    · rintro _ rfl
      rfl
theorem merged_1_eq (a b : Ent) : impl_merged_1 a b = some (decide (keyE a = keyE b)) := by
  unfold impl_merged_1
  by_cases h1 : a.Key = b.Key
  · by_cases h2 : a.Seq = b.Seq
    · simp [h1, h2, keyE]
    · simp [h1, h2, keyE]
  · simp [h1, keyE]
theorem ddA_eq (y x : Ent) (t : List Ent) : ddA (some y) (x :: t) = if keyE y = keyE x then ddA (some x) t else x :: ddA (some x) t := by
  show (if _ then _ else _) = _
  by_cases h : keyE y = keyE x
  · rw [if_pos (by simpa using h), if_pos h]
  · rw [if_neg (by simpa using h), if_neg h]
theorem compactF_eq (s : List Ent) (h : s.length ≤ 1048576) : slices_CompactFunc_94167_at_impl_merged_1 s = some (ddA none s) := by
  unfold slices_CompactFunc_94167_at_impl_merged_1
  by_cases hn : s.length < 2
  · rw [if_pos (decide_eq_true (by omega))]
    match s, hn with
    | [], _ => rfl
    | [x], _ => rfl
    | _ :: _ :: _, hn => simp at hn; omega
  · rw [if_neg (by simp; omega)]
    refine loopO_G (τ := Int) (ρ := Unit) (R := List Ent) (fun x => x = some (ddA none s)) (fun t i => i = ((t + 1 : Nat) : Int) ∧ ∃ h : t < s.length, ddA none s = s.take (t + 1) ++ ddA (some s[t]) (s.drop (t + 1))) (s.length - 1)
      (fun r => (r = .go () ∧ ddA none s = s) ∨ r = .done (ddA none s)) ⟨rfl, by omega, ?_⟩ ?_ ?_ ?_
    · match s, hn with
      | [], hn => simp at hn
      | x :: t, _ => rfl
    · rintro t _ ht ⟨rfl, ht0, hd⟩
      have ht1 : t + 1 < s.length := by omega
      have e1 : idx s ((t + 1 : Nat) : Int) = some s[t + 1] := idx_nat s (t + 1) ht1
      have w1 : IntKind.i64.wrap (((t + 1 : Nat) : Int) - 1) = ((t : Nat) : Int) := by rw [wrap_ok (by omega) (by omega)]; omega
      have w2 : IntKind.i64.wrap (((t + 1 : Nat) : Int) + 1) = ((t + 1 + 1 : Nat) : Int) := by rw [wrap_ok (by omega) (by omega)]; omega
      have e2 : idx s ((t : Nat) : Int) = some s[t] := idx_nat s t ht0
      rw [List.drop_eq_getElem_cons ht1, ddA_eq] at hd
      have c1 : decide (((t + 1 : Nat) : Int) < ((s.length : Nat) : Int)) = true := decide_eq_true (by omega)
      simp only [c1, if_true, e1, w1, e2, Option.bind_some, merged_1_eq]
      by_cases hk : keyE s[t + 1] = keyE s[t]
      · rw [if_pos (decide_eq_true hk)]
        rw [if_pos hk.symm] at hd
        rw [piece_nat s (t + 1) s.length _ _ rfl rfl (by omega) (by omega)]
        simp only [Option.bind_some]
        right
        refine loopO_G (τ := Int × Int × List Ent) (ρ := Int × List Ent) (R := Ctl Int (Ctl Unit (List Ent))) (fun x => ∃ r, x = some (.done r) ∧ ((r = .go () ∧ ddA none s = s) ∨ r = .done (ddA none s)))
          (fun u q => ∃ (k : Nat) (s' : List Ent), q = ((k : Int), ((u + 1 : Nat) : Int), s') ∧ s'.length = s.length ∧ k ≤ t + 1 + u ∧ s'.drop (t + 1 + u) = s.drop (t + 1 + u) ∧ ∃ h : t + 1 + u < s.length, ddA none s = s'.take k ++ ddA (some s[t + 1 + u]) (s.drop (t + 1 + u + 1))) (s.length - (t + 2))
          (fun r => ∃ (k : Nat) (s' : List Ent), r = .go ((k : Int), s') ∧ s'.length = s.length ∧ k ≤ s.length ∧ ddA none s = s'.take k)
          ⟨t + 1, s, rfl, rfl, by omega, rfl, ht1, hd⟩ ?_ ?_ ?_
        · rintro u _ hu ⟨k, s', rfl, g1, g2, g3, g4, g5⟩
          left
          have g6 : t + 1 + u + 1 < s.length := by omega
          have p1 : piece s' ((t + 1 : Nat) : Int) ((s.length : Nat) : Int) = some (s'.drop (t + 1)) := by
            rw [piece_nat s' (t + 1) s.length _ _ rfl rfl (by omega) (by omega), List.take_of_length_le (by rw [List.length_drop]; omega)]
          have c2 : decide (((u + 1 : Nat) : Int) < (((s'.drop (t + 1)).length : Nat) : Int)) = true := decide_eq_true (by rw [List.length_drop]; omega)
          have a1 : ∀ j (hj : t + 1 + u + j < s.length), idx (s'.drop (t + 1)) ((u + j : Nat) : Int) = some s[t + 1 + u + j] := by
            intro j hj
            rw [idx_nat _ (u + j) (by rw [List.length_drop]; omega), List.getElem_drop]
            have := congrArg (fun l => l[j]?) g3
            simp only [List.getElem?_drop] at this
            rw [List.getElem?_eq_getElem (by omega), List.getElem?_eq_getElem hj] at this
            rw [← this]
            congr 1
            simp only [Nat.add_assoc]
          have w3 : IntKind.i64.wrap (((u + 1 : Nat) : Int) - 1) = ((u + 0 : Nat) : Int) := by rw [wrap_ok (by omega) (by omega)]; omega
          have w4 : IntKind.i64.wrap (((u + 1 : Nat) : Int) + 1) = ((u + 1 + 1 : Nat) : Int) := by rw [wrap_ok (by omega) (by omega)]; omega
          simp only [p1, Option.bind_some, c2, if_true, a1 1 g6, w3, a1 0 g4, merged_1_eq, w4]
          rw [List.drop_eq_getElem_cons g6, ddA_eq] at g5
          have e5 : s[t + 1 + u + 0] = s[t + 1 + u] := rfl
          by_cases hq : keyE s[t + 1 + u + 1] = keyE s[t + 1 + u]
          · rw [if_pos hq.symm] at g5
            rw [if_neg (by simp [hq])]
            refine ⟨_, rfl, k, s', rfl, g1, by omega, ?_, g6, g5⟩
            have := congrArg (List.drop 1) g3
            rw [List.drop_drop, List.drop_drop] at this
            exact this
          · rw [if_neg (fun e => hq e.symm)] at g5
            rw [if_pos (by simp [hq])]
            have e6 : idx s' (k : Int) = some s'[k] := idx_nat s' k (by omega)
            have w5 : IntKind.i64.wrap ((k : Int) + 1) = ((k + 1 : Nat) : Int) := by rw [wrap_ok (by omega) (by omega)]; omega
            simp only [e6, Option.bind_some, w5, Int.toNat_natCast]
            refine ⟨_, rfl, k + 1, s'.set k s[t + 1 + u + 1], rfl, by rw [List.length_set]; exact g1, by omega, ?_, g6, ?_⟩
            · rw [List.drop_set_of_lt (by omega)]
              have := congrArg (List.drop 1) g3
              rw [List.drop_drop, List.drop_drop] at this
              exact this
            · rw [g5, List.take_succ_eq_append_getElem (by rw [List.length_set]; omega), List.take_set_of_le (by omega)]
              simp
              rfl
        · rintro _ ⟨k, s', rfl, g1, g2, g3, g4, g5⟩
          have hu : t + 1 + (s.length - (t + 2)) + 1 = s.length := by omega
          rw [hu, List.drop_length] at g5
          have p1 : piece s' ((t + 1 : Nat) : Int) ((s.length : Nat) : Int) = some (s'.drop (t + 1)) := by
            rw [piece_nat s' (t + 1) s.length _ _ rfl rfl (by omega) (by omega), List.take_of_length_le (by rw [List.length_drop]; omega)]
          have c2 : decide (((s.length - (t + 2) + 1 : Nat) : Int) < (((s'.drop (t + 1)).length : Nat) : Int)) = false := decide_eq_false (by rw [List.length_drop]; omega)
          simp only [p1, Option.bind_some, c2]
          refine ⟨_, rfl, k, s', rfl, g1, by omega, ?_⟩
          rw [g5]
          exact List.append_nil _
        · rintro _ ⟨k, s', rfl, g1, g2, g3⟩
          rw [bindC_go]
          simp only
          rw [piece_nat s' k s'.length _ _ rfl rfl (by omega) (by omega), piece_zero s' k _ rfl (by omega)]
          simp only [Option.bind_some]
          refine ⟨_, rfl, .inr ?_⟩
          rw [g3]
      · left
        rw [if_neg (by simpa using hk), w2]
        rw [if_neg (fun e => hk e.symm)] at hd
        refine ⟨_, rfl, rfl, ht1, ?_⟩
        rw [take_snoc s (t + 1) ht1, List.append_assoc]
        exact hd
    · rintro _ ⟨rfl, ht0, hd⟩
      refine ⟨.go (), ?_, .inl ⟨rfl, ?_⟩⟩
      · rw [if_neg (by simp; omega)]
      · have e : s.length - 1 + 1 = s.length := by omega
        rw [e, List.take_length, List.drop_length] at hd
        rw [hd]
        exact List.append_nil _
    · rintro _ (⟨rfl, hd⟩ | rfl)
      · rw [bindC_go, hd]
      · rfl
theorem merged_eq (l : List (List Ent)) (h : l.length ≤ 1048576) (ht : totalV l ≤ 262144) (hv : ∀ e ∈ l, ordE e) : impl_merged l = some (l.foldl mg []) := by
  unfold impl_merged
  rw [concat_eq l h (by omega)]
  simp only [Option.bind_some]
  obtain ⟨R, h1, h2, h3⟩ := stable_eq l.flatten (by rw [totalV_flatten]; exact ht)
  have hR : R.length = l.flatten.length := h3.length
  rw [totalV_flatten] at hR
  rw [h1]
  simp only [Option.bind_some]
  rw [compactF_eq R (by omega)]
  simp only [Option.bind_some]
  obtain ⟨d1, d2⟩ := ddA_none R h2
  obtain ⟨m1, m2⟩ := foldl_mg l [] [] hv List.Pairwise.nil (fun c => rfl)
  have : ddA none R = l.foldl mg [] := FstL.uniq d1 m1 d2 m2 h3
  rw [this]
  unfold slices_Clip_94167
  rw [piece_zero _ _ _ rfl (Nat.le_refl _), List.take_length]
  rfl

theorem skp_len (a : Ent) (l : List Ent) : (skp a l).length ≤ l.length := by
  match l with
  | [] => exact Nat.le_refl _
  | x :: r =>
    show (if entLt a x = true then x :: r else r).length ≤ _
    split
    · exact Nat.le_refl _
    · simp
theorem mg_len : ∀ (l e : List Ent), (mg l e).length ≤ l.length + e.length := by
  intro l
  induction l with
  | nil => intro e; simp [mg]
  | cons a t ih =>
    intro e
    have h1 := ih (skp a (e.dropWhile (fun x => entLt x a)))
    have h2 := skp_len a (e.dropWhile (fun x => entLt x a))
    have h3 : (e.takeWhile (fun x => entLt x a)).length + (e.dropWhile (fun x => entLt x a)).length = e.length := by rw [← List.length_append, List.takeWhile_append_dropWhile]
    show (_ ++ _ :: _).length ≤ _
    rw [List.length_append, List.length_cons, List.length_cons]
    omega
theorem foldl_mg_len : ∀ (L : List (List Ent)) (acc : List Ent), (L.foldl mg acc).length ≤ acc.length + totalV L := by
  intro L
  induction L with
  | nil => intro acc; simp
  | cons e L ih =>
    intro acc
    have h1 := ih (mg acc e)
    have h2 := mg_len acc e
    have h3 : totalV (e :: L) = e.length + totalV L := by simp [totalV]
    rw [List.foldl_cons]
    omega
theorem total_mem {l : List (List Ent)} {e : List Ent} (h : e ∈ l) : e.length ≤ totalV l := sum_mem List.length h
theorem mg_nil (e : List Ent) : mg [] e = e := rfl
theorem mg_cons (a : Ent) (t e : List Ent) : mg (a :: t) e = e.takeWhile (fun x => entLt x a) ++ a :: mg t (skp a (e.dropWhile (fun x => entLt x a))) := rfl
/-- what MergeEnts answers -/
def mergeOk (l : List (List Ent)) : Bool := decide (totalV l ≤ 400) && l.all entsV
def mergeR (l : List (List Ent)) : List Ent := bif mergeOk l then l.foldl mg [] else []
theorem takeWhile_none {α : Type} (p : α → Bool) (x : α) (t : List α) (h : p x = false) : (x :: t).takeWhile p = [] ∧ (x :: t).dropWhile p = x :: t := by
  rw [List.takeWhile_cons, List.dropWhile_cons, h]; exact ⟨rfl, rfl⟩
theorem takeWhile_some {α : Type} (p : α → Bool) (x : α) (t : List α) (h : p x = true) : (x :: t).takeWhile p = x :: t.takeWhile p ∧ (x :: t).dropWhile p = t.dropWhile p := by
  rw [List.takeWhile_cons, List.dropWhile_cons, h]; exact ⟨rfl, rfl⟩
theorem spec_MergeEnts_eq (l : List (List Ent)) (h : l.length ≤ 1048576) (ht : totalV l ≤ 1048576) : spec_MergeEnts l = some (mergeR l) := by
  unfold spec_MergeEnts
  have hbad : ∀ e ∈ l, entsV e = false → mergeR l = [] := by
    intro e he hv
    have : l.all entsV = false := by
      rw [← Bool.not_eq_true]
      intro ha
      rw [List.all_eq_true.1 ha e he] at hv; cases hv
    unfold mergeR mergeOk
    rw [this]; simp
  have hbig : 400 < totalV l → mergeR l = [] := by
    intro hb
    unfold mergeR mergeOk
    rw [decide_eq_false (by omega)]; rfl
  refine loopO_G (τ := Int × List Ent) (ρ := List Ent) (R := List Ent) (fun x => x = some (mergeR l)) (fun k s => s = ((k : Int), (l.take k).foldl mg []) ∧ ∀ e ∈ l.take k, entsV e = true) l.length
    (fun r => (r = .go (l.foldl mg []) ∧ ∀ e ∈ l, entsV e = true) ∨ (r = .done [] ∧ mergeR l = [])) ⟨rfl, by simp⟩ ?_ ?_ ?_
  · rintro k _ hk ⟨rfl, hv⟩
    have hm : l[k] ∈ l := List.getElem_mem hk
    have he := total_mem hm
    have ha := foldl_mg_len (l.take k) []
    have hk1 := total_take l k hk
    have hk2 := total_le l (k + 1)
    rw [List.length_nil, Nat.zero_add] at ha
    have hnext : (l.take (k + 1)).foldl mg [] = mg ((l.take k).foldl mg []) l[k] := by rw [take_snoc l k hk, List.foldl_append]; rfl
    generalize hacc : (l.take k).foldl mg [] = acc at *
    have c0 : decide ((k : Int) < ((l.length : Nat) : Int)) = true := decide_eq_true (by omega)
    simp only [c0, if_true, idx_nat l k hk, Option.bind_some, spec_l9Ents_eq l[k] (by omega)]
    cases c1 : entsV l[k] with
    | false => exact .inr ⟨_, rfl, .inr ⟨rfl, hbad _ hm c1⟩⟩
    | true =>
      by_cases c2 : l[k].length > 400
      · rw [decide_eq_true (by omega : ((l[k].length : Nat) : Int) > 400)]
        exact .inr ⟨_, rfl, .inr ⟨rfl, hbig (by omega)⟩⟩
      · rw [decide_eq_false (by omega : ¬ ((l[k].length : Nat) : Int) > 400)]
        by_cases c3 : acc.length > 400
        · rw [decide_eq_true (by omega : ((acc.length : Nat) : Int) > 400)]
          exact .inr ⟨_, rfl, .inr ⟨rfl, hbig (by omega)⟩⟩
        · rw [decide_eq_false (by omega : ¬ ((acc.length : Nat) : Int) > 400)]
          have a0 : app 48 ([] : List Ent) l[k] = some l[k] := app_ok (by rw [List.length_nil]; omega) (by rw [List.length_nil]; omega)
          simp only [Bool.not_true, Bool.false_eq_true, if_false, Option.bind_some, a0]
          left
          have hord : ordE acc := by
            have := foldl_mg (l.take k) [] [] (fun e he => ((entsV_iff e).1 (hv e he)).2) List.Pairwise.nil (fun c => rfl)
            rw [hacc] at this
            exact this.1
          have hv' : ∀ e ∈ l.take (k + 1), entsV e = true := by
            intro e he
            rw [take_snoc l k hk] at he
            rcases List.mem_append.1 he with he | he
            · exact hv e he
            · rw [List.mem_singleton.1 he]; exact c1
          have hfin : ∀ (out : List Ent) (j : Nat), j ≤ l[k].length → out ++ l[k].drop j = mg acc l[k] → ∃ s', ((piece l[k] (j : Int) ((l[k].length : Nat) : Int)).bind fun E73 => (app 48 out E73).bind fun E76 => some (Ctl.go (ρ := Ctl (List Ent) (List Ent)) (IntKind.i64.wrap ((k : Int) + (1 : Int)), E76))) = some (.go s') ∧ s' = (((k + 1 : Nat) : Int), (l.take (k + 1)).foldl mg []) ∧ ∀ e ∈ l.take (k + 1), entsV e = true := by
            intro out j hj ho
            have hlen := mg_len acc l[k]
            have hl2 := congrArg List.length ho
            rw [List.length_append, List.length_drop] at hl2
            rw [piece_nat l[k] j l[k].length _ _ rfl rfl hj (Nat.le_refl _), List.take_of_length_le (by rw [List.length_drop]; omega)]
            simp only [Option.bind_some]
            rw [app_ok (by rw [List.length_drop]; omega) (by rw [List.length_drop]; omega), ho, wrap_ok (by omega) (by omega)]
            exact ⟨_, rfl, by rw [hnext]; rfl, hv'⟩
          generalize l[k] = e at *
          refine loopO_G (τ := Int × Int × List Ent) (ρ := Int × List Ent) (R := Ctl (Int × List Ent) (Ctl (List Ent) (List Ent))) (fun x => ∃ s', x = some (.go s') ∧ s' = (((k + 1 : Nat) : Int), (l.take (k + 1)).foldl mg []) ∧ ∀ e ∈ l.take (k + 1), entsV e = true)
            (fun i s => ∃ (j : Nat) (out : List Ent), s = ((j : Int), (i : Int), out) ∧ j ≤ e.length ∧ out ++ mg (acc.drop i) (e.drop j) = mg acc e ∧ out.length ≤ i + j) acc.length
            (fun r => ∃ (j : Nat) (out : List Ent), r = .go ((j : Int), out) ∧ j ≤ e.length ∧ out ++ e.drop j = mg acc e) ⟨0, [], rfl, by omega, by simp, by simp⟩ ?_ ?_ ?_
          · rintro i _ hi ⟨j, out, rfl, hj, ho, hol⟩
            left
            have c4 : decide ((i : Int) < ((acc.length : Nat) : Int)) = true := decide_eq_true (by omega)
            simp only [c4, if_true, idx_nat acc i hi, Option.bind_some]
            rw [List.drop_eq_getElem_cons hi, mg_cons] at ho
            refine loopO_G (τ := Int × List Ent) (ρ := Int × List Ent) (R := Ctl (Int × Int × List Ent) (Ctl (Int × List Ent) (Ctl (Int × List Ent) (Ctl (List Ent) (List Ent)))))
              (fun x => ∃ s', x = some (.go s') ∧ ∃ (j : Nat) (out : List Ent), s' = ((j : Int), ((i + 1 : Nat) : Int), out) ∧ j ≤ e.length ∧ out ++ mg (acc.drop (i + 1)) (e.drop j) = mg acc e ∧ out.length ≤ i + 1 + j)
              (fun t s => ∃ (j' : Nat) (out' : List Ent), s = ((j' : Int), out') ∧ j' = j + t ∧ j' ≤ e.length ∧ out' ++ ((e.drop j').takeWhile (fun x => entLt x acc[i]) ++ acc[i] :: mg (acc.drop (i + 1)) (skp acc[i] ((e.drop j').dropWhile (fun x => entLt x acc[i])))) = mg acc e ∧ out'.length ≤ i + j') (e.length - j)
              (fun r => ∃ (j' : Nat) (out' : List Ent), r = .go ((j' : Int), out') ∧ j' ≤ e.length ∧ out' ++ (acc[i] :: mg (acc.drop (i + 1)) (skp acc[i] (e.drop j'))) = mg acc e ∧ out'.length ≤ i + j') ⟨j, out, rfl, rfl, hj, ho, hol⟩ ?_ ?_ ?_
            · rintro t _ ht ⟨j', out', rfl, hjt, hj', ho', hol'⟩
              have hj1 : j' < e.length := by omega
              have c5 : decide ((j' : Int) < ((e.length : Nat) : Int)) = true := decide_eq_true (by omega)
              simp only [c5, if_true, idx_nat e j' hj1, Option.bind_some, spec_l9Ahead_eq]
              rw [List.drop_eq_getElem_cons hj1] at ho'
              cases hlt : entLt e[j'] acc[i] with
              | true =>
                left
                rw [(takeWhile_some (fun x => entLt x acc[i]) _ _ hlt).1, (takeWhile_some (fun x => entLt x acc[i]) _ _ hlt).2] at ho'
                rw [if_pos rfl, app_ok (by simp only [List.length_singleton]; omega) (by simp only [List.length_singleton]; omega), wrap_ok (by omega) (by omega)]
                refine ⟨_, rfl, j' + 1, out' ++ [e[j']], rfl, by omega, by omega, ?_, by rw [List.length_append, List.length_singleton]; omega⟩
                rw [← ho']
                simp only [List.append_assoc, List.cons_append, List.nil_append]
              | false =>
                right
                rw [(takeWhile_none (fun x => entLt x acc[i]) _ _ hlt).1, (takeWhile_none (fun x => entLt x acc[i]) _ _ hlt).2, ← List.drop_eq_getElem_cons hj1] at ho'
                exact ⟨_, rfl, j', out', rfl, by omega, ho', hol'⟩
            · rintro _ ⟨j', out', rfl, hjt, hj', ho', hol'⟩
              have hj1 : j' = e.length := by omega
              have c5 : decide ((j' : Int) < ((e.length : Nat) : Int)) = false := decide_eq_false (by omega)
              simp only [c5]
              refine ⟨_, rfl, j', out', rfl, by omega, ?_, hol'⟩
              rw [List.drop_of_length_le (Nat.le_of_eq hj1.symm)] at ho' ⊢
              exact ho'
            · rintro _ ⟨j', out', rfl, hj', ho', hol'⟩
              rw [bindC_go]
              have a1 : app 48 out' [acc[i]] = some (out' ++ [acc[i]]) := app_ok (by simp only [List.length_singleton]; omega) (by simp only [List.length_singleton]; omega)
              have w1 : IntKind.i64.wrap ((i : Int) + 1) = ((i + 1 : Nat) : Int) := by rw [wrap_ok (by omega) (by omega)]; omega
              have w2 : IntKind.i64.wrap ((j' : Int) + 1) = ((j' + 1 : Nat) : Int) := by rw [wrap_ok (by omega) (by omega)]; omega
              simp only [a1, w1, w2, Option.bind_some, spec_l9Ahead_eq]
              have happ : ∀ r, (out' ++ [acc[i]]) ++ mg (acc.drop (i + 1)) r = out' ++ (acc[i] :: mg (acc.drop (i + 1)) r) := fun r => by simp
              rcases Nat.lt_or_ge j' e.length with hj1 | hj1
              · have c5 : decide ((j' : Int) < ((e.length : Nat) : Int)) = true := decide_eq_true (by omega)
                simp only [c5, if_true, idx_nat e j' hj1, Option.bind_some]
                rw [List.drop_eq_getElem_cons hj1] at ho'
                have es : skp acc[i] (e[j'] :: e.drop (j' + 1)) = if entLt acc[i] e[j'] = true then e[j'] :: e.drop (j' + 1) else e.drop (j' + 1) := rfl
                rw [es] at ho'
                cases hlt : entLt acc[i] e[j'] with
                | true =>
                  rw [hlt, if_pos rfl, ← List.drop_eq_getElem_cons hj1] at ho'
                  exact ⟨_, rfl, j', out' ++ [acc[i]], rfl, by omega, by rw [happ]; exact ho', by rw [List.length_append, List.length_singleton]; omega⟩
                | false =>
                  rw [hlt, if_neg (by simp)] at ho'
                  exact ⟨_, rfl, j' + 1, out' ++ [acc[i]], rfl, by omega, by rw [happ]; exact ho', by rw [List.length_append, List.length_singleton]; omega⟩
              · have c5 : decide ((j' : Int) < ((e.length : Nat) : Int)) = false := decide_eq_false (by omega)
                simp only [c5]
                refine ⟨_, rfl, j', out' ++ [acc[i]], rfl, by omega, ?_, by rw [List.length_append, List.length_singleton]; omega⟩
                rw [happ]
                rw [List.drop_of_length_le hj1] at ho' ⊢
                exact ho'
          · rintro _ ⟨j, out, rfl, hj, ho, hol⟩
            refine ⟨.go ((j : Int), out), ?_, j, out, rfl, hj, ?_⟩
            · rw [if_neg (by simp)]
            · rw [List.drop_length, mg_nil] at ho; exact ho
          · rintro _ ⟨j, out, rfl, hj, ho⟩
            rw [bindC_go]
            exact hfin out j hj ho
  · rintro _ ⟨rfl, hv⟩
    rw [List.take_length] at hv ⊢
    exact ⟨.go (l.foldl mg []), by rw [if_neg (by simp)], .inl ⟨rfl, hv⟩⟩
  · rintro _ (⟨rfl, hv⟩ | ⟨rfl, hr⟩)
    · rw [bindC_go]
      refine loopO_G (τ := Int × Int) (ρ := Int) (R := List Ent) (fun x => x = some (mergeR l)) (fun k s => s = ((totalV (l.take k) : Int), (k : Int))) l.length (fun r => r = .go (totalV l : Int)) rfl ?_ ?_ ?_
      · rintro k _ hk rfl
        left
        have h1 := total_take l k hk
        have h2 := total_le l (k + 1)
        have w1 : IntKind.i64.wrap ((totalV (l.take k) : Int) + ((l[k].length : Nat) : Int)) = (totalV (l.take (k + 1)) : Int) := by rw [wrap_ok (by omega) (by omega)]; omega
        have w2 : IntKind.i64.wrap ((k : Int) + 1) = ((k + 1 : Nat) : Int) := by rw [wrap_ok (by omega) (by omega)]; omega
        refine ⟨_, ?_, rfl⟩
        simp only [idx_nat l k hk, Option.bind_some, w1, w2]
        rw [if_pos (decide_eq_true (by omega))]
      · rintro _ rfl
        exact ⟨_, by simp, rfl⟩
      · rintro _ rfl
        rw [bindC_go]
        by_cases h1 : totalV l ≤ 400
        · rw [if_neg (by simp; omega)]
          unfold mergeR mergeOk
          rw [decide_eq_true h1, List.all_eq_true.2 hv]
          rfl
        · rw [if_pos (decide_eq_true (by omega)), hbig (by omega)]
    · rw [hr]; rfl

/-! an engine's tables merged into one -/
def mergeC (e : Eng) : List Ent := finE true (keepT e.Snaps (e.Tables.foldl mg []) 0 (e.Tables.foldl mg []).length)
def tab1 (c : List Ent) : List (List Ent) := bif decide (0 < c.length) then [c] else []
def mergeS (e : Eng) : Bool × Eng := bif decide (e.Tables.length = 0) then (false, e) else (true, { Mem := e.Mem, Tables := tab1 (mergeC e), Seq := e.Seq, Snaps := e.Snaps })
def mergeER (e : Eng) : Eng × Bool := bif engV e then ((mergeS e).2, (mergeS e).1) else ({ Mem := [], Tables := [], Seq := 0, Snaps := [] }, false)
theorem tabsV_each {seq : Int} : ∀ (t : List (List Ent)) (low : Int), tabsV seq low t = true → ∀ x ∈ t, entsV x = true ∧ ∀ y ∈ x, y.Seq < low ∧ y.Seq ≤ seq := by
  intro t
  induction t with
  | nil => intro _ _ x hx; simp at hx
  | cons a t ih =>
    intro low h x hx
    simp only [tabsV, Bool.and_eq_true, decide_eq_true_eq] at h
    obtain ⟨⟨h1, h2, h3, h4⟩, h5⟩ := h
    have hhi := (rangeV_hi a (rangeV a).2).1 (Int.le_refl _)
    rcases List.mem_cons.1 hx with rfl | hx
    · exact ⟨h2, fun y hy => ⟨by have := hhi.2 y hy; omega, by have := hhi.2 y hy; omega⟩⟩
    · obtain ⟨i1, i2⟩ := ih _ h5 x hx
      refine ⟨i1, fun y hy => ?_⟩
      have := i2 y hy
      obtain ⟨z, hz⟩ := List.exists_mem_of_ne_nil a h1
      have q1 := hhi.2 z hz
      have q2 := ((rangeV_lo a (rangeV a).1).1 (Int.le_refl _)).2 z hz
      omega
theorem merge_ents {e : Eng} (h : engV e = true) : entsV (e.Tables.foldl mg []) = true ∧ (e.Tables.foldl mg []).length ≤ totalV e.Tables ∧ ∀ x ∈ e.Tables.foldl mg [], ∃ t ∈ e.Tables, x ∈ t := by
  obtain ⟨h1, h2, h3, h4, h5, h6, h7, h8⟩ := engV_all h
  have ht := tabsV_each e.Tables _ h7
  obtain ⟨m1, m2⟩ := foldl_mg e.Tables [] [] (fun t htm => ((entsV_iff t).1 (ht t htm).1).2) List.Pairwise.nil (fun c => rfl)
  have hl := foldl_mg_len e.Tables []
  have hmem : ∀ x ∈ e.Tables.foldl mg [], ∃ t ∈ e.Tables, x ∈ t := fun x hx => by
    have := m2.mem hx
    rw [List.nil_append] at this
    exact List.mem_flatten.1 this
  refine ⟨(entsV_iff _).2 ⟨fun x hx => ?_, m1⟩, by simpa using hl, hmem⟩
  obtain ⟨t, ht1, ht2⟩ := hmem x hx
  exact ((entsV_iff t).1 (ht t ht1).1).1 x ht2
theorem mergeC_sub {e : Eng} (h : engV e = true) : (mergeC e).Sublist (e.Tables.foldl mg []) := by
  obtain ⟨h1, h2, h3, h4, h5, h6, h7, h8⟩ := engV_all h
  obtain ⟨g1, g2, _⟩ := merge_ents h
  have hx := compactR_G e.Snaps true (l := e.Tables.foldl mg []) (by omega) g1
  have hc : compactR (e.Tables.foldl mg []) e.Snaps true = mergeC e := by
    unfold compactR mergeC
    rw [if_pos ⟨by omega, g1⟩]
  rw [← hc, hx]
  exact (finE_sub _ _).trans (keepG_sub _ _ _)
theorem mergeC_props {e : Eng} (h : engV e = true) : entsV (mergeC e) = true ∧ (mergeC e).length ≤ totalV e.Tables ∧ ∀ x ∈ mergeC e, x.Seq < (rangeV e.Mem).1 ∧ x.Seq ≤ e.Seq := by
  obtain ⟨h1, h2, h3, h4, h5, h6, h7, h8⟩ := engV_all h
  obtain ⟨g1, g2, g3⟩ := merge_ents h
  have hsub := mergeC_sub h
  refine ⟨entsV_sublist hsub g1, Nat.le_trans hsub.length_le g2, fun x hx => ?_⟩
  obtain ⟨t, ht1, ht2⟩ := g3 x (hsub.mem hx)
  exact (tabsV_each e.Tables _ h7 t ht1).2 x ht2
theorem tab1_len (c : List Ent) : (tab1 c).length ≤ 1 ∧ totalV (tab1 c) ≤ c.length ∧ ∀ t ∈ tab1 c, t = c := by
  unfold tab1
  by_cases hc : 0 < c.length
  · rw [decide_eq_true hc]; exact ⟨Nat.le_refl _, by simp [totalV], fun t ht => by simpa using ht⟩
  · rw [decide_eq_false hc]; exact ⟨by simp, by simp [totalV], fun t ht => by simp at ht⟩
/-- a merged engine is as required -/
theorem mergeS_ok {e : Eng} (h : engV e = true) : engV (mergeS e).2 = true := by
  unfold mergeS
  by_cases c : e.Tables.length = 0
  · rw [decide_eq_true c]; exact h
  · rw [decide_eq_false c]
    obtain ⟨h1, h2, h3, h4, h5, h6, h7, h8⟩ := engV_all h
    obtain ⟨g1, g2, g3⟩ := mergeC_props h
    obtain ⟨t1, t2, t3⟩ := tab1_len (mergeC e)
    show engV { Mem := e.Mem, Tables := tab1 (mergeC e), Seq := e.Seq, Snaps := e.Snaps } = true
    unfold engV memV
    simp only [Bool.and_eq_true, decide_eq_true_eq]
    refine ⟨⟨h1, h2, by omega, by omega, h5, h6, ?_⟩, h8⟩
    unfold tab1
    by_cases hc : 0 < (mergeC e).length
    · rw [decide_eq_true hc]
      show tabsV _ _ [mergeC e] = true
      have hmem : (rangeV e.Mem).1 ≤ 1000001 := ((rangeV_lo e.Mem _).1 (Int.le_refl _)).1
      obtain ⟨z, hz⟩ := List.exists_mem_of_ne_nil (mergeC e) (by intro h0; rw [h0] at hc; simp at hc)
      have hz0 := g3 z hz
      have hzv := ((entsV_iff _).1 g1).1 z hz
      unfold entV at hzv
      simp only [Bool.and_eq_true, decide_eq_true_eq] at hzv
      have q1 : (rangeV (mergeC e)).2 ≤ (rangeV e.Mem).1 - 1 := (rangeV_hi _ _).2 ⟨by omega, fun x hx => by have := g3 x hx; omega⟩
      have q2 : (rangeV (mergeC e)).2 ≤ e.Seq := (rangeV_hi _ _).2 ⟨by omega, fun x hx => (g3 x hx).2⟩
      simp only [tabsV, Bool.and_eq_true, decide_eq_true_eq]
      exact ⟨⟨by intro h0; rw [h0] at hc; simp at hc, g1, by omega, q2⟩, trivial⟩
    · rw [decide_eq_false hc]; rfl
theorem impl_Eng_merge_eq {e : Eng} (h : engV e = true) : impl_Eng_merge e = some (mergeS e) := by
  obtain ⟨h1, h2, h3, h4, h5, h6, h7, h8⟩ := engV_all h
  obtain ⟨g1, g2, g3⟩ := merge_ents h
  have ht := tabsV_each e.Tables _ h7
  unfold impl_Eng_merge mergeS
  by_cases c : e.Tables.length = 0
  · rw [if_pos (decide_eq_true (by omega)), decide_eq_true c]; rfl
  · rw [if_neg (fun h_ => absurd (of_decide_eq_true h_) (by omega)), decide_eq_false c, merged_eq e.Tables (by omega) (by omega) (fun t htm => ((entsV_iff t).1 (ht t htm).1).2)]
    simp only [Option.bind_some]
    rw [impl_compacted_eq _ e.Snaps true (by omega) (by omega)]
    simp only [Option.bind_some]
    show _ = some (true, ({ Mem := e.Mem, Tables := tab1 (mergeC e), Seq := e.Seq, Snaps := e.Snaps } : Eng))
    have hm : finE true (keepT e.Snaps (e.Tables.foldl mg []) 0 (e.Tables.foldl mg []).length) = mergeC e := rfl
    rw [hm]
    generalize mergeC e = x
    unfold tab1
    by_cases hc : 0 < x.length
    · rw [if_pos (decide_eq_true (by omega)), decide_eq_true hc]; rfl
    · rw [if_neg (fun h_ => absurd (of_decide_eq_true h_) (by omega)), decide_eq_false hc]; rfl
theorem eng_small {e : Eng} (h : engV e = true) : e.Mem.length ≤ 1048576 ∧ e.Tables.length ≤ 1048576 ∧ totalV e.Tables ≤ 1048576 ∧ e.Snaps.length ≤ 1048576 ∧ ∀ t ∈ e.Tables, t.length ≤ 1048576 := by
  obtain ⟨h1, h2, h3, h4, h5, h6, h7, h8⟩ := engV_all h
  exact ⟨by omega, by omega, by omega, by omega, fun t ht => by have := total_mem ht; omega⟩
theorem spec_EngMerge_eq (e : Eng) (h1 : e.Mem.length ≤ 1048576) (h2 : e.Tables.length ≤ 1048576) (h3 : totalV e.Tables ≤ 1048576) (h4 : e.Snaps.length ≤ 1048576) : spec_EngMerge e = some (mergeER e) := by
  unfold spec_EngMerge mergeER
  rw [spec_EngOk_eq e h1 h2 h3 h4]
  cases hv : engV e with
  | false => rfl
  | true =>
    obtain ⟨q1, q2, q3, q4, q5, q6, q7, q8⟩ := engV_all hv
    obtain ⟨g1, g2, g3⟩ := merge_ents hv
    obtain ⟨_, _, _, _, hlen⟩ := eng_small hv
    have ht := tabsV_each e.Tables _ q7
    simp only [Option.bind_some, Bool.not_true, Bool.false_eq_true, if_false, spec_l20Copy_eq e h1 h2 hlen h4, cond_true]
    unfold mergeS
    by_cases c : e.Tables.length = 0
    · rw [if_pos (decide_eq_true (by omega)), decide_eq_true c]; rfl
    · have hR : mergeR e.Tables = e.Tables.foldl mg [] := by
        unfold mergeR mergeOk
        rw [decide_eq_true (by omega), List.all_eq_true.2 fun t htm => (ht t htm).1]; rfl
      have hc : compactR (e.Tables.foldl mg []) e.Snaps true = mergeC e := by
        unfold compactR mergeC
        rw [if_pos ⟨by omega, g1⟩]
      rw [if_neg (fun h_ => absurd (of_decide_eq_true h_) (by omega)), decide_eq_false c, spec_MergeEnts_eq e.Tables h2 h3, hR]
      simp only [Option.bind_some]
      rw [spec_CompactEnts_eq _ e.Snaps true (by omega) h4, hc]
      simp only [Option.bind_some]
      have hml := (mergeC_props hv).2.1
      show _ = some (({ Mem := e.Mem, Tables := tab1 (mergeC e), Seq := e.Seq, Snaps := e.Snaps } : Eng), true)
      generalize mergeC e = x at hml
      unfold tab1
      by_cases hc : 0 < x.length
      · rw [if_pos (decide_eq_true (by omega)), decide_eq_true hc, app_ok (by simp) (by simp)]; rfl
      · rw [if_neg (fun h_ => absurd (of_decide_eq_true h_) (by omega)), decide_eq_false hc]; rfl
/-! the merge and the flush that follow a put -/
def tidyS (e : Eng) : Bool × Eng :=
  let m := bif decide (6 ≤ e.Tables.length) then mergeS e else (false, e)
  let f := bif decide (54 < e.Mem.length) then flushS m.2 else (false, m.2)
  (m.1 || f.1, f.2)
def tidyR (e : Eng) : Eng × Bool := bif engV e then ((tidyS e).2, (tidyS e).1) else ({ Mem := [], Tables := [], Seq := 0, Snaps := [] }, false)
theorem flushS_ok {e : Eng} (h : engV e = true) : engV (flushS e).2 = true := by
  by_cases c : e.Mem.length = 0 ∨ 6 ≤ e.Tables.length
  · rw [flushS_pos c]; exact h
  · rw [flushS_neg c]
    obtain ⟨h1, h2, h3, h4, h5, h6, h7, h8⟩ := engV_all h
    show engV { Mem := [], Tables := e.Mem :: e.Tables, Seq := e.Seq, Snaps := e.Snaps } = true
    have hne : e.Mem ≠ [] := by intro h0; rw [h0] at c; simp at c
    have ht : totalV (e.Mem :: e.Tables) = e.Mem.length + totalV e.Tables := by simp [totalV]
    unfold engV memV
    simp only [Bool.and_eq_true, decide_eq_true_eq, tabsV]
    refine ⟨⟨h1, h2, by simp; omega, by simp [ht]; omega, ⟨by simp, rfl⟩, by show (-1 : Int) ≤ e.Seq; omega, ⟨⟨hne, h5.2, by show (rangeV e.Mem).2 < 1000001; omega, h6⟩, h7⟩⟩, h8⟩
theorem flushS_mem (e : Eng) : (flushS e).2.Seq = e.Seq ∧ (flushS e).2.Snaps = e.Snaps := by
  by_cases c : e.Mem.length = 0 ∨ 6 ≤ e.Tables.length
  · rw [flushS_pos c]; exact ⟨rfl, rfl⟩
  · rw [flushS_neg c]; exact ⟨rfl, rfl⟩
theorem mergeS_mem (e : Eng) : (mergeS e).2.Mem = e.Mem ∧ (mergeS e).2.Seq = e.Seq ∧ (mergeS e).2.Snaps = e.Snaps := by
  unfold mergeS
  cases decide (e.Tables.length = 0) <;> exact ⟨rfl, rfl, rfl⟩
/-- first the merge -/
def tidyM (e : Eng) : Bool × Eng := bif decide (6 ≤ e.Tables.length) then mergeS e else (false, e)
theorem tidyM_ok {e : Eng} (h : engV e = true) : engV (tidyM e).2 = true := by
  unfold tidyM
  cases decide (6 ≤ e.Tables.length) with
  | true => exact mergeS_ok h
  | false => exact h
theorem tidyM_mem (e : Eng) : (tidyM e).2.Mem = e.Mem ∧ (tidyM e).2.Seq = e.Seq ∧ (tidyM e).2.Snaps = e.Snaps := by
  unfold tidyM
  cases decide (6 ≤ e.Tables.length) with
  | true => exact mergeS_mem e
  | false => exact ⟨rfl, rfl, rfl⟩
/-- then the flush -/
def tidyF (e : Eng) : Bool × Eng := bif decide (54 < e.Mem.length) then flushS e else (false, e)
theorem tidyF_ok {e : Eng} (h : engV e = true) : engV (tidyF e).2 = true := by
  unfold tidyF
  cases decide (54 < e.Mem.length) with
  | true => exact flushS_ok h
  | false => exact h
theorem tidyS_eq (e : Eng) : tidyS e = ((tidyM e).1 || (tidyF (tidyM e).2).1, (tidyF (tidyM e).2).2) := by
  unfold tidyS tidyF
  show ((tidyM e).1 || (bif decide (54 < e.Mem.length) then flushS (tidyM e).2 else (false, (tidyM e).2)).1, (bif decide (54 < e.Mem.length) then flushS (tidyM e).2 else (false, (tidyM e).2)).2) = _
  rw [(tidyM_mem e).1]
theorem tidyS_ok {e : Eng} (h : engV e = true) : engV (tidyS e).2 = true := by
  rw [tidyS_eq]; exact tidyF_ok (tidyM_ok h)
theorem impl_EngTidy_eq (e : Eng) (h1 : e.Mem.length ≤ 1048576) (h2 : e.Tables.length ≤ 1048576) (h3 : totalV e.Tables ≤ 1048576) (h4 : e.Snaps.length ≤ 1048576) : impl_EngTidy e = some (tidyR e) := by
  unfold impl_EngTidy tidyR
  rw [impl_EngOk_eq e h1 h2 h3 h4]
  cases hv : engV e with
  | false => rfl
  | true =>
    obtain ⟨_, _, _, _, hlen⟩ := eng_small hv
    obtain ⟨q1, q2, q3, q4, q5, q6, q7, q8⟩ := engV_all hv
    simp only [Option.bind_some, Bool.not_true, Bool.false_eq_true, if_false, impl_copyEng_eq e h1 h2 hlen h4, cond_true, tidyS_eq]
    have hM : (if (decide (((e.Tables.length : Nat) : Int) = (6 : Int))) = true then ((impl_Eng_merge e).bind fun R17 => some (Ctl.go (ρ := Eng × Bool) (R17.2.Seq, R17.1, R17.2.Tables))) else (some (.go (e.Seq, false, e.Tables)))) = some (.go ((tidyM e).2.Seq, (tidyM e).1, (tidyM e).2.Tables)) := by
      unfold tidyM
      by_cases c : 6 ≤ e.Tables.length
      · rw [if_pos (decide_eq_true (by omega)), decide_eq_true c, impl_Eng_merge_eq hv]; rfl
      · rw [if_neg (fun h_ => absurd (of_decide_eq_true h_) (by omega)), decide_eq_false c]; rfl
    rw [hM, bindC_go]
    obtain ⟨m1, m2, m3⟩ := tidyM_mem e
    have hok := tidyM_ok hv
    have he : ({ Mem := e.Mem, Tables := (tidyM e).2.Tables, Seq := (tidyM e).2.Seq, Snaps := e.Snaps } : Eng) = (tidyM e).2 := by
      conv => lhs; rw [← m1, ← m3]
    simp only [he]
    generalize tidyM e = t at *
    obtain ⟨b, x⟩ := t
    simp only at *
    unfold tidyF
    rw [m1]
    by_cases c : 54 < e.Mem.length
    · rw [if_pos (decide_eq_true (by omega)), decide_eq_true c, impl_flush_eq x (eng_small hok).2.1]
      simp only [Option.bind_some, cond_true]
      obtain ⟨f1, f2⟩ := flushS_mem x
      rw [m3] at f2
      generalize flushS x = y at *
      obtain ⟨b2, y⟩ := y
      simp only at f1 f2 ⊢
      cases b <;> (simp only [Bool.false_eq_true, if_true, if_false, Option.bind_some, bindC_go, Bool.true_or, Bool.false_or]; rw [← f2])
    · rw [if_neg (fun h_ => absurd (of_decide_eq_true h_) (by omega)), decide_eq_false c]
      simp only [bindC_go, cond_false, Bool.or_false]
      rw [← m1, ← m3]
theorem spec_EngTidy_eq (e : Eng) (h1 : e.Mem.length ≤ 1048576) (h2 : e.Tables.length ≤ 1048576) (h3 : totalV e.Tables ≤ 1048576) (h4 : e.Snaps.length ≤ 1048576) : spec_EngTidy e = some (tidyR e) := by
  unfold spec_EngTidy tidyR
  rw [spec_EngOk_eq e h1 h2 h3 h4]
  cases hv : engV e with
  | false => rfl
  | true =>
    obtain ⟨_, _, _, _, hlen⟩ := eng_small hv
    simp only [Option.bind_some, Bool.not_true, Bool.false_eq_true, if_false, spec_l20Copy_eq e h1 h2 hlen h4, cond_true, tidyS_eq]
    have hM : (if (decide (((e.Tables.length : Nat) : Int) ≥ (6 : Int))) = true then ((spec_EngMerge e).bind fun R17 => some (Ctl.go (ρ := Eng × Bool) (R17.1.Seq, R17.2, R17.1.Mem, R17.1.Tables, R17.1.Snaps))) else (some (.go (e.Seq, false, e.Mem, e.Tables, e.Snaps)))) = some (.go ((tidyM e).2.Seq, (tidyM e).1, (tidyM e).2.Mem, (tidyM e).2.Tables, (tidyM e).2.Snaps)) := by
      unfold tidyM
      by_cases c : 6 ≤ e.Tables.length
      · rw [if_pos (decide_eq_true (by omega)), decide_eq_true c, spec_EngMerge_eq e h1 h2 h3 h4]
        unfold mergeER
        rw [hv]; rfl
      · rw [if_neg (fun h_ => absurd (of_decide_eq_true h_) (by omega)), decide_eq_false c]; rfl
    rw [hM, bindC_go]
    have hok := tidyM_ok hv
    generalize tidyM e = t at *
    obtain ⟨b, x⟩ := t
    simp only at *
    obtain ⟨b1, b2, b3, b4, b5⟩ := eng_small hok
    unfold tidyF
    by_cases c : 54 < x.Mem.length
    · rw [if_pos (decide_eq_true (by omega)), decide_eq_true c]
      have hs : spec_EngFlush x = some ((flushS x).2, (flushS x).1) := by
        rw [spec_EngFlush_eq x b1 b2 b3 b4]
        unfold flushR
        rw [hok]; rfl
      have hx : ({ Mem := x.Mem, Tables := x.Tables, Seq := x.Seq, Snaps := x.Snaps } : Eng) = x := rfl
      rw [hx, hs]
      simp only [Option.bind_some, cond_true]
      cases b <;> rfl
    · rw [if_neg (fun h_ => absurd (of_decide_eq_true h_) (by omega)), decide_eq_false c]
      simp only [bindC_go, cond_false, Bool.or_false]
theorem tidyR_bound (e : Eng) : cntS_Eng (tidyR e).1 ≤ 4398063288320 ∧ bnd_Eng (tidyR e).1 := by
  unfold tidyR
  cases hv : engV e with
  | false => exact eng_cnt _ (by simp) (by simp) (by simp) (by simp)
  | true =>
    obtain ⟨b1, b2, b3, b4, b5⟩ := eng_small (tidyS_ok hv)
    exact eng_cnt _ (Nat.le_succ_of_le b1) (Nat.le_succ_of_le b2) (fun t ht => Nat.le_succ_of_le (b5 t ht)) (Nat.le_succ_of_le b4)
theorem FnExactEngTidy_pure (a : Eng) (h : Dec.ok a) : laws_FnExactEngTidy a = some true := by
  unfold laws_FnExactEngTidy
  rw [sz_Eng a 1048576 (by omega) (by omega) h]
  simp only [Option.bind_some]
  by_cases hl : szV 1048576 (wgt_Eng a) < 0
  · rw [if_pos (by simpa using hl)]
  · have hn := szV_nonneg hl
    have hw : wgt_Eng a ≤ 1048576 := by omega
    obtain ⟨h1, h2, h3, h4⟩ := eng_lens a hw
    have hlen : ∀ t ∈ a.Tables, t.length ≤ 1048576 := fun t ht => Nat.le_trans (sum_mem List.length ht) h3
    obtain ⟨b1, b2⟩ := tidyR_bound a
    obtain ⟨b3, _⟩ := eng_cnt a (by omega) (by omega) (fun t ht => Nat.le_succ_of_le (hlen t ht)) (by omega)
    have hb := bnd_of_Eng a hw
    rw [if_neg (by simpa using hl), to_Eng a hw]
    simp only [Option.bind_some, spec_EngTidy_eq a h1 h2 h3 h4, impl_EngTidy_eq a h1 h2 h3 h4]
    generalize tidyR a = r at b1 b2
    obtain ⟨x, b⟩ := r
    simp only at b1 b2
    simp only [eq_Eng x x b2, eq_Eng a a hb, mark_Eng a 1 (by omega) (by omega) hb, mark_Eng x 1 (by omega) (by omega) b2, held_Eng x 1 (by omega) (by omega) b2, Option.bind_some]
    generalize cntS_Eng x = m1
    generalize cntS_Eng a = m2
    have n1 : ¬ (1 + (m1 : Int) < 0) := by omega
    have n2 : ¬ (1 + (m2 : Int) < 0) := by omega
    simp [n1, n2]
theorem FnExactEngTidy_proved : Rows.FnExactEngTidySaid := FnExactEngTidy_over fun a h => FnExactEngTidy_pure a h

/-! all entries of an engine -/
/-! the map of an engine -/
end Go.Proofs.Ytjodikomidlhjaa
