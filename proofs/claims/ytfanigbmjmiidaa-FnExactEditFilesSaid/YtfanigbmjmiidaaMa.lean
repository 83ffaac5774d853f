/-
  The plain laws: what the pure functions come to, and the statements. Conditions: none.
-/
import Derived.Test.YtfanigbmjmiidaaPm
import Derived.Test.YtfanigbmjmiidaaE4
set_option linter.unusedVariables false
set_option linter.unusedSimpArgs false
namespace Go.Proofs.Ytfanigbmjmiidaa
open Go Sl

theorem inRange_eq (n a b : Int) : impl_inRange n a b = some (decide (a ≤ n ∧ n ≤ b)) := by
  unfold impl_inRange
  by_cases h : n ≥ a <;> simp [h]
theorem l1In_eq (n a b : Int) : spec_l1In n a b = some (decide (a ≤ n ∧ n ≤ b)) := by
  unfold spec_l1In
  by_cases h : n ≥ a <;> simp [h]
/-! ### SpaceOk -/
theorem szIntS_eq (a : List Int) (left : Int) (h1 : 0 ≤ left) (h2 : left ≤ 1048576) (h3 : a.length ≤ 9223372036854775807) :
    laws_szIntS a left = some (if left < a.length then -1 else left - a.length) := by
  unfold laws_szIntS
  rw [wrap_ok (by omega) (by omega)]
  by_cases h : left - (a.length : Int) < 0
  · simp [h, show left < (a.length : Int) by omega]
  · simp [h, show ¬ left < (a.length : Int) by omega]
theorem toIntS_eq (a : List Int) (h : a.length ≤ 1048576) : laws_toIntS a = some a := by
  have := to_loop a 0 (fun x => some x) (fun _ _ => rfl) (by omega)
  simp only [Option.bind_some] at this
  unfold laws_toIntS
  rw [mkLen_ok (by omega) (by omega)]
  simp only [Option.bind_some]
  rw [this]
  rfl
theorem eqIntS_eq (a b : List Int) (h : a.length ≤ 1048576) : laws_eqIntS a b = some (decide (a = b)) := by
  have := eqS_of a b (fun x y => some (decide (x = y))) (fun _ _ _ _ => rfl) (by omega)
  simp only [Option.bind_some] at this
  exact this
theorem all_range (l : List Int) (p : Int → Bool) (f : Int → Option Bool) (hf : ∀ x, f x = some (p x)) (hl : l.length ≤ 1048576) :
    loopO (ρ := Ctl Unit Bool) (fun (S6 : Int) => if (decide (S6 < ((l.length : Nat) : Int))) = true then ((idx l S6).bind fun E11 =>
  (f E11).bind fun R13 =>
  if (!R13) = true then (some (.done (.done false)))
  else (some (.go (IntKind.i64.wrap (S6 + (1 : Int))))))
  else (some (.done (.go ())))) (0 : Int) = some (if l.all p then .go () else .done false) := by
  rw [loopO_list l (fun k (_ : Unit) => (k : Int)) (fun _ x _ => if p x then some (Ctl.go ()) else some (Ctl.done (Ctl.done false))) (fun _ => some (Ctl.go ())) () ?h0 ?hs ?hf]
  case h0 => rfl
  case hs =>
    intro k hk _
    simp only [idx_nat l k hk, Option.bind_some, hf]
    rw [wrap_ok (by omega) (by omega)]
    by_cases he : p l[k] = true
    · simp [he, Ctl.mapGo, hk]
    · simp [he, Ctl.mapGo, hk]
  case hf => intro _; simp
  rw [runL_all p (Ctl.done false) _ _ (by intro k x _; rfl)]
  split <;> rfl
theorem markIntS_eq (a : List Int) (k : Int) (h : a.length ≤ 1048576) (h1 : 1 ≤ k) (h2 : k ≤ 1125899906842624) : laws_markIntS a k = some (k + a.length, a.mapIdx fun i _ => k + i) := by
  unfold laws_markIntS
  rw [mark_loop (fun q _ => q) 1 a k h1 (by omega) h ?hb ?hd]
  case hb =>
    intro q i l hi h3 h4 hl
    simp only [idx_nat l i hi, Option.bind_some]
    rw [wrap_ok (by omega) (by omega), wrap_ok (by omega) (by omega)]
    simp [hi]
  case hd => intro q l hl; simp
  simp
/-- giving blocks back, one by one -/
def giveV (who : Int) : List Int → List Int → Option (List Int)
  | [], s => some s
  | b :: bs, s => if 0 ≤ b ∧ b < s.length ∧ s[b.toNat]? = some who ∧ 1 ≤ who then giveV who bs (s.set b.toNat 0) else none
theorem giveV_cons (who b : Int) (bs s : List Int) : giveV who (b :: bs) s = if 0 ≤ b ∧ b < s.length ∧ s[b.toNat]? = some who ∧ 1 ≤ who then giveV who bs (s.set b.toNat 0) else none := rfl
theorem giveV_nil (who : Int) (s : List Int) : giveV who [] s = some s := rfl
theorem giveV_length (who : Int) : ∀ (bs s r : List Int), giveV who bs s = some r → r.length = s.length
  | [], s, r, h => by simp [giveV] at h; rw [h]
  | b :: bs, s, r, h => by
    unfold giveV at h
    split at h
    · rw [giveV_length who bs _ r h, List.length_set]
    · cases h
theorem idx_some' {α : Type} {l : List α} {i : Int} (h0 : 0 ≤ i) (h1 : i < l.length) : idx l i = some (l[i.toNat]'(by omega)) := by
  unfold idx; rw [if_pos h0, List.getElem?_eq_getElem]
/-- what a quota needs -/
def needV (q : Int) : Int := if 0 ≤ q ∧ q ≤ 1000 then 2 + 2 * ((q + 49) / 50) else 0
theorem needV_range (q : Int) : 0 ≤ needV q ∧ needV q ≤ 42 := by
  unfold needV; split <;> omega
theorem markText_loop (m : Nat) : ∀ s : List UInt8, s.length + m ≤ 9223372036854775806 → ∃ r : List UInt8, loopO (ρ := Ctl (List UInt8) (List UInt8)) (fun (S2 : Int × List UInt8) => if (decide (S2.1 > (0 : Int))) = true then ((cat ([toU8 (IntKind.i64.wrap ((48 : Int) + (Int.tmod S2.1 (10 : Int))))]) S2.2).bind fun E8 =>
  some (.go (IntKind.i64.wrap (Int.tdiv S2.1 (10 : Int)), E8)))
  else (some (.done (.go S2.2)))) ((m : Int), s) = some (.go r) ∧ r.length ≤ s.length + m := by
  induction m using Nat.strongRecOn with
  | _ m ih =>
    intro s hs
    rw [loopO_eq]
    by_cases h0 : m = 0
    · subst h0
      exact ⟨s, by simp, by omega⟩
    · simp only
      rw [if_pos (by simp; omega), cat_ok (by simp; omega)]
      have hd : Int.tdiv (m : Int) 10 = ((m / 10 : Nat) : Int) := rfl
      rw [hd, wrap_ok (n := ((m / 10 : Nat) : Int)) (by omega) (by omega)]
      simp only [Option.bind_some]
      obtain ⟨r, hr, hl⟩ := ih (m / 10) (by omega) ([toU8 (IntKind.i64.wrap ((48 : Int) + (Int.tmod (m : Int) (10 : Int))))] ++ s) (by simp; omega)
      exact ⟨r, hr, by simp at hl; omega⟩
theorem markText_some (k : Int) (h : k ≤ 9223372036854775800) : ∃ t, laws_markText k = some t := by
  unfold laws_markText
  by_cases h0 : k ≤ 0
  · exact ⟨_, by rw [if_pos (by simpa using h0)]⟩
  · rw [if_neg (by simpa using h0)]
    obtain ⟨r, hr, hl⟩ := markText_loop k.toNat [] (by simp; omega)
    rw [show ((k.toNat : Nat) : Int) = k by omega] at hr
    refine ⟨[109] ++ r, ?_⟩
    rw [hr]
    simp only [bindC_go]
    rw [cat_ok (by simp at hl ⊢; omega)]
    rfl
noncomputable def markT (k : Int) : List UInt8 := (laws_markText k).getD []
theorem markText_eq (k : Int) (h : k ≤ 9223372036854775800) : laws_markText k = some (markT k) := by
  obtain ⟨t, ht⟩ := markText_some k h
  unfold markT; rw [ht]; rfl
def wgt_File (x : File) : Nat := x.Lo.length + (x.Hi.length + 0)
theorem sz_File (x : File) (left : Int) (h1 : 0 ≤ left) (h2 : left ≤ 1048576) (h : Dec.ok x) : laws_szFile x left = some (szV left (wgt_File x)) := by
  unfold laws_szFile
  show _ = some (szV left (x.Lo.length + (x.Hi.length + 0)))
  refine sz_str h1 h2 (h.2.2.1) fun hle0 hw0 => ?_
  simp only [hw0]
  have g1_0 : 0 ≤ left - ((x.Lo.length : Nat) : Int) := by omega
  have g2_0 : left - ((x.Lo.length : Nat) : Int) ≤ 1048576 := by omega
  refine sz_str g1_0 g2_0 (h.2.2.2) fun hle1 hw1 => ?_
  simp only [hw1]
  have g1_1 : 0 ≤ left - ((x.Lo.length : Nat) : Int) - ((x.Hi.length : Nat) : Int) := by omega
  have g2_1 : left - ((x.Lo.length : Nat) : Int) - ((x.Hi.length : Nat) : Int) ≤ 1048576 := by omega
  exact sz_end g1_1
theorem to_File (x : File) : laws_toFile x = some x := rfl
theorem eq_File (a b : File) : laws_eqFile a b = some (decide (a = b)) := by
  have he : (a = b) ↔ (a.No = b.No ∧ a.Level = b.Level ∧ a.Lo = b.Lo ∧ a.Hi = b.Hi ∧ True) := ⟨fun e => by subst e; simp, fun h => by cases a; cases b; simp_all⟩
  rw [decide_eq_decide.2 he]
  unfold laws_eqFile
  refine eq_step fun _ => ?_
  refine eq_step fun _ => ?_
  refine eq_step fun _ => ?_
  refine eq_step fun _ => ?_
  exact eq_end
theorem sz_FileS (a : List File) (left : Int) (h1 : 0 ≤ left) (h2 : left ≤ 1048576) (h : okl a) : laws_szFileS a left = some (szV left (wS wgt_File a)) := by
  unfold laws_szFileS
  exact szS_of a laws_szFile wgt_File (fun x hx left h1 h2 => sz_File x left h1 h2 (h.2 x hx)) h.1 left h1 h2
theorem to_FileS (a : List File) (h : a.length ≤ 1048576) : laws_toFileS a = some a := by
  unfold laws_toFileS
  rw [mkLen_ok (by omega) (by omega)]
  simp only [Option.bind_some]
  rw [to_loop a _ laws_toFile (fun x _ => rfl) (by omega)]
  rfl
theorem eq_FileS (a b : List File) (h : a.length ≤ 4611686018427387904) : laws_eqFileS a b = some (decide (a = b)) :=
  eqS_of a b laws_eqFile (fun x y _ _ => eq_File x y) h
def cnt_File (_ : File) : Nat := 4
noncomputable def mk_File (q : Int) (_ : File) : File := { No := q, Level := q + 1, Lo := markT (q + 1 + 1), Hi := markT (q + 1 + 1 + 1) : File }
theorem mark_FileS (a : List File) (k : Int) (h1 : 1 ≤ k) (h2 : k + ((a.map cnt_File).sum : Nat) ≤ 4611686018427387904) (h : a.length ≤ 4611686018427387904) : laws_markFileS a k = some (k + ((a.map cnt_File).sum : Nat), mkL mk_File cnt_File k a) := by
  unfold laws_markFileS
  rw [markV_loop mk_File cnt_File a k h1 h2 h ?hb ?hd]
  case hb =>
    intro q i l x hi hx h3 h4 hl hil
    have hc : ((cnt_File x : Nat) : Int) = 4 := rfl
    rw [hc] at h4
    have wi : IntKind.i64.wrap ((i : Int) + 1) = (i : Int) + 1 := wrap_ok (by omega) (by omega)
    have w0 : IntKind.i64.wrap (q + 1) = q + 1 := wrap_ok (by omega) (by omega)
    have w1 : IntKind.i64.wrap (q + 1 + 1) = q + 1 + 1 := wrap_ok (by omega) (by omega)
    have w2 : IntKind.i64.wrap (q + 1 + 1 + 1) = q + 1 + 1 + 1 := wrap_ok (by omega) (by omega)
    have w3 : IntKind.i64.wrap (q + 1 + 1 + 1 + 1) = q + 1 + 1 + 1 + 1 := wrap_ok (by omega) (by omega)
    simp only [hi, Option.bind_some, wi, w0, w1, w2, w3, markText_eq (q + 1 + 1) (by omega), markText_eq (q + 1 + 1 + 1) (by omega)]
    rw [if_pos (by simpa [hl] using hil), Int.toNat_natCast, hc]
    first | done | rfl | (congr 3 <;> omega)
  case hd => intro q l hl; simp
  rfl
theorem held_FileS (a : List File) (k : Int) (h1 : 1 ≤ k) (h2 : k + ((a.map cnt_File).sum : Nat) ≤ 4611686018427387904) (h : a.length ≤ 4611686018427387904) : laws_heldFileS (mkL mk_File cnt_File k a) k = some (k + ((a.map cnt_File).sum : Nat)) := by
  unfold laws_heldFileS
  rw [mkL_length, heldV_loop mk_File cnt_File a k (Ctl.go (k + ((a.map cnt_File).sum : Nat))) h1 h2 ?hb ?hd]
  case hb =>
    intro q i x hi hx h3 h4 hil
    have hc : ((cnt_File x : Nat) : Int) = 4 := rfl
    rw [hc] at h4
    have wi : IntKind.i64.wrap ((i : Int) + 1) = (i : Int) + 1 := wrap_ok (by omega) (by omega)
    have w0 : IntKind.i64.wrap (q + 1) = q + 1 := wrap_ok (by omega) (by omega)
    have w1 : IntKind.i64.wrap (q + 1 + 1) = q + 1 + 1 := wrap_ok (by omega) (by omega)
    have w2 : IntKind.i64.wrap (q + 1 + 1 + 1) = q + 1 + 1 + 1 := wrap_ok (by omega) (by omega)
    have w3 : IntKind.i64.wrap (q + 1 + 1 + 1 + 1) = q + 1 + 1 + 1 + 1 := wrap_ok (by omega) (by omega)
    simp only [hi, Option.bind_some, wi, w0, w1, w2, w3, mk_File, markText_eq (q + 1 + 1) (by omega), markText_eq (q + 1 + 1 + 1) (by omega)]
    rw [if_pos (by simpa using hil), hc]
    simp
    try omega
  case hd => simp
  rfl
theorem sz_IntS (a : List Int) (left : Int) (h1 : 0 ≤ left) (h2 : left ≤ 1048576) (h : okl a) : laws_szIntS a left = some (szV left a.length) := by
  unfold laws_szIntS
  exact sz_len h1 h2 h.1
theorem to_IntS (a : List Int) (h : a.length ≤ 1048576) : laws_toIntS a = some a := by
  have := fun z => to_loop a z (fun x => some x) (fun _ _ => rfl) (by omega)
  simp only [Option.bind_some] at this
  unfold laws_toIntS
  rw [mkLen_ok (by omega) (by omega)]
  simp only [Option.bind_some]
  rw [this]
  rfl
theorem eq_IntS (a b : List Int) (h : a.length ≤ 4611686018427387904) : laws_eqIntS a b = some (decide (a = b)) := by
  have := eqS_of a b (fun x y => some (decide (x = y))) (fun _ _ _ _ => rfl) h
  simp only [Option.bind_some] at this
  exact this
theorem mark_IntS (a : List Int) (k : Int) (h1 : 1 ≤ k) (h2 : k + ((a.map (fun _ => 1)).sum : Nat) ≤ 4611686018427387904) (h : a.length ≤ 4611686018427387904) : laws_markIntS a k = some (k + ((a.map (fun _ => 1)).sum : Nat), mkL (fun q _ => q) (fun _ => 1) k a) := by
  unfold laws_markIntS
  rw [markV_loop (fun q _ => q) (fun _ => 1) a k h1 h2 h ?hb ?hd]
  case hb =>
    intro q i l x hi hx h3 h4 hl hil
    have hc : (((fun _ => 1) x : Nat) : Int) = 1 := rfl
    rw [hc] at h4
    have wi : IntKind.i64.wrap ((i : Int) + 1) = (i : Int) + 1 := wrap_ok (by omega) (by omega)
    have w0 : IntKind.i64.wrap (q + 1) = q + 1 := wrap_ok (by omega) (by omega)
    simp only [hi, Option.bind_some, wi, w0]
    rw [if_pos (by simpa [hl] using hil), Int.toNat_natCast, hc]
    first | done | rfl | (congr 3 <;> omega)
  case hd => intro q l hl; simp
  rfl
def wgt_Edit (x : Edit) : Nat := wS wgt_File x.Add + (x.Drop.length + 0)
theorem sz_Edit (x : Edit) (left : Int) (h1 : 0 ≤ left) (h2 : left ≤ 1048576) (h : Dec.ok x) : laws_szEdit x left = some (szV left (wgt_Edit x)) := by
  unfold laws_szEdit
  show _ = some (szV left (wS wgt_File x.Add + (x.Drop.length + 0)))
  rw [sz_FileS x.Add _ h1 h2 (h.1)]
  refine sz_call h1 fun hle0 => ?_
  have g1_0 : 0 ≤ left - ((wS wgt_File x.Add : Nat) : Int) := by omega
  have g2_0 : left - ((wS wgt_File x.Add : Nat) : Int) ≤ 1048576 := by omega
  rw [sz_IntS x.Drop _ g1_0 g2_0 (h.2)]
  refine sz_call g1_0 fun hle1 => ?_
  have g1_1 : 0 ≤ left - ((wS wgt_File x.Add : Nat) : Int) - ((x.Drop.length : Nat) : Int) := by omega
  have g2_1 : left - ((wS wgt_File x.Add : Nat) : Int) - ((x.Drop.length : Nat) : Int) ≤ 1048576 := by omega
  exact sz_end g1_1
def bnd_Edit (x : Edit) : Prop := x.Add.length ≤ 4611686018427387904 ∧ x.Drop.length ≤ 4611686018427387904
theorem to_Edit (x : Edit) (h : wgt_Edit x ≤ 1048576) : laws_toEdit x = some x := by
  unfold laws_toEdit
  have h0 : wS wgt_File x.Add + (x.Drop.length + 0) ≤ 1048576 := h
  simp only [to_FileS x.Add (wS_len (w := wgt_File) (l := x.Add) (by omega)), to_IntS x.Drop (by omega), Option.bind_some]
theorem bnd_of_Edit (x : Edit) (h : wgt_Edit x ≤ 1048576) : bnd_Edit x := by
  have h0 : wS wgt_File x.Add + (x.Drop.length + 0) ≤ 1048576 := h
  exact ⟨Nat.le_trans (wS_len (w := wgt_File) (n := 1048576) (by omega)) (by decide), (show x.Drop.length ≤ 4611686018427387904 by omega)⟩
theorem eq_Edit (a b : Edit) (h : bnd_Edit a) : laws_eqEdit a b = some (decide (a = b)) := by
  have he : (a = b) ↔ (a.Add = b.Add ∧ a.Drop = b.Drop ∧ True) := ⟨fun e => by subst e; simp, fun h => by cases a; cases b; simp_all⟩
  rw [decide_eq_decide.2 he]
  unfold laws_eqEdit
  rw [eq_FileS a.Add b.Add h.1]
  refine eq_call fun _ => ?_
  rw [eq_IntS a.Drop b.Drop h.2]
  refine eq_call fun _ => ?_
  exact eq_end
def cntS_Edit (x : Edit) : Nat := ((x.Add.map cnt_File).sum : Nat) + ((x.Drop.map (fun _ => 1)).sum : Nat)
theorem mark_Edit (x : Edit) (k : Int) (h1 : 1 ≤ k) (h2 : k + cntS_Edit x ≤ 4611686018427387904) (h : bnd_Edit x) : laws_markEdit x k = some (k + cntS_Edit x, mkL mk_File cnt_File (k) x.Add, mkL (fun q _ => q) (fun _ => 1) (k + (((x.Add.map cnt_File).sum : Nat) : Int)) x.Drop) := by
  have h3 : k + ((((x.Add.map cnt_File).sum : Nat) + ((x.Drop.map (fun _ => 1)).sum : Nat) : Nat) : Int) ≤ 4611686018427387904 := h2
  have e : k + ((cntS_Edit x : Nat) : Int) = k + (((x.Add.map cnt_File).sum : Nat) : Int) + (((x.Drop.map (fun _ => 1)).sum : Nat) : Int) := by unfold cntS_Edit; omega
  rw [e]
  unfold laws_markEdit
  simp only [mark_FileS x.Add (k) (by omega) (by omega) h.1, Option.bind_some]
  simp only [mark_IntS x.Drop (k + (((x.Add.map cnt_File).sum : Nat) : Int)) (by omega) (by omega) h.2, Option.bind_some]
/-- a list turned up to a place -/
def preM {α : Type} (f : α → α) (l : List α) (k : Nat) : List α := (l.take k).map f ++ l.drop k
theorem preM_length {α : Type} (f : α → α) (l : List α) (k : Nat) : (preM f l k).length = l.length := by unfold preM; simp; omega
theorem preM_get {α : Type} (f : α → α) (l : List α) (k : Nat) (h : k < l.length) : idx (preM f l k) (k : Int) = some l[k] := by
  rw [idx_nat _ k (by rw [preM_length]; exact h)]
  congr 1
  have hl : ((l.take k).map f).length = k := by rw [List.length_map, List.length_take]; omega
  unfold preM
  rw [List.getElem_append_right (by omega)]
  simp only [hl, Nat.sub_self]
  simp
theorem preM_set {α : Type} (f : α → α) (l : List α) (k : Nat) (h : k < l.length) : (preM f l k).set k (f l[k]) = preM f l (k + 1) := by
  have hl : ((l.take k).map f).length = k := by rw [List.length_map, List.length_take]; omega
  have htk : l.take (k + 1) = l.take k ++ [l[k]] := by rw [List.take_add_one, List.getElem?_eq_getElem h]; rfl
  unfold preM
  rw [List.set_append_right _ _ (by omega), hl, Nat.sub_self, htk, List.drop_eq_getElem_cons h, List.set_cons_zero, List.map_append, List.append_assoc]
  rfl
theorem preM_same {α : Type} (f : α → α) (l : List α) (k : Nat) (h : k < l.length) (hf : f l[k] = l[k]) : preM f l (k + 1) = preM f l k := by
  rw [← preM_set f l k h, hf]
  apply List.ext_getElem?
  intro j
  rw [List.getElem?_set]
  split
  · rename_i he
    subst he
    have := preM_get f l k h
    unfold idx at this
    rw [if_pos (by omega), Int.toNat_natCast] at this
    rw [if_pos (by rw [preM_length]; exact h), this]
  · rfl
theorem preM_all {α : Type} (f : α → α) (l : List α) : preM f l l.length = l.map f := by unfold preM; simp
/-- a tenant's blocks, wiped -/
def wipeV (who : Int) (l : List Int) : List Int := l.map fun x => if x = who then 0 else x
/-- the first n free blocks of the first k -/
def freeIx (l : List Int) (n : Int) : Nat → List Nat
  | 0 => []
  | k + 1 => if l[k]? = some 0 ∧ ((freeIx l n k).length : Int) < n then freeIx l n k ++ [k] else freeIx l n k
theorem freeIx_lt (l : List Int) (n : Int) : ∀ k, ∀ i ∈ freeIx l n k, i < k
  | 0, i, h => by simp [freeIx] at h
  | k + 1, i, h => by
    unfold freeIx at h
    split at h
    · rcases List.mem_append.1 h with h | h
      · have := freeIx_lt l n k i h; omega
      · have : i = k := by simpa using h
        omega
    · have := freeIx_lt l n k i h; omega
theorem freeIx_length (l : List Int) (n : Int) : ∀ k, (freeIx l n k).length ≤ k
  | 0 => by simp [freeIx]
  | k + 1 => by
    have := freeIx_length l n k
    unfold freeIx
    split
    · simp; omega
    · omega
theorem freeIx_sat (l : List Int) (n : Int) (k : Nat) (h : ¬ ((freeIx l n k).length : Int) < n) : ∀ d, freeIx l n (k + d) = freeIx l n k
  | 0 => rfl
  | d + 1 => by
    have := freeIx_sat l n k h d
    have e : freeIx l n (k + (d + 1)) = if l[k + d]? = some 0 ∧ ((freeIx l n (k + d)).length : Int) < n then freeIx l n (k + d) ++ [k + d] else freeIx l n (k + d) := rfl
    rw [e, this, if_neg (fun h2 => h h2.2)]
theorem freeIx_count (l : List Int) (n : Int) (hn : 1 ≤ n) : ∀ k, k ≤ l.length → (((freeIx l n k).length : Int) < n ↔ (((l.take k).countP fun x => decide (x = 0) : Nat) : Int) < n) ∧ ((((l.take k).countP fun x => decide (x = 0) : Nat) : Int) < n → (freeIx l n k).length = ((l.take k).countP fun x => decide (x = 0))) ∧
    ((((l.take k).countP fun x => decide (x = 0) : Nat) : Int) = n → ((freeIx l n k).length : Int) = n)
  | 0, _ => by simp [freeIx]
  | k + 1, hk => by
    obtain ⟨h1, h2, h3⟩ := freeIx_count l n hn k (by omega)
    have hk' : k < l.length := by omega
    have htk : l.take (k + 1) = l.take k ++ [l[k]] := by rw [List.take_add_one, List.getElem?_eq_getElem hk']; rfl
    unfold freeIx
    rw [htk, List.countP_append, List.getElem?_eq_getElem hk']
    by_cases hx : l[k] = 0
    · simp only [hx, true_and, List.countP_cons, List.countP_nil, decide_true, if_true, Nat.zero_add]
      by_cases hc : ((freeIx l n k).length : Int) < n
      · rw [if_pos hc]
        have := h2 (h1.1 hc)
        simp only [List.length_append, List.length_cons, List.length_nil]
        omega
      · rw [if_neg hc]
        have : ¬ (((l.take k).countP fun x => decide (x = 0) : Nat) : Int) < n := fun h => hc (h1.2 h)
        omega
    · simp only [List.countP_cons, List.countP_nil, hx, decide_false, Bool.false_eq_true, if_false, Nat.add_zero]
      rw [if_neg (by simp [hx])]
      exact ⟨h1, h2, h3⟩
/-- blocks given to somebody -/
def setAll (who : Int) (l : List Int) (g : List Nat) : List Int := g.foldl (fun s i => s.set i who) l
theorem setAll_length (who : Int) (g : List Nat) : ∀ l, (setAll who l g).length = l.length := by
  induction g with
  | nil => intro l; rfl
  | cons i g ih => intro l; show (setAll who (l.set i who) g).length = _; rw [ih, List.length_set]
theorem setAll_snoc (who : Int) (l : List Int) (g : List Nat) (i : Nat) : setAll who l (g ++ [i]) = (setAll who l g).set i who := by
  unfold setAll; rw [List.foldl_append]; rfl
theorem sLt_nil (a : List UInt8) : sLt a [] = false := by cases a <;> rfl
theorem sLt_compl : ∀ a b : List UInt8, (sLt b a || decide (b = a)) = !sLt a b
  | [], [] => rfl
  | [], b :: y => by simp [sLt, Op.bytesLess]
  | a :: x, [] => by simp [sLt, Op.bytesLess]
  | a :: x, b :: y => by
    have ih := sLt_compl x y
    simp only [sLt] at ih
    simp only [sLt, Op.bytesLess]
    by_cases h1 : a < b
    · have h2 : ¬ b < a := fun h => absurd (UInt8.lt_trans h1 h) (UInt8.lt_irrefl _)
      have h3 : ¬ b = a := fun h => by subst h; exact UInt8.lt_irrefl _ h1
      simp [h1, h2, h3]
    · by_cases h2 : b < a
      · have h3 : ¬ a = b := fun h => by subst h; exact UInt8.lt_irrefl _ h2
        simp [h1, h2, h3]
      · have h3 : a = b := by
          rw [UInt8.lt_iff_toNat_lt] at h1 h2
          apply UInt8.toNat_inj.1
          omega
        subst h3
        simp only [h1, decide_false, Bool.false_or, beq_self_eq_true, Bool.true_and, List.cons.injEq, true_and]
        exact ih
theorem isKey_eq (s : List UInt8) : impl_isKey s = some (decide (1 ≤ (s.length : Int) ∧ (s.length : Int) ≤ 10)) := by
  unfold impl_isKey; rw [inRange_eq]; rfl
theorem scan_up (p : Nat → Bool) (n : Nat) : ∀ d a, a + d = n → ∃ j, a ≤ j ∧ j ≤ n ∧ (∀ i, a ≤ i → i < j → p i = false) ∧ (j < n → p j = true)
  | 0, a, h => ⟨a, Nat.le_refl _, by omega, fun i h1 h2 => by omega, fun h => by omega⟩
  | d + 1, a, h => by
    cases hp : p a with
    | true => exact ⟨a, Nat.le_refl _, by omega, fun i h1 h2 => by omega, fun _ => hp⟩
    | false =>
      obtain ⟨j, h1, h2, h3, h4⟩ := scan_up p n d (a + 1) (by omega)
      refine ⟨j, by omega, h2, fun i h5 h6 => ?_, h4⟩
      by_cases e : i = a
      · rw [e]; exact hp
      · exact h3 i (by omega) h6
theorem down_stop (p : Nat → Bool) : ∀ n : Nat, ∃ j : Nat, j ≤ n ∧ (∀ i, j ≤ i → i < n → p i = false) ∧ (0 < j → p (j - 1) = true)
  | 0 => ⟨0, Nat.le_refl _, fun i h1 h2 => by omega, fun h => by omega⟩
  | n + 1 => by
    cases hp : p n with
    | true => exact ⟨n + 1, Nat.le_refl _, fun i h1 h2 => by omega, fun _ => by simpa using hp⟩
    | false =>
      obtain ⟨j, h1, h2, h3⟩ := down_stop p n
      refine ⟨j, by omega, fun i h4 h5 => ?_, h3⟩
      by_cases e : i = n
      · rw [e]; exact hp
      · exact h2 i h4 (by omega)
theorem all_loop {body : Int → Option (Ctl Int (Ctl Unit Bool))} (pass : Nat → Bool) (n : Nat) (h : ∀ k, k < n → body (k : Int) = some (if pass k = true then .go ((k : Int) + 1) else .done (.done false))) (hn : body (n : Int) = some (.done (.go ()))) :
    loopO body 0 = some (if (List.range n).all pass = true then .go () else .done false) := by
  have key : ∀ d k, k + d = n → loopO body (k : Int) = some (if ((List.range n).drop k).all pass = true then .go () else .done false) := by
    intro d
    induction d with
    | zero =>
      intro k hk
      obtain rfl : k = n := by omega
      rw [loopO_eq, hn, List.drop_of_length_le (by simp)]
      rfl
    | succ d ih =>
      intro k hk
      have hd : (List.range n).drop k = k :: (List.range n).drop (k + 1) := by rw [List.drop_eq_getElem_cons (by simp; omega)]; simp
      rw [loopO_eq, h k (by omega), hd, List.all_cons]
      cases hp : pass k with
      | true =>
        have := ih (k + 1) (by omega)
        rw [show ((k + 1 : Nat) : Int) = (k : Int) + 1 by omega] at this
        simpa using this
      | false => simp
  have := key n 0 (by omega)
  simpa using this
/-- a file as required -/
def fileV (f : File) : Bool := decide (1 ≤ f.No ∧ f.No ≤ 1000000) && (decide (0 ≤ f.Level ∧ f.Level ≤ 2) && (decide (1 ≤ (f.Lo.length : Int) ∧ (f.Lo.length : Int) ≤ 10) && (decide (1 ≤ (f.Hi.length : Int) ∧ (f.Hi.length : Int) ≤ 10) && (sLt f.Lo f.Hi || decide (f.Lo = f.Hi)))))
/-- one file ahead of another -/
def aheadV (a b : File) : Bool := if a.Level = b.Level then (if a.Level = 0 then decide (a.No > b.No) else sLt a.Lo b.Lo) else decide (a.Level < b.Level)
/-- two neighbours in one level that overlap -/
def overV (a b : File) : Bool := decide (b.Level > 0) && (decide (a.Level = b.Level) && (sLt b.Lo a.Hi || decide (b.Lo = a.Hi)))
/-- the file at a place, against those ahead of it -/
def passV (l : List File) (k : Nat) : Bool := match l[k]? with
  | some f => fileV f && ((match k with | 0 => true | j + 1 => match l[j]? with | some e => aheadV e f && !overV e f | none => true) && (l.take k).all fun g => decide (g.No ≠ f.No))
  | none => true
theorem passV_at (l : List File) (k : Nat) (h : k < l.length) : passV l k = (fileV l[k] && ((if h0 : 0 < k then aheadV (l[k - 1]'(by omega)) l[k] && !overV (l[k - 1]'(by omega)) l[k] else true) && (l.take k).all fun g => decide (g.No ≠ l[k].No))) := by
  unfold passV
  rw [List.getElem?_eq_getElem h]
  cases k with
  | zero => rfl
  | succ j =>
    simp only [Nat.zero_lt_succ, dif_pos, Nat.add_sub_cancel]
    rw [List.getElem?_eq_getElem (by omega)]
/-- files in order -/
def filesV (l : List File) : Bool := decide (l.length ≤ 12) && (List.range l.length).all (passV l)
theorem l16Ahead_eq (a b : File) : spec_l16Ahead a b = some (aheadV a b) := by
  unfold spec_l16Ahead aheadV
  by_cases h1 : a.Level = b.Level
  · rw [if_neg (by simpa using h1), if_pos h1]
    by_cases h2 : a.Level = 0
    · rw [if_pos (by simpa using h2), if_pos h2]
    · rw [if_neg (by simpa using h2), if_neg h2]
  · simp [h1]
theorem cmpI_eq (x y : Int) : cmp_Compare_26527 x y = some (if x < y then -1 else if x > y then 1 else 0) := by
  unfold cmp_Compare_26527 cmp_isNaN_26527
  by_cases h1 : x < y <;> by_cases h2 : x > y <;> simp [h1, h2]
theorem cmpS_eq (x y : List UInt8) : cmp_Compare_83645 x y = some (if sLt x y = true then -1 else if (!(sLt x y || decide (x = y))) = true then 1 else 0) := by
  unfold cmp_Compare_83645 cmp_isNaN_83645
  simp only [decide_true, Bool.not_true, Option.bind_some, Bool.false_eq_true, if_false]
  split
  · rfl
  · split <;> rfl
theorem compareFiles_eq (a b : File) : ∃ r, impl_compareFiles a b = some r ∧ (decide (r ≥ 0) = !aheadV a b) := by
  unfold impl_compareFiles aheadV
  by_cases h1 : a.Level = b.Level
  · by_cases h2 : a.Level = 0
    · rw [if_neg (by simpa using h1), if_pos (by simpa using h2), cmpI_eq]
      refine ⟨_, rfl, ?_⟩
      rw [if_pos h1, if_pos h2]
      by_cases c : b.No < a.No
      · simp [c]
      · by_cases c2 : a.No < b.No <;> simp [c, c2]
    · rw [if_neg (by simpa using h1), if_neg (by simpa using h2), cmpS_eq]
      refine ⟨_, rfl, ?_⟩
      rw [if_pos h1, if_neg h2]
      by_cases c : sLt a.Lo b.Lo = true
      · simp [c]
      · have c' : sLt a.Lo b.Lo = false := by simpa using c
        rw [if_neg c, c']
        by_cases c2 : a.Lo = b.Lo
        · rw [decide_eq_true c2]; rfl
        · rw [decide_eq_false c2]; rfl
  · rw [if_pos (by simpa using h1), cmpI_eq]
    refine ⟨_, rfl, ?_⟩
    rw [if_neg h1]
    by_cases c : a.Level < b.Level
    · simp [c]
    · by_cases c2 : a.Level > b.Level <;> simp [c, c2]
theorem fileOk_eq (f : File) : impl_fileOk f = some (fileV f) := by
  unfold impl_fileOk fileV
  simp only [inRange_eq, isKey_eq, Option.bind_some]
  by_cases h1 : 1 ≤ f.No ∧ f.No ≤ 1000000
  · by_cases h2 : 0 ≤ f.Level ∧ f.Level ≤ 2
    · by_cases h3 : 1 ≤ (f.Lo.length : Int) ∧ (f.Lo.length : Int) ≤ 10
      · by_cases h4 : 1 ≤ (f.Hi.length : Int) ∧ (f.Hi.length : Int) ≤ 10
        · simp only [h1, h2, h3, h4, and_self, decide_true, if_true, Option.bind_some, Bool.true_and]
        · simp only [h1, h2, h3, h4, and_self, decide_true, decide_false, if_true, Option.bind_some, Bool.true_and, Bool.false_and, Bool.false_eq_true, if_false]
      · simp only [h1, h2, h3, and_self, decide_true, decide_false, if_true, Option.bind_some, Bool.true_and, Bool.false_and, Bool.false_eq_true, if_false]
    · simp only [h1, h2, and_self, decide_true, decide_false, if_true, Option.bind_some, Bool.true_and, Bool.false_and, Bool.false_eq_true, if_false]
  · simp only [h1, decide_false, Option.bind_some, Bool.false_and, Bool.false_eq_true, if_false]
theorem fileAt_eq (l : List File) (no : Int) (k : Nat) (hl : l.length ≤ 1048576) (hk : k < l.length) (hn : l[k].No = no) : ∃ r, impl_fileAt l no = some r ∧ (decide (r = (k : Int)) = (l.take k).all fun g => decide (g.No ≠ no)) := by
  unfold impl_fileAt slices_IndexFunc_68810_at_impl_fileAt_1 impl_fileAt_1
  have key : ∃ c, loopO (ρ := Ctl Unit Int) (fun (S1 : Int) => if (decide (S1 < ((l.length : Nat) : Int))) = true then ((idx l S1).bind fun E6 => (some (decide (E6.No = no))).bind fun R8 => if R8 = true then (some (.done (.done S1))) else (some (.go (IntKind.i64.wrap (S1 + (1 : Int)))))) else (some (.done (.go ())))) (0 : Int) = some c ∧
      ∃ j : Nat, c = .done (j : Int) ∧ j ≤ k ∧ (∀ i (h : i < l.length), i < j → l[i].No ≠ no) ∧ (∀ h : j < l.length, l[j].No = no) := by
    refine loopO_total (fun i s => s = (i : Int) ∧ i ≤ k ∧ ∀ q (h : q < l.length), q < i → l[q].No ≠ no) (k + 1) _ ⟨rfl, by omega, fun q h h2 => by omega⟩ ?_ ?_
    · rintro i s hi ⟨rfl, h1, h2⟩
      have hil : i < l.length := by omega
      simp only [idx_nat l i hil, Option.bind_some]
      rw [if_pos (by simpa using hil), wrap_ok (by omega) (by omega)]
      by_cases c : l[i].No = no
      · right
        exact ⟨_, by simp [c], i, rfl, h1, h2, fun _ => c⟩
      · left
        have hik : i ≠ k := fun e => by subst e; exact c hn
        refine ⟨(i : Int) + 1, by simp [c], by omega, by omega, fun q h h3 => ?_⟩
        by_cases e : q = i
        · subst e; exact c
        · exact h2 q h (by omega)
    · rintro s ⟨rfl, h1, _⟩
      omega
  obtain ⟨c, hc, j, rfl, h1, h2, h3⟩ := key
  rw [hc]
  refine ⟨(j : Int), rfl, ?_⟩
  by_cases e : j = k
  · subst e
    rw [decide_eq_true (rfl : (j : Int) = (j : Int))]
    symm
    rw [List.all_eq_true]
    intro g hg
    obtain ⟨i, hi, rfl⟩ := List.getElem_of_mem hg
    have hi' : i < j := by simp at hi; omega
    simp only [List.getElem_take, decide_eq_true_eq]
    exact h2 i (by omega) hi'
  · rw [decide_eq_false (by omega : ¬ (j : Int) = (k : Int))]
    symm
    rw [← Bool.not_eq_true, List.all_eq_true]
    intro hall
    have hj : j < (l.take k).length := by simp; omega
    have := hall ((l.take k)[j]) (List.getElem_mem hj)
    simp only [List.getElem_take, decide_eq_true_eq] at this
    exact this (h3 (by omega))
theorem impl_FilesOk_eq (l : List File) (h : l.length ≤ 1048576) : impl_FilesOk l = some (filesV l) := by
  unfold impl_FilesOk filesV
  by_cases h12 : ((l.length : Nat) : Int) > 12
  · rw [if_pos (by simpa using h12), decide_eq_false (by omega : ¬ l.length ≤ 12)]
    rfl
  · rw [if_neg (by simpa using h12), decide_eq_true (by omega : l.length ≤ 12), Bool.true_and]
    rw [all_loop (passV l) l.length ?hp ?hq]
    · cases (List.range l.length).all (passV l) <;> rfl
    case hq => simp
    case hp =>
      intro k hk
      obtain ⟨r, hr, hr2⟩ := fileAt_eq l l[k].No k h hk rfl
      simp only [idx_nat l k hk, Option.bind_some, fileOk_eq, hr]
      rw [if_pos (by simpa using hk), wrap_ok (n := (k : Int) + 1) (by omega) (by omega), passV_at l k hk, hr2]
      cases hf : fileV l[k] with
      | false => simp
      | true =>
        cases ha : (l.take k).all fun g => decide (g.No ≠ l[k].No) with
        | false => simp
        | true =>
          by_cases h0 : 0 < k
          · have hw : IntKind.i64.wrap ((k : Int) - 1) = ((k - 1 : Nat) : Int) := by rw [wrap_ok (by omega) (by omega)]; omega
            rw [dif_pos h0]
            simp only [hw, idx_nat l (k - 1) (by omega), Option.bind_some]
            obtain ⟨c, hc, hc2⟩ := compareFiles_eq (l[k - 1]'(by omega)) l[k]
            rw [if_neg (by simp), if_neg (by simp), if_pos (by simp; omega), if_pos (by simp; omega), hc]
            simp only [Option.bind_some, hc2]
            unfold overV
            cases aheadV (l[k - 1]'(by omega)) l[k] with
            | false => simp
            | true =>
              by_cases c1 : l[k].Level > 0
              · by_cases c2 : (l[k - 1]'(by omega)).Level = l[k].Level
                · cases hs : (sLt l[k].Lo (l[k - 1]'(by omega)).Hi || decide (l[k].Lo = (l[k - 1]'(by omega)).Hi)) with
                  | true => simp [c1, c2, hs]
                  | false => simp [c1, c2, hs]
                · simp [c1, c2]
              · simp [c1]
          · have hk0 : k = 0 := by omega
            subst hk0
            simp
theorem l16Text_eq (s : List UInt8) : spec_l16Text s = some (decide (1 ≤ (s.length : Int) ∧ (s.length : Int) ≤ 10)) := by
  unfold spec_l16Text; rw [l1In_eq]; rfl
theorem nodup_loop (l : List File) (k : Nat) (hk : k < l.length) (h : l.length ≤ 1048576) : loopO (ρ := Ctl Unit (Ctl Int (Ctl Unit Bool))) (fun (S41 : Int) => if (decide (S41 < (k : Int))) = true then ((idx l S41).bind fun E46 =>
  if (decide (E46.No = l[k].No)) = true then (some (.done (.done (.done (.done false)))))
  else (some (.go (IntKind.i64.wrap (S41 + (1 : Int))))))
  else (some (.done (.go ())))) (0 : Int) = some (if (l.take k).all (fun g => decide (g.No ≠ l[k].No)) = true then .go () else .done (.done (.done false))) := by
  refine loopO_is (fun i s => s = (i : Int) ∧ ((l.take k).all (fun g => decide (g.No ≠ l[k].No)) = ((l.take k).drop i).all (fun g => decide (g.No ≠ l[k].No)))) k _ ⟨rfl, by rw [List.drop_zero]⟩ ?_ ?_
  · rintro i s hi ⟨rfl, he⟩
    have hil : i < l.length := by omega
    have hd : (l.take k).drop i = l[i] :: (l.take k).drop (i + 1) := by
      rw [List.drop_eq_getElem_cons (by simp; omega)]
      simp
    rw [he, hd, List.all_cons]
    simp only [idx_nat l i hil, Option.bind_some]
    rw [if_pos (by simpa using hi), wrap_ok (by omega) (by omega)]
    by_cases c : l[i].No = l[k].No
    · right
      simp [c]
    · left
      refine ⟨(i : Int) + 1, by simp [c], by omega, ?_⟩
      simp [c]
  · rintro s ⟨rfl, he⟩
    rw [he, List.drop_of_length_le (by simp; omega)]
    simp
theorem spec_FilesOk_eq (l : List File) (h : l.length ≤ 1048576) : spec_FilesOk l = some (filesV l) := by
  unfold spec_FilesOk filesV
  by_cases h12 : ((l.length : Nat) : Int) > 12
  · rw [if_pos (by simpa using h12), decide_eq_false (by omega : ¬ l.length ≤ 12)]
    rfl
  · rw [if_neg (by simpa using h12), decide_eq_true (by omega : l.length ≤ 12), Bool.true_and]
    rw [all_loop (passV l) l.length ?hp ?hq]
    · cases (List.range l.length).all (passV l) <;> rfl
    case hq => simp
    case hp =>
      intro k hk
      simp only [idx_nat l k hk, Option.bind_some, l16Text_eq, l1In_eq, l16Ahead_eq, nodup_loop l k hk h]
      rw [if_pos (by simpa using hk), wrap_ok (n := (k : Int) + 1) (by omega) (by omega), passV_at l k hk]
      have hf : ∀ (X : Bool → Option (Ctl Int (Ctl Unit Bool))), ((if (!decide (1 ≤ l[k].No ∧ l[k].No ≤ 1000000)) = true then some true else if (!decide (0 ≤ l[k].Level ∧ l[k].Level ≤ 2)) = true then some true
          else if (!decide (1 ≤ (l[k].Lo.length : Int) ∧ (l[k].Lo.length : Int) ≤ 10)) = true then some true else if (!decide (1 ≤ (l[k].Hi.length : Int) ∧ (l[k].Hi.length : Int) ≤ 10)) = true then some true else some (!(sLt l[k].Lo l[k].Hi || decide (l[k].Lo = l[k].Hi)))) : Option Bool).bind X = X (!fileV l[k]) := by
        intro X
        unfold fileV
        by_cases h1 : 1 ≤ l[k].No ∧ l[k].No ≤ 1000000 <;> by_cases h2 : 0 ≤ l[k].Level ∧ l[k].Level ≤ 2 <;> by_cases h3 : 1 ≤ (l[k].Lo.length : Int) ∧ (l[k].Lo.length : Int) ≤ 10 <;> by_cases h4 : 1 ≤ (l[k].Hi.length : Int) ∧ (l[k].Hi.length : Int) ≤ 10 <;>
          simp only [h1, h2, h3, h4, and_self, decide_true, decide_false, Bool.not_true, Bool.not_false, Bool.false_eq_true, if_true, if_false, Option.bind_some, Bool.true_and, Bool.false_and]
      rw [hf]
      cases fileV l[k] with
      | false => simp
      | true =>
        simp only [Bool.not_true, Bool.false_eq_true, if_false, Bool.true_and]
        by_cases h0 : 0 < k
        · have hw : IntKind.i64.wrap ((k : Int) - 1) = ((k - 1 : Nat) : Int) := by rw [wrap_ok (by omega) (by omega)]; omega
          rw [dif_pos h0, if_pos (by simp; omega)]
          simp only [hw, idx_nat l (k - 1) (by omega), Option.bind_some]
          unfold overV
          cases aheadV (l[k - 1]'(by omega)) l[k] with
          | false => simp
          | true =>
            cases (l.take k).all fun g => decide (g.No ≠ l[k].No) <;>
            by_cases c1 : l[k].Level > 0 <;> by_cases c2 : (l[k - 1]'(by omega)).Level = l[k].Level <;> cases hs : (sLt l[k].Lo (l[k - 1]'(by omega)).Hi || decide (l[k].Lo = (l[k - 1]'(by omega)).Hi)) <;> simp [c1, c2, hs]
        · have hk0 : k = 0 := by omega
          subst hk0
          simp
theorem szFile_eq (x : File) (left : Int) (h1 : 0 ≤ left) (h2 : left ≤ 1048576) (h3 : x.Lo.length ≤ 9223372036854775807) (h4 : x.Hi.length ≤ 9223372036854775807) : laws_szFile x left = some (szV left (x.Lo.length + x.Hi.length)) := by
  unfold laws_szFile szV
  rw [wrap_ok (n := left - (x.Lo.length : Int)) (by omega) (by omega)]
  by_cases h : left - (x.Lo.length : Int) < 0
  · rw [if_pos (by simpa using h), if_pos (by omega)]
  · rw [if_neg (by simpa using h), wrap_ok (n := left - (x.Lo.length : Int) - (x.Hi.length : Int)) (by omega) (by omega)]
    by_cases h5 : left - (x.Lo.length : Int) - (x.Hi.length : Int) < 0
    · rw [if_pos (by simpa using h5), if_pos (by omega)]
    · rw [if_neg (by simpa using h5), if_neg (by omega)]
      congr 1
      omega
theorem szFileS_eq (a : List File) (left : Int) (h1 : 0 ≤ left) (h2 : left ≤ 1048576) (h : okl a) : laws_szFileS a left = some (szV left (a.length + (a.map fun x => x.Lo.length + x.Hi.length).sum)) := by
  unfold laws_szFileS
  exact szS_of a laws_szFile (fun x => x.Lo.length + x.Hi.length) (fun x hx left h1 h2 => szFile_eq x left h1 h2 (h.2 x hx).2.2.1 (h.2 x hx).2.2.2) h.1 left h1 h2
theorem toFileS_eq (a : List File) (h : a.length ≤ 1048576) : laws_toFileS a = some a := by
  unfold laws_toFileS
  rw [mkLen_ok (by omega) (by omega)]
  simp only [Option.bind_some]
  rw [to_loop a _ laws_toFile (fun x _ => rfl) (by omega)]
  rfl
theorem eqFile_eq (a b : File) : laws_eqFile a b = some (decide (a = b)) := by
  obtain ⟨a1, a2, a3, a4⟩ := a; obtain ⟨b1, b2, b3, b4⟩ := b
  unfold laws_eqFile
  by_cases h1 : a1 = b1 <;> by_cases h2 : a2 = b2 <;> by_cases h3 : a3 = b3 <;> by_cases h4 : a4 = b4 <;> simp [h1, h2, h3, h4]
theorem eqFileS_eq (a b : List File) (h : a.length ≤ 1048576) : laws_eqFileS a b = some (decide (a = b)) :=
  eqS_of a b laws_eqFile (fun x y _ _ => eqFile_eq x y) (by omega)
theorem sLt_compl' (a b : List UInt8) : (!sLt a b) = (sLt b a || decide (b = a)) := (sLt_compl a b).symm
/-- the files that may hold a key -/
def atV (l : List File) (key : List UInt8) : List Int := (l.filter fun f => (sLt f.Lo key || decide (f.Lo = key)) && (sLt key f.Hi || decide (key = f.Hi))).map (·.No)
theorem no_take (p : File → Bool) (l : List File) (k : Nat) (h : k < l.length) : ((l.take (k + 1)).filter p).map (·.No) = ((l.take k).filter p).map (·.No) ++ if p l[k] = true then [l[k].No] else [] := by
  rw [show l.take (k + 1) = l.take k ++ [l[k]] by rw [List.take_add_one, List.getElem?_eq_getElem h]; rfl, List.filter_append, List.map_append]
  congr 1
  by_cases c : p l[k] = true
  · rw [if_pos c, List.filter_cons_of_pos c]; rfl
  · rw [if_neg c, List.filter_cons_of_neg c]; rfl
theorem markFileS_some (a : List File) (k : Int) (h : a.length ≤ 1048576) (h1 : 1 ≤ k) (h2 : k ≤ 1125899906842624) : laws_markFileS a k = some (k + 4 * a.length, a.mapIdx fun i _ => { No := k + 4 * i, Level := k + 4 * i + 1, Lo := markT (k + 4 * i + 1 + 1), Hi := markT (k + 4 * i + 1 + 1 + 1) : File }) := by
  unfold laws_markFileS
  rw [mark_loop (fun q (_ : File) => { No := q, Level := q + 1, Lo := markT (q + 1 + 1), Hi := markT (q + 1 + 1 + 1) : File }) 4 a k h1 (by omega) h ?hb ?hd]
  case hb =>
    intro q i l hi h3 h4 hl
    have w1 : IntKind.i64.wrap (q + 1) = q + 1 := wrap_ok (by omega) (by omega)
    have w2 : IntKind.i64.wrap (q + 1 + 1) = q + 1 + 1 := wrap_ok (by omega) (by omega)
    have w3 : IntKind.i64.wrap (q + 1 + 1 + 1) = q + 1 + 1 + 1 := wrap_ok (by omega) (by omega)
    have w4 : IntKind.i64.wrap (q + 1 + 1 + 1 + 1) = q + 1 + 1 + 1 + 1 := wrap_ok (by omega) (by omega)
    have w6 : IntKind.i64.wrap ((i : Int) + 1) = (i : Int) + 1 := wrap_ok (by omega) (by omega)
    simp only [idx_nat l i hi, Option.bind_some, w1, w2, w3, w4, w6, markText_eq (q + 1 + 1) (by omega), markText_eq (q + 1 + 1 + 1) (by omega)]
    rw [if_pos (by simpa using hi), Int.toNat_natCast]
    congr 3
    omega
  case hd => intro q l hl; simp
  rfl
theorem atV_length (l : List File) (key : List UInt8) : (atV l key).length ≤ l.length := by unfold atV; rw [List.length_map]; exact List.length_filter_le _ _
theorem fileV_of {l : List File} (hv : filesV l = true) (k : Nat) (hk : k < l.length) : fileV l[k] = true := by
  unfold filesV at hv
  rw [Bool.and_eq_true, List.all_eq_true] at hv
  have := hv.2 k (by simp; omega)
  rw [passV_at l k hk, Bool.and_eq_true] at this
  exact this.1
/-- the state of the first round over the files -/
def pickA (level : Int) (s : List UInt8 × List UInt8 × List Int) (f : File) : List UInt8 × List UInt8 × List Int :=
  if f.Level ≠ level ∨ (level = 1 ∧ s.2.2 ≠ []) then s
  else (if s.2.2 = [] ∨ sLt f.Lo s.1 = true then f.Lo else s.1, if sLt s.2.1 f.Hi = true then f.Hi else s.2.1, s.2.2 ++ [f.No])
/-- the state behind k files -/
def pickS (l : List File) (level : Int) (k : Nat) : List UInt8 × List UInt8 × List Int := (l.take k).foldl (pickA level) ([], [], [])
theorem pickS_succ (l : List File) (level : Int) (k : Nat) (h : k < l.length) : pickS l level (k + 1) = pickA level (pickS l level k) l[k] := by
  unfold pickS
  rw [show l.take (k + 1) = l.take k ++ [l[k]] by rw [List.take_add_one, List.getElem?_eq_getElem h]; rfl, List.foldl_append]
  rfl
/-- a file of the next level that meets the bounds -/
def pickM (lo hi : List UInt8) (level : Int) (f : File) : Bool := decide (f.Level = level + 1) && ((sLt f.Lo hi || decide (f.Lo = hi)) && !sLt f.Hi lo)
/-- the files picked -/
def pickV (l : List File) (level : Int) : List Int :=
  (pickS l level l.length).2.2 ++ if (pickS l level l.length).2.1 = [] then [] else (l.filter (pickM (pickS l level l.length).1 (pickS l level l.length).2.1 level)).map (·.No)
theorem sLt_nil_iff (b : List UInt8) : sLt [] b = !decide (b = []) := by cases b <;> rfl
theorem pickS_inv (l : List File) (level : Int) (hv : filesV l = true) : ∀ k, k ≤ l.length → ((pickS l level k).2.2 = [] ∧ (pickS l level k).1 = [] ∧ (pickS l level k).2.1 = [] ∨ (pickS l level k).2.2 ≠ [] ∧ (pickS l level k).2.1 ≠ []) ∧ (pickS l level k).2.2.length ≤ k := by
  intro k
  induction k with
  | zero => intro _; exact ⟨.inl ⟨rfl, rfl, rfl⟩, Nat.le_refl _⟩
  | succ k ih =>
    intro hk
    obtain ⟨i1, i2⟩ := ih (by omega)
    rw [pickS_succ l level k (by omega)]
    have hf := fileV_of hv k (by omega)
    generalize pickS l level k = s at i1 i2
    obtain ⟨lo, hi, out⟩ := s
    unfold pickA
    split
    · exact ⟨i1, Nat.le_succ_of_le i2⟩
    · refine ⟨.inr ⟨by simp, ?_⟩, by simpa using i2⟩
      simp only at i1 ⊢
      have hhi : l[k].Hi ≠ [] := fun e => by simp [fileV, e] at hf
      rcases i1 with ⟨_, _, e⟩ | ⟨_, e⟩
      · subst e
        rw [sLt_nil_iff, if_pos (by simpa using hhi)]
        exact hhi
      · split
        · exact hhi
        · exact e
theorem level_mono {l : List File} (hv : filesV l = true) : ∀ j (hj : j < l.length) i (hi : i ≤ j), (l[i]'(by omega)).Level ≤ l[j].Level := by
  intro j
  induction j with
  | zero => intro hj i hi; obtain rfl : i = 0 := by omega
            exact Int.le_refl _
  | succ j ih =>
    intro hj i hi
    by_cases e : i = j + 1
    · subst e; exact Int.le_refl _
    · refine Int.le_trans (ih (by omega) i (by omega)) ?_
      unfold filesV at hv
      rw [Bool.and_eq_true, List.all_eq_true] at hv
      have := hv.2 (j + 1) (by simp; omega)
      rw [passV_at l (j + 1) hj, dif_pos (by omega)] at this
      simp only [Bool.and_eq_true, Nat.add_sub_cancel] at this
      have ha := this.2.1.1
      unfold aheadV at ha
      split at ha
      · omega
      · simp at ha; omega
theorem pickS_stop {l : List File} {level : Int} (hv : filesV l = true) : ∀ d k, k + d = l.length → (∀ h : k < l.length, level < l[k].Level) → pickS l level k = pickS l level l.length := by
  intro d
  induction d with
  | zero => intro k hk _; obtain rfl : k = l.length := by omega
            rfl
  | succ d ih =>
    intro k hk h
    have h1 := h (by omega)
    rw [← ih (k + 1) (by omega) (fun h2 => Int.lt_of_lt_of_le h1 (level_mono hv (k + 1) h2 k (by omega))), pickS_succ l level k (by omega)]
    unfold pickA
    rw [if_pos (.inl (by omega))]
theorem filtered_le (p : File → Bool) (l : List File) (k : Nat) : (((l.take k).filter p).map (·.No)).length ≤ k := by
  rw [List.length_map]
  exact Nat.le_trans (List.length_filter_le _ _) (by simp; omega)
theorem pickA_skip {level : Int} {s : List UInt8 × List UInt8 × List Int} {f : File} (h : f.Level ≠ level ∨ (level = 1 ∧ s.2.2 ≠ [])) : pickA level s f = s := by
  unfold pickA; rw [if_pos h]
theorem pickA_take {level : Int} {s : List UInt8 × List UInt8 × List Int} {f : File} (h : ¬ (f.Level ≠ level ∨ (level = 1 ∧ s.2.2 ≠ []))) :
    pickA level s f = (if s.2.2 = [] ∨ sLt f.Lo s.1 = true then f.Lo else s.1, if sLt s.2.1 f.Hi = true then f.Hi else s.2.1, s.2.2 ++ [f.No]) := by
  unfold pickA; rw [if_neg h]
theorem len0 (out : List Int) : decide (((out.length : Nat) : Int) = 0) = decide (out = []) := by
  cases out with
  | nil => rfl
  | cons a l => simp; omega
theorem sMin_eq (a b : List UInt8) : sMin a b = if sLt b a = true then b else a := by
  unfold sMin
  rw [sLt_compl]
  cases sLt b a <;> simp
theorem sMax_eq (a b : List UInt8) : sMax a b = if sLt a b = true then b else a := by
  unfold sMax
  cases sLt a b <;> simp
theorem sLt_irr (a : List UInt8) : sLt a a = false := by
  have := sLt_compl a a
  simpa using this
theorem sLt_trans : ∀ {a b c : List UInt8}, sLt a b = true → sLt b c = true → sLt a c = true
  | [], [], _, h, _ => by simp [sLt, Op.bytesLess] at h
  | [], _ :: _, [], _, h => by simp [sLt, Op.bytesLess] at h
  | [], _ :: _, _ :: _, _, _ => rfl
  | _ :: _, [], _, h, _ => by simp [sLt, Op.bytesLess] at h
  | _ :: _, _ :: _, [], _, h => by simp [sLt, Op.bytesLess] at h
  | x :: a, y :: b, z :: c, h1, h2 => by
    simp only [sLt, Op.bytesLess, Bool.or_eq_true, decide_eq_true_eq, Bool.and_eq_true, beq_iff_eq] at h1 h2 ⊢
    rcases h1 with h1 | ⟨rfl, h1⟩
    · rcases h2 with h2 | ⟨rfl, _⟩
      · exact .inl (UInt8.lt_trans h1 h2)
      · exact .inl h1
    · rcases h2 with h2 | ⟨rfl, h2⟩
      · exact .inl h2
      · exact .inr ⟨rfl, sLt_trans h1 h2⟩
theorem sLt_irrefl (a : List UInt8) : sLt a a = false := by
  have := sLt_compl a a
  simpa using this
theorem all_loop' {body : Int → Option (Ctl Int (Ctl Unit Bool))} (pass : Nat → Bool) (n : Nat) (h : ∀ k, k < n → body (k : Int) = some (if pass k = true then .go ((k : Int) + 1) else .done (.done false))) (hn : body (n : Int) = some (.done (.go ()))) :
    bindC (loopO body 0) (fun (_ : Unit) => some true) = some ((List.range n).all pass) := by
  rw [all_loop pass n h hn]
  cases (List.range n).all pass <;> rfl
/-- snapshots in order -/
def snapP (seq : Int) (l : List Int) (k : Nat) : Bool := match l[k]? with
  | some s => decide (0 ≤ s ∧ s ≤ seq) && (match k with | 0 => true | j + 1 => match l[j]? with | some d => decide (d < s) | none => true)
  | none => true
theorem snapP_at (seq : Int) (l : List Int) (k : Nat) (h : k < l.length) : snapP seq l k = (decide (0 ≤ l[k] ∧ l[k] ≤ seq) && (if h0 : 0 < k then decide (l[k - 1]'(by omega) < l[k]) else true)) := by
  unfold snapP
  rw [List.getElem?_eq_getElem h]
  cases k with
  | zero => rfl
  | succ j =>
    simp only [Nat.zero_lt_succ, dif_pos, Nat.add_sub_cancel]
    rw [List.getElem?_eq_getElem (by omega)]
def snapsV (seq : Int) (l : List Int) : Bool := (List.range l.length).all (snapP seq l)
theorem snaps_at {seq : Int} {l : List Int} (hv : snapsV seq l = true) (k : Nat) (hk : k < l.length) : (0 ≤ l[k] ∧ l[k] ≤ seq) ∧ (0 < k → l[k - 1]'(by omega) < l[k]) := by
  unfold snapsV at hv
  rw [List.all_eq_true] at hv
  have := hv k (by simpa using hk)
  rw [snapP_at seq l k hk, Bool.and_eq_true] at this
  refine ⟨of_decide_eq_true this.1, fun h0 => ?_⟩
  have h2 := this.2
  rw [dif_pos h0] at h2
  exact of_decide_eq_true h2
theorem snaps_last {seq : Int} {l : List Int} (hv : snapsV seq l = true) (h0 : 0 < l.length) : (seq ∈ l) ↔ l[l.length - 1]'(by omega) = seq := by
  constructor
  · intro hm
    obtain ⟨i, hi, he⟩ := List.getElem_of_mem hm
    by_cases e : i = l.length - 1
    · subst e; exact he
    · have h1 := (snaps_at hv (i + 1) (by omega)).2 (by omega)
      have h2 := (snaps_at hv (i + 1) (by omega)).1
      simp only [Nat.add_sub_cancel] at h1
      omega
  · intro h
    rw [← h]
    exact List.getElem_mem _
theorem piece_nat {α : Type} (l : List α) (a b : Nat) (lo hi : Int) (h1 : lo = (a : Int)) (h2 : hi = (b : Int)) (h3 : a ≤ b) (h4 : b ≤ l.length) : piece l lo hi = some ((l.drop a).take (b - a)) := by
  subst h1 h2
  unfold piece
  rw [if_pos ⟨by omega, by omega, by omega⟩, Int.toNat_natCast, Int.toNat_natCast]
theorem filter_one {α : Type} (l : List α) (p : α → Bool) (j : Nat) (hj : j < l.length) (h1 : p l[j] = false) (h2 : ∀ i (h : i < l.length), i ≠ j → p l[i] = true) : l.filter p = l.take j ++ l.drop (j + 1) := by
  have hs : l = l.take j ++ l[j] :: l.drop (j + 1) := by rw [← List.drop_eq_getElem_cons hj, List.take_append_drop]
  have ha : (l.take j).filter p = l.take j := by
    rw [List.filter_eq_self]
    intro x hx
    obtain ⟨i, hi, rfl⟩ := List.getElem_of_mem hx
    have hi' : i < j := by simp at hi; omega
    simp only [List.getElem_take]
    exact h2 i (by omega) (by omega)
  have hb : (l.drop (j + 1)).filter p = l.drop (j + 1) := by
    rw [List.filter_eq_self]
    intro x hx
    obtain ⟨i, hi, rfl⟩ := List.getElem_of_mem hx
    have hi' : j + 1 + i < l.length := by simp at hi; omega
    simp only [List.getElem_drop]
    exact h2 (j + 1 + i) hi' (by omega)
  conv => lhs; rw [hs]
  rw [List.filter_append, List.filter_cons_of_neg (by simpa using h1), ha, hb]
theorem filter_take {α : Type} (p : α → Bool) (l : List α) (k : Nat) (h : k < l.length) : (l.take (k + 1)).filter p = (l.take k).filter p ++ if p l[k] = true then [l[k]] else [] := by
  rw [show l.take (k + 1) = l.take k ++ [l[k]] by rw [List.take_add_one, List.getElem?_eq_getElem h]; rfl, List.filter_append]
  congr 1
  by_cases c : p l[k] = true
  · rw [if_pos c, List.filter_cons_of_pos c]; rfl
  · rw [if_neg c, List.filter_cons_of_neg c]; rfl
theorem filter_len {α : Type} (p : α → Bool) (l : List α) (k : Nat) : ((l.take k).filter p).length ≤ k := Nat.le_trans (List.length_filter_le _ _) (by simp; omega)
theorem delFiles_eq (l : List File) (j : Nat) (hj : j < l.length) (h : l.length ≤ 1048576) : slices_Delete_68810 l (j : Int) (IntKind.i64.wrap ((j : Int) + 1)) = some (l.take j ++ l.drop (j + 1)) := by
  unfold slices_Delete_68810
  have hw : IntKind.i64.wrap ((j : Int) + 1) = ((j + 1 : Nat) : Int) := by rw [wrap_ok (by omega) (by omega)]; omega
  rw [hw, piece_nat l j (j + 1) _ _ rfl rfl (by omega) (by omega), piece_nat l 0 j 0 (j : Int) rfl rfl (by omega) (by omega), piece_nat l (j + 1) l.length _ _ rfl rfl (by omega) (by omega)]
  simp only [Option.bind_some]
  rw [if_neg (by simp; omega)]
  simp
  exact List.take_of_length_le (by simp)
theorem cloneFiles_eq (s : List File) (h : s.length ≤ 1048576) : slices_Clone_68810 s = some s := by
  unfold slices_Clone_68810
  rw [app_ok (by simp; omega) (by simp; omega)]
  rfl
theorem fileAt_cases (l : List File) (no : Int) (hl : l.length ≤ 1048576) : (∃ j, ∃ hj : j < l.length, impl_fileAt l no = some (j : Int) ∧ l[j].No = no) ∨ (impl_fileAt l no = some (-1) ∧ ∀ f ∈ l, ¬ f.No = no) := by
  unfold impl_fileAt slices_IndexFunc_68810_at_impl_fileAt_1 impl_fileAt_1
  have key : ∃ c, loopO (ρ := Ctl Unit Int) (fun (S1 : Int) => if (decide (S1 < ((l.length : Nat) : Int))) = true then ((idx l S1).bind fun E6 => (some (decide (E6.No = no))).bind fun R8 => if R8 = true then (some (.done (.done S1))) else (some (.go (IntKind.i64.wrap (S1 + (1 : Int)))))) else (some (.done (.go ())))) (0 : Int) = some c ∧
      ((∃ j, ∃ hj : j < l.length, c = .done (j : Int) ∧ l[j].No = no) ∨ (c = .go () ∧ ∀ f ∈ l, ¬ f.No = no)) := by
    refine loopO_total (fun i s => s = (i : Int) ∧ ∀ q (h : q < l.length), q < i → ¬ l[q].No = no) l.length _ ⟨rfl, fun q h h2 => by omega⟩ ?_ ?_
    · rintro i s hi ⟨rfl, h2⟩
      simp only [idx_nat l i hi, Option.bind_some]
      rw [if_pos (by simpa using hi), wrap_ok (by omega) (by omega)]
      by_cases c : l[i].No = no
      · right
        exact ⟨.done (i : Int), by simp [c], .inl ⟨i, hi, rfl, c⟩⟩
      · left
        refine ⟨(i : Int) + 1, by simp [c], by omega, fun q h h3 => ?_⟩
        by_cases e : q = i
        · subst e; exact c
        · exact h2 q h (by omega)
    · rintro s ⟨rfl, h2⟩
      refine ⟨.go (), by simp, .inr ⟨rfl, fun f hf => ?_⟩⟩
      obtain ⟨q, hq, rfl⟩ := List.getElem_of_mem hf
      exact h2 q hq hq
  obtain ⟨c, hc, h2⟩ := key
  rw [hc]
  rcases h2 with ⟨j, hj, rfl, h3⟩ | ⟨rfl, h3⟩
  · exact .inl ⟨j, hj, rfl, h3⟩
  · exact .inr ⟨rfl, h3⟩
theorem files_distinct {l : List File} (hv : filesV l = true) (i j : Nat) (hi : i < l.length) (hj : j < l.length) (h : i ≠ j) : ¬ l[i].No = l[j].No := by
  have key : ∀ (i j : Nat) (hj : j < l.length) (hij : i < j), ¬ (l[i]'(by omega)).No = l[j].No := by
    intro i j hj hij
    have hv' := hv
    unfold filesV at hv'
    rw [Bool.and_eq_true, List.all_eq_true] at hv'
    have := hv'.2 j (by simpa using hj)
    rw [passV_at l j hj] at this
    simp only [Bool.and_eq_true, List.all_eq_true] at this
    have hm : l[i]'(by omega) ∈ l.take j := by
      have : (l.take j)[i]'(by simp; omega) = l[i]'(by omega) := by simp
      rw [← this]; exact List.getElem_mem _
    exact of_decide_eq_true (this.2.2 _ hm)
  rcases Nat.lt_or_ge i j with h1 | h1
  · exact key i j hj h1
  · exact fun e => key j i hi (by omega) e.symm
/-- the files but one -/
def dropF (l : List File) (no : Int) : List File := l.filter fun f => !decide (f.No = no)
def filesDropR (l : List File) (no : Int) : List File × Bool := if filesV l = true then (dropF l no, decide ((dropF l no).length < l.length)) else ([], false)
theorem spec_FilesDrop_eq (l : List File) (no : Int) (h : l.length ≤ 1048576) : spec_FilesDrop l no = some (filesDropR l no) := by
  unfold spec_FilesDrop filesDropR
  rw [spec_FilesOk_eq l h]
  cases hv : filesV l with
  | false => rfl
  | true =>
    simp only [Option.bind_some, Bool.not_true, Bool.false_eq_true, if_false, if_true]
    rw [loopO_count (fun k => ((k : Int), (l.take k).filter fun f => !decide (f.No = no))) l.length (r := Ctl.go (dropF l no)) ?h0]
    case h0 => rfl
    · simp only [bindC_go]
      rw [show decide (((dropF l no).length : Int) < (l.length : Int)) = decide ((dropF l no).length < l.length) from decide_eq_decide.2 (by omega)]
    · intro k hk
      have hlen := filter_len (fun f : File => !decide (f.No = no)) l k
      simp only [idx_nat l k hk, Option.bind_some, filter_take _ l k hk]
      rw [if_pos (by simpa using hk), wrap_ok (n := (k : Int) + 1) (by omega) (by omega)]
      by_cases c : l[k].No = no
      · simp [c]
      · simp only [c, decide_false, Bool.not_false, if_true]
        rw [app_ok (by simp only [List.length_cons, List.length_nil]; omega) (by simp only [List.length_cons, List.length_nil]; omega)]
        rfl
    · simp [dropF]
theorem impl_FilesDrop_eq (l : List File) (no : Int) (h : l.length ≤ 1048576) : impl_FilesDrop l no = some (filesDropR l no) := by
  unfold impl_FilesDrop filesDropR
  rw [impl_FilesOk_eq l h]
  cases hv : filesV l with
  | false => rfl
  | true =>
    simp only [Option.bind_some, Bool.not_true, Bool.false_eq_true, if_false, if_true, cloneFiles_eq l h]
    rcases fileAt_cases l no h with ⟨j, hj, h1, h2⟩ | ⟨h1, h2⟩
    · rw [h1]
      simp only [Option.bind_some]
      rw [if_neg (by simp), delFiles_eq l j hj h]
      have hd : dropF l no = l.take j ++ l.drop (j + 1) := by
        unfold dropF
        refine filter_one l _ j hj (by simp [h2]) fun i hi hij => ?_
        have := files_distinct hv i j hi hj hij
        rw [h2] at this
        simp [this]
      rw [hd]
      have : (l.take j ++ l.drop (j + 1)).length < l.length := by simp; omega
      simp [this]
      try omega
    · rw [h1]
      have hd : dropF l no = l := by
        unfold dropF
        rw [List.filter_eq_self]
        intro f hf
        simp [h2 f hf]
      rw [hd]
      simp
theorem snaps_lt {seq : Int} {l : List Int} (hv : snapsV seq l = true) : ∀ (j : Nat) (hj : j < l.length) (i : Nat) (hi : i < j), l[i]'(by omega) < l[j] := by
  intro j
  induction j with
  | zero => intro _ i hi; omega
  | succ j ih =>
    intro hj i hi
    have h1 := (snaps_at hv (j + 1) hj).2 (by omega)
    simp only [Nat.add_sub_cancel] at h1
    by_cases e : i = j
    · subst e; exact h1
    · have := ih (by omega) i (by omega); omega
def dropS (l : List Int) (x : Int) : List Int := l.filter fun s => !decide (s = x)
theorem dropS_at {seq : Int} {l : List Int} (hv : snapsV seq l = true) (j : Nat) (hj : j < l.length) : dropS l l[j] = l.take j ++ l.drop (j + 1) := by
  unfold dropS
  refine filter_one l _ j hj (by simp) fun i hi hij => ?_
  have : ¬ l[i] = l[j] := by
    rcases Nat.lt_or_ge i j with h | h
    · have := snaps_lt hv j hj i h; omega
    · have := snaps_lt hv i hi j (by omega); omega
  simp [this]
theorem sLt_asymm {a b : List UInt8} (h : sLt a b = true) : sLt b a = false := by
  have := sLt_compl a b
  rw [h] at this
  simp only [Bool.not_true, Bool.or_eq_false_iff] at this
  exact this.1
theorem sLt_same {a b : List UInt8} (h1 : sLt a b = false) (h2 : sLt b a = false) : a = b := by
  have := sLt_compl a b
  rw [h1, h2] at this
  have h : decide (b = a) = true := by simpa using this
  exact (of_decide_eq_true h).symm
theorem ahead_asym {a b : File} (h : aheadV a b = true) : aheadV b a = false := by
  unfold aheadV at h ⊢
  by_cases h1 : a.Level = b.Level
  · rw [if_pos h1] at h
    rw [if_pos h1.symm]
    by_cases h2 : a.Level = 0
    · rw [if_pos h2] at h
      rw [if_pos (by omega)]
      have := of_decide_eq_true h
      exact decide_eq_false (by omega)
    · rw [if_neg h2] at h
      rw [if_neg (by omega)]
      exact sLt_asymm h
  · rw [if_neg h1] at h
    rw [if_neg (by omega)]
    have := of_decide_eq_true h
    exact decide_eq_false (by omega)
theorem ahead_same {a b c : File} (h1 : aheadV a b = false) (h2 : aheadV b a = false) (h3 : aheadV a c = true) : aheadV b c = true := by
  unfold aheadV at h1 h2 h3 ⊢
  by_cases hl : a.Level = b.Level
  · rw [if_pos hl] at h1
    rw [if_pos hl.symm] at h2
    by_cases h0 : a.Level = 0
    · rw [if_pos h0] at h1
      rw [if_pos (by omega)] at h2
      have e1 := of_decide_eq_false h1
      have e2 := of_decide_eq_false h2
      have e : a.No = b.No := by omega
      by_cases h4 : a.Level = c.Level
      · rw [if_pos h4, if_pos h0, e] at h3
        rw [if_pos (by omega), if_pos (by omega)]
        exact h3
      · rw [if_neg h4] at h3
        rw [if_neg (by omega), ← hl]
        exact h3
    · rw [if_neg h0] at h1
      rw [if_neg (by omega)] at h2
      have e := sLt_same h1 h2
      by_cases h4 : a.Level = c.Level
      · rw [if_pos h4, if_neg h0] at h3
        rw [if_pos (by omega), if_neg (by omega), ← e]
        exact h3
      · rw [if_neg h4] at h3
        rw [if_neg (by omega), ← hl]
        exact h3
  · rw [if_neg hl] at h1
    rw [if_neg (by omega)] at h2
    have e1 := of_decide_eq_false h1
    have e2 := of_decide_eq_false h2
    omega
theorem files_ahead {l : List File} (hv : filesV l = true) (k : Nat) (hk : k + 1 < l.length) : aheadV (l[k]'(by omega)) l[k + 1] = true := by
  unfold filesV at hv
  rw [Bool.and_eq_true, List.all_eq_true] at hv
  have := hv.2 (k + 1) (by simpa using hk)
  rw [passV_at l (k + 1) hk, dif_pos (by omega)] at this
  simp only [Bool.and_eq_true] at this
  exact this.2.1.1
theorem files_le {l : List File} (hv : filesV l = true) : l.length ≤ 12 := by
  unfold filesV at hv
  rw [Bool.and_eq_true] at hv
  exact of_decide_eq_true hv.1
def insF (l : List File) (f : File) (j : Nat) : List File := l.take j ++ (f :: l.drop j)
def addF (l : List File) (f : File) (j k : Nat) : Bool × Int × List File := bif Nat.ble k j then (false, (k : Int), l.take k) else (true, (k : Int), l.take j ++ (f :: (l.drop j).take (k - j)))
theorem addF_le (l : List File) (f : File) (j k : Nat) (h : k ≤ j) : addF l f j k = (false, (k : Int), l.take k) := by
  unfold addF
  rw [Nat.ble_eq_true_of_le h]
  rfl
theorem addF_gt (l : List File) (f : File) (j k : Nat) (h : j < k) : addF l f j k = (true, (k : Int), l.take j ++ (f :: (l.drop j).take (k - j))) := by
  unfold addF
  have : Nat.ble k j = false := by
    cases hb : Nat.ble k j
    · rfl
    · exact absurd (Nat.le_of_ble_eq_true hb) (by omega)
  rw [this]
  rfl
def filesAddR (l : List File) (f : File) (j : Nat) : List File × Bool := bif filesV (insF l f j) then (insF l f j, true) else (l, false)
theorem spec_FilesAdd_at (l : List File) (f : File) (j : Nat) (hv : filesV l = true) (hj : j ≤ l.length) (h1 : ∀ i (hi : i < l.length), i < j → aheadV f l[i] = false) (h2 : ∀ hi : j < l.length, aheadV f l[j] = true) :
    spec_FilesAdd l f = some (filesAddR l f j) := by
  have hl := files_le hv
  unfold spec_FilesAdd filesAddR
  rw [spec_FilesOk_eq l (by omega), hv]
  simp only [Option.bind_some, Bool.not_true, Bool.false_eq_true, if_false]
  have hrl : (insF l f j).length ≤ 1048576 := by unfold insF; simp; omega
  have hfin : spec_FilesOk (insF l f j) = some (filesV (insF l f j)) := spec_FilesOk_eq _ hrl
  have hcp : app 48 ([] : List File) l = some l := by rw [app_ok (by simp; omega) (by simp; omega)]; rfl
  rw [loopO_count (addF l f j) l.length (r := Ctl.go ((addF l f j l.length).1, (addF l f j l.length).2.2)) ?h0]
  case h0 => rw [addF_le _ _ _ _ (Nat.zero_le _)]; rfl
  · by_cases hjl : j = l.length
    · subst hjl
      rw [addF_le _ _ _ _ (Nat.le_refl _)]
      simp only [bindC_go, Bool.not_false, if_true]
      rw [app_ok (by simp; omega) (by simp; omega)]
      simp only [Option.bind_some, bindC_go]
      rw [show l.take l.length ++ [f] = insF l f l.length by unfold insF; simp, hfin]
      simp only [Option.bind_some, hcp]
      cases filesV (insF l f l.length) <;> rfl
    · rw [addF_gt _ _ _ _ (by omega)]
      simp only [bindC_go, Bool.not_true, Bool.false_eq_true, if_false]
      rw [show l.take j ++ (f :: (l.drop j).take (l.length - j)) = insF l f j by unfold insF; rw [List.take_of_length_le (l := l.drop j) (by simp)], hfin]
      simp only [Option.bind_some, hcp]
      cases filesV (insF l f j) <;> rfl
  · intro k hk
    have hw := wrap_ok (n := (k : Int) + 1) (by omega) (by omega)
    rcases Nat.lt_trichotomy k j with hkj | hkj | hkj
    · have ht : l.take (k + 1) = l.take k ++ [l[k]] := by rw [List.take_add_one, List.getElem?_eq_getElem hk]; rfl
      rw [addF_le _ _ _ _ (by omega), addF_le _ _ _ _ (by omega)]
      simp only [idx_nat l k hk, Option.bind_some, Bool.not_false, if_true, hw, l16Ahead_eq, h1 k hk hkj, Bool.false_eq_true, if_false, bindC_go]
      rw [if_pos (by simpa using hk), app_ok (by simp; omega) (by simp; omega), ht]
      rfl
    · subst hkj
      rw [addF_le _ _ _ _ (Nat.le_refl _), addF_gt _ _ _ _ (by omega)]
      simp only [idx_nat l k hk, Option.bind_some, Bool.not_false, if_true, hw, l16Ahead_eq, h2 hk]
      rw [if_pos (by simpa using hk), app_ok (by simp; omega) (by simp; omega)]
      simp only [Option.bind_some, bindC_go]
      rw [app_ok (by simp; omega) (by simp; omega)]
      have : (l.drop k).take (k + 1 - k) = [l[k]] := by
        rw [List.drop_eq_getElem_cons hk, show k + 1 - k = 1 by omega]; rfl
      rw [this]
      simp
    · rw [addF_gt _ _ _ _ (by omega), addF_gt _ _ _ _ (by omega)]
      simp only [idx_nat l k hk, Option.bind_some, Bool.not_true, Bool.false_eq_true, if_false, hw, bindC_go]
      rw [if_pos (by simpa using hk), app_ok (by simp; omega) (by simp; omega)]
      have hkd : k - j < (l.drop j).length := by simp; omega
      have ht : (l.drop j).take (k + 1 - j) = (l.drop j).take (k - j) ++ [l[k]] := by
        rw [show k + 1 - j = (k - j) + 1 by omega, List.take_add_one, List.getElem?_eq_getElem hkd, List.getElem_drop]
        congr 2
        simp only [Option.toList_some]
        congr 2
        omega
      rw [ht]
      simp
  · have hi : (addF l f j l.length).2.1 = (l.length : Int) := by unfold addF; cases Nat.ble l.length j <;> rfl
    rw [hi, if_neg (by simp)]
theorem insFiles_eq (l : List File) (x : File) (j : Nat) (hj : j ≤ l.length) (h : l.length ≤ 1048576) : slices_Insert_68810 l (j : Int) [x] = some (insF l x j) := by
  unfold slices_Insert_68810 ins insF
  rw [if_pos ⟨by omega, by omega, by simp; omega, by simp; omega⟩, Int.toNat_natCast]
  rfl
theorem impl_FilesAdd_at (l : List File) (f : File) (hv : filesV l = true) : ∃ j, j ≤ l.length ∧ impl_FilesAdd l f = some (filesAddR l f j) ∧ (∀ i (hi : i < l.length), i < j → aheadV l[i] f = true) ∧ (∀ hi : j < l.length, aheadV l[j] f = false) := by
  have hl := files_le hv
  have key : ∃ c, loopO (fun (S7 : Int) => (if (decide (S7 < ((l.length : Nat) : Int))) = true then ((idx l S7).bind fun E14 => (impl_compareFiles E14 f).bind fun R16 => some (decide (R16 < (0 : Int)))) else (some false)).bind (fun (T11 : Bool) => if T11 = true then (some (.go (IntKind.i64.wrap (S7 + (1 : Int))))) else (some (.done (.go S7))))) (0 : Int) = some c ∧
      (∃ j : Nat, c = Ctl.go (ρ := List File × Bool) (j : Int) ∧ j ≤ l.length ∧ (∀ i (hi : i < l.length), i < j → aheadV l[i] f = true) ∧ (∀ hi : j < l.length, aheadV l[j] f = false)) := by
    refine loopO_total (fun i s => s = (i : Int) ∧ ∀ q (h : q < l.length), q < i → aheadV l[q] f = true) l.length _ ⟨rfl, fun q h h2 => by omega⟩ ?_ ?_
    · rintro i s hi ⟨rfl, h2⟩
      obtain ⟨r, hr, hr2⟩ := compareFiles_eq l[i] f
      have hd : decide (r < 0) = aheadV l[i] f := by
        by_cases c : r < 0
        · rw [decide_eq_true c]
          rw [decide_eq_false (by omega)] at hr2
          cases ha : aheadV l[i] f
          · rw [ha] at hr2; cases hr2
          · rfl
        · rw [decide_eq_false c]
          rw [decide_eq_true (by omega)] at hr2
          cases ha : aheadV l[i] f
          · rfl
          · rw [ha] at hr2; cases hr2
      simp only [idx_nat l i hi, Option.bind_some, hr, hd]
      rw [if_pos (by simpa using hi), wrap_ok (by omega) (by omega)]
      cases c : aheadV l[i] f
      · right
        exact ⟨.go (i : Int), rfl, i, rfl, by omega, fun q h h3 => h2 q h h3, fun _ => c⟩
      · left
        refine ⟨(i : Int) + 1, rfl, by omega, fun q h h3 => ?_⟩
        by_cases e : q = i
        · subst e; exact c
        · exact h2 q h (by omega)
    · rintro s ⟨rfl, h2⟩
      refine ⟨.go ((l.length : Nat) : Int), by simp, l.length, rfl, Nat.le_refl _, fun q h h3 => h2 q h h3, fun h => absurd h (by omega)⟩
  obtain ⟨c, hc, j, rfl, hj, h1, h2⟩ := key
  refine ⟨j, hj, ?_, h1, h2⟩
  have hrl : (insF l f j).length ≤ 1048576 := by unfold insF; simp; omega
  unfold impl_FilesAdd filesAddR
  rw [impl_FilesOk_eq l (by omega), hv]
  simp only [Option.bind_some, Bool.not_true, Bool.false_eq_true, if_false]
  rw [hc]
  simp only [bindC_go, cloneFiles_eq l (by omega), Option.bind_some, insFiles_eq l f j hj (by omega), impl_FilesOk_eq _ hrl]
  cases filesV (insF l f j) <;> rfl
theorem insF_at (l : List File) (f : File) (j : Nat) (hj : j ≤ l.length) : ∃ h : j < (insF l f j).length, (insF l f j)[j] = f := by
  refine ⟨by unfold insF; simp; omega, ?_⟩
  simp only [insF]
  rw [List.getElem_append_right (by simp; omega)]
  simp [Nat.min_eq_left hj]
theorem insF_after (l : List File) (f : File) (j : Nat) (hj : j < l.length) : ∃ h : j + 1 < (insF l f j).length, (insF l f j)[j + 1] = l[j] := by
  refine ⟨by unfold insF; simp; omega, ?_⟩
  simp only [insF]
  rw [List.getElem_append_right (by simp; omega)]
  simp [Nat.min_eq_left (Nat.le_of_lt hj)]
theorem insF_ahead (l : List File) (f : File) (j : Nat) (hj : j < l.length) : ∃ h : j < (insF l f (j + 1)).length, (insF l f (j + 1))[j] = l[j] := by
  refine ⟨by unfold insF; simp; omega, ?_⟩
  simp only [insF]
  rw [List.getElem_append_left (by simp; omega)]
  simp
theorem FilesAdd_both (l : List File) (f : File) (h : l.length ≤ 1048576) : ∃ r, spec_FilesAdd l f = some r ∧ impl_FilesAdd l f = some r ∧ r.1.length ≤ 1048577 ∧ (r.2 = true → r.1.length ≤ 12) := by
  cases hv : filesV l with
  | false =>
    refine ⟨([], false), ?_, ?_, by simp, by simp⟩
    · unfold spec_FilesAdd
      rw [spec_FilesOk_eq l h, hv]
      rfl
    · unfold impl_FilesAdd
      rw [impl_FilesOk_eq l h, hv]
      rfl
  | true =>
    have hl := files_le hv
    have hlen : ∀ j, j ≤ l.length → (filesAddR l f j).1.length ≤ 1048577 ∧ ((filesAddR l f j).2 = true → (filesAddR l f j).1.length ≤ 12) := by
      intro j hj
      unfold filesAddR
      cases hc : filesV (insF l f j)
      · refine ⟨by simp; omega, by simp⟩
      · refine ⟨?_, fun _ => files_le hc⟩
        simp only [cond_true, insF]; simp; omega
    obtain ⟨j, hj, e, h1, h2⟩ := impl_FilesAdd_at l f hv
    have hlow : ∀ i (hi : i < l.length), i < j → aheadV f l[i] = false := fun i hi hij => ahead_asym (h1 i hi hij)
    by_cases hjl : j = l.length
    · refine ⟨_, spec_FilesAdd_at l f j hv hj hlow (fun hi => by omega), e, hlen j hj⟩
    · have hj' : j < l.length := by omega
      cases ha : aheadV f l[j] with
      | true => exact ⟨_, spec_FilesAdd_at l f j hv hj hlow (fun _ => ha), e, hlen j hj⟩
      | false =>
        have hs := spec_FilesAdd_at l f (j + 1) hv hj' (fun i hi hij => by
          by_cases e : i = j
          · subst e; exact ha
          · exact hlow i hi (by omega)) (fun hi => ahead_same (h2 hj') ha (files_ahead hv j hi))
        have f1 : filesV (insF l f j) = false := by
          cases hc : filesV (insF l f j) with
          | false => rfl
          | true =>
            obtain ⟨p1, q1⟩ := insF_at l f j hj
            obtain ⟨p2, q2⟩ := insF_after l f j hj'
            have := files_ahead hc j p2
            rw [q1, q2, ha] at this
            exact this.symm
        have f2 : filesV (insF l f (j + 1)) = false := by
          cases hc : filesV (insF l f (j + 1)) with
          | false => rfl
          | true =>
            obtain ⟨p1, q1⟩ := insF_at l f (j + 1) hj'
            obtain ⟨p2, q2⟩ := insF_ahead l f j hj'
            have := files_ahead hc j p1
            rw [q1, q2, h2 hj'] at this
            exact this.symm
        refine ⟨(l, false), ?_, ?_, by simp; omega, by simp⟩
        · rw [hs]; unfold filesAddR; rw [f2]; rfl
        · rw [e]; unfold filesAddR; rw [f1]; rfl
theorem any_loop {α : Type} {body : Int → Option (Ctl Int (Ctl Unit Bool))} (l : List α) (p : α → Bool) (h : ∀ k (hk : k < l.length), body (k : Int) = some (if p l[k] = true then .done (.done true) else .go ((k : Int) + 1))) (hn : body (l.length : Int) = some (.done (.go ()))) :
    bindC (loopO body 0) (fun (_ : Unit) => some false) = some (l.any p) := by
  rw [loopO_is (fun k s => s = (k : Int) ∧ l.any p = (l.drop k).any p) l.length (if l.any p = true then Ctl.done true else Ctl.go ()) ?h0 ?h1 ?h2]
  · cases l.any p <;> rfl
  case h0 => exact ⟨rfl, rfl⟩
  · rintro k s hk ⟨rfl, he⟩
    rw [h k hk, he, List.drop_eq_getElem_cons hk, List.any_cons]
    cases hp : p l[k] with
    | true => right; rfl
    | false =>
      left
      refine ⟨(k : Int) + 1, rfl, by omega, ?_⟩
      rw [Bool.false_or]
  · rintro s ⟨rfl, he⟩
    rw [he, List.drop_length, hn]
    rfl
/-- files changed step by step; the first step that fails ends it -/
def runF {β : Type} (gv : List File → β → List File × Bool) (fail : List File × Bool) : List β → List File → Ctl (List File) (List File × Bool)
  | [], l => .go l
  | x :: xs, l => bif (gv l x).2 then runF gv fail xs (gv l x).1 else .done fail
theorem runF_loop {β : Type} (g : List File → β → Option (List File × Bool)) (gv : List File → β → List File × Bool) (fail : List File × Bool) (xs : List β) (P : List File → Prop) (hg : ∀ l x, P l → g l x = some (gv l x)) (hP : ∀ l x, P l → (gv l x).2 = true → P (gv l x).1) (hlen : xs.length ≤ 1048576) (l0 : List File) (h0 : P l0) :
    loopO (fun (S : Int × List File) => if (decide (S.1 < ((xs.length : Nat) : Int))) = true then ((idx xs S.1).bind fun E => (g S.2 E).bind fun R =>
      if (!R.2) = true then (some (.done (.done fail))) else (some (.go (IntKind.i64.wrap (S.1 + (1 : Int)), R.1)))) else (some (.done (.go S.2)))) ((0 : Int), l0) = some (runF gv fail xs l0) := by
  rw [loopO_is (fun k s => s.1 = (k : Int) ∧ P s.2 ∧ runF gv fail xs l0 = runF gv fail (xs.drop k) s.2) xs.length (runF gv fail xs l0) ?h0 ?h1 ?h2]
  case h0 => exact ⟨rfl, h0, rfl⟩
  · rintro k ⟨i, s⟩ hk ⟨rfl, hp, he⟩
    simp only at hp he ⊢
    have hd : xs.drop k = xs[k] :: xs.drop (k + 1) := List.drop_eq_getElem_cons hk
    rw [hd] at he
    simp only [runF] at he
    simp only [idx_nat xs k hk, Option.bind_some, hg s xs[k] hp]
    rw [if_pos (by simpa using hk), wrap_ok (n := (k : Int) + 1) (by omega) (by omega)]
    cases c : (gv s xs[k]).2 with
    | false =>
      right
      rw [he, c]
      rfl
    | true =>
      left
      rw [c] at he
      exact ⟨((k : Int) + 1, (gv s xs[k]).1), rfl, by simp, hP _ _ hp c, he⟩
  · rintro ⟨i, s⟩ ⟨rfl, hp, he⟩
    rw [he, List.drop_length]
    simp [runF]
theorem runF_go {β : Type} (gv : List File → β → List File × Bool) (fail : List File × Bool) (P : List File → Prop) (hP : ∀ l x, P l → (gv l x).2 = true → P (gv l x).1) : ∀ (xs : List β) (l y : List File), P l → runF gv fail xs l = .go y → P y
  | [], l, y, h, e => by
    simp only [runF, Ctl.go.injEq] at e
    subst e; exact h
  | x :: xs, l, y, h, e => by
    simp only [runF] at e
    cases c : (gv l x).2 with
    | false => rw [c] at e; cases e
    | true => rw [c] at e; exact runF_go gv fail P hP xs _ y (hP l x h c) e
theorem runF_done {β : Type} (gv : List File → β → List File × Bool) (fail : List File × Bool) : ∀ (xs : List β) (l : List File) (r : List File × Bool), runF gv fail xs l = .done r → r = fail
  | [], l, r, e => by simp only [runF] at e; cases e
  | x :: xs, l, r, e => by
    simp only [runF] at e
    cases c : (gv l x).2 with
    | false => rw [c] at e; cases e; rfl
    | true => rw [c] at e; exact runF_done gv fail xs _ r e
noncomputable def addV (l : List File) (f : File) : List File × Bool := (spec_FilesAdd l f).getD ([], false)
theorem addV_spec (l : List File) (f : File) (h : l.length ≤ 1048576) : spec_FilesAdd l f = some (addV l f) := by
  obtain ⟨r, h1, _⟩ := FilesAdd_both l f h
  unfold addV
  rw [h1]
  rfl
theorem addV_impl (l : List File) (f : File) (h : l.length ≤ 1048576) : impl_FilesAdd l f = some (addV l f) := by
  obtain ⟨r, h1, h2, _⟩ := FilesAdd_both l f h
  unfold addV
  rw [h1, h2]
  rfl
theorem addV_ok (l : List File) (f : File) (h : l.length ≤ 12) (h2 : (addV l f).2 = true) : (addV l f).1.length ≤ 12 := by
  obtain ⟨r, h1, _, _, h3⟩ := FilesAdd_both l f (by omega)
  unfold addV at h2 ⊢
  rw [h1] at h2 ⊢
  exact h3 h2
theorem dropR_ok (l : List File) (no : Int) (h : l.length ≤ 12) (h2 : (filesDropR l no).2 = true) : (filesDropR l no).1.length ≤ 12 := by
  unfold filesDropR
  split
  · exact Nat.le_trans (List.length_filter_le _ _) h
  · simp
/-- the files behind an edit -/
noncomputable def editR (l : List File) (e : Edit) : List File × Bool := bif filesV l then (match runF filesDropR (l, false) e.Drop l with
  | .done r => r
  | .go x => match runF addV (l, false) e.Add x with
    | .done r => r
    | .go y => (y, true)) else ([], false)
theorem spec_EditFiles_eq (l : List File) (e : Edit) (h : l.length ≤ 1048576) (h1 : e.Drop.length ≤ 1048576) (h2 : e.Add.length ≤ 1048576) : spec_EditFiles l e = some (editR l e) := by
  unfold spec_EditFiles editR
  rw [spec_FilesOk_eq l h]
  cases hv : filesV l with
  | false => rfl
  | true =>
    have hl := files_le hv
    have happ : app 48 ([] : List File) l = some l := by rw [app_ok (by simp; omega) (by simp; omega)]; rfl
    simp only [Option.bind_some, Bool.not_true, Bool.false_eq_true, if_false, cond_true, happ]
    rw [runF_loop spec_FilesDrop filesDropR (l, false) e.Drop (fun x => x.length ≤ 12) (fun x no hx => spec_FilesDrop_eq x no (by omega)) (fun x no hx h2 => dropR_ok x no hx h2) h1 l hl]
    cases hr : runF filesDropR (l, false) e.Drop l with
    | done r => rfl
    | go x =>
      have hx := runF_go filesDropR (l, false) (fun x => x.length ≤ 12) (fun x no hx h2 => dropR_ok x no hx h2) e.Drop l x hl hr
      simp only [bindC_go]
      rw [runF_loop spec_FilesAdd addV (l, false) e.Add (fun x => x.length ≤ 12) (fun x f hx => addV_spec x f (by omega)) (fun x f hx h2 => addV_ok x f hx h2) h2 x hx]
      cases runF addV (l, false) e.Add x with
      | done r => rfl
      | go y => rfl
theorem impl_EditFiles_eq (l : List File) (e : Edit) (h : l.length ≤ 1048576) (h1 : e.Drop.length ≤ 1048576) (h2 : e.Add.length ≤ 1048576) : impl_EditFiles l e = some (editR l e) := by
  unfold impl_EditFiles editR
  rw [impl_FilesOk_eq l h]
  cases hv : filesV l with
  | false => rfl
  | true =>
    have hl := files_le hv
    simp only [Option.bind_some, Bool.not_true, Bool.false_eq_true, if_false, cond_true, cloneFiles_eq l h]
    rw [runF_loop impl_FilesDrop filesDropR (l, false) e.Drop (fun x => x.length ≤ 12) (fun x no hx => impl_FilesDrop_eq x no (by omega)) (fun x no hx h2 => dropR_ok x no hx h2) h1 l hl]
    cases hr : runF filesDropR (l, false) e.Drop l with
    | done r => rfl
    | go x =>
      have hx := runF_go filesDropR (l, false) (fun x => x.length ≤ 12) (fun x no hx h2 => dropR_ok x no hx h2) e.Drop l x hl hr
      simp only [bindC_go]
      rw [runF_loop impl_FilesAdd addV (l, false) e.Add (fun x => x.length ≤ 12) (fun x f hx => addV_impl x f (by omega)) (fun x f hx h2 => addV_ok x f hx h2) h2 x hx]
      cases runF addV (l, false) e.Add x with
      | done r => rfl
      | go y => rfl
theorem editR_len (l : List File) (e : Edit) (h : l.length ≤ 1048576) : (editR l e).1.length ≤ 1048576 := by
  unfold editR
  cases hv : filesV l with
  | false => simp
  | true =>
    have hl := files_le hv
    simp only [cond_true]
    cases hr : runF filesDropR (l, false) e.Drop l with
    | done r => rw [runF_done _ _ _ _ _ hr]; exact h
    | go x =>
      have hx := runF_go filesDropR (l, false) (fun x => x.length ≤ 12) (fun x no hx h2 => dropR_ok x no hx h2) e.Drop l x hl hr
      simp only
      cases hr2 : runF addV (l, false) e.Add x with
      | done r => rw [runF_done _ _ _ _ _ hr2]; exact h
      | go y =>
        have := runF_go addV (l, false) (fun x => x.length ≤ 12) (fun x f hx h2 => addV_ok x f hx h2) e.Add x y hx hr2
        simp only
        omega
theorem FnExactEditFiles_pure (a : List File) (e : Edit) (h : okl a) (he : Dec.ok e) : laws_FnExactEditFiles a e = some true := by
  unfold laws_FnExactEditFiles
  rw [sz_FileS a 1048576 (by omega) (by omega) h]
  simp only [Option.bind_some]
  by_cases hl : szV 1048576 (wS wgt_File a) < 0
  · rw [if_pos (by simpa using hl)]
  · have hn := szV_nonneg hl
    have hw : wS wgt_File a ≤ 1048576 := by omega
    have hl' := wS_len hw
    rw [if_neg (by simpa using hl), sz_Edit e _ (by omega) (szV_le (by omega) (by omega)).2 he]
    simp only [Option.bind_some]
    by_cases hl2 : szV (szV 1048576 (wS wgt_File a)) (wgt_Edit e) < 0
    · rw [if_pos (by simpa using hl2)]
    · have hn2 := szV_nonneg hl2
      have hb0 : szV 1048576 (wS wgt_File a) ≤ 1048576 := (szV_le (by omega) (by omega)).2
      have hw2 : wgt_Edit e ≤ 1048576 := by omega
      have hw3 : wS wgt_File e.Add + (e.Drop.length + 0) ≤ 1048576 := hw2
      have hd : e.Drop.length ≤ 1048576 := by omega
      have had : e.Add.length ≤ 1048576 := wS_len (w := wgt_File) (l := e.Add) (by omega)
      have hb := bnd_of_Edit e hw2
      rw [if_neg (by simpa using hl2), to_FileS a hl', to_Edit e hw2]
      simp only [Option.bind_some, spec_EditFiles_eq a e hl' hd had, impl_EditFiles_eq a e hl' hd had]
      have hrl := editR_len a e hl'
      generalize editR a e = r at hrl
      obtain ⟨x, b⟩ := r
      simp only at hrl
      have c1 : (a.map cnt_File).sum ≤ 4 * a.length := sum_le cnt_File 4 fun _ _ => Nat.le_refl _
      have c2 : (x.map cnt_File).sum ≤ 4 * x.length := sum_le cnt_File 4 fun _ _ => Nat.le_refl _
      have c3 : cntS_Edit e ≤ 5242880 := by
        have d1 : (e.Add.map cnt_File).sum ≤ 4 * e.Add.length := sum_le cnt_File 4 fun _ _ => Nat.le_refl _
        have d2 : (e.Drop.map (fun _ => 1)).sum ≤ 1 * e.Drop.length := sum_le (fun _ => 1) 1 fun _ _ => Nat.le_refl _
        unfold cntS_Edit
        omega
      simp only [eq_FileS x x (by omega), eq_FileS a a (by omega), eq_Edit e e hb, mark_FileS a 1 (by omega) (by omega) (by omega), mark_Edit e (1 + (((a.map cnt_File).sum : Nat) : Int)) (by omega) (by omega) hb, mark_FileS x 1 (by omega) (by omega) (by omega), held_FileS x 1 (by omega) (by omega) (by omega), Option.bind_some]
      generalize cntS_Edit e = m3 at c3
      generalize (a.map cnt_File).sum = m1 at c1
      generalize (x.map cnt_File).sum = m2 at c2
      have n1 : ¬ (1 + (m1 : Int) + (m3 : Int) < 0) := by omega
      have n2 : ¬ (1 + (m2 : Int) < 0) := by omega
      simp [n1, n2]
theorem FnExactEditFiles_proved : Rows.FnExactEditFilesSaid := FnExactEditFiles_over fun a e h he => FnExactEditFiles_pure a e h he

end Go.Proofs.Ytfanigbmjmiidaa
