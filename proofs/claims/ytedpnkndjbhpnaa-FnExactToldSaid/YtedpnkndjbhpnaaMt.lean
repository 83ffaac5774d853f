/-
  The plain laws: what the pure functions come to, and the statements. Conditions: none.
-/
import Derived.Test.YtedpnkndjbhpnaaPm
import Derived.Test.YtedpnkndjbhpnaaT6
set_option linter.unusedVariables false
set_option linter.unusedSimpArgs false
namespace Go.Proofs.Ytedpnkndjbhpnaa
open Go Sl

theorem inRange_eq (n a b : Int) : impl_inRange n a b = some (decide (a ≤ n ∧ n ≤ b)) := by
  unfold impl_inRange
  by_cases h : n ≥ a <;> simp [h]
theorem l1In_eq (n a b : Int) : spec_l1In n a b = some (decide (a ≤ n ∧ n ≤ b)) := by
  unfold spec_l1In
  by_cases h : n ≥ a <;> simp [h]
/-! ### SpaceOk -/
theorem all_range (l : List Int) (p : Int → Bool) (f : Int → Option Bool) (hf : ∀ x, f x = some (p x)) (hl : l.length ≤ 1048576) :
    loopO (ρ := Ctl Unit Bool) (fun (S6 : Int) => if (decide (S6 < ((l.length : Nat) : Int))) = true then ((idx l S6).bind fun E11 =>
  (f E11).bind fun R13 =>
  if (!R13) = true then (some (.done (.done false)))
  else (some (.go (IntKind.i64.wrap (S6 + (1 : Int))))))
  else (some (.done (.go ())))) (0 : Int) = some (if l.all p then .go () else .done false) := by
  rw [loopO_list l (fun k (_ : Unit) => (k : Int)) (fun _ x _ => if p x then some (Ctl.go ()) else some (Ctl.done (Ctl.done false))) (fun _ => some (Ctl.go ())) () ?h0 ?hs ?hf]
  case h0 => rfl
  case hs =>
    intro k hk _
    simp only [idx_nat l k hk, Option.bind_some, hf]
    rw [wrap_ok (by omega) (by omega)]
    by_cases he : p l[k] = true
    · simp [he, Ctl.mapGo, hk]
    · simp [he, Ctl.mapGo, hk]
  case hf => intro _; simp
  rw [runL_all p (Ctl.done false) _ _ (by intro k x _; rfl)]
  split <;> rfl
/-- giving blocks back, one by one -/
def giveV (who : Int) : List Int → List Int → Option (List Int)
  | [], s => some s
  | b :: bs, s => if 0 ≤ b ∧ b < s.length ∧ s[b.toNat]? = some who ∧ 1 ≤ who then giveV who bs (s.set b.toNat 0) else none
theorem giveV_cons (who b : Int) (bs s : List Int) : giveV who (b :: bs) s = if 0 ≤ b ∧ b < s.length ∧ s[b.toNat]? = some who ∧ 1 ≤ who then giveV who bs (s.set b.toNat 0) else none := rfl
theorem giveV_nil (who : Int) (s : List Int) : giveV who [] s = some s := rfl
theorem giveV_length (who : Int) : ∀ (bs s r : List Int), giveV who bs s = some r → r.length = s.length
  | [], s, r, h => by simp [giveV] at h; rw [h]
  | b :: bs, s, r, h => by
    unfold giveV at h
    split at h
    · rw [giveV_length who bs _ r h, List.length_set]
    · cases h
theorem idx_some' {α : Type} {l : List α} {i : Int} (h0 : 0 ≤ i) (h1 : i < l.length) : idx l i = some (l[i.toNat]'(by omega)) := by
  unfold idx; rw [if_pos h0, List.getElem?_eq_getElem]
/-- what a quota needs -/
def needV (q : Int) : Int := if 0 ≤ q ∧ q ≤ 1000 then 2 + 2 * ((q + 49) / 50) else 0
theorem needV_range (q : Int) : 0 ≤ needV q ∧ needV q ≤ 42 := by
  unfold needV; split <;> omega
theorem isTenant_eq (n : Int) : impl_isTenant n = some (decide (1 ≤ n ∧ n ≤ 99)) := by
  unfold impl_isTenant; rw [inRange_eq]; rfl
theorem markText_loop (m : Nat) : ∀ s : List UInt8, s.length + m ≤ 9223372036854775806 → ∃ r : List UInt8, loopO (ρ := Ctl (List UInt8) (List UInt8)) (fun (S2 : Int × List UInt8) => if (decide (S2.1 > (0 : Int))) = true then ((cat ([toU8 (IntKind.i64.wrap ((48 : Int) + (Int.tmod S2.1 (10 : Int))))]) S2.2).bind fun E8 =>
  some (.go (IntKind.i64.wrap (Int.tdiv S2.1 (10 : Int)), E8)))
  else (some (.done (.go S2.2)))) ((m : Int), s) = some (.go r) ∧ r.length ≤ s.length + m := by
  induction m using Nat.strongRecOn with
  | _ m ih =>
    intro s hs
    rw [loopO_eq]
    by_cases h0 : m = 0
    · subst h0
      exact ⟨s, by simp, by omega⟩
    · simp only
      rw [if_pos (by simp; omega), cat_ok (by simp; omega)]
      have hd : Int.tdiv (m : Int) 10 = ((m / 10 : Nat) : Int) := rfl
      rw [hd, wrap_ok (n := ((m / 10 : Nat) : Int)) (by omega) (by omega)]
      simp only [Option.bind_some]
      obtain ⟨r, hr, hl⟩ := ih (m / 10) (by omega) ([toU8 (IntKind.i64.wrap ((48 : Int) + (Int.tmod (m : Int) (10 : Int))))] ++ s) (by simp; omega)
      exact ⟨r, hr, by simp at hl; omega⟩
theorem markText_some (k : Int) (h : k ≤ 9223372036854775800) : ∃ t, laws_markText k = some t := by
  unfold laws_markText
  by_cases h0 : k ≤ 0
  · exact ⟨_, by rw [if_pos (by simpa using h0)]⟩
  · rw [if_neg (by simpa using h0)]
    obtain ⟨r, hr, hl⟩ := markText_loop k.toNat [] (by simp; omega)
    rw [show ((k.toNat : Nat) : Int) = k by omega] at hr
    refine ⟨[109] ++ r, ?_⟩
    rw [hr]
    simp only [bindC_go]
    rw [cat_ok (by simp at hl ⊢; omega)]
    rfl
noncomputable def markT (k : Int) : List UInt8 := (laws_markText k).getD []
theorem markText_eq (k : Int) (h : k ≤ 9223372036854775800) : laws_markText k = some (markT k) := by
  obtain ⟨t, ht⟩ := markText_some k h
  unfold markT; rw [ht]; rfl
def wgt_Op (x : Op) : Nat := x.Key.length + (x.Val.length + 0)
theorem sz_Op (x : Op) (left : Int) (h1 : 0 ≤ left) (h2 : left ≤ 1048576) (h : Dec.ok x) : laws_szOp x left = some (szV left (wgt_Op x)) := by
  unfold laws_szOp
  show _ = some (szV left (x.Key.length + (x.Val.length + 0)))
  refine sz_str h1 h2 (h.1) fun hle0 hw0 => ?_
  simp only [hw0]
  have g1_0 : 0 ≤ left - ((x.Key.length : Nat) : Int) := by omega
  have g2_0 : left - ((x.Key.length : Nat) : Int) ≤ 1048576 := by omega
  refine sz_str g1_0 g2_0 (h.2.2) fun hle1 hw1 => ?_
  simp only [hw1]
  have g1_1 : 0 ≤ left - ((x.Key.length : Nat) : Int) - ((x.Val.length : Nat) : Int) := by omega
  have g2_1 : left - ((x.Key.length : Nat) : Int) - ((x.Val.length : Nat) : Int) ≤ 1048576 := by omega
  exact sz_end g1_1
theorem to_Op (x : Op) : laws_toOp x = some x := rfl
theorem eq_Op (a b : Op) : laws_eqOp a b = some (decide (a = b)) := by
  have he : (a = b) ↔ (a.Key = b.Key ∧ a.Del = b.Del ∧ a.Val = b.Val ∧ True) := ⟨fun e => by subst e; simp, fun h => by cases a; cases b; simp_all⟩
  rw [decide_eq_decide.2 he]
  unfold laws_eqOp
  refine eq_step fun _ => ?_
  refine eq_step fun _ => ?_
  refine eq_step fun _ => ?_
  exact eq_end
theorem sz_OpS (a : List Op) (left : Int) (h1 : 0 ≤ left) (h2 : left ≤ 1048576) (h : okl a) : laws_szOpS a left = some (szV left (wS wgt_Op a)) := by
  unfold laws_szOpS
  exact szS_of a laws_szOp wgt_Op (fun x hx left h1 h2 => sz_Op x left h1 h2 (h.2 x hx)) h.1 left h1 h2
theorem to_OpS (a : List Op) (h : a.length ≤ 1048576) : laws_toOpS a = some a := by
  unfold laws_toOpS
  rw [mkLen_ok (by omega) (by omega)]
  simp only [Option.bind_some]
  rw [to_loop a _ laws_toOp (fun x _ => rfl) (by omega)]
  rfl
theorem eq_OpS (a b : List Op) (h : a.length ≤ 4611686018427387904) : laws_eqOpS a b = some (decide (a = b)) :=
  eqS_of a b laws_eqOp (fun x y _ _ => eq_Op x y) h
def cnt_Op (_ : Op) : Nat := 3
noncomputable def mk_Op (q : Int) (_ : Op) : Op := { Key := markT (q), Del := decide (Int.tmod (q + 1) 3 = 0), Val := markT (q + 1 + 1) : Op }
theorem mark_OpS (a : List Op) (k : Int) (h1 : 1 ≤ k) (h2 : k + ((a.map cnt_Op).sum : Nat) ≤ 4611686018427387904) (h : a.length ≤ 4611686018427387904) : laws_markOpS a k = some (k + ((a.map cnt_Op).sum : Nat), mkL mk_Op cnt_Op k a) := by
  unfold laws_markOpS
  rw [markV_loop mk_Op cnt_Op a k h1 h2 h ?hb ?hd]
  case hb =>
    intro q i l x hi hx h3 h4 hl hil
    have hc : ((cnt_Op x : Nat) : Int) = 3 := rfl
    rw [hc] at h4
    have wi : IntKind.i64.wrap ((i : Int) + 1) = (i : Int) + 1 := wrap_ok (by omega) (by omega)
    have w0 : IntKind.i64.wrap (q + 1) = q + 1 := wrap_ok (by omega) (by omega)
    have w1 : IntKind.i64.wrap (q + 1 + 1) = q + 1 + 1 := wrap_ok (by omega) (by omega)
    have w2 : IntKind.i64.wrap (q + 1 + 1 + 1) = q + 1 + 1 + 1 := wrap_ok (by omega) (by omega)
    simp only [hi, Option.bind_some, wi, w0, w1, w2, markText_eq (q) (by omega), markText_eq (q + 1 + 1) (by omega)]
    rw [if_pos (by simpa [hl] using hil), Int.toNat_natCast, hc]
    first | done | rfl | (congr 3 <;> omega)
  case hd => intro q l hl; simp
  rfl
def wgt_Call (x : Call) : Nat := x.Token.length + (x.Key.length + (x.To.length + (wS wgt_Op x.Ops + 0)))
theorem sz_Call (x : Call) (left : Int) (h1 : 0 ≤ left) (h2 : left ≤ 1048576) (h : Dec.ok x) : laws_szCall x left = some (szV left (wgt_Call x)) := by
  unfold laws_szCall
  show _ = some (szV left (x.Token.length + (x.Key.length + (x.To.length + (wS wgt_Op x.Ops + 0)))))
  refine sz_str h1 h2 (h.2.1) fun hle0 hw0 => ?_
  simp only [hw0]
  have g1_0 : 0 ≤ left - ((x.Token.length : Nat) : Int) := by omega
  have g2_0 : left - ((x.Token.length : Nat) : Int) ≤ 1048576 := by omega
  refine sz_str g1_0 g2_0 (h.2.2.2.2.1) fun hle1 hw1 => ?_
  simp only [hw1]
  have g1_1 : 0 ≤ left - ((x.Token.length : Nat) : Int) - ((x.Key.length : Nat) : Int) := by omega
  have g2_1 : left - ((x.Token.length : Nat) : Int) - ((x.Key.length : Nat) : Int) ≤ 1048576 := by omega
  refine sz_str g1_1 g2_1 (h.2.2.2.2.2.1) fun hle2 hw2 => ?_
  simp only [hw2]
  have g1_2 : 0 ≤ left - ((x.Token.length : Nat) : Int) - ((x.Key.length : Nat) : Int) - ((x.To.length : Nat) : Int) := by omega
  have g2_2 : left - ((x.Token.length : Nat) : Int) - ((x.Key.length : Nat) : Int) - ((x.To.length : Nat) : Int) ≤ 1048576 := by omega
  rw [sz_OpS x.Ops _ g1_2 g2_2 (h.2.2.2.2.2.2)]
  refine sz_call g1_2 fun hle3 => ?_
  have g1_3 : 0 ≤ left - ((x.Token.length : Nat) : Int) - ((x.Key.length : Nat) : Int) - ((x.To.length : Nat) : Int) - ((wS wgt_Op x.Ops : Nat) : Int) := by omega
  have g2_3 : left - ((x.Token.length : Nat) : Int) - ((x.Key.length : Nat) : Int) - ((x.To.length : Nat) : Int) - ((wS wgt_Op x.Ops : Nat) : Int) ≤ 1048576 := by omega
  exact sz_end g1_3
def bnd_Call (x : Call) : Prop := x.Ops.length ≤ 4611686018427387904
theorem to_Call (x : Call) (h : wgt_Call x ≤ 1048576) : laws_toCall x = some x := by
  unfold laws_toCall
  have h0 : x.Token.length + (x.Key.length + (x.To.length + (wS wgt_Op x.Ops + 0))) ≤ 1048576 := h
  simp only [to_OpS x.Ops (wS_len (w := wgt_Op) (l := x.Ops) (by omega)), Option.bind_some]
theorem bnd_of_Call (x : Call) (h : wgt_Call x ≤ 1048576) : bnd_Call x := by
  have h0 : x.Token.length + (x.Key.length + (x.To.length + (wS wgt_Op x.Ops + 0))) ≤ 1048576 := h
  exact Nat.le_trans (wS_len (w := wgt_Op) (n := 1048576) (by omega)) (by decide)
theorem eq_Call (a b : Call) (h : bnd_Call a) : laws_eqCall a b = some (decide (a = b)) := by
  have he : (a = b) ↔ (a.Kind = b.Kind ∧ a.Token = b.Token ∧ a.Tenant = b.Tenant ∧ a.N = b.N ∧ a.Key = b.Key ∧ a.To = b.To ∧ a.Ops = b.Ops ∧ True) := ⟨fun e => by subst e; simp, fun h => by cases a; cases b; simp_all⟩
  rw [decide_eq_decide.2 he]
  unfold laws_eqCall
  refine eq_step fun _ => ?_
  refine eq_step fun _ => ?_
  refine eq_step fun _ => ?_
  refine eq_step fun _ => ?_
  refine eq_step fun _ => ?_
  refine eq_step fun _ => ?_
  rw [eq_OpS a.Ops b.Ops h]
  refine eq_call fun _ => ?_
  exact eq_end
def wgt_KV (x : KV) : Nat := x.Key.length + (x.Val.length + 0)
theorem sz_KV (x : KV) (left : Int) (h1 : 0 ≤ left) (h2 : left ≤ 1048576) (h : Dec.ok x) : laws_szKV x left = some (szV left (wgt_KV x)) := by
  unfold laws_szKV
  show _ = some (szV left (x.Key.length + (x.Val.length + 0)))
  refine sz_str h1 h2 (h.1) fun hle0 hw0 => ?_
  simp only [hw0]
  have g1_0 : 0 ≤ left - ((x.Key.length : Nat) : Int) := by omega
  have g2_0 : left - ((x.Key.length : Nat) : Int) ≤ 1048576 := by omega
  refine sz_str g1_0 g2_0 (h.2) fun hle1 hw1 => ?_
  simp only [hw1]
  have g1_1 : 0 ≤ left - ((x.Key.length : Nat) : Int) - ((x.Val.length : Nat) : Int) := by omega
  have g2_1 : left - ((x.Key.length : Nat) : Int) - ((x.Val.length : Nat) : Int) ≤ 1048576 := by omega
  exact sz_end g1_1
theorem to_KV (x : KV) : laws_toKV x = some x := rfl
theorem eq_KV (a b : KV) : laws_eqKV a b = some (decide (a = b)) := by
  have he : (a = b) ↔ (a.Key = b.Key ∧ a.Val = b.Val ∧ True) := ⟨fun e => by subst e; simp, fun h => by cases a; cases b; simp_all⟩
  rw [decide_eq_decide.2 he]
  unfold laws_eqKV
  refine eq_step fun _ => ?_
  refine eq_step fun _ => ?_
  exact eq_end
theorem sz_KVS (a : List KV) (left : Int) (h1 : 0 ≤ left) (h2 : left ≤ 1048576) (h : okl a) : laws_szKVS a left = some (szV left (wS wgt_KV a)) := by
  unfold laws_szKVS
  exact szS_of a laws_szKV wgt_KV (fun x hx left h1 h2 => sz_KV x left h1 h2 (h.2 x hx)) h.1 left h1 h2
theorem to_KVS (a : List KV) (h : a.length ≤ 1048576) : laws_toKVS a = some a := by
  unfold laws_toKVS
  rw [mkLen_ok (by omega) (by omega)]
  simp only [Option.bind_some]
  rw [to_loop a _ laws_toKV (fun x _ => rfl) (by omega)]
  rfl
theorem eq_KVS (a b : List KV) (h : a.length ≤ 4611686018427387904) : laws_eqKVS a b = some (decide (a = b)) :=
  eqS_of a b laws_eqKV (fun x y _ _ => eq_KV x y) h
def cnt_KV (_ : KV) : Nat := 2
noncomputable def mk_KV (q : Int) (_ : KV) : KV := { Key := markT (q), Val := markT (q + 1) : KV }
theorem mark_KVS (a : List KV) (k : Int) (h1 : 1 ≤ k) (h2 : k + ((a.map cnt_KV).sum : Nat) ≤ 4611686018427387904) (h : a.length ≤ 4611686018427387904) : laws_markKVS a k = some (k + ((a.map cnt_KV).sum : Nat), mkL mk_KV cnt_KV k a) := by
  unfold laws_markKVS
  rw [markV_loop mk_KV cnt_KV a k h1 h2 h ?hb ?hd]
  case hb =>
    intro q i l x hi hx h3 h4 hl hil
    have hc : ((cnt_KV x : Nat) : Int) = 2 := rfl
    rw [hc] at h4
    have wi : IntKind.i64.wrap ((i : Int) + 1) = (i : Int) + 1 := wrap_ok (by omega) (by omega)
    have w0 : IntKind.i64.wrap (q + 1) = q + 1 := wrap_ok (by omega) (by omega)
    have w1 : IntKind.i64.wrap (q + 1 + 1) = q + 1 + 1 := wrap_ok (by omega) (by omega)
    simp only [hi, Option.bind_some, wi, w0, w1, markText_eq (q) (by omega), markText_eq (q + 1) (by omega)]
    rw [if_pos (by simpa [hl] using hil), Int.toNat_natCast, hc]
    first | done | rfl | (congr 3 <;> omega)
  case hd => intro q l hl; simp
  rfl
theorem held_KVS (a : List KV) (k : Int) (h1 : 1 ≤ k) (h2 : k + ((a.map cnt_KV).sum : Nat) ≤ 4611686018427387904) (h : a.length ≤ 4611686018427387904) : laws_heldKVS (mkL mk_KV cnt_KV k a) k = some (k + ((a.map cnt_KV).sum : Nat)) := by
  unfold laws_heldKVS
  rw [mkL_length, heldV_loop mk_KV cnt_KV a k (Ctl.go (k + ((a.map cnt_KV).sum : Nat))) h1 h2 ?hb ?hd]
  case hb =>
    intro q i x hi hx h3 h4 hil
    have hc : ((cnt_KV x : Nat) : Int) = 2 := rfl
    rw [hc] at h4
    have wi : IntKind.i64.wrap ((i : Int) + 1) = (i : Int) + 1 := wrap_ok (by omega) (by omega)
    have w0 : IntKind.i64.wrap (q + 1) = q + 1 := wrap_ok (by omega) (by omega)
    have w1 : IntKind.i64.wrap (q + 1 + 1) = q + 1 + 1 := wrap_ok (by omega) (by omega)
    simp only [hi, Option.bind_some, wi, w0, w1, mk_KV, markText_eq (q) (by omega), markText_eq (q + 1) (by omega)]
    rw [if_pos (by simpa using hil), hc]
    simp
    try omega
  case hd => simp
  rfl
def wgt_Reply (x : Reply) : Nat := x.Text.length + (wS wgt_KV x.List + 0)
theorem sz_Reply (x : Reply) (left : Int) (h1 : 0 ≤ left) (h2 : left ≤ 1048576) (h : Dec.ok x) : laws_szReply x left = some (szV left (wgt_Reply x)) := by
  unfold laws_szReply
  show _ = some (szV left (x.Text.length + (wS wgt_KV x.List + 0)))
  refine sz_str h1 h2 (h.2.2.1) fun hle0 hw0 => ?_
  simp only [hw0]
  have g1_0 : 0 ≤ left - ((x.Text.length : Nat) : Int) := by omega
  have g2_0 : left - ((x.Text.length : Nat) : Int) ≤ 1048576 := by omega
  rw [sz_KVS x.List _ g1_0 g2_0 (h.2.2.2)]
  refine sz_call g1_0 fun hle1 => ?_
  have g1_1 : 0 ≤ left - ((x.Text.length : Nat) : Int) - ((wS wgt_KV x.List : Nat) : Int) := by omega
  have g2_1 : left - ((x.Text.length : Nat) : Int) - ((wS wgt_KV x.List : Nat) : Int) ≤ 1048576 := by omega
  exact sz_end g1_1
def bnd_Reply (x : Reply) : Prop := x.List.length ≤ 4611686018427387904
theorem to_Reply (x : Reply) (h : wgt_Reply x ≤ 1048576) : laws_toReply x = some x := by
  unfold laws_toReply
  have h0 : x.Text.length + (wS wgt_KV x.List + 0) ≤ 1048576 := h
  simp only [to_KVS x.List (wS_len (w := wgt_KV) (l := x.List) (by omega)), Option.bind_some]
theorem bnd_of_Reply (x : Reply) (h : wgt_Reply x ≤ 1048576) : bnd_Reply x := by
  have h0 : x.Text.length + (wS wgt_KV x.List + 0) ≤ 1048576 := h
  exact Nat.le_trans (wS_len (w := wgt_KV) (n := 1048576) (by omega)) (by decide)
theorem eq_Reply (a b : Reply) (h : bnd_Reply a) : laws_eqReply a b = some (decide (a = b)) := by
  have he : (a = b) ↔ (a.Code = b.Code ∧ a.N = b.N ∧ a.Text = b.Text ∧ a.List = b.List ∧ True) := ⟨fun e => by subst e; simp, fun h => by cases a; cases b; simp_all⟩
  rw [decide_eq_decide.2 he]
  unfold laws_eqReply
  refine eq_step fun _ => ?_
  refine eq_step fun _ => ?_
  refine eq_step fun _ => ?_
  rw [eq_KVS a.List b.List h]
  refine eq_call fun _ => ?_
  exact eq_end
def wgt_Reader (x : Reader) : Nat := x.text.length + 0
theorem sz_CallS (a : List Call) (left : Int) (h1 : 0 ≤ left) (h2 : left ≤ 1048576) (h : okl a) : laws_szCallS a left = some (szV left (wS wgt_Call a)) := by
  unfold laws_szCallS
  exact szS_of a laws_szCall wgt_Call (fun x hx left h1 h2 => sz_Call x left h1 h2 (h.2 x hx)) h.1 left h1 h2
theorem to_CallS (a : List Call) (h : wS wgt_Call a ≤ 1048576) : laws_toCallS a = some a := by
  have hl := wS_len h
  unfold laws_toCallS
  rw [mkLen_ok (by omega) (by omega)]
  simp only [Option.bind_some]
  rw [to_loop a _ laws_toCall (fun x hx => (to_Call x (wS_mem h hx))) (by omega)]
  rfl
theorem eq_CallS (a b : List Call) (h : a.length ≤ 4611686018427387904 ∧ ∀ y ∈ a, bnd_Call y) : laws_eqCallS a b = some (decide (a = b)) :=
  eqS_of a b laws_eqCall (fun x y hx _ => eq_Call x y (h.2 x hx)) h.1
def cnt_Call (x : Call) : Nat := 6 + (x.Ops.map cnt_Op).sum
noncomputable def mk_Call (q : Int) (x : Call) : Call := { Kind := q, Token := markT (q + 1), Tenant := q + 1 + 1, N := q + 1 + 1 + 1, Key := markT (q + 1 + 1 + 1 + 1), To := markT (q + 1 + 1 + 1 + 1 + 1), Ops := mkL mk_Op cnt_Op (q + 1 + 1 + 1 + 1 + 1 + 1) x.Ops : Call }
theorem mark_CallS (a : List Call) (k : Int) (h1 : 1 ≤ k) (h2 : k + ((a.map cnt_Call).sum : Nat) ≤ 4611686018427387904) (h : a.length ≤ 4611686018427387904 ∧ ∀ y ∈ a, bnd_Call y) : laws_markCallS a k = some (k + ((a.map cnt_Call).sum : Nat), mkL mk_Call cnt_Call k a) := by
  unfold laws_markCallS
  rw [markV_loop mk_Call cnt_Call a k h1 h2 h.1 ?hb ?hd]
  case hb =>
    intro q i l x hi hx h3 h4 hl hil
    have h5 := h.1
    have hc : ((cnt_Call x : Nat) : Int) = 6 + (((x.Ops.map cnt_Op).sum : Nat) : Int) := by
      show (((6 + (x.Ops.map cnt_Op).sum : Nat)) : Int) = _
      omega
    rw [hc] at h4
    have wi : IntKind.i64.wrap ((i : Int) + 1) = (i : Int) + 1 := wrap_ok (by omega) (by omega)
    have w0 : IntKind.i64.wrap (q + 1) = q + 1 := wrap_ok (by omega) (by omega)
    have w1 : IntKind.i64.wrap (q + 1 + 1) = q + 1 + 1 := wrap_ok (by omega) (by omega)
    have w2 : IntKind.i64.wrap (q + 1 + 1 + 1) = q + 1 + 1 + 1 := wrap_ok (by omega) (by omega)
    have w3 : IntKind.i64.wrap (q + 1 + 1 + 1 + 1) = q + 1 + 1 + 1 + 1 := wrap_ok (by omega) (by omega)
    have w4 : IntKind.i64.wrap (q + 1 + 1 + 1 + 1 + 1) = q + 1 + 1 + 1 + 1 + 1 := wrap_ok (by omega) (by omega)
    have w5 : IntKind.i64.wrap (q + 1 + 1 + 1 + 1 + 1 + 1) = q + 1 + 1 + 1 + 1 + 1 + 1 := wrap_ok (by omega) (by omega)
    simp only [hi, Option.bind_some, wi, w0, w1, w2, w3, w4, w5, markText_eq (q + 1) (by omega), markText_eq (q + 1 + 1 + 1 + 1) (by omega), markText_eq (q + 1 + 1 + 1 + 1 + 1) (by omega), mark_OpS x.Ops (q + 1 + 1 + 1 + 1 + 1 + 1) (by omega) (by omega) ((h.2 x hx))]
    rw [if_pos (by simpa [hl] using hil), Int.toNat_natCast, hc]
    first | done | rfl | (congr 3 <;> omega)
  case hd => intro q l hl; simp
  rfl
theorem sz_ReplyS (a : List Reply) (left : Int) (h1 : 0 ≤ left) (h2 : left ≤ 1048576) (h : okl a) : laws_szReplyS a left = some (szV left (wS wgt_Reply a)) := by
  unfold laws_szReplyS
  exact szS_of a laws_szReply wgt_Reply (fun x hx left h1 h2 => sz_Reply x left h1 h2 (h.2 x hx)) h.1 left h1 h2
theorem to_ReplyS (a : List Reply) (h : wS wgt_Reply a ≤ 1048576) : laws_toReplyS a = some a := by
  have hl := wS_len h
  unfold laws_toReplyS
  rw [mkLen_ok (by omega) (by omega)]
  simp only [Option.bind_some]
  rw [to_loop a _ laws_toReply (fun x hx => (to_Reply x (wS_mem h hx))) (by omega)]
  rfl
theorem eq_ReplyS (a b : List Reply) (h : a.length ≤ 4611686018427387904 ∧ ∀ y ∈ a, bnd_Reply y) : laws_eqReplyS a b = some (decide (a = b)) :=
  eqS_of a b laws_eqReply (fun x y hx _ => eq_Reply x y (h.2 x hx)) h.1
def cnt_Reply (x : Reply) : Nat := 3 + (x.List.map cnt_KV).sum
noncomputable def mk_Reply (q : Int) (x : Reply) : Reply := { Code := q, N := q + 1, Text := markT (q + 1 + 1), List := mkL mk_KV cnt_KV (q + 1 + 1 + 1) x.List : Reply }
theorem mark_ReplyS (a : List Reply) (k : Int) (h1 : 1 ≤ k) (h2 : k + ((a.map cnt_Reply).sum : Nat) ≤ 4611686018427387904) (h : a.length ≤ 4611686018427387904 ∧ ∀ y ∈ a, bnd_Reply y) : laws_markReplyS a k = some (k + ((a.map cnt_Reply).sum : Nat), mkL mk_Reply cnt_Reply k a) := by
  unfold laws_markReplyS
  rw [markV_loop mk_Reply cnt_Reply a k h1 h2 h.1 ?hb ?hd]
  case hb =>
    intro q i l x hi hx h3 h4 hl hil
    have h5 := h.1
    have hc : ((cnt_Reply x : Nat) : Int) = 3 + (((x.List.map cnt_KV).sum : Nat) : Int) := by
      show (((3 + (x.List.map cnt_KV).sum : Nat)) : Int) = _
      omega
    rw [hc] at h4
    have wi : IntKind.i64.wrap ((i : Int) + 1) = (i : Int) + 1 := wrap_ok (by omega) (by omega)
    have w0 : IntKind.i64.wrap (q + 1) = q + 1 := wrap_ok (by omega) (by omega)
    have w1 : IntKind.i64.wrap (q + 1 + 1) = q + 1 + 1 := wrap_ok (by omega) (by omega)
    have w2 : IntKind.i64.wrap (q + 1 + 1 + 1) = q + 1 + 1 + 1 := wrap_ok (by omega) (by omega)
    simp only [hi, Option.bind_some, wi, w0, w1, w2, markText_eq (q + 1 + 1) (by omega), mark_KVS x.List (q + 1 + 1 + 1) (by omega) (by omega) ((h.2 x hx))]
    rw [if_pos (by simpa [hl] using hil), Int.toNat_natCast, hc]
    first | done | rfl | (congr 3 <;> omega)
  case hd => intro q l hl; simp
  rfl
theorem held_ReplyS (a : List Reply) (k : Int) (h1 : 1 ≤ k) (h2 : k + ((a.map cnt_Reply).sum : Nat) ≤ 4611686018427387904) (h : a.length ≤ 4611686018427387904 ∧ ∀ y ∈ a, bnd_Reply y) : laws_heldReplyS (mkL mk_Reply cnt_Reply k a) k = some (k + ((a.map cnt_Reply).sum : Nat)) := by
  unfold laws_heldReplyS
  rw [mkL_length, heldV_loop mk_Reply cnt_Reply a k (Ctl.go (k + ((a.map cnt_Reply).sum : Nat))) h1 h2 ?hb ?hd]
  case hb =>
    intro q i x hi hx h3 h4 hil
    have h5 := h.1
    have hc : ((cnt_Reply x : Nat) : Int) = 3 + (((x.List.map cnt_KV).sum : Nat) : Int) := by
      show (((3 + (x.List.map cnt_KV).sum : Nat)) : Int) = _
      omega
    rw [hc] at h4
    have wi : IntKind.i64.wrap ((i : Int) + 1) = (i : Int) + 1 := wrap_ok (by omega) (by omega)
    have w0 : IntKind.i64.wrap (q + 1) = q + 1 := wrap_ok (by omega) (by omega)
    have w1 : IntKind.i64.wrap (q + 1 + 1) = q + 1 + 1 := wrap_ok (by omega) (by omega)
    have w2 : IntKind.i64.wrap (q + 1 + 1 + 1) = q + 1 + 1 + 1 := wrap_ok (by omega) (by omega)
    simp only [hi, Option.bind_some, wi, w0, w1, w2, mk_Reply, markText_eq (q + 1 + 1) (by omega), held_KVS x.List (q + 1 + 1 + 1) (by omega) (by omega) ((h.2 x hx))]
    rw [if_pos (by simpa using hil), hc]
    simp only [decide_true, Bool.not_true, Bool.false_eq_true, if_false]
    rw [if_neg (by simp; omega)]
    try simp only [decide_true, Bool.not_true, Bool.false_eq_true, if_false]
    first | done | rfl | (congr 3 <;> omega)
  case hd => simp
  rfl

/-- a list turned up to a place -/
def preM {α : Type} (f : α → α) (l : List α) (k : Nat) : List α := (l.take k).map f ++ l.drop k
theorem preM_length {α : Type} (f : α → α) (l : List α) (k : Nat) : (preM f l k).length = l.length := by unfold preM; simp; omega
theorem preM_get {α : Type} (f : α → α) (l : List α) (k : Nat) (h : k < l.length) : idx (preM f l k) (k : Int) = some l[k] := by
  rw [idx_nat _ k (by rw [preM_length]; exact h)]
  congr 1
  have hl : ((l.take k).map f).length = k := by rw [List.length_map, List.length_take]; omega
  unfold preM
  rw [List.getElem_append_right (by omega)]
  simp only [hl, Nat.sub_self]
  simp
theorem preM_set {α : Type} (f : α → α) (l : List α) (k : Nat) (h : k < l.length) : (preM f l k).set k (f l[k]) = preM f l (k + 1) := by
  have hl : ((l.take k).map f).length = k := by rw [List.length_map, List.length_take]; omega
  have htk : l.take (k + 1) = l.take k ++ [l[k]] := by rw [List.take_add_one, List.getElem?_eq_getElem h]; rfl
  unfold preM
  rw [List.set_append_right _ _ (by omega), hl, Nat.sub_self, htk, List.drop_eq_getElem_cons h, List.set_cons_zero, List.map_append, List.append_assoc]
  rfl
theorem preM_same {α : Type} (f : α → α) (l : List α) (k : Nat) (h : k < l.length) (hf : f l[k] = l[k]) : preM f l (k + 1) = preM f l k := by
  rw [← preM_set f l k h, hf]
  apply List.ext_getElem?
  intro j
  rw [List.getElem?_set]
  split
  · rename_i he
    subst he
    have := preM_get f l k h
    unfold idx at this
    rw [if_pos (by omega), Int.toNat_natCast] at this
    rw [if_pos (by rw [preM_length]; exact h), this]
  · rfl
theorem preM_all {α : Type} (f : α → α) (l : List α) : preM f l l.length = l.map f := by unfold preM; simp
/-- a tenant's blocks, wiped -/
def wipeV (who : Int) (l : List Int) : List Int := l.map fun x => if x = who then 0 else x
/-- the first n free blocks of the first k -/
def freeIx (l : List Int) (n : Int) : Nat → List Nat
  | 0 => []
  | k + 1 => if l[k]? = some 0 ∧ ((freeIx l n k).length : Int) < n then freeIx l n k ++ [k] else freeIx l n k
theorem freeIx_lt (l : List Int) (n : Int) : ∀ k, ∀ i ∈ freeIx l n k, i < k
  | 0, i, h => by simp [freeIx] at h
  | k + 1, i, h => by
    unfold freeIx at h
    split at h
    · rcases List.mem_append.1 h with h | h
      · have := freeIx_lt l n k i h; omega
      · have : i = k := by simpa using h
        omega
    · have := freeIx_lt l n k i h; omega
theorem freeIx_length (l : List Int) (n : Int) : ∀ k, (freeIx l n k).length ≤ k
  | 0 => by simp [freeIx]
  | k + 1 => by
    have := freeIx_length l n k
    unfold freeIx
    split
    · simp; omega
    · omega
theorem freeIx_sat (l : List Int) (n : Int) (k : Nat) (h : ¬ ((freeIx l n k).length : Int) < n) : ∀ d, freeIx l n (k + d) = freeIx l n k
  | 0 => rfl
  | d + 1 => by
    have := freeIx_sat l n k h d
    have e : freeIx l n (k + (d + 1)) = if l[k + d]? = some 0 ∧ ((freeIx l n (k + d)).length : Int) < n then freeIx l n (k + d) ++ [k + d] else freeIx l n (k + d) := rfl
    rw [e, this, if_neg (fun h2 => h h2.2)]
theorem freeIx_count (l : List Int) (n : Int) (hn : 1 ≤ n) : ∀ k, k ≤ l.length → (((freeIx l n k).length : Int) < n ↔ (((l.take k).countP fun x => decide (x = 0) : Nat) : Int) < n) ∧ ((((l.take k).countP fun x => decide (x = 0) : Nat) : Int) < n → (freeIx l n k).length = ((l.take k).countP fun x => decide (x = 0))) ∧
    ((((l.take k).countP fun x => decide (x = 0) : Nat) : Int) = n → ((freeIx l n k).length : Int) = n)
  | 0, _ => by simp [freeIx]
  | k + 1, hk => by
    obtain ⟨h1, h2, h3⟩ := freeIx_count l n hn k (by omega)
    have hk' : k < l.length := by omega
    have htk : l.take (k + 1) = l.take k ++ [l[k]] := by rw [List.take_add_one, List.getElem?_eq_getElem hk']; rfl
    unfold freeIx
    rw [htk, List.countP_append, List.getElem?_eq_getElem hk']
    by_cases hx : l[k] = 0
    · simp only [hx, true_and, List.countP_cons, List.countP_nil, decide_true, if_true, Nat.zero_add]
      by_cases hc : ((freeIx l n k).length : Int) < n
      · rw [if_pos hc]
        have := h2 (h1.1 hc)
        simp only [List.length_append, List.length_cons, List.length_nil]
        omega
      · rw [if_neg hc]
        have : ¬ (((l.take k).countP fun x => decide (x = 0) : Nat) : Int) < n := fun h => hc (h1.2 h)
        omega
    · simp only [List.countP_cons, List.countP_nil, hx, decide_false, Bool.false_eq_true, if_false, Nat.add_zero]
      rw [if_neg (by simp [hx])]
      exact ⟨h1, h2, h3⟩
/-- blocks given to somebody -/
def setAll (who : Int) (l : List Int) (g : List Nat) : List Int := g.foldl (fun s i => s.set i who) l
theorem setAll_length (who : Int) (g : List Nat) : ∀ l, (setAll who l g).length = l.length := by
  induction g with
  | nil => intro l; rfl
  | cons i g ih => intro l; show (setAll who (l.set i who) g).length = _; rw [ih, List.length_set]
theorem setAll_snoc (who : Int) (l : List Int) (g : List Nat) (i : Nat) : setAll who l (g ++ [i]) = (setAll who l g).set i who := by
  unfold setAll; rw [List.foldl_append]; rfl
theorem sLt_nil (a : List UInt8) : sLt a [] = false := by cases a <;> rfl
theorem sLt_compl : ∀ a b : List UInt8, (sLt b a || decide (b = a)) = !sLt a b
  | [], [] => rfl
  | [], b :: y => by simp [sLt, Op.bytesLess]
  | a :: x, [] => by simp [sLt, Op.bytesLess]
  | a :: x, b :: y => by
    have ih := sLt_compl x y
    simp only [sLt] at ih
    simp only [sLt, Op.bytesLess]
    by_cases h1 : a < b
    · have h2 : ¬ b < a := fun h => absurd (UInt8.lt_trans h1 h) (UInt8.lt_irrefl _)
      have h3 : ¬ b = a := fun h => by subst h; exact UInt8.lt_irrefl _ h1
      simp [h1, h2, h3]
    · by_cases h2 : b < a
      · have h3 : ¬ a = b := fun h => by subst h; exact UInt8.lt_irrefl _ h2
        simp [h1, h2, h3]
      · have h3 : a = b := by
          rw [UInt8.lt_iff_toNat_lt] at h1 h2
          apply UInt8.toNat_inj.1
          omega
        subst h3
        simp only [h1, decide_false, Bool.false_or, beq_self_eq_true, Bool.true_and, List.cons.injEq, true_and]
        exact ih
theorem szKV_eq (x : KV) (left : Int) (h1 : 0 ≤ left) (h2 : left ≤ 1048576) (h3 : x.Key.length ≤ 9223372036854775807) (h4 : x.Val.length ≤ 9223372036854775807) : laws_szKV x left = some (szV left (x.Key.length + x.Val.length)) := by
  unfold laws_szKV szV
  rw [wrap_ok (n := left - (x.Key.length : Int)) (by omega) (by omega)]
  by_cases h : left - (x.Key.length : Int) < 0
  · rw [if_pos (by simpa using h), if_pos (by omega)]
  · rw [if_neg (by simpa using h), wrap_ok (n := left - (x.Key.length : Int) - (x.Val.length : Int)) (by omega) (by omega)]
    by_cases h5 : left - (x.Key.length : Int) - (x.Val.length : Int) < 0
    · rw [if_pos (by simpa using h5), if_pos (by omega)]
    · rw [if_neg (by simpa using h5), if_neg (by omega)]
      congr 1
      omega
theorem szKVS_eq (a : List KV) (left : Int) (h1 : 0 ≤ left) (h2 : left ≤ 1048576) (h : okl a) : laws_szKVS a left = some (szV left (a.length + (a.map fun x => x.Key.length + x.Val.length).sum)) := by
  unfold laws_szKVS
  exact szS_of a laws_szKV (fun x => x.Key.length + x.Val.length) (fun x hx left h1 h2 => szKV_eq x left h1 h2 (h.2 x hx).1 (h.2 x hx).2) h.1 left h1 h2
theorem toKVS_eq (a : List KV) (h : a.length ≤ 1048576) : laws_toKVS a = some a := by
  unfold laws_toKVS
  rw [mkLen_ok (by omega) (by omega)]
  simp only [Option.bind_some]
  rw [to_loop a _ laws_toKV (fun x _ => rfl) (by omega)]
  rfl
theorem eqKV_eq (a b : KV) : laws_eqKV a b = some (decide (a = b)) := by
  obtain ⟨a1, a2⟩ := a; obtain ⟨b1, b2⟩ := b
  unfold laws_eqKV
  by_cases h1 : a1 = b1 <;> by_cases h2 : a2 = b2 <;> simp [h1, h2]
theorem eqKVS_eq (a b : List KV) (h : a.length ≤ 1048576) : laws_eqKVS a b = some (decide (a = b)) :=
  eqS_of a b laws_eqKV (fun x y _ _ => eqKV_eq x y) (by omega)
/-- marks in a list of pairs -/
noncomputable def markKV (k : Int) (i : Nat) : KV := { Key := markT (k + 2 * i), Val := markT (k + 2 * i + 1) }
theorem markKVS_eq (a : List KV) (k : Int) (h : a.length ≤ 1048576) (h1 : 1 ≤ k) (h2 : k ≤ 1125899906842624) : laws_markKVS a k = some (k + 2 * a.length, a.mapIdx fun i _ => markKV k i) := by
  unfold laws_markKVS
  rw [mark_loop (fun q (_ : KV) => { Key := markT q, Val := markT (q + 1) : KV }) 2 a k h1 (by omega) h ?hb ?hd]
  case hb =>
    intro q i l hi h3 h4 hl
    have w1 : IntKind.i64.wrap (q + 1) = q + 1 := wrap_ok (by omega) (by omega)
    have w2 : IntKind.i64.wrap (q + 1 + 1) = q + 1 + 1 := wrap_ok (by omega) (by omega)
    have w6 : IntKind.i64.wrap ((i : Int) + 1) = (i : Int) + 1 := wrap_ok (by omega) (by omega)
    simp only [idx_nat l i hi, Option.bind_some, w1, w2, w6, markText_eq q (by omega), markText_eq (q + 1) (by omega)]
    rw [if_pos (by simpa using hi), Int.toNat_natCast]
    congr 3
    omega
  case hd => intro q l hl; simp
  rfl
theorem heldKVS_eq (a : List KV) (k : Int) (h : a.length ≤ 1048576) (h1 : 1 ≤ k) (h2 : k ≤ 1125899906842624) : laws_heldKVS (a.mapIdx fun i _ => markKV k i) k = some (k + 2 * a.length) := by
  unfold laws_heldKVS
  rw [held_loop (fun q x => x = { Key := markT q, Val := markT (q + 1) : KV }) 2 (a.mapIdx fun i _ => markKV k i) k (.go (k + 2 * a.length)) h1 (by simp; omega) ?hok ?hb ?hd]
  case hok => intro i hi; simp [markKV]
  case hb =>
    intro q i hi h3 h4 h5
    have w1 : IntKind.i64.wrap (q + 1) = q + 1 := wrap_ok (by omega) (by omega)
    have w2 : IntKind.i64.wrap (q + 1 + 1) = q + 1 + 1 := wrap_ok (by omega) (by omega)
    rw [List.length_mapIdx] at hi
    have w6 : IntKind.i64.wrap ((i : Int) + 1) = (i : Int) + 1 := wrap_ok (by omega) (by omega)
    simp only [idx_nat (List.mapIdx (fun (i : Nat) (_ : KV) => markKV k i) a) i (by rw [List.length_mapIdx]; exact hi), Option.bind_some, h5, w1, w2, w6, markText_eq q (by omega), markText_eq (q + 1) (by omega)]
    simp [hi]
    omega
  case hd => simp
  simp

theorem scan_up (p : Nat → Bool) (n : Nat) : ∀ d a, a + d = n → ∃ j, a ≤ j ∧ j ≤ n ∧ (∀ i, a ≤ i → i < j → p i = false) ∧ (j < n → p j = true)
  | 0, a, h => ⟨a, Nat.le_refl _, by omega, fun i h1 h2 => by omega, fun h => by omega⟩
  | d + 1, a, h => by
    cases hp : p a with
    | true => exact ⟨a, Nat.le_refl _, by omega, fun i h1 h2 => by omega, fun _ => hp⟩
    | false =>
      obtain ⟨j, h1, h2, h3, h4⟩ := scan_up p n d (a + 1) (by omega)
      refine ⟨j, by omega, h2, fun i h5 h6 => ?_, h4⟩
      by_cases e : i = a
      · rw [e]; exact hp
      · exact h3 i (by omega) h6
theorem down_stop (p : Nat → Bool) : ∀ n : Nat, ∃ j : Nat, j ≤ n ∧ (∀ i, j ≤ i → i < n → p i = false) ∧ (0 < j → p (j - 1) = true)
  | 0 => ⟨0, Nat.le_refl _, fun i h1 h2 => by omega, fun h => by omega⟩
  | n + 1 => by
    cases hp : p n with
    | true => exact ⟨n + 1, Nat.le_refl _, fun i h1 h2 => by omega, fun _ => by simpa using hp⟩
    | false =>
      obtain ⟨j, h1, h2, h3⟩ := down_stop p n
      refine ⟨j, by omega, fun i h4 h5 => ?_, h3⟩
      by_cases e : i = n
      · rw [e]; exact hp
      · exact h2 i h4 (by omega)
theorem all_loop {body : Int → Option (Ctl Int (Ctl Unit Bool))} (pass : Nat → Bool) (n : Nat) (h : ∀ k, k < n → body (k : Int) = some (if pass k = true then .go ((k : Int) + 1) else .done (.done false))) (hn : body (n : Int) = some (.done (.go ()))) :
    loopO body 0 = some (if (List.range n).all pass = true then .go () else .done false) := by
  have key : ∀ d k, k + d = n → loopO body (k : Int) = some (if ((List.range n).drop k).all pass = true then .go () else .done false) := by
    intro d
    induction d with
    | zero =>
      intro k hk
      obtain rfl : k = n := by omega
      rw [loopO_eq, hn, List.drop_of_length_le (by simp)]
      rfl
    | succ d ih =>
      intro k hk
      have hd : (List.range n).drop k = k :: (List.range n).drop (k + 1) := by rw [List.drop_eq_getElem_cons (by simp; omega)]; simp
      rw [loopO_eq, h k (by omega), hd, List.all_cons]
      cases hp : pass k with
      | true =>
        have := ih (k + 1) (by omega)
        rw [show ((k + 1 : Nat) : Int) = (k : Int) + 1 by omega] at this
        simpa using this
      | false => simp
  have := key n 0 (by omega)
  simpa using this
theorem sLt_compl' (a b : List UInt8) : (!sLt a b) = (sLt b a || decide (b = a)) := (sLt_compl a b).symm
theorem sLt_nil_iff (b : List UInt8) : sLt [] b = !decide (b = []) := by cases b <;> rfl
theorem len0 (out : List Int) : decide (((out.length : Nat) : Int) = 0) = decide (out = []) := by
  cases out with
  | nil => rfl
  | cons a l => simp; omega
theorem sMin_eq (a b : List UInt8) : sMin a b = if sLt b a = true then b else a := by
  unfold sMin
  rw [sLt_compl]
  cases sLt b a <;> simp
theorem sMax_eq (a b : List UInt8) : sMax a b = if sLt a b = true then b else a := by
  unfold sMax
  cases sLt a b <;> simp
theorem sLt_irr (a : List UInt8) : sLt a a = false := by
  have := sLt_compl a a
  simpa using this
theorem sLt_trans : ∀ {a b c : List UInt8}, sLt a b = true → sLt b c = true → sLt a c = true
  | [], [], _, h, _ => by simp [sLt, Op.bytesLess] at h
  | [], _ :: _, [], _, h => by simp [sLt, Op.bytesLess] at h
  | [], _ :: _, _ :: _, _, _ => rfl
  | _ :: _, [], _, h, _ => by simp [sLt, Op.bytesLess] at h
  | _ :: _, _ :: _, [], _, h => by simp [sLt, Op.bytesLess] at h
  | x :: a, y :: b, z :: c, h1, h2 => by
    simp only [sLt, Op.bytesLess, Bool.or_eq_true, decide_eq_true_eq, Bool.and_eq_true, beq_iff_eq] at h1 h2 ⊢
    rcases h1 with h1 | ⟨rfl, h1⟩
    · rcases h2 with h2 | ⟨rfl, _⟩
      · exact .inl (UInt8.lt_trans h1 h2)
      · exact .inl h1
    · rcases h2 with h2 | ⟨rfl, h2⟩
      · exact .inl h2
      · exact .inr ⟨rfl, sLt_trans h1 h2⟩
theorem sLt_irrefl (a : List UInt8) : sLt a a = false := by
  have := sLt_compl a a
  simpa using this
theorem all_loop' {body : Int → Option (Ctl Int (Ctl Unit Bool))} (pass : Nat → Bool) (n : Nat) (h : ∀ k, k < n → body (k : Int) = some (if pass k = true then .go ((k : Int) + 1) else .done (.done false))) (hn : body (n : Int) = some (.done (.go ()))) :
    bindC (loopO body 0) (fun (_ : Unit) => some true) = some ((List.range n).all pass) := by
  rw [all_loop pass n h hn]
  cases (List.range n).all pass <;> rfl
/-- snapshots in order -/
def snapP (seq : Int) (l : List Int) (k : Nat) : Bool := match l[k]? with
  | some s => decide (0 ≤ s ∧ s ≤ seq) && (match k with | 0 => true | j + 1 => match l[j]? with | some d => decide (d < s) | none => true)
  | none => true
theorem snapP_at (seq : Int) (l : List Int) (k : Nat) (h : k < l.length) : snapP seq l k = (decide (0 ≤ l[k] ∧ l[k] ≤ seq) && (if h0 : 0 < k then decide (l[k - 1]'(by omega) < l[k]) else true)) := by
  unfold snapP
  rw [List.getElem?_eq_getElem h]
  cases k with
  | zero => rfl
  | succ j =>
    simp only [Nat.zero_lt_succ, dif_pos, Nat.add_sub_cancel]
    rw [List.getElem?_eq_getElem (by omega)]
def snapsV (seq : Int) (l : List Int) : Bool := (List.range l.length).all (snapP seq l)
theorem snaps_at {seq : Int} {l : List Int} (hv : snapsV seq l = true) (k : Nat) (hk : k < l.length) : (0 ≤ l[k] ∧ l[k] ≤ seq) ∧ (0 < k → l[k - 1]'(by omega) < l[k]) := by
  unfold snapsV at hv
  rw [List.all_eq_true] at hv
  have := hv k (by simpa using hk)
  rw [snapP_at seq l k hk, Bool.and_eq_true] at this
  refine ⟨of_decide_eq_true this.1, fun h0 => ?_⟩
  have h2 := this.2
  rw [dif_pos h0] at h2
  exact of_decide_eq_true h2
theorem snaps_last {seq : Int} {l : List Int} (hv : snapsV seq l = true) (h0 : 0 < l.length) : (seq ∈ l) ↔ l[l.length - 1]'(by omega) = seq := by
  constructor
  · intro hm
    obtain ⟨i, hi, he⟩ := List.getElem_of_mem hm
    by_cases e : i = l.length - 1
    · subst e; exact he
    · have h1 := (snaps_at hv (i + 1) (by omega)).2 (by omega)
      have h2 := (snaps_at hv (i + 1) (by omega)).1
      simp only [Nat.add_sub_cancel] at h1
      omega
  · intro h
    rw [← h]
    exact List.getElem_mem _
theorem piece_nat {α : Type} (l : List α) (a b : Nat) (lo hi : Int) (h1 : lo = (a : Int)) (h2 : hi = (b : Int)) (h3 : a ≤ b) (h4 : b ≤ l.length) : piece l lo hi = some ((l.drop a).take (b - a)) := by
  subst h1 h2
  unfold piece
  rw [if_pos ⟨by omega, by omega, by omega⟩, Int.toNat_natCast, Int.toNat_natCast]
theorem filter_one {α : Type} (l : List α) (p : α → Bool) (j : Nat) (hj : j < l.length) (h1 : p l[j] = false) (h2 : ∀ i (h : i < l.length), i ≠ j → p l[i] = true) : l.filter p = l.take j ++ l.drop (j + 1) := by
  have hs : l = l.take j ++ l[j] :: l.drop (j + 1) := by rw [← List.drop_eq_getElem_cons hj, List.take_append_drop]
  have ha : (l.take j).filter p = l.take j := by
    rw [List.filter_eq_self]
    intro x hx
    obtain ⟨i, hi, rfl⟩ := List.getElem_of_mem hx
    have hi' : i < j := by simp at hi; omega
    simp only [List.getElem_take]
    exact h2 i (by omega) (by omega)
  have hb : (l.drop (j + 1)).filter p = l.drop (j + 1) := by
    rw [List.filter_eq_self]
    intro x hx
    obtain ⟨i, hi, rfl⟩ := List.getElem_of_mem hx
    have hi' : j + 1 + i < l.length := by simp at hi; omega
    simp only [List.getElem_drop]
    exact h2 (j + 1 + i) hi' (by omega)
  conv => lhs; rw [hs]
  rw [List.filter_append, List.filter_cons_of_neg (by simpa using h1), ha, hb]
theorem filter_take {α : Type} (p : α → Bool) (l : List α) (k : Nat) (h : k < l.length) : (l.take (k + 1)).filter p = (l.take k).filter p ++ if p l[k] = true then [l[k]] else [] := by
  rw [show l.take (k + 1) = l.take k ++ [l[k]] by rw [List.take_add_one, List.getElem?_eq_getElem h]; rfl, List.filter_append]
  congr 1
  by_cases c : p l[k] = true
  · rw [if_pos c, List.filter_cons_of_pos c]; rfl
  · rw [if_neg c, List.filter_cons_of_neg c]; rfl
theorem filter_len {α : Type} (p : α → Bool) (l : List α) (k : Nat) : ((l.take k).filter p).length ≤ k := Nat.le_trans (List.length_filter_le _ _) (by simp; omega)
theorem snaps_lt {seq : Int} {l : List Int} (hv : snapsV seq l = true) : ∀ (j : Nat) (hj : j < l.length) (i : Nat) (hi : i < j), l[i]'(by omega) < l[j] := by
  intro j
  induction j with
  | zero => intro _ i hi; omega
  | succ j ih =>
    intro hj i hi
    have h1 := (snaps_at hv (j + 1) hj).2 (by omega)
    simp only [Nat.add_sub_cancel] at h1
    by_cases e : i = j
    · subst e; exact h1
    · have := ih (by omega) i (by omega); omega
def dropS (l : List Int) (x : Int) : List Int := l.filter fun s => !decide (s = x)
theorem dropS_at {seq : Int} {l : List Int} (hv : snapsV seq l = true) (j : Nat) (hj : j < l.length) : dropS l l[j] = l.take j ++ l.drop (j + 1) := by
  unfold dropS
  refine filter_one l _ j hj (by simp) fun i hi hij => ?_
  have : ¬ l[i] = l[j] := by
    rcases Nat.lt_or_ge i j with h | h
    · have := snaps_lt hv j hj i h; omega
    · have := snaps_lt hv i hi j (by omega); omega
  simp [this]
theorem sLt_asymm {a b : List UInt8} (h : sLt a b = true) : sLt b a = false := by
  have := sLt_compl a b
  rw [h] at this
  simp only [Bool.not_true, Bool.or_eq_false_iff] at this
  exact this.1
theorem sLt_same {a b : List UInt8} (h1 : sLt a b = false) (h2 : sLt b a = false) : a = b := by
  have := sLt_compl a b
  rw [h1, h2] at this
  have h : decide (b = a) = true := by simpa using this
  exact (of_decide_eq_true h).symm
theorem any_loop {α : Type} {body : Int → Option (Ctl Int (Ctl Unit Bool))} (l : List α) (p : α → Bool) (h : ∀ k (hk : k < l.length), body (k : Int) = some (if p l[k] = true then .done (.done true) else .go ((k : Int) + 1))) (hn : body (l.length : Int) = some (.done (.go ()))) :
    bindC (loopO body 0) (fun (_ : Unit) => some false) = some (l.any p) := by
  rw [loopO_is (fun k s => s = (k : Int) ∧ l.any p = (l.drop k).any p) l.length (if l.any p = true then Ctl.done true else Ctl.go ()) ?h0 ?h1 ?h2]
  · cases l.any p <;> rfl
  case h0 => exact ⟨rfl, rfl⟩
  · rintro k s hk ⟨rfl, he⟩
    rw [h k hk, he, List.drop_eq_getElem_cons hk, List.any_cons]
    cases hp : p l[k] with
    | true => right; rfl
    | false =>
      left
      refine ⟨(k : Int) + 1, rfl, by omega, ?_⟩
      rw [Bool.false_or]
  · rintro s ⟨rfl, he⟩
    rw [he, List.drop_length, hn]
    rfl
theorem half_eq {a : Int} (h0 : 0 ≤ a) (h1 : a ≤ 4611686018427387904) : IntKind.i64.wrap (ishr .u64 (IntKind.u64.wrap (IntKind.i64.wrap a)) (1 : Int)) = a / 2 := by
  have hu : IntKind.u64.wrap a = a := by simp [IntKind.wrap, IntKind.bits, IntKind.signed]; omega
  have hs : ishr .u64 a (1 : Int) = a / 2 := by
    unfold ishr
    show a.fdiv (2 ^ 1) = a / 2
    rw [Int.fdiv_eq_ediv_of_nonneg a (by decide)]
    rfl
  rw [wrap_ok (n := a) (by omega) (by omega), hu, hs, wrap_ok (by omega) (by omega)]
/-- a search by halves: the place where it ends -/
theorem bisect {α ρ : Type} (x : List α) (cf : α → Option Int) (c : α → Int) (hcf : ∀ e ∈ x, cf e = some (c e)) (hx : x.length ≤ 1048576) :
    ∃ j, j ≤ x.length ∧ loopO (ρ := Ctl Int ρ) (fun (S2 : Int × Int) => if (decide (S2.1 < S2.2)) = true then ((idx x (IntKind.i64.wrap (ishr .u64 (IntKind.u64.wrap (IntKind.i64.wrap (S2.1 + S2.2))) (1 : Int)))).bind fun E7 =>
  (cf E7).bind fun R9 =>
  bindC (if (decide (R9 < (0 : Int))) = true then (some (.go (IntKind.i64.wrap (IntKind.i64.wrap (ishr .u64 (IntKind.u64.wrap (IntKind.i64.wrap (S2.1 + S2.2))) (1 : Int)) + (1 : Int)), S2.2)))
  else (some (.go (S2.1, IntKind.i64.wrap (ishr .u64 (IntKind.u64.wrap (IntKind.i64.wrap (S2.1 + S2.2))) (1 : Int))))))
  (fun (T12 : Int × Int) => some (.go (T12.1, T12.2))))
  else (some (.done (.go S2.1)))) ((0 : Int), ((x.length : Nat) : Int)) = some (.go (j : Int)) ∧ (∀ i (hi : i < x.length), i + 1 = j → c x[i] < 0) ∧ (∀ hj : j < x.length, 0 ≤ c x[j]) := by
  obtain ⟨r, hr, j, rfl, h1, h2, h3⟩ := loopO_total (ρ := Ctl Int ρ) (s0 := ((0 : Int), ((x.length : Nat) : Int))) (body := fun (S2 : Int × Int) => if (decide (S2.1 < S2.2)) = true then ((idx x (IntKind.i64.wrap (ishr .u64 (IntKind.u64.wrap (IntKind.i64.wrap (S2.1 + S2.2))) (1 : Int)))).bind fun E7 =>
  (cf E7).bind fun R9 =>
  bindC (if (decide (R9 < (0 : Int))) = true then (some (.go (IntKind.i64.wrap (IntKind.i64.wrap (ishr .u64 (IntKind.u64.wrap (IntKind.i64.wrap (S2.1 + S2.2))) (1 : Int)) + (1 : Int)), S2.2)))
  else (some (.go (S2.1, IntKind.i64.wrap (ishr .u64 (IntKind.u64.wrap (IntKind.i64.wrap (S2.1 + S2.2))) (1 : Int))))))
  (fun (T12 : Int × Int) => some (.go (T12.1, T12.2))))
  else (some (.done (.go S2.1))))
    (fun k s => ∃ a b : Nat, s = ((a : Int), (b : Int)) ∧ a ≤ b ∧ b ≤ x.length ∧ b - a + k ≤ x.length ∧ (∀ i (hi : i < x.length), i + 1 = a → c x[i] < 0) ∧ (∀ hj : b < x.length, 0 ≤ c x[b])) x.length
    (fun r => ∃ j : Nat, r = .go (j : Int) ∧ j ≤ x.length ∧ (∀ i (hi : i < x.length), i + 1 = j → c x[i] < 0) ∧ (∀ hj : j < x.length, 0 ≤ c x[j]))
    ⟨0, x.length, rfl, Nat.zero_le _, Nat.le_refl _, by omega, fun i hi h => by omega, fun h => by omega⟩ (by
      rintro k s hk ⟨a, b, rfl, hab, hb, hd, h1, h2⟩
      by_cases hlt : a < b
      · left
        have hm : ((a : Int) + (b : Int)) / 2 = (((a + b) / 2 : Nat) : Int) := by omega
        have hmx : (a + b) / 2 < x.length := by omega
        simp only [half_eq (a := (a : Int) + (b : Int)) (by omega) (by omega), hm, idx_nat x _ hmx, Option.bind_some, hcf _ (List.getElem_mem hmx)]
        rw [if_pos (by simpa using hlt)]
        by_cases hc : c x[(a + b) / 2] < 0
        · rw [if_pos (by simpa using hc), wrap_ok (by omega) (by omega)]
          refine ⟨_, rfl, (a + b) / 2 + 1, b, rfl, by omega, hb, by omega, fun i hi h => ?_, h2⟩
          obtain rfl : i = (a + b) / 2 := by omega
          exact hc
        · rw [if_neg (by simpa using hc)]
          exact ⟨_, rfl, a, (a + b) / 2, rfl, by omega, by omega, by omega, h1, fun _ => by omega⟩
      · right
        obtain rfl : a = b := by omega
        exact ⟨.go (a : Int), by simp, a, rfl, hb, h1, h2⟩) (by
      rintro s ⟨a, b, rfl, hab, hb, hd, h1, h2⟩
      obtain rfl : a = b := by omega
      exact ⟨.go (a : Int), by simp, a, rfl, hb, h1, h2⟩)
  exact ⟨j, h1, hr, h2, h3⟩
/-- an op as required -/
def opV (o : Op) : Bool := decide (1 ≤ (o.Key.length : Int) ∧ (o.Key.length : Int) ≤ 10) && (decide ((o.Val.length : Int) ≤ 16) && (!o.Del || decide (o.Val = [])))
/-- a batch as required -/
def batchV (l : List Op) : Bool := decide (1 ≤ l.length ∧ l.length ≤ 6) && l.all opV
theorem batchI (l : List Op) : decide (1 ≤ ((l.length : Nat) : Int) ∧ ((l.length : Nat) : Int) ≤ 6) = decide (1 ≤ l.length ∧ l.length ≤ 6) := decide_eq_decide.2 (by omega)
/-- is there a later op with this key -/
def laterV (l : List Op) (k : Nat) (key : List UInt8) : Bool := (l.drop (k + 1)).any fun x => decide (x.Key = key)
theorem last_loop {ρ : Type} (l : List Op) (k : Nat) (hk : k < l.length) (h : l.length ≤ 1048576) :
    loopO (ρ := Ctl Bool ρ) (fun (S23 : Bool × Int) => if (decide (S23.2 < ((l.length : Nat) : Int))) = true then ((if S23.1 = true then ((idx l S23.2).bind fun E31 =>
  (idx l (k : Int)).bind fun E33 =>
  some (!(decide (E31.Key = E33.Key))))
  else (some false)).bind (fun (T28 : Bool) =>
  some (.go (T28, IntKind.i64.wrap (S23.2 + (1 : Int))))))
  else (some (.done (.go S23.1))))
  (true, IntKind.i64.wrap ((k : Int) + (1 : Int))) = some (.go (!laterV l k l[k].Key)) := by
  rw [loopO_count (fun d => (!(((l.drop (k + 1)).take d).any fun x => decide (x.Key = l[k].Key)), ((k + 1 + d : Nat) : Int))) (l.length - (k + 1)) (r := Ctl.go (!laterV l k l[k].Key)) ?h0]
  case h0 => rw [wrap_ok (by omega) (by omega)]; simp
  · intro d hd
    have hkd : k + 1 + d < l.length := by omega
    have hdd : d < (l.drop (k + 1)).length := by simp; omega
    have ht : (l.drop (k + 1)).take (d + 1) = (l.drop (k + 1)).take d ++ [l[k + 1 + d]] := by
      rw [List.take_add_one, List.getElem?_eq_getElem hdd, List.getElem_drop]; rfl
    simp only [idx_nat l _ hkd, idx_nat l k hk, Option.bind_some, ht, List.any_append, List.any_cons, List.any_nil, Bool.or_false]
    rw [if_pos (by simp only [decide_eq_true_eq]; omega), wrap_ok (by omega) (by omega)]
    cases ((l.drop (k + 1)).take d).any fun x => decide (x.Key = l[k].Key) with
    | false => simp; omega
    | true => simp; omega
  · rw [show k + 1 + (l.length - (k + 1)) = l.length by omega, List.take_of_length_le (by simp)]
    simp [laterV]
theorem snapsV_up {seq seq' : Int} {l : List Int} (h2 : seq ≤ seq') (h : snapsV seq l = true) : snapsV seq' l = true := by
  unfold snapsV
  rw [List.all_eq_true]
  intro k hk
  have hk' : k < l.length := by simpa using hk
  obtain ⟨a, b⟩ := snaps_at h k hk'
  rw [snapP_at seq' l k hk', Bool.and_eq_true]
  refine ⟨decide_eq_true ⟨a.1, by omega⟩, ?_⟩
  by_cases h0 : 0 < k
  · rw [dif_pos h0]; exact decide_eq_true (b h0)
  · rw [dif_neg h0]
/-! words of bits -/
theorem iand64 {a b : Nat} (ha : a < 2 ^ 63) (hb : b < 2 ^ 63) : iand .i64 (a : Int) (b : Int) = ((a &&& b : Nat) : Int) := by
  unfold iand
  have h1 : a &&& b ≤ a := Nat.and_le_left
  have e : (BitVec.ofInt IntKind.i64.bits (a : Int) &&& BitVec.ofInt IntKind.i64.bits (b : Int)).toNat = a &&& b := by
    show (BitVec.ofInt 64 (a : Int) &&& BitVec.ofInt 64 (b : Int)).toNat = a &&& b
    rw [BitVec.ofInt_natCast, BitVec.ofInt_natCast, BitVec.toNat_and, BitVec.toNat_ofNat, BitVec.toNat_ofNat, Nat.mod_eq_of_lt (by omega), Nat.mod_eq_of_lt (by omega)]
  rw [e]
  exact wrap_ok (by omega) (by omega)
theorem ior64 {a b : Nat} (ha : a < 2 ^ 63) (hb : b < 2 ^ 63) : ior .i64 (a : Int) (b : Int) = ((a ||| b : Nat) : Int) := by
  unfold ior
  have h1 : a ||| b < 2 ^ 63 := Nat.or_lt_two_pow ha hb
  have e : (BitVec.ofInt IntKind.i64.bits (a : Int) ||| BitVec.ofInt IntKind.i64.bits (b : Int)).toNat = a ||| b := by
    show (BitVec.ofInt 64 (a : Int) ||| BitVec.ofInt 64 (b : Int)).toNat = a ||| b
    rw [BitVec.ofInt_natCast, BitVec.ofInt_natCast, BitVec.toNat_or, BitVec.toNat_ofNat, BitVec.toNat_ofNat, Nat.mod_eq_of_lt (by omega), Nat.mod_eq_of_lt (by omega)]
  rw [e]
  exact wrap_ok (by omega) (by omega)
theorem ixor64 {a b : Nat} (ha : a < 2 ^ 63) (hb : b < 2 ^ 63) : ixor .i64 (a : Int) (b : Int) = ((a ^^^ b : Nat) : Int) := by
  unfold ixor
  have h1 : a ^^^ b < 2 ^ 63 := Nat.xor_lt_two_pow ha hb
  have e : (BitVec.ofInt IntKind.i64.bits (a : Int) ^^^ BitVec.ofInt IntKind.i64.bits (b : Int)).toNat = a ^^^ b := by
    show (BitVec.ofInt 64 (a : Int) ^^^ BitVec.ofInt 64 (b : Int)).toNat = a ^^^ b
    rw [BitVec.ofInt_natCast, BitVec.ofInt_natCast, BitVec.toNat_xor, BitVec.toNat_ofNat, BitVec.toNat_ofNat, Nat.mod_eq_of_lt (by omega), Nat.mod_eq_of_lt (by omega)]
  rw [e]
  exact wrap_ok (by omega) (by omega)
theorem wrap32 (n : Int) : IntKind.u32.wrap n = n % 4294967296 := by simp [IntKind.wrap, IntKind.bits, IntKind.signed]
theorem wrap64u (n : Int) : IntKind.u64.wrap n = n % 18446744073709551616 := by simp [IntKind.wrap, IntKind.bits, IntKind.signed]
theorem ior32 {a b : Nat} (ha : a < 2 ^ 32) (hb : b < 2 ^ 32) : ior .u32 (a : Int) (b : Int) = ((a ||| b : Nat) : Int) := by
  unfold ior
  have h1 : a ||| b < 2 ^ 32 := Nat.or_lt_two_pow ha hb
  have e : (BitVec.ofInt IntKind.u32.bits (a : Int) ||| BitVec.ofInt IntKind.u32.bits (b : Int)).toNat = a ||| b := by
    show (BitVec.ofInt 32 (a : Int) ||| BitVec.ofInt 32 (b : Int)).toNat = a ||| b
    rw [BitVec.ofInt_natCast, BitVec.ofInt_natCast, BitVec.toNat_or, BitVec.toNat_ofNat, BitVec.toNat_ofNat, Nat.mod_eq_of_lt (by omega), Nat.mod_eq_of_lt (by omega)]
  rw [e, wrap32]
  omega
theorem ixor32 {a b : Nat} (ha : a < 2 ^ 32) (hb : b < 2 ^ 32) : ixor .u32 (a : Int) (b : Int) = ((a ^^^ b : Nat) : Int) := by
  unfold ixor
  have h1 : a ^^^ b < 2 ^ 32 := Nat.xor_lt_two_pow ha hb
  have e : (BitVec.ofInt IntKind.u32.bits (a : Int) ^^^ BitVec.ofInt IntKind.u32.bits (b : Int)).toNat = a ^^^ b := by
    show (BitVec.ofInt 32 (a : Int) ^^^ BitVec.ofInt 32 (b : Int)).toNat = a ^^^ b
    rw [BitVec.ofInt_natCast, BitVec.ofInt_natCast, BitVec.toNat_xor, BitVec.toNat_ofNat, BitVec.toNat_ofNat, Nat.mod_eq_of_lt (by omega), Nat.mod_eq_of_lt (by omega)]
  rw [e, wrap32]
  omega
theorem iand8 {a b : Nat} (ha : a < 2 ^ 8) (hb : b < 2 ^ 8) : iand .u8 (a : Int) (b : Int) = ((a &&& b : Nat) : Int) := by
  unfold iand
  have h1 : a &&& b ≤ a := Nat.and_le_left
  have e : (BitVec.ofInt IntKind.u8.bits (a : Int) &&& BitVec.ofInt IntKind.u8.bits (b : Int)).toNat = a &&& b := by
    show (BitVec.ofInt 8 (a : Int) &&& BitVec.ofInt 8 (b : Int)).toNat = a &&& b
    rw [BitVec.ofInt_natCast, BitVec.ofInt_natCast, BitVec.toNat_and, BitVec.toNat_ofNat, BitVec.toNat_ofNat, Nat.mod_eq_of_lt (by omega), Nat.mod_eq_of_lt (by omega)]
  rw [e]
  simp [IntKind.wrap, IntKind.bits, IntKind.signed]
  omega
theorem ishr_nat {k : IntKind} {a n : Nat} (hn : n ≤ k.bits) : ishr k (a : Int) (n : Int) = ((a / 2 ^ n : Nat) : Int) := by
  unfold ishr
  rw [Int.toNat_natCast, Nat.min_eq_left hn, Int.fdiv_eq_ediv_of_nonneg _ (by exact_mod_cast Nat.zero_le _)]
  norm_cast
theorem ishl64 {a n : Nat} (hn : n ≤ 64) (h : a * 2 ^ n < 2 ^ 63) : ishl .i64 (a : Int) (n : Int) = ((a * 2 ^ n : Nat) : Int) := by
  unfold ishl
  have hb : IntKind.i64.bits = 64 := rfl
  rw [Int.toNat_natCast, hb, Nat.min_eq_left hn]
  have e : (a : Int) * 2 ^ n = ((a * 2 ^ n : Nat) : Int) := by norm_cast
  rw [e]
  exact wrap_ok (by omega) (by omega)
theorem ishl32 {a n : Nat} (hn : n ≤ 32) : ishl .u32 (a : Int) (n : Int) = ((a * 2 ^ n % 4294967296 : Nat) : Int) := by
  unfold ishl
  have hb : IntKind.u32.bits = 32 := rfl
  have e : (a : Int) * 2 ^ n = ((a * 2 ^ n : Nat) : Int) := by norm_cast
  rw [Int.toNat_natCast, hb, Nat.min_eq_left hn, wrap32, e]
  generalize a * 2 ^ n = z
  omega
theorem l3Word_eq {x : Nat} (h : x < 2 ^ 63) : spec_l3Word (x : Int) = some ((x % 4294967296 : Nat) : Int) := by
  unfold spec_l3Word
  rw [show (4294967295 : Int) = ((4294967295 : Nat) : Int) from rfl, iand64 h (by decide), show x &&& 4294967295 = x % 4294967296 from Nat.and_two_pow_sub_one_eq_mod x 32]
/-- the bits of a word turned to the left -/
def rotN (x n : Nat) : Nat := x * 2 ^ n % 4294967296 ||| x / 2 ^ (32 - n)
theorem rotN_lt {x n : Nat} (h : x < 4294967296) : rotN x n < 4294967296 := by
  unfold rotN
  refine Nat.or_lt_two_pow (n := 32) (Nat.mod_lt _ (by decide)) ?_
  exact Nat.lt_of_le_of_lt (Nat.div_le_self _ _) h
theorem l3Left_eq {x n : Nat} (h : x < 4294967296) (hn : n ≤ 16) : spec_l3Left (x : Int) (n : Int) = some (rotN x n : Int) := by
  unfold spec_l3Left nn
  have h1 : x * 2 ^ n < 2 ^ 63 := by
    have : 2 ^ n ≤ 2 ^ 16 := Nat.pow_le_pow_right (by decide) hn
    calc x * 2 ^ n ≤ x * 2 ^ 16 := Nat.mul_le_mul_left _ this
      _ < 2 ^ 63 := by omega
  have h2 : x / 2 ^ (32 - n) < 2 ^ 32 := Nat.lt_of_le_of_lt (Nat.div_le_self _ _) h
  have h3 : IntKind.u64.wrap ((32 : Int) - (n : Int)) = ((32 - n : Nat) : Int) := by rw [wrap64u]; omega
  rw [if_neg (by omega), h3, ishl64 (by omega) h1, ishr_nat (by show 32 - n ≤ 64; omega), ior64 h1 (by omega)]
  simp only [Option.bind_some]
  rw [l3Word_eq (Nat.or_lt_two_pow h1 (by omega))]
  simp only [Option.bind_some]
  unfold rotN
  rw [show (4294967296 : Nat) = 2 ^ 32 from rfl, Nat.or_mod_two_pow, Nat.mod_eq_of_lt h2]
theorem rot32_eq {x n : Nat} (h : x < 4294967296) (hn : n ≤ 16) : math_bits_RotateLeft32 (x : Int) (n : Int) = some (rotN x n : Int) := by
  unfold math_bits_RotateLeft32 nn
  have h0 : iand .u64 (IntKind.u64.wrap (n : Int)) (31 : Int) = (n : Int) := by
    have e : IntKind.u64.wrap (n : Int) = (n : Int) := by rw [wrap64u]; omega
    rw [e]
    unfold iand
    have e2 : (BitVec.ofInt IntKind.u64.bits (n : Int) &&& BitVec.ofInt IntKind.u64.bits (31 : Int)).toNat = n := by
      show (BitVec.ofInt 64 (n : Int) &&& BitVec.ofInt 64 ((31 : Nat) : Int)).toNat = n
      rw [BitVec.ofInt_natCast, BitVec.ofInt_natCast, BitVec.toNat_and, BitVec.toNat_ofNat, BitVec.toNat_ofNat, Nat.mod_eq_of_lt (by omega), Nat.mod_eq_of_lt (by omega)]
      rw [show n &&& 31 = n % 32 from Nat.and_two_pow_sub_one_eq_mod n 5]
      omega
    rw [e2, wrap64u]
    omega
  have h2 : x / 2 ^ (32 - n) < 2 ^ 32 := Nat.lt_of_le_of_lt (Nat.div_le_self _ _) h
  have h3 : IntKind.u64.wrap ((32 : Int) - (n : Int)) = ((32 - n : Nat) : Int) := by rw [wrap64u]; omega
  rw [h0, if_neg (by omega), h3, ishl32 (by omega), ishr_nat (by show 32 - n ≤ 32; omega), ior32 (Nat.mod_lt _ (by decide)) h2]
  rfl
theorem ior_same {p q : Int} (hp : 0 ≤ p ∧ p < 4294967296) (hq : 0 ≤ q ∧ q < 4294967296) : ior .u32 p q = ior .i64 p q ∧ 0 ≤ ior .i64 p q ∧ ior .i64 p q < 4294967296 := by
  have e1 : p = (p.toNat : Int) := by omega
  have e2 : q = (q.toNat : Int) := by omega
  have h1 : p.toNat < 2 ^ 32 := by omega
  have h2 : q.toNat < 2 ^ 32 := by omega
  have h3 := Nat.or_lt_two_pow h1 h2
  rw [e1, e2, ior32 h1 h2, ior64 (by omega) (by omega)]
  generalize p.toNat ||| q.toNat = z at h3
  exact ⟨rfl, by omega, by omega⟩
theorem ishl_same (x : UInt8) (n : Nat) (hn : n ≤ 24) : ishl .u32 (IntKind.u32.wrap ((x.toNat : Nat) : Int)) (n : Int) = ishl .i64 (IntKind.i64.wrap ((x.toNat : Nat) : Int)) (n : Int) ∧ 0 ≤ ishl .i64 (IntKind.i64.wrap ((x.toNat : Nat) : Int)) (n : Int) ∧ ishl .i64 (IntKind.i64.wrap ((x.toNat : Nat) : Int)) (n : Int) < 4294967296 := by
  have hx := x.toNat_lt
  have w1 : IntKind.u32.wrap ((x.toNat : Nat) : Int) = ((x.toNat : Nat) : Int) := by rw [wrap32]; omega
  have w2 : IntKind.i64.wrap ((x.toNat : Nat) : Int) = ((x.toNat : Nat) : Int) := wrap_ok (by omega) (by omega)
  have hp : 2 ^ n ≤ 2 ^ 24 := Nat.pow_le_pow_right (by decide) hn
  have hm : x.toNat * 2 ^ n ≤ x.toNat * 2 ^ 24 := Nat.mul_le_mul_left _ hp
  rw [w1, w2, ishl32 (by omega), ishl64 (by omega) (by omega)]
  generalize x.toNat * 2 ^ n = z at hm
  have hz : z < 4294967296 := by omega
  rw [Nat.mod_eq_of_lt hz]
  exact ⟨rfl, by omega, by omega⟩
theorem ishl_samei (x : UInt8) (n : Int) (hn : 0 ≤ n ∧ n ≤ 24) : ishl .u32 (IntKind.u32.wrap ((x.toNat : Nat) : Int)) n = ishl .i64 (IntKind.i64.wrap ((x.toNat : Nat) : Int)) n ∧ 0 ≤ ishl .i64 (IntKind.i64.wrap ((x.toNat : Nat) : Int)) n ∧ ishl .i64 (IntKind.i64.wrap ((x.toNat : Nat) : Int)) n < 4294967296 := by
  have e : n = (n.toNat : Int) := by omega
  rw [e]
  exact ishl_same x n.toNat (by omega)
theorem bind_same {α β : Type} {x : Option α} {f g : α → Option β} (h : ∀ a, f a = g a) : x.bind f = x.bind g := by
  cases x with
  | none => rfl
  | some a => exact h a
theorem little_val (a b c d : UInt8) : ior .u32 (ior .u32 (ior .u32 (IntKind.u32.wrap ((a.toNat : Nat) : Int)) (ishl .u32 (IntKind.u32.wrap ((b.toNat : Nat) : Int)) (8 : Int))) (ishl .u32 (IntKind.u32.wrap ((c.toNat : Nat) : Int)) (16 : Int))) (ishl .u32 (IntKind.u32.wrap ((d.toNat : Nat) : Int)) (24 : Int)) =
      ior .i64 (ior .i64 (ior .i64 (IntKind.i64.wrap ((a.toNat : Nat) : Int)) (ishl .i64 (IntKind.i64.wrap ((b.toNat : Nat) : Int)) (8 : Int))) (ishl .i64 (IntKind.i64.wrap ((c.toNat : Nat) : Int)) (16 : Int))) (ishl .i64 (IntKind.i64.wrap ((d.toNat : Nat) : Int)) (24 : Int)) ∧
      0 ≤ ior .i64 (ior .i64 (ior .i64 (IntKind.i64.wrap ((a.toNat : Nat) : Int)) (ishl .i64 (IntKind.i64.wrap ((b.toNat : Nat) : Int)) (8 : Int))) (ishl .i64 (IntKind.i64.wrap ((c.toNat : Nat) : Int)) (16 : Int))) (ishl .i64 (IntKind.i64.wrap ((d.toNat : Nat) : Int)) (24 : Int)) ∧
      ior .i64 (ior .i64 (ior .i64 (IntKind.i64.wrap ((a.toNat : Nat) : Int)) (ishl .i64 (IntKind.i64.wrap ((b.toNat : Nat) : Int)) (8 : Int))) (ishl .i64 (IntKind.i64.wrap ((c.toNat : Nat) : Int)) (16 : Int))) (ishl .i64 (IntKind.i64.wrap ((d.toNat : Nat) : Int)) (24 : Int)) < 4294967296 := by
  have ha := a.toNat_lt
  have a1 : IntKind.u32.wrap ((a.toNat : Nat) : Int) = IntKind.i64.wrap ((a.toNat : Nat) : Int) := by rw [wrap32, wrap_ok (by omega) (by omega)]; omega
  have a2 : 0 ≤ IntKind.i64.wrap ((a.toNat : Nat) : Int) ∧ IntKind.i64.wrap ((a.toNat : Nat) : Int) < 4294967296 := by rw [wrap_ok (by omega) (by omega)]; omega
  obtain ⟨b1, b2⟩ := ishl_samei b 8 (by omega)
  obtain ⟨c1, c2⟩ := ishl_samei c 16 (by omega)
  obtain ⟨d1, d2⟩ := ishl_samei d 24 (by omega)
  obtain ⟨o1, o2⟩ := ior_same a2 b2
  obtain ⟨p1, p2⟩ := ior_same o2 c2
  obtain ⟨q1, q2⟩ := ior_same p2 d2
  refine ⟨?_, q2⟩
  rw [a1, b1, c1, d1, o1, p1, q1]
/-- a word of four bytes -/
theorem little_eq (s : List UInt8) (at_ : Int) : impl_little s at_ = spec_l3Little s at_ := by
  unfold impl_little spec_l3Little
  exact bind_same fun a => bind_same fun b => bind_same fun c => bind_same fun d => congrArg some (little_val a b c d).1
theorem little_range (s : List UInt8) (at_ r : Int) (h : spec_l3Little s at_ = some r) : 0 ≤ r ∧ r < 4294967296 := by
  unfold spec_l3Little at h
  obtain ⟨a, _, h⟩ := Option.bind_eq_some_iff.1 h
  obtain ⟨b, _, h⟩ := Option.bind_eq_some_iff.1 h
  obtain ⟨c, _, h⟩ := Option.bind_eq_some_iff.1 h
  obtain ⟨d, _, h⟩ := Option.bind_eq_some_iff.1 h
  rw [← Option.some.inj h]
  exact (little_val a b c d).2
theorem sidx_nat (s : List UInt8) (i : Nat) (h : i < s.length) : sidx s (i : Int) = some s[i] := by
  unfold sidx
  rw [if_pos (by omega), Int.toNat_natCast, List.getElem?_eq_getElem h]
theorem little_some (s : List UInt8) (i : Nat) (h : i + 3 < s.length) (hs : s.length ≤ 1048576) : ∃ n : Nat, spec_l3Little s (i : Int) = some (n : Int) ∧ impl_little s (i : Int) = some (n : Int) ∧ n < 4294967296 := by
  have h1 := little_eq s (i : Int)
  have h2 := little_range s (i : Int)
  have hs' : ∃ r, spec_l3Little s (i : Int) = some r := by
    unfold spec_l3Little
    have w : ∀ d : Nat, d ≤ 3 → IntKind.i64.wrap ((i : Int) + (d : Int)) = ((i + d : Nat) : Int) := fun d hd => by rw [wrap_ok (by omega) (by omega)]; omega
    have w1 : IntKind.i64.wrap ((i : Int) + (1 : Int)) = ((i + 1 : Nat) : Int) := w 1 (by omega)
    have w2 : IntKind.i64.wrap ((i : Int) + (2 : Int)) = ((i + 2 : Nat) : Int) := w 2 (by omega)
    have w3 : IntKind.i64.wrap ((i : Int) + (3 : Int)) = ((i + 3 : Nat) : Int) := w 3 (by omega)
    rw [w1, w2, w3, sidx_nat s i (by omega), sidx_nat s (i + 1) (by omega), sidx_nat s (i + 2) (by omega), sidx_nat s (i + 3) (by omega)]
    exact ⟨_, rfl⟩
  obtain ⟨r, hr⟩ := hs'
  obtain ⟨p, q⟩ := h2 r hr
  refine ⟨r.toNat, ?_, ?_, by omega⟩
  · rw [hr]; congr 1; omega
  · rw [h1, hr]; congr 1; omega
/-- words of 32 bits -/
def okW (l : List Wrd) : Prop := ∀ x ∈ l, 0 ≤ x.v ∧ x.v < 4294967296
theorem okW_set {l : List Wrd} {i : Nat} {x : Wrd} (h : okW l) (hx : 0 ≤ x.v ∧ x.v < 4294967296) : okW (l.set i x) := by
  intro y hy
  rcases List.mem_or_eq_of_mem_set hy with h1 | h1
  · exact h y h1
  · rw [h1]; exact hx
/-- half of a step: one word added to another, and a third one changed and turned -/
noncomputable def qi (l : List Wrd) (x y z : Int) (r : Int) : Option (List Wrd) :=
  (idx l x).bind fun E1 => (idx l y).bind fun E3 => (idx (l.set x.toNat (Wrd.mk (IntKind.u32.wrap (E1.v + E3.v)))) z).bind fun E7 => (idx (l.set x.toNat (Wrd.mk (IntKind.u32.wrap (E1.v + E3.v)))) x).bind fun E9 =>
  (math_bits_RotateLeft32 (ixor .u32 E7.v E9.v) r).bind fun R11 => some ((l.set x.toNat (Wrd.mk (IntKind.u32.wrap (E1.v + E3.v)))).set z.toNat (Wrd.mk R11))
noncomputable def qs (l : List Int) (x y z : Int) (r : Int) : Option (List Int) :=
  (idx l x).bind fun E1 => (idx l y).bind fun E3 => (spec_l3Word (IntKind.i64.wrap (E1 + E3))).bind fun R5 => (idx (l.set x.toNat R5) z).bind fun E10 => (idx (l.set x.toNat R5) x).bind fun E12 =>
  (spec_l3Left (ixor .i64 E10 E12) r).bind fun R14 => some ((l.set x.toNat R5).set z.toNat R14)
theorem impl_quarter_steps (l : List Wrd) (a b c d : Int) : impl_quarter l a b c d = (qi l a b d 16).bind fun l2 => (qi l2 c d b 12).bind fun l3 => (qi l3 a b d 8).bind fun l4 => qi l4 c d b 7 := by
  unfold impl_quarter qi
  simp only [Option.bind_assoc, Option.bind_some]
theorem spec_quarter_steps (l : List Int) (a b c d : Int) : spec_l3Quarter l a b c d = (qs l a b d 16).bind fun l2 => (qs l2 c d b 12).bind fun l3 => (qs l3 a b d 8).bind fun l4 => qs l4 c d b 7 := by
  unfold spec_l3Quarter qs
  simp only [Option.bind_assoc, Option.bind_some]
theorem okW_nat {l : List Wrd} (h : okW l) (k : Nat) (hk : k < l.length) : ∃ n : Nat, l[k].v = (n : Int) ∧ n < 4294967296 := by
  obtain ⟨h1, h2⟩ := h _ (List.getElem_mem hk)
  exact ⟨l[k].v.toNat, by omega, by omega⟩
theorem step_eq (l : List Wrd) (x y z r : Nat) (hl : l.length = 16) (hw : okW l) (hx : x < 16) (hy : y < 16) (hz : z < 16) (hr : r ≤ 16) :
    ∃ l', qi l (x : Int) (y : Int) (z : Int) (r : Int) = some l' ∧ qs (l.map Wrd.v) (x : Int) (y : Int) (z : Int) (r : Int) = some (l'.map Wrd.v) ∧ l'.length = 16 ∧ okW l' := by
  obtain ⟨nx, ex, hnx⟩ := okW_nat hw x (by omega)
  obtain ⟨ny, ey, hny⟩ := okW_nat hw y (by omega)
  have hsum : IntKind.u32.wrap ((nx : Int) + (ny : Int)) = (((nx + ny) % 4294967296 : Nat) : Int) := by rw [wrap32]; omega
  have hlt : (nx + ny) % 4294967296 < 4294967296 := Nat.mod_lt _ (by decide)
  have hl1 : (l.set x (Wrd.mk (((nx + ny) % 4294967296 : Nat) : Int))).length = 16 := by rw [List.length_set]; exact hl
  have hw1 : okW (l.set x (Wrd.mk (((nx + ny) % 4294967296 : Nat) : Int))) := okW_set hw ⟨by show (0 : Int) ≤ (((nx + ny) % 4294967296 : Nat) : Int); omega, by show (((nx + ny) % 4294967296 : Nat) : Int) < _; omega⟩
  obtain ⟨nz, ez, hnz⟩ := okW_nat hw1 z (by omega)
  obtain ⟨nw, ew, hnw⟩ := okW_nat hw1 x (by omega)
  have hxor := Nat.xor_lt_two_pow (n := 32) hnz hnw
  have hrl := rotN_lt (n := r) (show nz ^^^ nw < 4294967296 from hxor)
  refine ⟨(l.set x (Wrd.mk (((nx + ny) % 4294967296 : Nat) : Int))).set z (Wrd.mk (rotN (nz ^^^ nw) r : Int)), ?_, ?_, by rw [List.length_set]; exact hl1, okW_set hw1 ⟨by show (0 : Int) ≤ (rotN (nz ^^^ nw) r : Int); omega, by show (rotN (nz ^^^ nw) r : Int) < _; omega⟩⟩
  · unfold qi
    simp only [idx_nat l x (by omega), idx_nat l y (by omega), Option.bind_some, ex, ey, hsum, Int.toNat_natCast, idx_nat _ z (by omega : z < (l.set x (Wrd.mk (((nx + ny) % 4294967296 : Nat) : Int))).length), idx_nat _ x (by omega : x < (l.set x (Wrd.mk (((nx + ny) % 4294967296 : Nat) : Int))).length), ez, ew, ixor32 hnz hnw, rot32_eq hxor hr]
  · unfold qs
    have m1 : idx (l.map Wrd.v) (x : Int) = some (nx : Int) := by rw [idx_nat _ x (by simp; omega)]; simp [ex]
    have m2 : idx (l.map Wrd.v) (y : Int) = some (ny : Int) := by rw [idx_nat _ y (by simp; omega)]; simp [ey]
    have m3 : IntKind.i64.wrap ((nx : Int) + (ny : Int)) = ((nx + ny : Nat) : Int) := by rw [wrap_ok (by omega) (by omega)]; omega
    have m4 : (l.map Wrd.v).set x (((nx + ny) % 4294967296 : Nat) : Int) = (l.set x (Wrd.mk (((nx + ny) % 4294967296 : Nat) : Int))).map Wrd.v := by rw [List.map_set]
    simp only [m1, m2, Option.bind_some, m3, l3Word_eq (show nx + ny < 2 ^ 63 by omega), Int.toNat_natCast, m4]
    have m5 : idx ((l.set x (Wrd.mk (((nx + ny) % 4294967296 : Nat) : Int))).map Wrd.v) (z : Int) = some (nz : Int) := by rw [idx_nat _ z (by simp; omega)]; simp only [List.getElem_map, ez]
    have m6 : idx ((l.set x (Wrd.mk (((nx + ny) % 4294967296 : Nat) : Int))).map Wrd.v) (x : Int) = some (nw : Int) := by rw [idx_nat _ x (by simp; omega)]; simp only [List.getElem_map, ew]
    simp only [m5, m6, Option.bind_some, ixor64 (show nz < 2 ^ 63 by omega) (show nw < 2 ^ 63 by omega), l3Left_eq hxor hr]
    exact congrArg some List.map_set.symm
theorem quarter_eq (l : List Wrd) (a b c d : Nat) (hl : l.length = 16) (hw : okW l) (ha : a < 16) (hb : b < 16) (hc : c < 16) (hd : d < 16) :
    ∃ l', impl_quarter l (a : Int) (b : Int) (c : Int) (d : Int) = some l' ∧ spec_l3Quarter (l.map Wrd.v) (a : Int) (b : Int) (c : Int) (d : Int) = some (l'.map Wrd.v) ∧ l'.length = 16 ∧ okW l' := by
  obtain ⟨l1, p1, q1, r1, w1⟩ := step_eq l a b d 16 hl hw ha hb hd (by omega)
  obtain ⟨l2, p2, q2, r2, w2⟩ := step_eq l1 c d b 12 r1 w1 hc hd hb (by omega)
  obtain ⟨l3, p3, q3, r3, w3⟩ := step_eq l2 a b d 8 r2 w2 ha hb hd (by omega)
  obtain ⟨l4, p4, q4, r4, w4⟩ := step_eq l3 c d b 7 r3 w3 hc hd hb (by omega)
  refine ⟨l4, ?_, ?_, r4, w4⟩
  · rw [impl_quarter_steps, show (16 : Int) = ((16 : Nat) : Int) from rfl, p1]
    simp only [Option.bind_some]
    rw [show (12 : Int) = ((12 : Nat) : Int) from rfl, p2]
    simp only [Option.bind_some]
    rw [show (8 : Int) = ((8 : Nat) : Int) from rfl, p3]
    simp only [Option.bind_some]
    exact p4
  · rw [spec_quarter_steps, show (16 : Int) = ((16 : Nat) : Int) from rfl, q1]
    simp only [Option.bind_some]
    rw [show (12 : Int) = ((12 : Nat) : Int) from rfl, q2]
    simp only [Option.bind_some]
    rw [show (8 : Int) = ((8 : Nat) : Int) from rfl, q3]
    simp only [Option.bind_some]
    exact q4

/-- sixteen words -/
def goodW (l : List Wrd) : Prop := l.length = 16 ∧ okW l
noncomputable def qv (l : List Wrd) (a b c d : Nat) : List Wrd := (impl_quarter l (a : Int) (b : Int) (c : Int) (d : Int)).getD []
theorem qv_ok {l : List Wrd} (h : goodW l) (a b c d : Nat) (ha : a < 16) (hb : b < 16) (hc : c < 16) (hd : d < 16) :
    impl_quarter l (a : Int) (b : Int) (c : Int) (d : Int) = some (qv l a b c d) ∧ spec_l3Quarter (l.map Wrd.v) (a : Int) (b : Int) (c : Int) (d : Int) = some ((qv l a b c d).map Wrd.v) ∧ goodW (qv l a b c d) := by
  obtain ⟨l', h1, h2, h3, h4⟩ := quarter_eq l a b c d h.1 h.2 ha hb hc hd
  unfold qv
  rw [h1, h2]
  exact ⟨rfl, rfl, h3, h4⟩
noncomputable def colW (l : List Wrd) : Nat → List Wrd
  | 0 => l
  | k + 1 => qv (colW l k) k (4 + k) (8 + k) (12 + k)
noncomputable def diagW (l : List Wrd) : Nat → List Wrd
  | 0 => l
  | k + 1 => qv (diagW l k) k (4 + (k + 1) % 4) (8 + (k + 2) % 4) (12 + (k + 3) % 4)
noncomputable def roundW (l : List Wrd) : List Wrd := diagW (colW l 4) 4
noncomputable def roundsW (l : List Wrd) : Nat → List Wrd
  | 0 => l
  | k + 1 => roundW (roundsW l k)
theorem colW_good {l : List Wrd} (h : goodW l) : ∀ k, k ≤ 4 → goodW (colW l k)
  | 0, _ => h
  | k + 1, hk => (qv_ok (colW_good h k (by omega)) k (4 + k) (8 + k) (12 + k) (by omega) (by omega) (by omega) (by omega)).2.2
theorem diagW_good {l : List Wrd} (h : goodW l) : ∀ k, k ≤ 4 → goodW (diagW l k)
  | 0, _ => h
  | k + 1, hk => (qv_ok (diagW_good h k (by omega)) k (4 + (k + 1) % 4) (8 + (k + 2) % 4) (12 + (k + 3) % 4) (by omega) (by omega) (by omega) (by omega)).2.2
theorem roundW_good {l : List Wrd} (h : goodW l) : goodW (roundW l) := diagW_good (colW_good h 4 (by omega)) 4 (by omega)
theorem roundsW_good {l : List Wrd} (h : goodW l) : ∀ k, goodW (roundsW l k)
  | 0 => h
  | k + 1 => roundW_good (roundsW_good h k)
theorem col_loop {ρ : Type} {l : List Wrd} (h : goodW l) : loopO (ρ := Ctl (List Wrd) ρ) (fun (S17 : Int × List Wrd) => if (decide (S17.1 < (4 : Int))) = true then ((impl_quarter S17.2 S17.1 (IntKind.i64.wrap ((4 : Int) + S17.1)) (IntKind.i64.wrap ((8 : Int) + S17.1)) (IntKind.i64.wrap ((12 : Int) + S17.1))).bind fun R22 =>
  some (.go (IntKind.i64.wrap (S17.1 + (1 : Int)), R22)))
  else (some (.done (.go S17.2))))
  ((0 : Int), l) = some (.go (colW l 4)) := by
  rw [loopO_count (fun k => ((k : Int), colW l k)) 4 (r := Ctl.go (colW l 4)) ?h0]
  case h0 => rfl
  · intro k hk
    have e4 : IntKind.i64.wrap ((4 : Int) + (k : Int)) = ((4 + k : Nat) : Int) := by rw [wrap_ok (by omega) (by omega)]; omega
    have e8 : IntKind.i64.wrap ((8 : Int) + (k : Int)) = ((8 + k : Nat) : Int) := by rw [wrap_ok (by omega) (by omega)]; omega
    have e12 : IntKind.i64.wrap ((12 : Int) + (k : Int)) = ((12 + k : Nat) : Int) := by rw [wrap_ok (by omega) (by omega)]; omega
    simp only [e4, e8, e12, (qv_ok (colW_good h k (by omega)) k (4 + k) (8 + k) (12 + k) (by omega) (by omega) (by omega) (by omega)).1, Option.bind_some]
    rw [if_pos (by simp only [decide_eq_true_eq]; omega), wrap_ok (by omega) (by omega)]
    rfl
  · simp
theorem diag_loop {ρ : Type} {l : List Wrd} (h : goodW l) : loopO (ρ := Ctl (List Wrd) ρ) (fun (S25 : Int × List Wrd) => if (decide (S25.1 < (4 : Int))) = true then ((impl_quarter S25.2 S25.1 (IntKind.i64.wrap ((4 : Int) + (Int.tmod (IntKind.i64.wrap (S25.1 + (1 : Int))) (4 : Int)))) (IntKind.i64.wrap ((8 : Int) + (Int.tmod (IntKind.i64.wrap (S25.1 + (2 : Int))) (4 : Int)))) (IntKind.i64.wrap ((12 : Int) + (Int.tmod (IntKind.i64.wrap (S25.1 + (3 : Int))) (4 : Int))))).bind fun R30 =>
  some (.go (IntKind.i64.wrap (S25.1 + (1 : Int)), R30)))
  else (some (.done (.go S25.2))))
  ((0 : Int), l) = some (.go (diagW l 4)) := by
  rw [loopO_count (fun k => ((k : Int), diagW l k)) 4 (r := Ctl.go (diagW l 4)) ?h0]
  case h0 => rfl
  · intro k hk
    have e : ∀ (a d : Nat), a ≤ 12 → d ≤ 3 → IntKind.i64.wrap ((a : Int) + (Int.tmod (IntKind.i64.wrap ((k : Int) + (d : Int))) (4 : Int))) = ((a + (k + d) % 4 : Nat) : Int) := by
      intro a d ha hd
      rw [wrap_ok (n := (k : Int) + (d : Int)) (by omega) (by omega), show (k : Int) + (d : Int) = ((k + d : Nat) : Int) by omega, show (4 : Int) = ((4 : Nat) : Int) from rfl, ← Int.ofNat_tmod, wrap_ok (by omega) (by omega)]
      omega
    have e4 : IntKind.i64.wrap ((4 : Int) + (Int.tmod (IntKind.i64.wrap ((k : Int) + (1 : Int))) (4 : Int))) = _ := e 4 1 (by omega) (by omega)
    have e8 : IntKind.i64.wrap ((8 : Int) + (Int.tmod (IntKind.i64.wrap ((k : Int) + (2 : Int))) (4 : Int))) = _ := e 8 2 (by omega) (by omega)
    have e12 : IntKind.i64.wrap ((12 : Int) + (Int.tmod (IntKind.i64.wrap ((k : Int) + (3 : Int))) (4 : Int))) = _ := e 12 3 (by omega) (by omega)
    simp only [e4, e8, e12, (qv_ok (diagW_good h k (by omega)) k (4 + (k + 1) % 4) (8 + (k + 2) % 4) (12 + (k + 3) % 4) (by omega) (by omega) (by omega) (by omega)).1, Option.bind_some]
    rw [if_pos (by simp only [decide_eq_true_eq]; omega), wrap_ok (by omega) (by omega)]
    rfl
  · simp
theorem spec_round {l : List Wrd} (h : goodW l) {β : Type} (f : List Int → Option β) : ((spec_l3Quarter (l.map Wrd.v) (0 : Int) (4 : Int) (8 : Int) (12 : Int)).bind fun R36 =>
  (spec_l3Quarter R36 (1 : Int) (5 : Int) (9 : Int) (13 : Int)).bind fun R39 =>
  (spec_l3Quarter R39 (2 : Int) (6 : Int) (10 : Int) (14 : Int)).bind fun R42 =>
  (spec_l3Quarter R42 (3 : Int) (7 : Int) (11 : Int) (15 : Int)).bind fun R45 =>
  (spec_l3Quarter R45 (0 : Int) (5 : Int) (10 : Int) (15 : Int)).bind fun R48 =>
  (spec_l3Quarter R48 (1 : Int) (6 : Int) (11 : Int) (12 : Int)).bind fun R51 =>
  (spec_l3Quarter R51 (2 : Int) (7 : Int) (8 : Int) (13 : Int)).bind fun R54 =>
  (spec_l3Quarter R54 (3 : Int) (4 : Int) (9 : Int) (14 : Int)).bind fun R57 => f R57) = f ((roundW l).map Wrd.v) := by
  have c0 : spec_l3Quarter (l.map Wrd.v) (0 : Int) (4 : Int) (8 : Int) (12 : Int) = some ((colW l 1).map Wrd.v) := (qv_ok h 0 4 8 12 (by omega) (by omega) (by omega) (by omega)).2.1
  have c1 : spec_l3Quarter ((colW l 1).map Wrd.v) (1 : Int) (5 : Int) (9 : Int) (13 : Int) = some ((colW l 2).map Wrd.v) := (qv_ok (colW_good h 1 (by omega)) 1 5 9 13 (by omega) (by omega) (by omega) (by omega)).2.1
  have c2 : spec_l3Quarter ((colW l 2).map Wrd.v) (2 : Int) (6 : Int) (10 : Int) (14 : Int) = some ((colW l 3).map Wrd.v) := (qv_ok (colW_good h 2 (by omega)) 2 6 10 14 (by omega) (by omega) (by omega) (by omega)).2.1
  have c3 : spec_l3Quarter ((colW l 3).map Wrd.v) (3 : Int) (7 : Int) (11 : Int) (15 : Int) = some ((colW l 4).map Wrd.v) := (qv_ok (colW_good h 3 (by omega)) 3 7 11 15 (by omega) (by omega) (by omega) (by omega)).2.1
  have g := colW_good h 4 (by omega)
  have d0 : spec_l3Quarter ((colW l 4).map Wrd.v) (0 : Int) (5 : Int) (10 : Int) (15 : Int) = some ((diagW (colW l 4) 1).map Wrd.v) := (qv_ok g 0 5 10 15 (by omega) (by omega) (by omega) (by omega)).2.1
  have d1 : spec_l3Quarter ((diagW (colW l 4) 1).map Wrd.v) (1 : Int) (6 : Int) (11 : Int) (12 : Int) = some ((diagW (colW l 4) 2).map Wrd.v) := (qv_ok (diagW_good g 1 (by omega)) 1 6 11 12 (by omega) (by omega) (by omega) (by omega)).2.1
  have d2 : spec_l3Quarter ((diagW (colW l 4) 2).map Wrd.v) (2 : Int) (7 : Int) (8 : Int) (13 : Int) = some ((diagW (colW l 4) 3).map Wrd.v) := (qv_ok (diagW_good g 2 (by omega)) 2 7 8 13 (by omega) (by omega) (by omega) (by omega)).2.1
  have d3 : spec_l3Quarter ((diagW (colW l 4) 3).map Wrd.v) (3 : Int) (4 : Int) (9 : Int) (14 : Int) = some ((diagW (colW l 4) 4).map Wrd.v) := (qv_ok (diagW_good g 3 (by omega)) 3 4 9 14 (by omega) (by omega) (by omega) (by omega)).2.1
  simp only [c0, c1, c2, c3, d0, d1, d2, d3, Option.bind_some]
  rfl
/-- the words of a string -/
noncomputable def kN (s : List UInt8) (i : Nat) : Nat := ((spec_l3Little s ((4 * i : Nat) : Int)).getD 0).toNat
theorem kN_ok (s : List UInt8) (i : Nat) (h : 4 * i + 3 < s.length) (hs : s.length ≤ 1048576) : spec_l3Little s ((4 * i : Nat) : Int) = some (kN s i : Int) ∧ impl_little s ((4 * i : Nat) : Int) = some (kN s i : Int) ∧ kN s i < 4294967296 := by
  obtain ⟨n, h1, h2, h3⟩ := little_some s (4 * i) h hs
  have e : kN s i = n := by unfold kN; rw [h1]; rfl
  rw [e]
  exact ⟨h1, h2, h3⟩
noncomputable def selW (k : Nat) (i : Nat) (n : Nat) : Wrd := bif Nat.blt i k then Wrd.mk (n : Int) else Wrd.mk 0
noncomputable def firstK (key : List UInt8) (k : Nat) : List Wrd := [Wrd.mk 1634760805, Wrd.mk 857760878, Wrd.mk 2036477234, Wrd.mk 1797285236, selW k 0 (kN key 0), selW k 1 (kN key 1), selW k 2 (kN key 2), selW k 3 (kN key 3), selW k 4 (kN key 4), selW k 5 (kN key 5), selW k 6 (kN key 6), selW k 7 (kN key 7), Wrd.mk 0, Wrd.mk 0, Wrd.mk 0, Wrd.mk 0]
noncomputable def firstN (key : List UInt8) (counter : Int) (nonce : List UInt8) (k : Nat) : List Wrd := [Wrd.mk 1634760805, Wrd.mk 857760878, Wrd.mk 2036477234, Wrd.mk 1797285236, Wrd.mk (kN key 0 : Int), Wrd.mk (kN key 1 : Int), Wrd.mk (kN key 2 : Int), Wrd.mk (kN key 3 : Int), Wrd.mk (kN key 4 : Int), Wrd.mk (kN key 5 : Int), Wrd.mk (kN key 6 : Int), Wrd.mk (kN key 7 : Int), Wrd.mk counter, selW k 0 (kN nonce 0), selW k 1 (kN nonce 1), selW k 2 (kN nonce 2)]
theorem firstWords_eq (key : List UInt8) (counter : Int) (nonce : List UInt8) (hk : key.length = 32) (hc : 0 ≤ counter ∧ counter ≤ 4294967295) (hn : nonce.length = 12) : impl_firstWords key counter nonce = some (firstN key counter nonce 3) := by
  unfold impl_firstWords
  have hw : IntKind.u32.wrap counter = counter := by rw [wrap32]; omega
  have hl : ∀ l : List Wrd, l.length = 16 → lenIs 16 l = some () := fun l h => by unfold lenIs; rw [if_pos h]
  rw [hl _ rfl]
  simp only [Option.bind_some]
  rw [loopO_count (fun k => ((k : Int), firstK key k)) 8 (r := Ctl.go (firstK key 8)) ?h0]
  case h0 => rfl
  · simp only [bindC_go]
    rw [show (12 : Int) = ((12 : Nat) : Int) from rfl, idx_nat (firstK key 8) 12 (by show 12 < 16; omega)]
    simp only [Option.bind_some, Int.toNat_natCast, hw]
    rw [loopO_count (fun k => ((k : Int), firstN key counter nonce k)) 3 (r := Ctl.go (firstN key counter nonce 3)) ?h1]
    case h1 => rfl
    · simp only [bindC_go]
      rw [hl _ rfl]
      rfl
    · intro k h3
      have e4 : IntKind.i64.wrap ((4 : Int) * (k : Int)) = ((4 * k : Nat) : Int) := by rw [wrap_ok (by omega) (by omega)]; omega
      have e13 : IntKind.i64.wrap ((13 : Int) + (k : Int)) = ((13 + k : Nat) : Int) := by rw [wrap_ok (by omega) (by omega)]; omega
      simp only [e4, e13, (kN_ok nonce k (by omega) (by omega)).2.1, Option.bind_some, idx_nat (firstN key counter nonce k) (13 + k) (by show 13 + k < 16; omega), Int.toNat_natCast]
      rw [if_pos (by simp only [decide_eq_true_eq]; omega), wrap_ok (by omega) (by omega)]
      have h4 : k = 0 ∨ k = 1 ∨ k = 2 := by omega
      rcases h4 with rfl | rfl | rfl <;> rfl
    · rfl
  · intro k h8
    have e4 : IntKind.i64.wrap ((4 : Int) * (k : Int)) = ((4 * k : Nat) : Int) := by rw [wrap_ok (by omega) (by omega)]; omega
    have e44 : IntKind.i64.wrap ((4 : Int) + (k : Int)) = ((4 + k : Nat) : Int) := by rw [wrap_ok (by omega) (by omega)]; omega
    simp only [e4, e44, (kN_ok key k (by omega) (by omega)).2.1, Option.bind_some, idx_nat (firstK key k) (4 + k) (by show 4 + k < 16; omega), Int.toNat_natCast]
    rw [if_pos (by simp only [decide_eq_true_eq]; omega), wrap_ok (by omega) (by omega)]
    have h4 : k = 0 ∨ k = 1 ∨ k = 2 ∨ k = 3 ∨ k = 4 ∨ k = 5 ∨ k = 6 ∨ k = 7 := by omega
    rcases h4 with rfl | rfl | rfl | rfl | rfl | rfl | rfl | rfl <;> rfl
  · rfl
theorem firstN_good (key : List UInt8) (counter : Int) (nonce : List UInt8) (hk : key.length = 32) (hc : 0 ≤ counter ∧ counter ≤ 4294967295) (hn : nonce.length = 12) : goodW (firstN key counter nonce 3) := by
  refine ⟨rfl, ?_⟩
  have a : ∀ i, i < 8 → kN key i < 4294967296 := fun i hi => (kN_ok key i (by omega) (by omega)).2.2
  have b : ∀ i, i < 3 → kN nonce i < 4294967296 := fun i hi => (kN_ok nonce i (by omega) (by omega)).2.2
  have a0 := a 0 (by omega)
  have a1 := a 1 (by omega)
  have a2 := a 2 (by omega)
  have a3 := a 3 (by omega)
  have a4 := a 4 (by omega)
  have a5 := a 5 (by omega)
  have a6 := a 6 (by omega)
  have a7 := a 7 (by omega)
  have b0 := b 0 (by omega)
  have b1 := b 1 (by omega)
  have b2 := b 2 (by omega)
  have s0 : selW 3 0 (kN nonce 0) = Wrd.mk (kN nonce 0 : Int) := rfl
  have s1 : selW 3 1 (kN nonce 1) = Wrd.mk (kN nonce 1 : Int) := rfl
  have s2 : selW 3 2 (kN nonce 2) = Wrd.mk (kN nonce 2 : Int) := rfl
  intro x hx
  unfold firstN at hx
  rw [s0, s1, s2] at hx
  simp only [List.mem_cons, List.not_mem_nil, or_false] at hx
  rcases hx with rfl | rfl | rfl | rfl | rfl | rfl | rfl | rfl | rfl | rfl | rfl | rfl | rfl | rfl | rfl | rfl <;> simp only <;> omega
def bytes4 (n : Nat) : List UInt8 := [toU8 (n : Int), toU8 ((n / 256 : Nat) : Int), toU8 ((n / 65536 : Nat) : Int), toU8 ((n / 16777216 : Nat) : Int)]
/-- the bytes of the first k words -/
noncomputable def outW (w s : List Wrd) : Nat → List UInt8
  | 0 => []
  | k + 1 => outW w s k ++ (match w[k]?, s[k]? with | some x, some y => bytes4 ((x.v + y.v).toNat % 4294967296) | _, _ => [])
theorem outW_succ (w s : List Wrd) (k : Nat) (hw : k < w.length) (hs : k < s.length) : outW w s (k + 1) = outW w s k ++ bytes4 ((w[k].v + s[k].v).toNat % 4294967296) := by
  show outW w s k ++ (match w[k]?, s[k]? with | some x, some y => _ | _, _ => _) = _
  rw [List.getElem?_eq_getElem hw, List.getElem?_eq_getElem hs]
theorem outW_len (w s : List Wrd) (hw : w.length = 16) (hs : s.length = 16) : ∀ k, k ≤ 16 → (outW w s k).length = 4 * k
  | 0, _ => rfl
  | k + 1, hk => by
    rw [outW_succ w s k (by omega) (by omega), List.length_append, outW_len w s hw hs k (by omega)]
    show 4 * k + 4 = _
    omega
theorem toU8_mod (n : Nat) : toU8 ((n % 256 : Nat) : Int) = toU8 (n : Int) := by
  unfold toU8
  congr 1
  omega
noncomputable def chaR (key : List UInt8) (counter : Int) (nonce : List UInt8) : List UInt8 := outW (roundsW (firstN key counter nonce 3) 10) (firstN key counter nonce 3) 16
def chaOk (key : List UInt8) (counter : Int) (nonce : List UInt8) : Bool := decide (key.length = 32) && (decide (nonce.length = 12) && decide (0 ≤ counter ∧ counter ≤ 4294967295))
noncomputable def chaV (key : List UInt8) (counter : Int) (nonce : List UInt8) : List UInt8 := bif chaOk key counter nonce then chaR key counter nonce else []
theorem chaOk_iff {key : List UInt8} {counter : Int} {nonce : List UInt8} (h : chaOk key counter nonce = true) : key.length = 32 ∧ nonce.length = 12 ∧ 0 ≤ counter ∧ counter ≤ 4294967295 := by
  unfold chaOk at h
  simp only [Bool.and_eq_true, decide_eq_true_eq] at h
  exact h
theorem chaV_len (key : List UInt8) (counter : Int) (nonce : List UInt8) (h : chaOk key counter nonce = true) : (chaV key counter nonce).length = 64 := by
  obtain ⟨h1, h2, h3⟩ := chaOk_iff h
  have g := firstN_good key counter nonce h1 h3 h2
  unfold chaV chaR
  rw [h]
  exact outW_len _ _ (roundsW_good g 10).1 g.1 16 (Nat.le_refl _)
theorem impl_isCha_eq (key : List UInt8) (counter : Int) (nonce : List UInt8) : impl_isCha key counter nonce = some (chaOk key counter nonce) := by
  unfold impl_isCha chaOk
  have e1 : decide (((key.length : Nat) : Int) = 32) = decide (key.length = 32) := decide_eq_decide.2 (by omega)
  have e2 : decide (((nonce.length : Nat) : Int) = 12) = decide (nonce.length = 12) := decide_eq_decide.2 (by omega)
  rw [e1, e2, inRange_eq]
  cases decide (key.length = 32) <;> cases decide (nonce.length = 12) <;> cases decide (0 ≤ counter ∧ counter ≤ 4294967295) <;> rfl
theorem impl_ChaBlock_eq (key : List UInt8) (counter : Int) (nonce : List UInt8) : impl_ChaBlock key counter nonce = some (chaV key counter nonce) := by
  unfold impl_ChaBlock chaV
  rw [impl_isCha_eq]
  cases hok : chaOk key counter nonce with
  | false => rfl
  | true =>
    obtain ⟨h1, h2, h3⟩ := chaOk_iff hok
    have g := firstN_good key counter nonce h1 h3 h2
    have hl : ∀ l : List Wrd, l.length = 16 → lenIs 16 l = some () := fun l h => by unfold lenIs; rw [if_pos h]
    simp only [Option.bind_some, Bool.not_true, Bool.false_eq_true, if_false, cond_true, firstWords_eq key counter nonce h1 h3 h2, hl _ g.1]
    unfold chaR
    generalize firstN key counter nonce 3 = s at g
    rw [loopO_count (fun k => ((k : Int), roundsW s k)) 10 (r := Ctl.go (roundsW s 10)) ?h0]
    case h0 => rfl
    · have gw := roundsW_good g 10
      simp only [bindC_go, show mkLen 1 (64 : Int) = some 64 from rfl, Option.bind_some]
      rw [loopO_count (fun k => ((k : Int), outW (roundsW s 10) s k)) 16 (r := Ctl.go (outW (roundsW s 10) s 16)) ?h1]
      case h1 => rfl
      · rfl
      · intro k hk
        obtain ⟨n, en, hn⟩ := okW_nat gw.2 k (by rw [gw.1]; exact hk)
        obtain ⟨m, em, hm⟩ := okW_nat g.2 k (by rw [g.1]; exact hk)
        have ho := outW_len (roundsW s 10) s gw.1 g.1 k (by omega)
        simp only [hl _ gw.1, idx_nat (roundsW s 10) k (by rw [gw.1]; exact hk), idx_nat s k (by rw [g.1]; exact hk), Option.bind_some, en, em]
        have e0 : IntKind.u32.wrap ((n : Int) + (m : Int)) = (((n + m) % 4294967296 : Nat) : Int) := by rw [wrap32]; omega
        rw [e0, show (8 : Int) = ((8 : Nat) : Int) from rfl, show (24 : Int) = ((24 : Nat) : Int) from rfl, ishr_nat (by decide), ishr_nat (by decide)]
        rw [show ishr .u32 (((n + m) % 4294967296 : Nat) : Int) (16 : Int) = _ from ishr_nat (n := 16) (by decide)]
        rw [if_pos (by simp only [decide_eq_true_eq]; omega), wrap_ok (by omega) (by omega), app_ok (by rw [ho]; simp; omega) (by rw [ho]; simp; omega)]
        simp only [Option.bind_some]
        rw [outW_succ _ _ k (by rw [gw.1]; exact hk) (by rw [g.1]; exact hk), en, em]
        rfl
      · simp
    · intro k hk
      have gk := roundsW_good g k
      simp only [col_loop gk, bindC_go, diag_loop (colW_good gk 4 (by omega))]
      rw [if_pos (by simp only [decide_eq_true_eq]; omega), wrap_ok (by omega) (by omega)]
      rfl
    · simp
theorem bind_of {α β : Type} {x : Option α} {a : α} {f : α → Option β} {r : Option β} (h : x = some a) (h2 : f a = r) : x.bind f = r := by rw [h]; exact h2
theorem spec_ChaBlock_eq (key : List UInt8) (counter : Int) (nonce : List UInt8) : spec_ChaBlock key counter nonce = some (chaV key counter nonce) := by
  unfold spec_ChaBlock chaV
  have e1 : decide (((key.length : Nat) : Int) = 32) = decide (key.length = 32) := decide_eq_decide.2 (by omega)
  have e2 : decide (((nonce.length : Nat) : Int) = 12) = decide (nonce.length = 12) := decide_eq_decide.2 (by omega)
  rw [e1, e2, l1In_eq]
  cases hok : chaOk key counter nonce with
  | false =>
    unfold chaOk at hok
    cases a1 : decide (key.length = 32) with
    | false => rfl
    | true =>
      cases a2 : decide (nonce.length = 12) with
      | false => rfl
      | true =>
        rw [a1, a2] at hok
        cases a3 : decide (0 ≤ counter ∧ counter ≤ 4294967295) with
        | false => rfl
        | true => rw [a3] at hok; cases hok
  | true =>
    obtain ⟨h1, h2, h3⟩ := chaOk_iff hok
    have g := firstN_good key counter nonce h1 h3 h2
    rw [decide_eq_true h1, decide_eq_true h2, decide_eq_true h3]
    simp only [Option.bind_some, Bool.not_true, Bool.false_eq_true, if_false, cond_true]
    unfold spec_l3Block chaR
    rw [loopO_count (fun k => ((k : Int), ((firstN key counter nonce 3).map Wrd.v).take (4 + k))) 8 (r := Ctl.go (((firstN key counter nonce 3).map Wrd.v).take 12)) ?h0]
    case h0 => rfl
    · have n0 : spec_l3Little nonce (0 : Int) = some (kN nonce 0 : Int) := (kN_ok nonce 0 (by omega) (by omega)).1
      have n1 : spec_l3Little nonce (4 : Int) = some (kN nonce 1 : Int) := (kN_ok nonce 1 (by omega) (by omega)).1
      have n2 : spec_l3Little nonce (8 : Int) = some (kN nonce 2 : Int) := (kN_ok nonce 2 (by omega) (by omega)).1
      have t1 : app 8 (((firstN key counter nonce 3).map Wrd.v).take 12) [counter, (kN nonce 0 : Int), (kN nonce 1 : Int), (kN nonce 2 : Int)] = some ((firstN key counter nonce 3).map Wrd.v) := by
        rw [app_ok (by show (12 + 4) * 8 ≤ _; omega) (by show 12 + 4 ≤ _; omega)]
        unfold firstN
        generalize kN nonce 0 = x0
        generalize kN nonce 1 = x1
        generalize kN nonce 2 = x2
        generalize kN key 0 = y0
        generalize kN key 1 = y1
        generalize kN key 2 = y2
        generalize kN key 3 = y3
        generalize kN key 4 = y4
        generalize kN key 5 = y5
        generalize kN key 6 = y6
        generalize kN key 7 = y7
        rfl
      have t2 : app 8 ([] : List Int) ((firstN key counter nonce 3).map Wrd.v) = some ((firstN key counter nonce 3).map Wrd.v) := by
        rw [app_ok (by show (0 + 16) * 8 ≤ _; omega) (by show 0 + 16 ≤ _; omega)]
        rfl
      simp only [bindC_go, n0, n1, n2, Option.bind_some, t1, t2]
      generalize firstN key counter nonce 3 = s at g
      rw [loopO_count (fun k => ((k : Int), (roundsW s k).map Wrd.v)) 10 (r := Ctl.go ((roundsW s 10).map Wrd.v)) ?h1]
      case h1 => rfl
      · have gw := roundsW_good g 10
        simp only [bindC_go]
        generalize roundsW s 10 = w at gw
        rw [loopO_count (fun k => ((k : Int), outW (w) s k)) 16 (r := Ctl.go (outW (w) s 16)) ?h2]
        case h2 => rfl
        · rfl
        · intro k hk
          have hkw : k < (w).length := by rw [gw.1]; exact hk
          have hks : k < s.length := by rw [g.1]; exact hk
          obtain ⟨n, en, hn⟩ := okW_nat gw.2 k hkw
          obtain ⟨m, em, hm⟩ := okW_nat g.2 k hks
          have ho := outW_len (w) s gw.1 g.1 k (by omega)
          have i1 : idx ((w).map Wrd.v) (k : Int) = some (n : Int) := by rw [idx_nat _ k (by simpa using hkw)]; simp only [List.getElem_map, en]
          have i2 : idx (s.map Wrd.v) (k : Int) = some (m : Int) := by rw [idx_nat _ k (by simpa using hks)]; simp only [List.getElem_map, em]
          have e0 : IntKind.i64.wrap ((n : Int) + (m : Int)) = ((n + m : Nat) : Int) := by rw [wrap_ok (by omega) (by omega)]; omega
          have hx : (n + m) % 4294967296 < 4294967296 := Nat.mod_lt _ (by decide)
          have hw : spec_l3Word (IntKind.i64.wrap ((n : Int) + (m : Int))) = some (((n + m) % 4294967296 : Nat) : Int) := by rw [e0]; exact l3Word_eq (by omega)
          generalize hxe : (n + m) % 4294967296 = x at hx hw
          rw [if_pos (by simp only [decide_eq_true_eq]; omega)]
          refine bind_of i1 (bind_of i2 (bind_of hw ?_))
          have a0 : toU8 (iand .i64 (x : Int) (255 : Int)) = toU8 (x : Int) := by
            rw [show (255 : Int) = ((255 : Nat) : Int) from rfl, iand64 (by omega) (by decide), show x &&& 255 = x % 256 from Nat.and_two_pow_sub_one_eq_mod x 8, toU8_mod]
          have a1 : toU8 (iand .i64 (ishr .i64 (x : Int) (8 : Int)) (255 : Int)) = toU8 ((x / 256 : Nat) : Int) := by
            rw [show ishr .i64 (x : Int) (8 : Int) = ((x / 256 : Nat) : Int) from ishr_nat (n := 8) (by decide), show (255 : Int) = ((255 : Nat) : Int) from rfl, iand64 (by omega) (by decide), show x / 256 &&& 255 = x / 256 % 256 from Nat.and_two_pow_sub_one_eq_mod _ 8, toU8_mod]
          have a2 : toU8 (iand .i64 (ishr .i64 (x : Int) (16 : Int)) (255 : Int)) = toU8 ((x / 65536 : Nat) : Int) := by
            rw [show ishr .i64 (x : Int) (16 : Int) = ((x / 65536 : Nat) : Int) from ishr_nat (n := 16) (by decide), show (255 : Int) = ((255 : Nat) : Int) from rfl, iand64 (by omega) (by decide), show x / 65536 &&& 255 = x / 65536 % 256 from Nat.and_two_pow_sub_one_eq_mod _ 8, toU8_mod]
          have a3 : ishr .i64 (x : Int) (24 : Int) = ((x / 16777216 : Nat) : Int) := ishr_nat (n := 24) (by decide)
          rw [a0, a1, a2, a3, wrap_ok (by omega) (by omega), app_ok (by rw [ho]; simp; omega) (by rw [ho]; simp; omega)]
          simp only [Option.bind_some]
          rw [outW_succ _ _ k hkw hks, en, em, show ((n : Int) + (m : Int)).toNat = n + m by omega, hxe]
          rfl
        · simp
      · intro k hk
        simp only
        rw [if_pos (by simp only [decide_eq_true_eq]; omega), wrap_ok (n := (k : Int) + 1) (by omega) (by omega)]
        exact spec_round (roundsW_good g k) (fun R57 => some (Ctl.go ((k : Int) + 1, R57)))
      · simp
    · intro k hk
      have e4 : IntKind.i64.wrap ((4 : Int) * (k : Int)) = ((4 * k : Nat) : Int) := by rw [wrap_ok (by omega) (by omega)]; omega
      simp only [e4, (kN_ok key k (by omega) (by omega)).1, Option.bind_some]
      rw [if_pos (by simp only [decide_eq_true_eq]; omega), wrap_ok (by omega) (by omega), app_ok (by rw [List.length_take]; simp; omega) (by rw [List.length_take]; simp; omega)]
      have h4 : k = 0 ∨ k = 1 ∨ k = 2 ∨ k = 3 ∨ k = 4 ∨ k = 5 ∨ k = 6 ∨ k = 7 := by omega
      unfold firstN
      rcases h4 with rfl | rfl | rfl | rfl | rfl | rfl | rfl | rfl
      · generalize kN nonce 0 = x0
        generalize kN nonce 1 = x1
        generalize kN nonce 2 = x2
        generalize kN key 0 = y0
        generalize kN key 1 = y1
        generalize kN key 2 = y2
        generalize kN key 3 = y3
        generalize kN key 4 = y4
        generalize kN key 5 = y5
        generalize kN key 6 = y6
        generalize kN key 7 = y7
        rfl
      · generalize kN nonce 0 = x0
        generalize kN nonce 1 = x1
        generalize kN nonce 2 = x2
        generalize kN key 0 = y0
        generalize kN key 1 = y1
        generalize kN key 2 = y2
        generalize kN key 3 = y3
        generalize kN key 4 = y4
        generalize kN key 5 = y5
        generalize kN key 6 = y6
        generalize kN key 7 = y7
        rfl
      · generalize kN nonce 0 = x0
        generalize kN nonce 1 = x1
        generalize kN nonce 2 = x2
        generalize kN key 0 = y0
        generalize kN key 1 = y1
        generalize kN key 2 = y2
        generalize kN key 3 = y3
        generalize kN key 4 = y4
        generalize kN key 5 = y5
        generalize kN key 6 = y6
        generalize kN key 7 = y7
        rfl
      · generalize kN nonce 0 = x0
        generalize kN nonce 1 = x1
        generalize kN nonce 2 = x2
        generalize kN key 0 = y0
        generalize kN key 1 = y1
        generalize kN key 2 = y2
        generalize kN key 3 = y3
        generalize kN key 4 = y4
        generalize kN key 5 = y5
        generalize kN key 6 = y6
        generalize kN key 7 = y7
        rfl
      · generalize kN nonce 0 = x0
        generalize kN nonce 1 = x1
        generalize kN nonce 2 = x2
        generalize kN key 0 = y0
        generalize kN key 1 = y1
        generalize kN key 2 = y2
        generalize kN key 3 = y3
        generalize kN key 4 = y4
        generalize kN key 5 = y5
        generalize kN key 6 = y6
        generalize kN key 7 = y7
        rfl
      · generalize kN nonce 0 = x0
        generalize kN nonce 1 = x1
        generalize kN nonce 2 = x2
        generalize kN key 0 = y0
        generalize kN key 1 = y1
        generalize kN key 2 = y2
        generalize kN key 3 = y3
        generalize kN key 4 = y4
        generalize kN key 5 = y5
        generalize kN key 6 = y6
        generalize kN key 7 = y7
        rfl
      · generalize kN nonce 0 = x0
        generalize kN nonce 1 = x1
        generalize kN nonce 2 = x2
        generalize kN key 0 = y0
        generalize kN key 1 = y1
        generalize kN key 2 = y2
        generalize kN key 3 = y3
        generalize kN key 4 = y4
        generalize kN key 5 = y5
        generalize kN key 6 = y6
        generalize kN key 7 = y7
        rfl
      · generalize kN nonce 0 = x0
        generalize kN nonce 1 = x1
        generalize kN nonce 2 = x2
        generalize kN key 0 = y0
        generalize kN key 1 = y1
        generalize kN key 2 = y2
        generalize kN key 3 = y3
        generalize kN key 4 = y4
        generalize kN key 5 = y5
        generalize kN key 6 = y6
        generalize kN key 7 = y7
        rfl
    · simp

/-- bytes of a number, the highest first -/
def fixV (n : Nat) : Nat → List UInt8
  | 0 => []
  | j + 1 => toU8 ((n / 256 ^ j : Nat) : Int) :: fixV n j
theorem fixV_len (n : Nat) : ∀ j, (fixV n j).length = j
  | 0 => rfl
  | j + 1 => by rw [fixV, List.length_cons, fixV_len n j]
theorem div_pow_succ (n b j : Nat) : n / b ^ j / b = n / b ^ (j + 1) := by rw [Nat.div_div_eq_div_mul, Nat.pow_succ]
def fixedV (n w : Int) : List UInt8 := bif decide (1 ≤ w ∧ w ≤ 7) && (decide (0 ≤ n) && decide (n.toNat / 256 ^ w.toNat = 0)) then fixV n.toNat w.toNat else []
theorem spec_Fixed_eq (n w : Int) (hn : n ≤ 4611686018427387904) : spec_Fixed n w = some (fixedV n w) := by
  unfold spec_Fixed fixedV
  rw [l1In_eq]
  by_cases h1 : 1 ≤ w ∧ w ≤ 7
  · rw [decide_eq_true h1]
    by_cases h2 : 0 ≤ n
    · obtain ⟨m, rfl⟩ : ∃ m : Nat, n = (m : Int) := ⟨n.toNat, by omega⟩
      obtain ⟨u, rfl⟩ : ∃ u : Nat, w = (u : Int) := ⟨w.toNat, by omega⟩
      rw [decide_eq_true h2, decide_eq_false (by omega : ¬ (m : Int) < 0)]
      simp only [Option.bind_some, Bool.not_true, Bool.false_eq_true, if_false, Int.toNat_natCast]
      rw [loopO_count (fun j => (((m / 256 ^ j : Nat) : Int), fixV m j, (j : Int))) u (r := Ctl.go (((m / 256 ^ u : Nat) : Int), fixV m u)) ?h0]
      case h0 => simp [fixV]
      · simp only [bindC_go]
        by_cases h3 : m / 256 ^ u = 0
        · rw [decide_eq_true h3, decide_eq_false (by rw [h3]; decide : ¬ ((m / 256 ^ u : Nat) : Int) > 0)]; rfl
        · have h4 : ((m / 256 ^ u : Nat) : Int) > 0 := Int.ofNat_lt.2 (Nat.pos_of_ne_zero h3)
          rw [decide_eq_false h3, decide_eq_true h4]; rfl
      · intro j hj
        have e1 : Int.tmod ((m / 256 ^ j : Nat) : Int) (256 : Int) = ((m / 256 ^ j % 256 : Nat) : Int) := by rw [show (256 : Int) = ((256 : Nat) : Int) from rfl, ← Int.ofNat_tmod]
        have e2 : Int.tdiv ((m / 256 ^ j : Nat) : Int) (256 : Int) = ((m / 256 ^ (j + 1) : Nat) : Int) := by rw [show (256 : Int) = ((256 : Nat) : Int) from rfl, ← Int.ofNat_tdiv, div_pow_succ]
        have e3 : ((m / 256 ^ (j + 1) : Nat) : Int) ≤ (m : Int) := Int.ofNat_le.2 (Nat.div_le_self _ _)
        have e4 : (0 : Int) ≤ ((m / 256 ^ (j + 1) : Nat) : Int) := Int.natCast_nonneg _
        have hl := fixV_len m j
        simp only [e1, e2, toU8_mod]
        rw [if_pos (by simp only [decide_eq_true_eq]; omega), wrap_ok (n := (j : Int) + 1) (by omega) (by omega), wrap_ok (by omega) (by omega)]
        rw [cat_ok (by rw [hl]; simp; omega)]
        rfl
      · simp
    · rw [decide_eq_false h2, decide_eq_true (by omega : n < 0)]
      rfl
  · rw [decide_eq_false h1]
    rfl
theorem impl_Fixed_eq (n w : Int) (hn : n ≤ 4611686018427387904) : impl_Fixed n w = some (fixedV n w) := by
  unfold impl_Fixed fixedV
  rw [inRange_eq]
  by_cases h1 : 1 ≤ w ∧ w ≤ 7
  · rw [decide_eq_true h1]
    by_cases h2 : 0 ≤ n
    · obtain ⟨m, rfl⟩ : ∃ m : Nat, n = (m : Int) := ⟨n.toNat, by omega⟩
      obtain ⟨u, rfl⟩ : ∃ u : Nat, w = (u : Int) := ⟨w.toNat, by omega⟩
      have e0 : IntKind.u64.wrap (IntKind.i64.wrap ((8 : Int) * (u : Int))) = ((8 * u : Nat) : Int) := by rw [wrap_ok (by omega) (by omega), wrap64u]; omega
      have e5 : ishr .i64 (m : Int) ((8 * u : Nat) : Int) = ((m / 256 ^ u : Nat) : Int) := by
        rw [ishr_nat (by show 8 * u ≤ 64; omega), Nat.pow_mul]
      have e6 : decide (((m / 256 ^ u : Nat) : Int) = 0) = decide (m / 256 ^ u = 0) := decide_eq_decide.2 (by omega)
      rw [decide_eq_true h2, decide_eq_false (by omega : ¬ (m : Int) < 0)]
      simp only [Option.bind_some, Bool.not_true, Bool.false_eq_true, if_false, Int.toNat_natCast, e0, e5, e6]
      by_cases h3 : m / 256 ^ u = 0
      · rw [decide_eq_true h3]
        simp only [Bool.not_true, Bool.false_eq_true, if_false, Bool.true_and, cond_true]
        rw [mkLen_ok (by omega) (by omega)]
        simp only [Option.bind_some]
        rw [loopO_count (fun j => (((m / 256 ^ j : Nat) : Int), (u : Int) - 1 - (j : Int), List.replicate (u - j) (0 : UInt8) ++ fixV m j)) u (r := Ctl.go (fixV m u)) ?h0]
        case h0 => rw [wrap_ok (by omega) (by omega)]; simp [fixV]
        · rfl
        · intro j hj
          have e1 : ishr .i64 ((m / 256 ^ j : Nat) : Int) (8 : Int) = ((m / 256 ^ (j + 1) : Nat) : Int) := by
            rw [show ishr .i64 ((m / 256 ^ j : Nat) : Int) (8 : Int) = ((m / 256 ^ j / 256 : Nat) : Int) from ishr_nat (n := 8) (by decide), div_pow_succ]
          have hl := fixV_len m j
          have hi : (u : Int) - 1 - (j : Int) = ((u - 1 - j : Nat) : Int) := by omega
          have hlen : u - 1 - j < (List.replicate (u - j) (0 : UInt8) ++ fixV m j).length := by simp; omega
          have hset : (List.replicate (u - j) (0 : UInt8) ++ fixV m j).set (u - 1 - j) (toU8 ((m / 256 ^ j : Nat) : Int)) = List.replicate (u - (j + 1)) (0 : UInt8) ++ fixV m (j + 1) := by
            rw [show u - j = (u - (j + 1)) + 1 by omega, List.replicate_succ', List.append_assoc, show u - 1 - j = u - (j + 1) by omega, List.set_append_right _ _ (by simp)]
            simp [fixV]
          simp only [hi, e1, idx_nat _ _ hlen, Option.bind_some, Int.toNat_natCast, hset]
          rw [if_pos (by simp only [decide_eq_true_eq]; omega), wrap_ok (by omega) (by omega)]
          rw [show ((u - 1 - j : Nat) : Int) - 1 = (u : Int) - 1 - ((j + 1 : Nat) : Int) by omega]
        · rw [if_neg (by simp only [decide_eq_true_eq]; omega)]
          simp
      · rw [decide_eq_false h3]
        rfl
    · rw [decide_eq_false h2, decide_eq_true (by omega : n < 0)]
      rfl
  · rw [decide_eq_false h1]
    rfl
/-- a number in bytes of seven bits, the lowest first -/
def varN : Nat → Nat → List UInt8
  | 0, n => [toU8 (n : Int)]
  | f + 1, n => bif decide (n < 128) then [toU8 (n : Int)] else toU8 ((128 + n % 128 : Nat) : Int) :: varN f (n / 128)
theorem varN_lt {f n : Nat} (h : n < 128) : varN f n = [toU8 (n : Int)] := by
  cases f with
  | zero => rfl
  | succ f => rw [varN, decide_eq_true h]; rfl
theorem varN_ge {f n : Nat} (h : 128 ≤ n) : varN (f + 1) n = toU8 ((128 + n % 128 : Nat) : Int) :: varN f (n / 128) := by
  rw [varN, decide_eq_false (by omega)]; rfl
/-- a loop that takes seven bits at a time -/
theorem var_loop {body : Int × List UInt8 → Option (Ctl (Int × List UInt8) (Ctl (Int × List UInt8) (List UInt8)))}
    (h1 : ∀ (n : Nat) (out : List UInt8), 128 ≤ n → n < 562949953421312 → out.length ≤ 100 → body ((n : Int), out) = some (.go (((n / 128 : Nat) : Int), out ++ [toU8 ((128 + n % 128 : Nat) : Int)])))
    (h2 : ∀ (n : Nat) (out : List UInt8), n < 128 → body ((n : Int), out) = some (.done (.go ((n : Int), out)))) :
    ∀ (f n : Nat) (out : List UInt8), n < 128 ^ (f + 1) → n < 562949953421312 → out.length + f ≤ 100 → ∃ (m : Nat) (out' : List UInt8), loopO body ((n : Int), out) = some (.go ((m : Int), out')) ∧ out' ++ [toU8 (m : Int)] = out ++ varN f n ∧ out'.length ≤ 100 := by
  intro f
  induction f with
  | zero =>
    intro n out hn _ ho
    have hn' : n < 128 := by simpa using hn
    exact ⟨n, out, by rw [loopO_eq, h2 n out hn'], by rw [varN_lt hn'], by omega⟩
  | succ f ih =>
    intro n out hn hb ho
    by_cases h : n < 128
    · exact ⟨n, out, by rw [loopO_eq, h2 n out h], by rw [varN_lt h], by omega⟩
    · have hn2 : n / 128 < 128 ^ (f + 1) := by
        rw [Nat.div_lt_iff_lt_mul (by decide)]
        rw [Nat.pow_succ] at hn
        exact hn
      obtain ⟨m, out', e1, e2, e3⟩ := ih (n / 128) (out ++ [toU8 ((128 + n % 128 : Nat) : Int)]) hn2 (by omega) (by simp; omega)
      refine ⟨m, out', ?_, ?_, e3⟩
      · rw [loopO_eq, h1 n out (by omega) hb (by omega)]
        exact e1
      · rw [e2, varN_ge (by omega), List.append_assoc]; rfl
def varV (n : Int) : List UInt8 := bif decide (0 ≤ n ∧ n ≤ 562949953421311) then varN 6 n.toNat else []
theorem spec_Var_eq (n : Int) : spec_Var n = some (varV n) := by
  unfold spec_Var varV
  rw [l1In_eq]
  by_cases h : 0 ≤ n ∧ n ≤ 562949953421311
  · rw [decide_eq_true h]
    obtain ⟨m, rfl⟩ : ∃ m : Nat, n = (m : Int) := ⟨n.toNat, by omega⟩
    simp only [Option.bind_some, Bool.not_true, Bool.false_eq_true, if_false, cond_true, Int.toNat_natCast]
    obtain ⟨p, out, e1, e2, e3⟩ := var_loop (body := fun (S6 : Int × List UInt8) => if (decide (S6.1 ≥ (128 : Int))) = true then ((app 1 S6.2 ([toU8 (IntKind.i64.wrap ((128 : Int) + (Int.tmod S6.1 (128 : Int))))])).bind fun E13 =>
      some (.go (IntKind.i64.wrap (Int.tdiv S6.1 (128 : Int)), E13)))
      else (some (.done (.go (S6.1, S6.2))))) (by
        intro n out h1 h2 ho
        have t1 : Int.tmod (n : Int) (128 : Int) = ((n % 128 : Nat) : Int) := by rw [show (128 : Int) = ((128 : Nat) : Int) from rfl, ← Int.ofNat_tmod]
        have t2 : Int.tdiv (n : Int) (128 : Int) = ((n / 128 : Nat) : Int) := by rw [show (128 : Int) = ((128 : Nat) : Int) from rfl, ← Int.ofNat_tdiv]
        have t3 : IntKind.i64.wrap ((128 : Int) + ((n % 128 : Nat) : Int)) = ((128 + n % 128 : Nat) : Int) := by rw [wrap_ok (by omega) (by omega)]; omega
        simp only [t1, t2, t3]
        rw [if_pos (by simp only [decide_eq_true_eq]; omega), app_ok (by simp; omega) (by simp; omega), wrap_ok (by omega) (by omega)]
        rfl) (by
        intro n out h1
        rw [if_neg (by simp only [decide_eq_true_eq]; omega)]) 6 m [] (by omega) (by omega) (by simp)
    rw [e1]
    simp only [bindC_go]
    rw [app_ok (by simp; omega) (by simp; omega), e2]
    rfl
  · rw [decide_eq_false h]
    rfl
theorem or128 (m : Nat) (h : m < 128) : 128 ||| m = 128 + m := by
  have := Nat.two_pow_add_eq_or_of_lt (i := 7) (b := m) h 1
  rw [show 2 ^ 7 * 1 = 128 from rfl] at this
  exact this.symm
theorem impl_Var_eq (n : Int) : impl_Var n = some (varV n) := by
  unfold impl_Var varV
  rw [inRange_eq]
  by_cases h : 0 ≤ n ∧ n ≤ 562949953421311
  · rw [decide_eq_true h]
    obtain ⟨m, rfl⟩ : ∃ m : Nat, n = (m : Int) := ⟨n.toNat, by omega⟩
    simp only [Option.bind_some, Bool.not_true, Bool.false_eq_true, if_false, cond_true, Int.toNat_natCast]
    obtain ⟨p, out, e1, e2, e3⟩ := var_loop (body := fun (S5 : Int × List UInt8) => if (decide (S5.1 > (127 : Int))) = true then ((app 1 S5.2 ([toU8 (ior .i64 (128 : Int) (iand .i64 S5.1 (127 : Int)))])).bind fun E12 =>
      some (.go (ishr .i64 S5.1 (7 : Int), E12)))
      else (some (.done (.go (S5.1, S5.2))))) (by
        intro n out h1 h2 ho
        have t1 : iand .i64 (n : Int) (127 : Int) = ((n % 128 : Nat) : Int) := by
          rw [show (127 : Int) = ((127 : Nat) : Int) from rfl, iand64 (by omega) (by decide), show n &&& 127 = n % 128 from Nat.and_two_pow_sub_one_eq_mod n 7]
        have t2 : ishr .i64 (n : Int) (7 : Int) = ((n / 128 : Nat) : Int) := ishr_nat (n := 7) (by decide)
        have hm : n % 128 < 128 := Nat.mod_lt _ (by decide)
        have t3 : ior .i64 (128 : Int) ((n % 128 : Nat) : Int) = ((128 + n % 128 : Nat) : Int) := by
          rw [show (128 : Int) = ((128 : Nat) : Int) from rfl, ior64 (by decide) (by omega), or128 _ hm]
        simp only [t1, t2, t3]
        rw [if_pos (by simp only [decide_eq_true_eq]; omega), app_ok (by simp; omega) (by simp; omega)]
        rfl) (by
        intro n out h1
        rw [if_neg (by simp only [decide_eq_true_eq]; omega)]) 6 m [] (by omega) (by omega) (by simp)
    rw [e1]
    simp only [bindC_go]
    rw [app_ok (by simp; omega) (by simp; omega), e2]
    rfl
  · rw [decide_eq_false h]
    rfl
/-- the number that bytes of seven bits come to -/
def numV : List UInt8 → Nat
  | [] => 0
  | x :: l => x.toNat % 128 + 128 * numV l
theorem numV_lt : ∀ (l : List UInt8), numV l < 128 ^ l.length
  | [] => by decide
  | x :: l => by
    have := numV_lt l
    have hx : x.toNat % 128 < 128 := Nat.mod_lt _ (by decide)
    rw [numV, List.length_cons, Nat.pow_succ]
    omega
theorem numV_snoc : ∀ (l : List UInt8) (x : UInt8), numV (l ++ [x]) = numV l + 128 ^ l.length * (x.toNat % 128)
  | [], x => by simp [numV]
  | y :: l, x => by
    rw [List.cons_append, numV, numV, numV_snoc l x, List.length_cons, Nat.pow_succ, Nat.mul_add, Nat.mul_comm (128 ^ l.length) 128, Nat.mul_assoc]
    omega
/-- reading: the number and how many bytes -/
def readN : Nat → List UInt8 → Option (Nat × Nat)
  | 0, _ => none
  | _ + 1, [] => none
  | f + 1, x :: l => bif decide (x.toNat < 128) then some (x.toNat, 1) else match readN f l with
    | some (m, k) => bif decide (m = 0) then none else some (x.toNat % 128 + 128 * m, k + 1)
    | none => none
theorem toU8_toNat (n : Nat) : (toU8 (n : Int)).toNat = n % 256 := by
  unfold toU8
  rw [UInt8.toNat_ofNat']
  omega
theorem toU8_of (x : UInt8) : toU8 ((x.toNat : Nat) : Int) = x := by
  have := x.toNat_lt
  apply UInt8.toNat_inj.1
  rw [toU8_toNat]
  omega
/-- a beginning that is the form of its number -/
def goodV (l : List UInt8) : Prop := ∃ f, l.length ≤ f + 1 ∧ varN f (numV l) = l
theorem varN_more : ∀ (f g n : Nat), n < 128 ^ (f + 1) → n < 128 ^ (g + 1) → varN f n = varN g n
  | f, g, n, h1, h2 => by
    by_cases h : n < 128
    · rw [varN_lt h, varN_lt h]
    · cases f with
      | zero => simp at h1; omega
      | succ f =>
        cases g with
        | zero => simp at h2; omega
        | succ g =>
          rw [varN_ge (by omega), varN_ge (by omega), varN_more f g (n / 128) ?_ ?_]
          · rw [Nat.div_lt_iff_lt_mul (by decide)]; rw [Nat.pow_succ] at h1; exact h1
          · rw [Nat.div_lt_iff_lt_mul (by decide)]; rw [Nat.pow_succ] at h2; exact h2
theorem take_ne {α : Type} {l : List α} {j : Nat} (h1 : 1 ≤ j) (h2 : j ≤ l.length) : l.take j ≠ [] := by
  intro e
  have := congrArg List.length e
  rw [List.length_take, List.length_nil] at this
  omega
theorem good_one (f : Nat) (x : UInt8) : varN f (numV [x]) = [x] ↔ x.toNat < 128 := by
  have hx : x.toNat % 128 < 128 := Nat.mod_lt _ (by decide)
  rw [show numV [x] = x.toNat % 128 by simp [numV], varN_lt hx]
  constructor
  · intro h
    have h2 : toU8 ((x.toNat % 128 : Nat) : Int) = x := by simpa using h
    have h3 := congrArg UInt8.toNat h2
    rw [toU8_toNat] at h3
    omega
  · intro h
    rw [Nat.mod_eq_of_lt h, toU8_of]
theorem good_more (f : Nat) (x : UInt8) (l : List UInt8) (hl : l ≠ []) : varN (f + 1) (numV (x :: l)) = x :: l ↔ 128 ≤ x.toNat ∧ numV l ≠ 0 ∧ varN f (numV l) = l := by
  have hx : x.toNat % 128 < 128 := Nat.mod_lt _ (by decide)
  have hx2 := x.toNat_lt
  have hm : (x.toNat % 128 + 128 * numV l) % 128 = x.toNat % 128 := by omega
  have hd : (x.toNat % 128 + 128 * numV l) / 128 = numV l := by omega
  by_cases h0 : numV l = 0
  · rw [numV, h0, varN_lt (by omega)]
    constructor
    · intro h
      have : [] = l := by simpa using (List.cons.inj h).2
      exact absurd this.symm hl
    · rintro ⟨_, h, _⟩
      exact absurd rfl h
  · rw [numV, varN_ge (by omega), hm, hd]
    constructor
    · intro h
      obtain ⟨h1, h2⟩ := List.cons.inj h
      have h3 := congrArg UInt8.toNat h1
      rw [toU8_toNat] at h3
      exact ⟨by omega, h0, h2⟩
    · rintro ⟨h1, _, h2⟩
      rw [h2, show 128 + x.toNat % 128 = x.toNat by omega, toU8_of]
theorem readN_some : ∀ (f : Nat) (s : List UInt8) (n k : Nat), readN f s = some (n, k) → 1 ≤ k ∧ k ≤ f ∧ k ≤ s.length ∧ n = numV (s.take k) ∧ varN (f - 1) n = s.take k ∧ ∀ g j, 1 ≤ j → j ≤ g + 1 → j ≤ s.length → varN g (numV (s.take j)) = s.take j → j = k
  | 0, s, n, k, h => by cases h
  | f + 1, [], n, k, h => by cases h
  | f + 1, x :: l, n, k, h => by
    rw [readN] at h
    by_cases hx : x.toNat < 128
    · rw [decide_eq_true hx] at h
      simp only [cond_true, Option.some.injEq, Prod.mk.injEq] at h
      obtain ⟨rfl, rfl⟩ := h
      have hm : x.toNat % 128 = x.toNat := Nat.mod_eq_of_lt hx
      refine ⟨Nat.le_refl _, by omega, by simp, by simp [numV, hm], ?_, fun g j hj1 hjg hjl he => ?_⟩
      · have := (good_one (f + 1 - 1) x).2 hx
        rw [show numV [x] = x.toNat by simp [numV, hm]] at this
        exact this
      · cases j with
        | zero => omega
        | succ j =>
          cases j with
          | zero => rfl
          | succ j =>
            cases g with
            | zero => omega
            | succ g =>
              rw [List.take_succ_cons] at he
              have := (good_more g x (l.take (j + 1)) (take_ne (by omega) (by rw [List.length_cons] at hjl; omega))).1 he
              omega
    · rw [decide_eq_false hx] at h
      simp only [cond_false] at h
      cases hr : readN f l with
      | none => rw [hr] at h; cases h
      | some p =>
        obtain ⟨m, k'⟩ := p
        rw [hr] at h
        simp only at h
        by_cases hm : m = 0
        · rw [decide_eq_true hm] at h; cases h
        · rw [decide_eq_false hm] at h
          simp only [cond_false, Option.some.injEq, Prod.mk.injEq] at h
          obtain ⟨rfl, rfl⟩ := h
          obtain ⟨h1, h2, h3, h4, h5, h6⟩ := readN_some f l m k' hr
          have hne : l.take k' ≠ [] := take_ne h1 h3
          refine ⟨by omega, by omega, by simp; omega, by rw [List.take_succ_cons, numV, ← h4], ?_, fun g j hj1 hjg hjl he => ?_⟩
          · rw [List.take_succ_cons, Nat.add_sub_cancel]
            obtain ⟨f', rfl⟩ : ∃ f', f = f' + 1 := ⟨f - 1, by omega⟩
            rw [Nat.add_sub_cancel] at h5
            have := (good_more f' x (l.take k') hne).2 ⟨by omega, by rw [← h4]; exact hm, by rw [← h4]; exact h5⟩
            rw [numV, ← h4] at this
            exact this
          · cases j with
            | zero => omega
            | succ j =>
              cases j with
              | zero =>
                rw [List.take_succ_cons, List.take_zero] at he
                exact absurd ((good_one g x).1 he) hx
              | succ j =>
                cases g with
                | zero => omega
                | succ g =>
                  rw [List.take_succ_cons] at he
                  have hjl' : j + 1 ≤ l.length := by simp at hjl; omega
                  have := (good_more g x (l.take (j + 1)) (take_ne (by omega) hjl')).1 he
                  have := h6 g (j + 1) (by omega) (by omega) hjl' this.2.2
                  omega
theorem readN_none : ∀ (f : Nat) (s : List UInt8), readN f s = none → ∀ g j, 1 ≤ j → j ≤ f → j ≤ g + 1 → j ≤ s.length → varN g (numV (s.take j)) ≠ s.take j
  | 0, s, h => fun g j h1 h2 => by omega
  | f + 1, [], h => fun g j h1 h2 h3 h4 => by simp at h4; omega
  | f + 1, x :: l, h => by
    intro g j hj1 hjf hjg hjl he
    rw [readN] at h
    by_cases hx : x.toNat < 128
    · rw [decide_eq_true hx] at h; cases h
    · rw [decide_eq_false hx] at h
      simp only [cond_false] at h
      cases j with
      | zero => omega
      | succ j =>
        cases j with
        | zero =>
          rw [List.take_succ_cons, List.take_zero] at he
          exact hx ((good_one g x).1 he)
        | succ j =>
          cases g with
          | zero => omega
          | succ g =>
            rw [List.take_succ_cons] at he
            have hjl' : j + 1 ≤ l.length := by simp at hjl; omega
            obtain ⟨q1, q2, q3⟩ := (good_more g x (l.take (j + 1)) (take_ne (by omega) hjl')).1 he
            cases hr : readN f l with
            | none => exact readN_none f l hr g (j + 1) (by omega) (by omega) (by omega) hjl' q3
            | some p =>
              obtain ⟨m, k'⟩ := p
              rw [hr] at h
              simp only at h
              by_cases hm : m = 0
              · obtain ⟨h1, h2, h3, h4, h5, h6⟩ := readN_some f l m k' hr
                have := h6 g (j + 1) (by omega) (by omega) hjl' q3
                rw [← this] at h4
                exact q2 (by rw [← h4]; exact hm)
              · rw [decide_eq_false hm] at h; cases h
def readR : Option (Nat × Nat) → Int × Int
  | some (n, k) => ((n : Int), (k : Int))
  | none => (0, 0)
/-- reading of what comes behind i bytes -/
def readI (n i : Nat) : Option (Nat × Nat) → Int × Int
  | some (m, k) => bif decide (m = 0 ∧ 0 < i) then (0, 0) else (((n + 128 ^ i * m : Nat) : Int), ((i + k : Nat) : Int))
  | none => (0, 0)
theorem readI_zero (p : Option (Nat × Nat)) : readI 0 0 p = readR p := by
  cases p with
  | none => rfl
  | some p => simp [readI, readR]
theorem readI_step (n i f : Nat) (x : UInt8) (l : List UInt8) (hx : ¬ x.toNat < 128) : readI n i (readN (f + 1) (x :: l)) = readI (n + 128 ^ i * (x.toNat % 128)) (i + 1) (readN f l) := by
  rw [readN, decide_eq_false hx]
  simp only [cond_false]
  cases readN f l with
  | none => rfl
  | some p =>
    obtain ⟨m, k⟩ := p
    simp only
    by_cases hm : m = 0
    · simp [hm, readI]
    · rw [decide_eq_false hm]
      simp only [cond_false, readI]
      rw [decide_eq_false (by omega), decide_eq_false (by omega)]
      simp only [cond_false]
      have e : n + 128 ^ i * (x.toNat % 128 + 128 * m) = n + 128 ^ i * (x.toNat % 128) + 128 ^ i * 128 * m := by rw [Nat.mul_add, Nat.mul_assoc, Nat.add_assoc]
      rw [Nat.pow_succ, e, show i + (k + 1) = i + 1 + k by omega]
theorem or_add (n d i : Nat) (h : n < 2 ^ (7 * i)) : n ||| d * 2 ^ (7 * i) = n + 2 ^ (7 * i) * d := by
  rw [Nat.or_comm, Nat.mul_comm, ← Nat.two_pow_add_eq_or_of_lt h]
  omega
theorem pow128 (i : Nat) : 128 ^ i = 2 ^ (7 * i) := by rw [Nat.pow_mul]
theorem impl_ReadVar_eq (s : List UInt8) (hs : s.length ≤ 1099511627776) : impl_ReadVar s = some (readR (readN 7 s)) := by
  unfold impl_ReadVar
  obtain ⟨r, hr, hq⟩ := loopO_total (ρ := Ctl Unit (Int × Int)) (s0 := ((0 : Int), (0 : Int))) (body := fun (S1 : Int × Int) => (if (decide (S1.2 < (7 : Int))) = true then (some (decide (S1.2 < ((s.length : Nat) : Int))))
  else (some false)).bind (fun (T5 : Bool) =>
  if T5 = true then ((sidx s S1.2).bind fun E9 =>
  if (decide (((E9.toNat : Nat) : Int) ≥ (128 : Int))) = true then (some (.go (ior .i64 S1.1 (ishl .i64 (IntKind.i64.wrap (iand .u8 ((E9.toNat : Nat) : Int) (127 : Int))) (IntKind.u64.wrap (IntKind.i64.wrap ((7 : Int) * S1.2)))), IntKind.i64.wrap (S1.2 + (1 : Int)))))
  else ((if (decide (((E9.toNat : Nat) : Int) = (0 : Int))) = true then (some (decide (S1.2 > (0 : Int))))
  else (some false)).bind (fun (T12 : Bool) =>
  if T12 = true then (some (.done (.done ((0 : Int), (0 : Int)))))
  else (some (.done (.done (ior .i64 S1.1 (ishl .i64 (IntKind.i64.wrap (iand .u8 ((E9.toNat : Nat) : Int) (127 : Int))) (IntKind.u64.wrap (IntKind.i64.wrap ((7 : Int) * S1.2)))), IntKind.i64.wrap (S1.2 + (1 : Int)))))))))
  else (some (.done (.go ())))))
    (fun i S => S.1 = (numV (s.take i) : Int) ∧ S.2 = (i : Int) ∧ i ≤ s.length ∧ readR (readN 7 s) = readI (numV (s.take i)) i (readN (7 - i) (s.drop i))) 7 (fun r => r = .done (readR (readN 7 s)) ∨ (r = .go () ∧ readR (readN 7 s) = (0, 0))) ⟨by simp [numV], rfl, Nat.zero_le _, by simp [numV, readI_zero]⟩ (by
      rintro i ⟨n, j⟩ hi ⟨h1, h2, h3, h4⟩
      simp only at h1 h2
      subst h1 h2
      rw [h4]
      simp only
      rw [decide_eq_true (by omega : ((i : Int) < 7))]
      simp only [if_true, Option.bind_some]
      by_cases hl : i < s.length
      · have hd : s.drop i = s[i] :: s.drop (i + 1) := List.drop_eq_getElem_cons hl
        have ht : s.take (i + 1) = s.take i ++ [s[i]] := by rw [List.take_add_one, List.getElem?_eq_getElem hl]; rfl
        have hx := s[i].toNat_lt
        have hn := numV_lt (s.take i)
        rw [List.length_take, Nat.min_eq_left h3, pow128] at hn
        have hp : 2 ^ (7 * i) ≤ 2 ^ 42 := Nat.pow_le_pow_right (by decide) (by omega)
        have hdm : s[i].toNat % 128 < 128 := Nat.mod_lt _ (by decide)
        have ea : iand .u8 ((s[i].toNat : Nat) : Int) (127 : Int) = ((s[i].toNat % 128 : Nat) : Int) := by
          rw [show (127 : Int) = ((127 : Nat) : Int) from rfl, iand8 (by omega) (by decide), show s[i].toNat &&& 127 = s[i].toNat % 128 from Nat.and_two_pow_sub_one_eq_mod _ 7]
        have eb : IntKind.u64.wrap (IntKind.i64.wrap ((7 : Int) * (i : Int))) = ((7 * i : Nat) : Int) := by rw [wrap_ok (by omega) (by omega), wrap64u]; omega
        have hmul : s[i].toNat % 128 * 2 ^ (7 * i) ≤ 127 * 2 ^ 42 := Nat.mul_le_mul (by omega) hp
        have ec : ior .i64 (numV (s.take i) : Int) (ishl .i64 (IntKind.i64.wrap ((s[i].toNat % 128 : Nat) : Int)) ((7 * i : Nat) : Int)) = ((numV (s.take i) + 128 ^ i * (s[i].toNat % 128) : Nat) : Int) := by
          rw [wrap_ok (by omega) (by omega), ishl64 (by omega) (by omega), ior64 (by omega) (by omega), or_add _ _ _ hn, pow128]
        rw [decide_eq_true (by omega : (i : Int) < ((s.length : Nat) : Int)), sidx_nat s i hl, hd]
        simp only [if_true, Option.bind_some, ea, eb, ec]
        rw [wrap_ok (by omega) (by omega), show 7 - i = (7 - (i + 1)) + 1 by omega]
        by_cases hc : s[i].toNat < 128
        · right
          refine ⟨_, ?_, .inl rfl⟩
          rw [decide_eq_false (by omega : ¬ ((s[i].toNat : Nat) : Int) ≥ 128), readN, decide_eq_true hc]
          simp only [Bool.false_eq_true, if_false, cond_true, readI]
          have hm : s[i].toNat % 128 = s[i].toNat := Nat.mod_eq_of_lt hc
          rw [hm]
          by_cases hz : s[i].toNat = 0
          · by_cases h0 : 0 < i
            · rw [decide_eq_true (⟨hz, h0⟩ : s[i].toNat = 0 ∧ 0 < i), decide_eq_true (by omega : ((s[i].toNat : Nat) : Int) = 0), decide_eq_true (by omega : (i : Int) > 0)]
              rfl
            · rw [decide_eq_false (by omega : ¬ (s[i].toNat = 0 ∧ 0 < i)), decide_eq_true (by omega : ((s[i].toNat : Nat) : Int) = 0), decide_eq_false (by omega : ¬ (i : Int) > 0)]
              rfl
          · rw [decide_eq_false (by omega : ¬ (s[i].toNat = 0 ∧ 0 < i)), decide_eq_false (by omega : ¬ ((s[i].toNat : Nat) : Int) = 0)]
            rfl
        · left
          rw [decide_eq_true (by omega : ((s[i].toNat : Nat) : Int) ≥ 128)]
          have hns : numV (s.take (i + 1)) = numV (s.take i) + 128 ^ i * (s[i].toNat % 128) := by
            rw [ht, numV_snoc, List.length_take, Nat.min_eq_left h3]
          refine ⟨(_, _), rfl, by rw [hns], by simp, by omega, ?_⟩
          rw [readI_step _ _ _ _ _ hc, hns]
      · right
        have hd : s.drop i = [] := List.drop_eq_nil_of_le (by omega)
        rw [decide_eq_false (by omega : ¬ (i : Int) < ((s.length : Nat) : Int)), hd, show 7 - i = (7 - (i + 1)) + 1 by omega]
        exact ⟨.go (), rfl, .inr ⟨rfl, rfl⟩⟩) (by
      rintro ⟨n, j⟩ ⟨h1, h2, h3, h4⟩
      simp only at h1 h2
      subst h1 h2
      exact ⟨.go (), rfl, .inr ⟨rfl, h4⟩⟩)
  rw [hr]
  rcases hq with rfl | ⟨rfl, h⟩
  · rfl
  · rw [h]; rfl

theorem ssub_nat (s : List UInt8) (a b : Nat) (h1 : a ≤ b) (h2 : b ≤ s.length) : ssub s (a : Int) (b : Int) = some ((s.drop a).take (b - a)) := by
  unfold ssub
  rw [if_pos ⟨by omega, by omega, by omega⟩, Int.toNat_natCast, Int.toNat_natCast]
theorem ssub_end (s : List UInt8) (a : Nat) (h : a ≤ s.length) : ssub s (a : Int) (s.length : Int) = some (s.drop a) := by
  rw [ssub_nat s a s.length h (Nat.le_refl _), List.take_of_length_le (by simp)]
theorem num_loop {ρ : Type} (s : List UInt8) (k : Nat) (h1 : 1 ≤ k) (h7 : k ≤ 7) (hk : k ≤ s.length) :
    loopO (ρ := Ctl Int ρ) (fun (S9 : Int × Int) => if (decide (S9.2 ≥ (0 : Int))) = true then ((sidx s S9.2).bind fun E14 =>
  some (.go (IntKind.i64.wrap (IntKind.i64.wrap (S9.1 * (128 : Int)) + (Int.tmod (IntKind.i64.wrap ((E14.toNat : Nat) : Int)) (128 : Int))), IntKind.i64.wrap (S9.2 - (1 : Int)))))
  else (some (.done (.go S9.1))))
  ((0 : Int), (k : Int) - 1) = some (.go (numV (s.take k) : Int)) := by
  have hlen : (s.take k).length = k := by rw [List.length_take]; omega
  rw [loopO_count (fun t => ((numV ((s.take k).drop (k - t)) : Int), (k : Int) - 1 - (t : Int))) k (r := Ctl.go (numV (s.take k) : Int)) ?h0]
  case h0 => rw [show k - 0 = k by omega, List.drop_of_length_le (by omega)]; simp [numV]
  · intro t ht
    have hi : (k : Int) - 1 - (t : Int) = ((k - 1 - t : Nat) : Int) := by omega
    have hd : (s.take k).drop (k - (t + 1)) = s[k - 1 - t] :: (s.take k).drop (k - t) := by
      rw [show k - (t + 1) = k - 1 - t by omega, List.drop_eq_getElem_cons (by omega), List.getElem_take]
      rw [show k - 1 - t + 1 = k - t by omega]
    have hx := (s[k - 1 - t]).toNat_lt
    have hn := numV_lt ((s.take k).drop (k - t))
    have hl : ((s.take k).drop (k - t)).length = t := by rw [List.length_drop, hlen]; omega
    rw [hl] at hn
    have hp : 128 ^ t ≤ 128 ^ 6 := Nat.pow_le_pow_right (by decide) (by omega)
    have hm : Int.tmod (((s[k - 1 - t]).toNat : Nat) : Int) (128 : Int) = (((s[k - 1 - t]).toNat % 128 : Nat) : Int) := by rw [show (128 : Int) = ((128 : Nat) : Int) from rfl, ← Int.ofNat_tmod]
    simp only [hi, sidx_nat s (k - 1 - t) (by omega), Option.bind_some]
    rw [if_pos (by simp only [decide_eq_true_eq]; omega), wrap_ok (n := (((s[k - 1 - t]).toNat : Nat) : Int)) (by omega) (by omega), hm, hd, numV]
    generalize numV ((s.take k).drop (k - t)) = z at hn
    rw [wrap_ok (n := (z : Int) * 128) (by omega) (by omega), wrap_ok (by omega) (by omega), wrap_ok (by omega) (by omega)]
    congr 3
    · omega
    · omega
  · rw [if_neg (by simp only [decide_eq_true_eq]; omega)]
    simp
theorem spec_ReadVar_eq (s : List UInt8) (hs : s.length ≤ 1099511627776) : spec_ReadVar s = some (readR (readN 7 s)) := by
  unfold spec_ReadVar
  obtain ⟨r, hr, hq⟩ := loopO_total (ρ := Ctl Unit (Int × Int)) (s0 := (1 : Int)) (body := fun (S1 : Int) => (if (decide (S1 ≤ (7 : Int))) = true then (some (decide (S1 ≤ ((s.length : Nat) : Int))))
  else (some false)).bind (fun (T5 : Bool) =>
  if T5 = true then (bindC (loopO (fun (S9 : Int × Int) => if (decide (S9.2 ≥ (0 : Int))) = true then ((sidx s S9.2).bind fun E14 =>
  some (.go (IntKind.i64.wrap (IntKind.i64.wrap (S9.1 * (128 : Int)) + (Int.tmod (IntKind.i64.wrap ((E14.toNat : Nat) : Int)) (128 : Int))), IntKind.i64.wrap (S9.2 - (1 : Int)))))
  else (some (.done (.go S9.1))))
  ((0 : Int), IntKind.i64.wrap (S1 - (1 : Int))))
  (fun (T11 : Int) => (ssub s 0 S1).bind fun E16 =>
  (spec_Var T11).bind fun R18 =>
  if (decide (R18 = E16)) = true then (some (.done (.done (T11, S1))))
  else (some (.go (IntKind.i64.wrap (S1 + (1 : Int)))))))
  else (some (.done (.go ())))))
    (fun i S => S = ((i + 1 : Nat) : Int) ∧ ∀ j, 1 ≤ j → j ≤ i → j ≤ s.length → varN 6 (numV (s.take j)) ≠ s.take j) 7 (fun r => (∃ n k, readN 7 s = some (n, k) ∧ r = .done ((n : Int), (k : Int))) ∨ (readN 7 s = none ∧ r = .go ())) ⟨rfl, fun j h1 h2 => by omega⟩ (by
      rintro i S hi ⟨rfl, h⟩
      rw [decide_eq_true (by omega : ((i + 1 : Nat) : Int) ≤ 7)]
      simp only [if_true, Option.bind_some]
      by_cases hl : i + 1 ≤ s.length
      · rw [decide_eq_true (by omega : ((i + 1 : Nat) : Int) ≤ ((s.length : Nat) : Int)), wrap_ok (n := ((i + 1 : Nat) : Int) - 1) (by omega) (by omega)]
        simp only [if_true]
        rw [num_loop s (i + 1) (by omega) (by omega) hl]
        have hsub : ssub s 0 ((i + 1 : Nat) : Int) = some (s.take (i + 1)) := ssub_nat s 0 (i + 1) (by omega) hl
        have hn := numV_lt (s.take (i + 1))
        rw [List.length_take, Nat.min_eq_left hl] at hn
        have hp : 128 ^ (i + 1) ≤ 128 ^ 7 := Nat.pow_le_pow_right (by decide) (by omega)
        have hv : varV (numV (s.take (i + 1)) : Int) = varN 6 (numV (s.take (i + 1))) := by
          unfold varV
          rw [decide_eq_true (by omega), cond_true, Int.toNat_natCast]
        simp only [bindC_go, hsub, Option.bind_some, spec_Var_eq, hv]
        by_cases he : varN 6 (numV (s.take (i + 1))) = s.take (i + 1)
        · right
          rw [decide_eq_true he]
          refine ⟨_, rfl, .inl ⟨numV (s.take (i + 1)), i + 1, ?_, rfl⟩⟩
          cases hr : readN 7 s with
          | none => exact absurd he (readN_none 7 s hr 6 (i + 1) (by omega) (by omega) (by omega) hl)
          | some p =>
            obtain ⟨n, k⟩ := p
            obtain ⟨_, _, _, h4, _, h6⟩ := readN_some 7 s n k hr
            have := h6 6 (i + 1) (by omega) (by omega) hl he
            subst this
            rw [h4]
        · left
          rw [decide_eq_false he]
          refine ⟨_, rfl, by rw [wrap_ok (by omega) (by omega)]; omega, fun j h1 h2 h3 => ?_⟩
          by_cases e : j = i + 1
          · subst e; exact he
          · exact h j h1 (by omega) h3
      · right
        rw [decide_eq_false (by omega : ¬ ((i + 1 : Nat) : Int) ≤ ((s.length : Nat) : Int))]
        refine ⟨.go (), rfl, .inr ⟨?_, rfl⟩⟩
        cases hr : readN 7 s with
        | none => rfl
        | some p =>
          obtain ⟨n, k⟩ := p
          obtain ⟨h1, _, h3, h4, h5, _⟩ := readN_some 7 s n k hr
          rw [h4] at h5
          exact absurd h5 (h k h1 (by omega) h3)) (by
      rintro S ⟨rfl, h⟩
      refine ⟨.go (), rfl, .inr ⟨?_, rfl⟩⟩
      cases hr : readN 7 s with
      | none => rfl
      | some p =>
        obtain ⟨n, k⟩ := p
        obtain ⟨h1, h2, h3, h4, h5, _⟩ := readN_some 7 s n k hr
        rw [h4] at h5
        exact absurd h5 (h k h1 h2 h3))
  rw [hr]
  rcases hq with ⟨n, k, e, rfl⟩ | ⟨e, rfl⟩
  · rw [e]; rfl
  · rw [e]; rfl
/-- so many numbers read from a place on -/
def l6V (s : List UInt8) : Nat → Nat → List Int × Int
  | 0, a => ([], (a : Int))
  | n + 1, a => bif decide (s.length < a) then ([], -1) else match readN 7 (s.drop a) with
    | some (x, k) => ((x : Int) :: (l6V s n (a + k)).1, (l6V s n (a + k)).2)
    | none => ([], -1)
theorem spec_l6Vars_eq (s : List UInt8) (a n : Nat) (hs : s.length ≤ 1099511627776) (hn : n ≤ 1048576) (ha : a ≤ 2199023255552) : spec_l6Vars s (a : Int) (n : Int) = some (l6V s n a) := by
  unfold spec_l6Vars
  have key : ∀ (m i a : Nat) (out : List Int), i + m = n → out.length = i → a ≤ 2199023255552 →
      bindC (loopO (fun (S2 : Int × Int × List Int) => if (decide (S2.2.1 < (n : Int))) = true then ((if (decide (S2.1 < (0 : Int))) = true then (some true)
  else (some (decide (S2.1 > ((s.length : Nat) : Int))))).bind (fun (T7 : Bool) =>
  if T7 = true then (some (.done (.done (S2.2.2, (-1 : Int)))))
  else ((ssub s S2.1 (s.length : Int)).bind fun E11 =>
  (spec_ReadVar E11).bind fun R13 =>
  if (decide (R13.2 = (0 : Int))) = true then (some (.done (.done (S2.2.2, (-1 : Int)))))
  else ((app 8 S2.2.2 ([R13.1])).bind fun E19 =>
  some (.go (IntKind.i64.wrap (S2.1 + R13.2), IntKind.i64.wrap (S2.2.1 + (1 : Int)), E19))))))
  else (some (.done (.go (S2.1, S2.2.2)))))
  ((a : Int), (i : Int), out)) (fun (T4 : Int × List Int) => some (T4.2, T4.1)) = some (out ++ (l6V s m a).1, (l6V s m a).2) := by
    intro m
    induction m with
    | zero =>
      intro i a out hi ho ha
      rw [loopO_eq]
      simp only
      rw [if_neg (by simp only [decide_eq_true_eq]; omega)]
      simp [l6V]
    | succ m ih =>
      intro i a out hi ho ha
      rw [loopO_eq]
      simp only
      rw [if_pos (by simp only [decide_eq_true_eq]; omega), decide_eq_false (by omega : ¬ (a : Int) < 0)]
      simp only [Bool.false_eq_true, if_false, Option.bind_some, l6V]
      by_cases hl : s.length < a
      · rw [decide_eq_true hl, decide_eq_true (by omega : (a : Int) > ((s.length : Nat) : Int))]
        simp
      · rw [decide_eq_false hl, decide_eq_false (by omega : ¬ (a : Int) > ((s.length : Nat) : Int))]
        simp only [Bool.false_eq_true, if_false, ssub_end s a (by omega), Option.bind_some, spec_ReadVar_eq (s.drop a) (by simp; omega), cond_false]
        cases hr : readN 7 (s.drop a) with
        | none => simp [readR]
        | some p =>
          obtain ⟨x, k⟩ := p
          obtain ⟨h1, h2, _⟩ := readN_some 7 _ x k hr
          have hk0 : decide ((readR (some (x, k))).2 = 0) = false := decide_eq_false (by show ¬ (k : Int) = 0; omega)
          rw [hk0]
          simp only [Bool.false_eq_true, if_false, readR]
          rw [app_ok (by simp; omega) (by simp; omega)]
          simp only [Option.bind_some]
          rw [wrap_ok (n := (a : Int) + (k : Int)) (by omega) (by omega), wrap_ok (n := (i : Int) + 1) (by omega) (by omega)]
          have := ih (i + 1) (a + k) (out ++ [(x : Int)]) (by omega) (by simp; omega) (by omega)
          rw [show ((a : Int) + (k : Int)) = ((a + k : Nat) : Int) by omega, show ((i : Int) + 1) = ((i + 1 : Nat) : Int) by omega, this, List.append_assoc]
          rfl
  have := key n 0 a [] (by omega) rfl ha
  simpa using this

def nonceV (kind n : Int) : List UInt8 := bif decide (0 ≤ kind ∧ kind ≤ 255) && decide (0 ≤ n ∧ n ≤ 562949953421311) then [toU8 kind, 0, 0, 0, 0] ++ fixedV n 7 else []
theorem fixedV_len (n : Int) (w : Nat) : (fixedV n w).length ≤ w := by
  unfold fixedV
  cases decide (1 ≤ (w : Int) ∧ (w : Int) ≤ 7) && (decide (0 ≤ n) && decide (n.toNat / 256 ^ (w : Int).toNat = 0))
  · simp
  · rw [cond_true, fixV_len]; simp
theorem fixedV_len7 (n : Int) (h : 0 ≤ n ∧ n ≤ 562949953421311) : (fixedV n 7).length = 7 := by
  unfold fixedV
  have h1 : n.toNat / 256 ^ (7 : Int).toNat = 0 := Nat.div_eq_of_lt (by show n.toNat < 256 ^ 7; omega)
  rw [decide_eq_true h.1, decide_eq_true h1]
  show (fixV n.toNat 7).length = 7
  exact fixV_len _ 7
theorem spec_NonceOf_eq (kind n : Int) : spec_NonceOf kind n = some (nonceV kind n) := by
  unfold spec_NonceOf nonceV
  rw [l1In_eq, l1In_eq]
  by_cases h1 : 0 ≤ kind ∧ kind ≤ 255
  · by_cases h2 : 0 ≤ n ∧ n ≤ 562949953421311
    · rw [decide_eq_true h1, decide_eq_true h2]
      simp only [Option.bind_some, Bool.not_true, Bool.false_eq_true, if_false, Bool.and_self, cond_true, spec_Fixed_eq n 7 (by omega)]
      rw [cat_ok (by rw [fixedV_len7 n h2]; show 5 + 7 ≤ 9223372036854775807; decide)]
      rfl
    · rw [decide_eq_true h1, decide_eq_false h2]
      rfl
  · rw [decide_eq_false h1]
    rfl
theorem impl_NonceOf_eq (kind n : Int) : impl_NonceOf kind n = some (nonceV kind n) := by
  unfold impl_NonceOf nonceV
  rw [inRange_eq, inRange_eq]
  by_cases h1 : 0 ≤ kind ∧ kind ≤ 255
  · by_cases h2 : 0 ≤ n ∧ n ≤ 562949953421311
    · rw [decide_eq_true h1, decide_eq_true h2]
      simp only [Option.bind_some, Bool.not_true, Bool.false_eq_true, if_false, Bool.and_self, cond_true, impl_Fixed_eq n 7 (by omega)]
      rw [cat_ok (by rw [fixedV_len7 n h2]; show 5 + 7 ≤ 9223372036854775807; decide)]
      rfl
    · rw [decide_eq_true h1, decide_eq_false h2]
      rfl
  · rw [decide_eq_false h1]
    rfl
theorem varN_len : ∀ (f n : Nat), (varN f n).length ≤ f + 1
  | 0, n => Nat.le_refl _
  | f + 1, n => by
    by_cases h : n < 128
    · rw [varN_lt h]; simp
    · rw [varN_ge (by omega), List.length_cons]
      have := varN_len f (n / 128)
      omega
theorem varV_len (n : Int) : (varV n).length ≤ 7 := by
  unfold varV
  cases decide (0 ≤ n ∧ n ≤ 562949953421311)
  · simp
  · exact varN_len 6 _
def mintOk (secret : List UInt8) (t e : Int) : Bool := decide (secret.length = 32) && (decide (1 ≤ t ∧ t ≤ 99) && decide (0 ≤ e ∧ e ≤ 1000000))
theorem mintOk_iff {secret : List UInt8} {t e : Int} (h : mintOk secret t e = true) : secret.length = 32 ∧ (1 ≤ t ∧ t ≤ 99) ∧ 0 ≤ e ∧ e ≤ 1000000 := by
  unfold mintOk at h
  simp only [Bool.and_eq_true, decide_eq_true_eq] at h
  exact h
noncomputable def mintV (secret : List UInt8) (t e : Int) : List UInt8 := bif mintOk secret t e then varV t ++ varV e ++ (chaV secret e (nonceV 2 t)).take 8 else []
theorem mint_cha {secret : List UInt8} {t e : Int} (h : mintOk secret t e = true) : (chaV secret e (nonceV 2 t)).length = 64 := by
  obtain ⟨h1, h2, h3⟩ := mintOk_iff h
  refine chaV_len _ _ _ ?_
  have hn : (nonceV 2 t).length = 12 := by
    unfold nonceV
    rw [decide_eq_true (by omega : (0 : Int) ≤ 2 ∧ (2 : Int) ≤ 255), decide_eq_true (by omega : 0 ≤ t ∧ t ≤ 562949953421311)]
    simp only [Bool.and_self, cond_true, List.length_append, fixedV_len7 t (by omega)]
    rfl
  unfold chaOk
  rw [decide_eq_true h1, decide_eq_true hn, decide_eq_true (by omega)]
  rfl
theorem spec_MintToken_eq (secret : List UInt8) (t e : Int) : spec_MintToken secret t e = some (mintV secret t e) := by
  unfold spec_MintToken mintV
  have e1 : decide (((secret.length : Nat) : Int) = 32) = decide (secret.length = 32) := decide_eq_decide.2 (by omega)
  rw [e1, l1In_eq, l1In_eq]
  cases hok : mintOk secret t e with
  | true =>
    have hc := mint_cha hok
    obtain ⟨h1, h2, h3⟩ := mintOk_iff hok
    have l1 := varV_len t
    have l2 := varV_len e
    rw [decide_eq_true h1, decide_eq_true h2, decide_eq_true h3]
    simp only [Option.bind_some, Bool.not_true, Bool.false_eq_true, if_false, cond_true, spec_Var_eq, spec_NonceOf_eq, spec_ChaBlock_eq]
    rw [cat_ok (by omega)]
    simp only [Option.bind_some]
    rw [show ssub (chaV secret e (nonceV 2 t)) 0 (8 : Int) = some ((chaV secret e (nonceV 2 t)).take 8) from ssub_nat _ 0 8 (by omega) (by omega)]
    simp only [Option.bind_some]
    rw [cat_ok (by rw [List.length_append, List.length_take]; omega)]
    rfl
  | false =>
    unfold mintOk at hok
    cases a1 : decide (secret.length = 32) with
    | false => rfl
    | true =>
      cases a2 : decide (1 ≤ t ∧ t ≤ 99) with
      | false => rfl
      | true =>
        cases a3 : decide (0 ≤ e ∧ e ≤ 1000000) with
        | false => rfl
        | true => rw [a1, a2, a3] at hok; cases hok
theorem impl_MintToken_eq (secret : List UInt8) (t e : Int) : impl_MintToken secret t e = some (mintV secret t e) := by
  unfold impl_MintToken mintV impl_isTenant impl_isNumber
  have e1 : decide (((secret.length : Nat) : Int) = 32) = decide (secret.length = 32) := decide_eq_decide.2 (by omega)
  rw [e1, inRange_eq, inRange_eq]
  cases hok : mintOk secret t e with
  | true =>
    have hc := mint_cha hok
    obtain ⟨h1, h2, h3⟩ := mintOk_iff hok
    have l1 := varV_len t
    have l2 := varV_len e
    rw [decide_eq_true h1, decide_eq_true h2, decide_eq_true h3]
    simp only [Option.bind_some, Bool.not_true, Bool.false_eq_true, if_false, cond_true, impl_Var_eq, impl_NonceOf_eq, impl_ChaBlock_eq]
    rw [cat_ok (by omega)]
    simp only [Option.bind_some]
    rw [show ssub (chaV secret e (nonceV 2 t)) 0 (8 : Int) = some ((chaV secret e (nonceV 2 t)).take 8) from ssub_nat _ 0 8 (by omega) (by omega)]
    simp only [Option.bind_some]
    rw [cat_ok (by rw [List.length_append, List.length_take]; omega)]
    rfl
  | false =>
    unfold mintOk at hok
    cases a1 : decide (secret.length = 32) with
    | false => rfl
    | true =>
      cases a2 : decide (1 ≤ t ∧ t ≤ 99) with
      | false => rfl
      | true =>
        cases a3 : decide (0 ≤ e ∧ e ≤ 1000000) with
        | false => rfl
        | true => rw [a1, a2, a3] at hok; cases hok
theorem readN_var {s : List UInt8} {n k : Nat} (h : readN 7 s = some (n, k)) : varV (n : Int) = s.take k ∧ k ≤ s.length ∧ 1 ≤ k ∧ k ≤ 7 := by
  obtain ⟨h1, h2, h3, h4, h5, _⟩ := readN_some 7 s n k h
  have hn := numV_lt (s.take k)
  rw [List.length_take, Nat.min_eq_left h3, ← h4] at hn
  have hp : 128 ^ k ≤ 128 ^ 7 := Nat.pow_le_pow_right (by decide) h2
  refine ⟨?_, h3, h1, h2⟩
  unfold varV
  rw [decide_eq_true (by omega), cond_true, Int.toNat_natCast]
  exact h5
/-- what a token says -/
noncomputable def tokR (secret s : List UInt8) : Int × Int × Bool := match readN 7 s with
  | none => (0, 0, false)
  | some (t, k1) => match readN 7 (s.drop k1) with
    | none => (0, 0, false)
    | some (e, _) => bif decide (mintV secret t e = s) then ((t : Int), (e : Int), true) else (0, 0, false)
theorem mint_len {secret s : List UInt8} {t k1 e k2 : Nat} (h1 : readN 7 s = some (t, k1)) (h2 : readN 7 (s.drop k1) = some (e, k2)) (hm : mintV secret t e = s) : s.length = k1 + k2 + 8 := by
  obtain ⟨v1, b1, c1, _⟩ := readN_var h1
  obtain ⟨v2, b2, c2, _⟩ := readN_var h2
  rw [List.length_drop] at b2
  unfold mintV at hm
  cases hok : mintOk secret t e with
  | false =>
    rw [hok] at hm
    have := congrArg List.length hm
    simp at this
    omega
  | true =>
    rw [hok] at hm
    have hc := mint_cha hok
    have := congrArg List.length hm
    rw [cond_true, v1, v2, List.length_append, List.length_append, List.length_take, List.length_take, List.length_take, hc, List.length_drop] at this
    omega
theorem spec_ReadToken_eq (secret s : List UInt8) (hs : s.length ≤ 1099511627776) : spec_ReadToken secret s = some (tokR secret s) := by
  unfold spec_ReadToken tokR
  rw [show spec_l6Vars s (0 : Int) (2 : Int) = some (l6V s 2 0) from spec_l6Vars_eq s 0 2 hs (by decide) (by decide)]
  simp only [Option.bind_some]
  cases h1 : readN 7 s with
  | none =>
    have e : l6V s 2 0 = ([], -1) := by
      rw [l6V, decide_eq_false (by omega), cond_false, List.drop_zero, h1]
    rw [e]
    rfl
  | some p =>
    obtain ⟨t, k1⟩ := p
    obtain ⟨v1, b1, c1, _⟩ := readN_var h1
    simp only
    cases h2 : readN 7 (s.drop k1) with
    | none =>
      have e : l6V s 2 0 = ([(t : Int)], -1) := by
        rw [l6V, decide_eq_false (by omega), cond_false, List.drop_zero, h1]
        simp only [Nat.zero_add, l6V]
        rw [decide_eq_false (by omega), cond_false, h2]
      rw [e]
      rfl
    | some q =>
      obtain ⟨e, k2⟩ := q
      have ev : l6V s 2 0 = ([(t : Int), (e : Int)], ((k1 + k2 : Nat) : Int)) := by
        rw [l6V, decide_eq_false (by omega), cond_false, List.drop_zero, h1]
        simp only [Nat.zero_add, l6V]
        rw [decide_eq_false (by omega), cond_false, h2]
      have hne : ¬ s = [] := by intro h; rw [h] at b1; simp at b1; omega
      have i0 : idx [(t : Int), (e : Int)] (0 : Int) = some (t : Int) := rfl
      have i1 : idx [(t : Int), (e : Int)] (1 : Int) = some (e : Int) := rfl
      rw [ev]
      simp only
      rw [decide_eq_false (by omega : ¬ ((k1 + k2 : Nat) : Int) < 0), decide_eq_false hne]
      simp only [Bool.false_eq_true, if_false, i0, i1, Option.bind_some, spec_MintToken_eq]
      cases decide (mintV secret (t : Int) (e : Int) = s) <;> rfl
theorem impl_ReadToken_eq (secret s : List UInt8) (hs : s.length ≤ 1099511627776) : impl_ReadToken secret s = some (tokR secret s) := by
  unfold impl_ReadToken tokR impl_reader_number
  simp only [Bool.false_eq_true, if_false]
  rw [show ssub s (0 : Int) (s.length : Int) = some s from ssub_end s 0 (Nat.zero_le _)]
  simp only [Option.bind_some, impl_ReadVar_eq s hs]
  cases h1 : readN 7 s with
  | none => rfl
  | some p =>
    obtain ⟨t, k1⟩ := p
    obtain ⟨v1, b1, c1, _⟩ := readN_var h1
    have hk0 : decide ((readR (some (t, k1))).2 = 0) = false := decide_eq_false (by show ¬ (k1 : Int) = 0; omega)
    rw [hk0]
    simp only [Bool.false_eq_true, if_false, Option.bind_some, readR]
    rw [wrap_ok (n := (0 : Int) + (k1 : Int)) (by omega) (by omega), show (0 : Int) + (k1 : Int) = ((k1 : Nat) : Int) by omega, ssub_end s k1 b1]
    simp only [Option.bind_some, impl_ReadVar_eq (s.drop k1) (by simp; omega)]
    cases h2 : readN 7 (s.drop k1) with
    | none => rfl
    | some q =>
      obtain ⟨e, k2⟩ := q
      obtain ⟨v2, b2, c2, _⟩ := readN_var h2
      rw [List.length_drop] at b2
      have hk1 : decide ((readR (some (e, k2))).2 = 0) = false := decide_eq_false (by show ¬ (k2 : Int) = 0; omega)
      rw [hk1]
      simp only [Bool.false_eq_true, if_false, Option.bind_some, readR]
      rw [wrap_ok (n := (k1 : Int) + (k2 : Int)) (by omega) (by omega)]
      unfold impl_reader_bytes impl_reader_done
      simp only [Bool.false_eq_true, if_false, Option.bind_some]
      rw [wrap_ok (n := ((s.length : Nat) : Int) - ((k1 : Int) + (k2 : Int))) (by omega) (by omega)]
      by_cases hm : mintV secret t e = s
      · have hl := mint_len h1 h2 hm
        rw [decide_eq_true hm, decide_eq_false (by omega : ¬ (8 : Int) > ((s.length : Nat) : Int) - ((k1 : Int) + (k2 : Int)))]
        simp only [Bool.false_eq_true, if_false]
        rw [wrap_ok (n := (k1 : Int) + (k2 : Int) + 8) (by omega) (by omega), wrap_ok (n := (k1 : Int) + (k2 : Int) + 8 - 8) (by omega) (by omega)]
        rw [show (k1 : Int) + (k2 : Int) + 8 - 8 = ((k1 + k2 : Nat) : Int) by omega, show (k1 : Int) + (k2 : Int) + 8 = ((k1 + k2 + 8 : Nat) : Int) by omega, ssub_nat s (k1 + k2) (k1 + k2 + 8) (by omega) (by omega)]
        simp only [Option.bind_some]
        rw [decide_eq_true (by omega : ((k1 + k2 + 8 : Nat) : Int) = ((s.length : Nat) : Int))]
        simp only [Bool.not_false, Bool.not_true, if_true, Option.bind_some, Bool.false_eq_true, if_false, impl_MintToken_eq]
        rw [decide_eq_true hm]
        rfl
      · rw [decide_eq_false hm]
        by_cases h8 : (8 : Int) > ((s.length : Nat) : Int) - ((k1 : Int) + (k2 : Int))
        · rw [decide_eq_true h8]
          rfl
        · rw [decide_eq_false h8]
          simp only [Bool.false_eq_true, if_false]
          rw [wrap_ok (n := (k1 : Int) + (k2 : Int) + 8) (by omega) (by omega), wrap_ok (n := (k1 : Int) + (k2 : Int) + 8 - 8) (by omega) (by omega)]
          rw [show (k1 : Int) + (k2 : Int) + 8 - 8 = ((k1 + k2 : Nat) : Int) by omega, show (k1 : Int) + (k2 : Int) + 8 = ((k1 + k2 + 8 : Nat) : Int) by omega, ssub_nat s (k1 + k2) (k1 + k2 + 8) (by omega) (by omega)]
          simp only [Option.bind_some, impl_MintToken_eq]
          rw [decide_eq_false hm]
          cases decide (((k1 + k2 + 8 : Nat) : Int) = ((s.length : Nat) : Int)) <;> rfl
/-- whose a call is -/
noncomputable def whoseV (secret : List UInt8) (c : Call) : Int := bif decide (5 ≤ c.Kind ∧ c.Kind ≤ 11) then (tokR secret c.Token).1 else 0
theorem tokR_false {secret s : List UInt8} (h : (tokR secret s).2.2 = false) : (tokR secret s).1 = 0 := by
  unfold tokR at h ⊢
  cases h1 : readN 7 s with
  | none => rfl
  | some p =>
    obtain ⟨t, k1⟩ := p
    rw [h1] at h
    simp only at h ⊢
    cases h2 : readN 7 (s.drop k1) with
    | none => rfl
    | some q =>
      obtain ⟨e, k2⟩ := q
      rw [h2] at h
      simp only at h ⊢
      cases hd : decide (mintV secret (t : Int) (e : Int) = s) with
      | false => rfl
      | true => rw [hd] at h; cases h
theorem spec_Whose_eq (secret : List UInt8) (c : Call) (h : c.Token.length ≤ 1048576) : spec_Whose secret c = some (whoseV secret c) := by
  unfold spec_Whose whoseV
  rw [spec_ReadToken_eq secret c.Token (by omega), l1In_eq]
  simp only [Option.bind_some]
  cases hb : (tokR secret c.Token).2.2 with
  | false => rw [tokR_false hb]; cases decide (5 ≤ c.Kind ∧ c.Kind ≤ 11) <;> rfl
  | true => cases decide (5 ≤ c.Kind ∧ c.Kind ≤ 11) <;> rfl
theorem impl_Whose_eq (secret : List UInt8) (c : Call) (h : c.Token.length ≤ 1048576) : impl_Whose secret c = some (whoseV secret c) := by
  unfold impl_Whose whoseV impl_isOfTenant
  rw [impl_ReadToken_eq secret c.Token (by omega), inRange_eq]
  simp only [Option.bind_some]
  cases decide (5 ≤ c.Kind ∧ c.Kind ≤ 11) <;> rfl
/-- is a call left out -/
noncomputable def skipV (secret : List UInt8) (tenant : Int) (c : Call) : Bool := (!decide (whoseV secret c = 0) && !decide (whoseV secret c = tenant)) || (decide (c.Kind = 13) && !decide (c.Tenant = tenant))
theorem skip_eq (w tenant k t : Int) : (if (!(decide (w = (0 : Int)))) = true then (if (!(decide (w = tenant))) = true then (some true)
  else (if (decide (k = (13 : Int))) = true then (some (!(decide (t = tenant))))
  else (some false)))
  else (if (decide (k = (13 : Int))) = true then (some (!(decide (t = tenant))))
  else (some false))) = some ((!decide (w = 0) && !decide (w = tenant)) || (decide (k = 13) && !decide (t = tenant))) := by
  cases decide (w = 0) <;> cases decide (w = tenant) <;> cases decide (k = 13) <;> cases decide (t = tenant) <;> rfl
noncomputable def aloneV (secret : List UInt8) (tenant : Int) (l : List Call) : List Call := l.filter fun c => !skipV secret tenant c
theorem call_eta (c : Call) : ({ Kind := c.Kind, Token := c.Token, Tenant := c.Tenant, N := c.N, Key := c.Key, To := c.To, Ops := c.Ops } : Call) = c := rfl
theorem call_lens {l : List Call} (hw : wS wgt_Call l ≤ 1048576) : l.length ≤ 1048576 ∧ ∀ c ∈ l, c.Token.length ≤ 1048576 ∧ c.Ops.length ≤ 1048576 := by
  refine ⟨wS_len hw, fun c hc => ?_⟩
  have h1 : c.Token.length + (c.Key.length + (c.To.length + (wS wgt_Op c.Ops + 0))) ≤ 1048576 := wS_mem (w := wgt_Call) hw hc
  exact ⟨by omega, wS_len (w := wgt_Op) (l := c.Ops) (by omega)⟩
theorem call_cnt (l : List Call) (h : l.length ≤ 1048576) (h2 : ∀ c ∈ l, c.Token.length ≤ 1048576 ∧ c.Ops.length ≤ 1048576) : (l.map cnt_Call).sum ≤ 4398071676928 ∧ ∀ c ∈ l, bnd_Call c := by
  have h3 : (l.map cnt_Call).sum ≤ 4194312 * l.length := sum_le cnt_Call 4194312 fun c hc => by
    have c1 : (c.Ops.map cnt_Op).sum ≤ 4 * c.Ops.length := sum_le cnt_Op 4 fun _ _ => Nat.le_of_ble_eq_true rfl
    have := (h2 c hc).2
    show 6 + (c.Ops.map cnt_Op).sum ≤ _
    omega
  exact ⟨by omega, fun c hc => Nat.le_trans (h2 c hc).2 (by decide)⟩
/-- what of the first k replies is told -/
noncomputable def toldV (secret : List UInt8) (tenant : Int) (l : List Call) (r : List Reply) : Nat → List Reply
  | 0 => []
  | k + 1 => toldV secret tenant l r k ++ (match l[k]?, r[k]? with | some c, some x => bif decide (whoseV secret c = tenant) then [x] else [] | _, _ => [])
theorem toldV_succ (secret : List UInt8) (tenant : Int) (l : List Call) (r : List Reply) (k : Nat) (h1 : k < l.length) (h2 : k < r.length) : toldV secret tenant l r (k + 1) = toldV secret tenant l r k ++ bif decide (whoseV secret l[k] = tenant) then [r[k]] else [] := by
  show toldV secret tenant l r k ++ (match l[k]?, r[k]? with | some c, some x => _ | _, _ => _) = _
  rw [List.getElem?_eq_getElem h1, List.getElem?_eq_getElem h2]
theorem toldV_len (secret : List UInt8) (tenant : Int) (l : List Call) (r : List Reply) : ∀ k, (toldV secret tenant l r k).length ≤ k ∧ ∀ x ∈ toldV secret tenant l r k, x ∈ r
  | 0 => ⟨Nat.le_refl _, fun x hx => by cases hx⟩
  | k + 1 => by
    obtain ⟨h1, h2⟩ := toldV_len secret tenant l r k
    by_cases c1 : k < l.length
    · by_cases c2 : k < r.length
      · rw [toldV_succ secret tenant l r k c1 c2]
        cases decide (whoseV secret l[k] = tenant)
        · simp only [cond_false, List.append_nil]; exact ⟨by omega, h2⟩
        · simp only [cond_true, List.length_append, List.length_cons, List.length_nil]
          refine ⟨by omega, fun x hx => ?_⟩
          rcases List.mem_append.1 hx with h | h
          · exact h2 x h
          · rw [List.mem_singleton] at h; rw [h]; exact List.getElem_mem c2
      · have e : toldV secret tenant l r (k + 1) = toldV secret tenant l r k := by
          show toldV secret tenant l r k ++ (match l[k]?, r[k]? with | some c, some x => _ | _, _ => _) = _
          rw [List.getElem?_eq_getElem c1, List.getElem?_eq_none (by omega)]
          simp
        rw [e]; exact ⟨by omega, h2⟩
    · have e : toldV secret tenant l r (k + 1) = toldV secret tenant l r k := by
        show toldV secret tenant l r k ++ (match l[k]?, r[k]? with | some c, some x => _ | _, _ => _) = _
        rw [List.getElem?_eq_none (by omega)]
        simp
      rw [e]; exact ⟨by omega, h2⟩
noncomputable def toldR (secret : List UInt8) (tenant : Int) (l : List Call) (r : List Reply) : List Reply := bif decide (l.length = r.length) && !decide (tenant = 0) then toldV secret tenant l r l.length else []
theorem spec_Told_eq (secret : List UInt8) (tenant : Int) (l : List Call) (r : List Reply) (h : l.length ≤ 1048576) (h2 : ∀ c ∈ l, c.Token.length ≤ 1048576 ∧ c.Ops.length ≤ 1048576) (h3 : ∀ x ∈ r, x.List.length ≤ 1048576) : spec_Told secret l r tenant = some (toldR secret tenant l r) := by
  unfold spec_Told toldR
  by_cases hlr : l.length = r.length
  · rw [decide_eq_true hlr, decide_eq_true (by omega : ((l.length : Nat) : Int) = ((r.length : Nat) : Int))]
    by_cases h0 : tenant = 0
    · rw [decide_eq_true h0]
      rw [loopO_count (fun k => ((k : Int), ([] : List Reply))) l.length (r := Ctl.go []) ?h0]
      case h0 => rfl
      · rfl
      · intro k hk
        simp only
        rw [if_pos (by simpa using hk), wrap_ok (n := (k : Int) + 1) (by omega) (by omega)]
        rfl
      · simp
    · rw [decide_eq_false h0]
      simp only [Bool.not_false, if_true, Bool.and_self, cond_true]
      rw [loopO_count (fun k => ((k : Int), toldV secret tenant l r k)) l.length (r := Ctl.go (toldV secret tenant l r l.length)) ?h1]
      case h1 => rfl
      · rfl
      · intro k hk
        have hkr : k < r.length := by omega
        obtain ⟨q1, q2⟩ := h2 _ (List.getElem_mem hk)
        have q3 := h3 _ (List.getElem_mem hkr)
        have hlen := (toldV_len secret tenant l r k).1
        simp only [idx_nat l k hk, idx_nat r k hkr, Option.bind_some, spec_Whose_eq secret l[k] q1, toldV_succ secret tenant l r k hk hkr]
        rw [if_pos (by simpa using hk), wrap_ok (n := (k : Int) + 1) (by omega) (by omega)]
        cases decide (whoseV secret l[k] = tenant) with
        | false => simp
        | true =>
          simp only [Option.bind_some, if_true]
          rw [app_ok (by simp; omega) (by simp; omega)]
          simp only [List.nil_append, Option.bind_some]
          rw [app_ok (by simp only [List.length_cons, List.length_nil]; omega) (by simp only [List.length_cons, List.length_nil]; omega)]
          simp
      · simp
  · rw [decide_eq_false hlr, decide_eq_false (by omega : ¬ ((l.length : Nat) : Int) = ((r.length : Nat) : Int))]
    rw [loopO_eq]
    simp
theorem impl_Told_eq (secret : List UInt8) (tenant : Int) (l : List Call) (r : List Reply) (h : l.length ≤ 1048576) (h2 : ∀ c ∈ l, c.Token.length ≤ 1048576 ∧ c.Ops.length ≤ 1048576) (h3 : ∀ x ∈ r, x.List.length ≤ 1048576) : impl_Told secret l r tenant = some (toldR secret tenant l r) := by
  unfold impl_Told toldR
  by_cases h0 : tenant = 0
  · rw [decide_eq_true h0]
    cases decide (l.length = r.length) <;> rfl
  · rw [decide_eq_false h0]
    by_cases hlr : l.length = r.length
    · rw [decide_eq_true hlr, decide_eq_true (by omega : ((l.length : Nat) : Int) = ((r.length : Nat) : Int))]
      simp only [Bool.false_eq_true, if_false, Option.bind_some, Bool.not_true, Bool.not_false, Bool.and_self, cond_true]
      rw [loopO_count (fun k => ((k : Int), toldV secret tenant l r k)) l.length (r := Ctl.go (toldV secret tenant l r l.length)) ?h1]
      case h1 => rfl
      · rfl
      · intro k hk
        have hkr : k < r.length := by omega
        obtain ⟨q1, q2⟩ := h2 _ (List.getElem_mem hk)
        have q3 := h3 _ (List.getElem_mem hkr)
        have hlen := (toldV_len secret tenant l r k).1
        simp only [idx_nat l k hk, idx_nat r k hkr, Option.bind_some, impl_Whose_eq secret l[k] q1, toldV_succ secret tenant l r k hk hkr]
        rw [if_pos (by simpa using hk), wrap_ok (n := (k : Int) + 1) (by omega) (by omega)]
        cases decide (whoseV secret l[k] = tenant) with
        | false => simp
        | true =>
          simp only [Option.bind_some, if_true]
          rw [app_ok (by simp; omega) (by simp; omega)]
          simp only [List.nil_append, Option.bind_some]
          rw [app_ok (by simp only [List.length_cons, List.length_nil]; omega) (by simp only [List.length_cons, List.length_nil]; omega)]
          simp
      · simp
    · rw [decide_eq_false hlr, decide_eq_false (by omega : ¬ ((l.length : Nat) : Int) = ((r.length : Nat) : Int))]
      rfl
theorem reply_cnt (l : List Reply) (h : l.length ≤ 1048576) (h2 : ∀ c ∈ l, c.List.length ≤ 1048576) : (l.map cnt_Reply).sum ≤ 4398071676928 ∧ ∀ c ∈ l, bnd_Reply c := by
  have h3 : (l.map cnt_Reply).sum ≤ 4194312 * l.length := sum_le cnt_Reply 4194312 fun c hc => by
    have c1 : (c.List.map cnt_KV).sum ≤ 4 * c.List.length := sum_le cnt_KV 4 fun _ _ => Nat.le_of_ble_eq_true rfl
    have := h2 c hc
    show 3 + (c.List.map cnt_KV).sum ≤ _
    omega
  exact ⟨by omega, fun c hc => Nat.le_trans (h2 c hc) (by decide)⟩
theorem FnExactTold_pure (s : List UInt8) (a : List Call) (r : List Reply) (t : Int) (h : okl a) (hr : okl r) : laws_FnExactTold s a r t = some true := by
  unfold laws_FnExactTold
  by_cases hs : ((s.length : Nat) : Int) > 1048576
  · rw [decide_eq_true hs]; rfl
  · rw [decide_eq_false hs, sz_CallS a 1048576 (by omega) (by omega) h]
    simp only [Bool.false_eq_true, if_false, Option.bind_some]
    by_cases hl : szV 1048576 (wS wgt_Call a) < 0
    · rw [if_pos (by simpa using hl)]
    · have hn := szV_nonneg hl
      have hw : wS wgt_Call a ≤ 1048576 := by omega
      obtain ⟨l1, l2⟩ := call_lens hw
      obtain ⟨c1, c2⟩ := call_cnt a l1 l2
      have hb0 : szV 1048576 (wS wgt_Call a) ≤ 1048576 := (szV_le (by omega) (by omega)).2
      rw [if_neg (by simpa using hl), sz_ReplyS r _ (by omega) hb0 hr]
      simp only [Option.bind_some]
      by_cases hl2 : szV (szV 1048576 (wS wgt_Call a)) (wS wgt_Reply r) < 0
      · rw [if_pos (by simpa using hl2)]
      · have hn2 := szV_nonneg hl2
        have hw2 : wS wgt_Reply r ≤ 1048576 := by omega
        have l5 := wS_len hw2
        have l6 : ∀ x ∈ r, x.List.length ≤ 1048576 := fun x hx => by
          have h1 : x.Text.length + (wS wgt_KV x.List + 0) ≤ 1048576 := wS_mem (w := wgt_Reply) hw2 hx
          exact wS_len (w := wgt_KV) (l := x.List) (by omega)
        obtain ⟨c5, c6⟩ := reply_cnt r l5 l6
        have l3 : (toldR s t a r).length ≤ 1048576 ∧ ∀ x ∈ toldR s t a r, x ∈ r := by
          unfold toldR
          cases decide (a.length = r.length) && !decide (t = 0)
          · exact ⟨by simp, fun x hx => by cases hx⟩
          · have := toldV_len s t a r a.length
            exact ⟨by simp only [cond_true]; omega, this.2⟩
        obtain ⟨c3, c4⟩ := reply_cnt _ l3.1 (fun x hx => l6 x (l3.2 x hx))
        rw [if_neg (by simpa using hl2), to_CallS a hw, to_ReplyS r hw2]
        simp only [Option.bind_some, spec_Told_eq s t a r l1 l2 l6, impl_Told_eq s t a r l1 l2 l6]
        have l3' := l3.1
        generalize toldR s t a r = x at l3' c3 c4
        have b1 : a.length ≤ 4611686018427387904 ∧ ∀ y ∈ a, bnd_Call y := ⟨by omega, c2⟩
        have b2 : x.length ≤ 4611686018427387904 ∧ ∀ y ∈ x, bnd_Reply y := ⟨by omega, c4⟩
        have b3 : r.length ≤ 4611686018427387904 ∧ ∀ y ∈ r, bnd_Reply y := ⟨by omega, c6⟩
        simp only [eq_ReplyS x x b2, eq_CallS a a b1, eq_ReplyS r r b3, mark_CallS a 1 (by omega) (by omega) b1, mark_ReplyS r (1 + (((a.map cnt_Call).sum : Nat) : Int)) (by omega) (by omega) b3, mark_ReplyS x 1 (by omega) (by omega) b2, held_ReplyS x 1 (by omega) (by omega) b2, Option.bind_some]
        generalize (a.map cnt_Call).sum = m1 at c1
        generalize (x.map cnt_Reply).sum = m2 at c3
        generalize (r.map cnt_Reply).sum = m3 at c5
        have n1 : ¬ (1 + (m1 : Int) + (m3 : Int) < 0) := by omega
        have n2 : ¬ (1 + (m2 : Int) < 0) := by omega
        simp [n1, n2]
theorem FnExactTold_proved : Rows.FnExactToldSaid := FnExactTold_over fun s a r t _ h hr _ => FnExactTold_pure s a r t h hr

end Go.Proofs.Ytedpnkndjbhpnaa
