/-
  The plain laws: what the pure functions come to, and the statements. Conditions: none.
-/
import Derived.Test.YtkikmcdmklkdpaaGreatQza
set_option linter.unusedVariables false
set_option linter.unusedSimpArgs false
namespace Go.Proofs.YtkikmcdmklkdpaaGreat
open Go Sl
def FstL {α κ : Type} [DecidableEq κ] (K : α → κ) (r l : List α) : Prop := ∀ c, r.filter (fun x => decide (K x = c)) = (l.filter (fun x => decide (K x = c))).take 1
theorem FstL.mem {α κ : Type} [DecidableEq κ] {K : α → κ} {r l : List α} (h : FstL K r l) {x : α} (hx : x ∈ r) : x ∈ l := by
  have : x ∈ r.filter (fun y => decide (K y = K x)) := List.mem_filter.2 ⟨hx, by simp⟩
  rw [h (K x)] at this
  exact (List.mem_filter.1 (List.mem_of_mem_take this)).1
theorem ordE_srt {l : List Ent} (h : ordE l) : SrtL entLt l := List.Pairwise.imp (fun h => entOrd3.asym h) h
theorem FstL.uniq {r r' l l' : List Ent} (h1 : ordE r) (h2 : ordE r') (h3 : FstL keyE r l) (h4 : FstL keyE r' l') (h5 : ClsL keyE l l') : r = r' :=
  srt_ext entOrd3 r r' (ordE_srt h1) (ordE_srt h2) fun c => by rw [h3 c, h4 c, h5 c]
theorem cls_none {l : List Ent} {a : Ent} (h : ∀ x ∈ l, entLt a x = true ∨ entLt x a = true) : l.filter (fun x => decide (keyE x = keyE a)) = [] := by
  rw [List.filter_eq_nil_iff]
  intro x hx hk
  have hk : keyE x = keyE a := by simpa using hk
  rcases h x hx with e | e
  · rw [entOrd3.irr a x hk.symm] at e; cases e
  · rw [entOrd3.irr x a hk] at e; cases e
theorem cls_one {l : List Ent} (h : ordE l) (c : List UInt8 × Int) : (l.filter (fun x => decide (keyE x = c))).take 1 = l.filter (fun x => decide (keyE x = c)) := by
  have hp := h.filter (fun x => decide (keyE x = c))
  match hq : l.filter (fun x => decide (keyE x = c)), hp with
  | [], _ => rfl
  | [x], _ => rfl
  | x :: y :: t, hp =>
    have h1 := (List.pairwise_cons.1 hp).1 y (by simp)
    have hx : x ∈ l.filter (fun x => decide (keyE x = c)) := by rw [hq]; simp
    have hy : y ∈ l.filter (fun x => decide (keyE x = c)) := by rw [hq]; simp
    have ex : keyE x = c := by simpa using (List.mem_filter.1 hx).2
    have ey : keyE y = c := by simpa using (List.mem_filter.1 hy).2
    rw [entOrd3.irr x y (ex.trans ey.symm)] at h1; cases h1
def skp (a : Ent) : List Ent → List Ent
  | [] => []
  | x :: r => if entLt a x = true then x :: r else r
def mg : List Ent → List Ent → List Ent
  | [], e => e
  | a :: t, e => e.takeWhile (fun x => entLt x a) ++ a :: mg t (skp a (e.dropWhile (fun x => entLt x a)))
theorem ordE_dropWhile (a : Ent) : ∀ (e : List Ent), ordE e → ∀ x ∈ e.dropWhile (fun x => entLt x a), entLt x a = false
  | [], _, x, hx => by simp at hx
  | y :: e, h, x, hx => by
    rw [List.dropWhile_cons] at hx
    cases hy : entLt y a with
    | true =>
      rw [hy, if_pos rfl] at hx
      exact ordE_dropWhile a e (List.pairwise_cons.1 h).2 x hx
    | false =>
      rw [hy] at hx
      rcases List.mem_cons.1 (show x ∈ y :: e from hx) with rfl | hx
      · exact hy
      · exact entOrd3.le_trans hy (entOrd3.asym ((List.pairwise_cons.1 h).1 x hx))
theorem skp_eq (a : Ent) (l : List Ent) (h : ordE l) (h1 : ∀ x ∈ l, entLt x a = false) : ordE (skp a l) ∧ (∀ x ∈ skp a l, entLt a x = true) ∧ ∀ c, c ≠ keyE a → (skp a l).filter (fun x => decide (keyE x = c)) = l.filter (fun x => decide (keyE x = c)) := by
  match l, h, h1 with
  | [], _, _ => exact ⟨List.Pairwise.nil, fun x hx => by simp [skp] at hx, fun c _ => rfl⟩
  | y :: t, h, h1 =>
    have hp := List.pairwise_cons.1 h
    have e : skp a (y :: t) = if entLt a y = true then y :: t else t := rfl
    rw [e]
    cases hy : entLt a y with
    | true =>
      rw [if_pos rfl]
      refine ⟨h, fun x hx => ?_, fun c _ => rfl⟩
      rcases List.mem_cons.1 hx with rfl | hx
      · exact hy
      · exact entOrd3.trans a y x hy (hp.1 x hx)
    | false =>
      rw [if_neg (by simp)]
      have hk : keyE a = keyE y := by
        rcases entOrd3.tri a y with t | t | t
        · rw [t] at hy; cases hy
        · exact t
        · rw [h1 y (by simp)] at t; cases t
      refine ⟨hp.2, fun x hx => ?_, fun c hc => ?_⟩
      · exact entOrd3.le_lt (entOrd3.irr y a hk.symm) (hp.1 x hx)
      · rw [List.filter_cons_of_neg (by simp; rw [← hk]; exact fun e => hc e.symm)]
theorem mg_props : ∀ (l e : List Ent), ordE l → ordE e → ordE (mg l e) ∧ FstL keyE (mg l e) (l ++ e) := by
  intro l
  induction l with
  | nil => intro e _ he; exact ⟨he, fun c => (cls_one he c).symm⟩
  | cons a t ih =>
    intro e hl he
    unfold mg
    have hat := List.pairwise_cons.1 hl
    have hE : e = e.takeWhile (fun x => entLt x a) ++ e.dropWhile (fun x => entLt x a) := (List.takeWhile_append_dropWhile).symm
    have h2 := ordE_dropWhile a e he
    have h1 : ∀ x ∈ e.takeWhile (fun x => entLt x a), entLt x a = true := fun x hx => by
      have := List.all_eq_true.1 (List.all_takeWhile (p := fun x => entLt x a) (l := e)) x hx
      exact this
    generalize e.takeWhile (fun x => entLt x a) = E1 at *
    generalize e.dropWhile (fun x => entLt x a) = E2 at *
    subst hE
    have hp := List.pairwise_append.1 he
    obtain ⟨g1, g2, g3⟩ := skp_eq a E2 hp.2.1 h2
    generalize skp a E2 = E3 at *
    obtain ⟨i1, i2⟩ := ih E3 hat.2 g1
    have hgt : ∀ x ∈ mg t E3, entLt a x = true := fun x hx => by
      rcases List.mem_append.1 (i2.mem hx) with hx | hx
      · exact hat.1 x hx
      · exact g2 x hx
    refine ⟨List.pairwise_append.2 ⟨hp.1, List.pairwise_cons.2 ⟨hgt, i1⟩, ?_⟩, ?_⟩
    · intro x hx y hy
      rcases List.mem_cons.1 hy with rfl | hy
      · exact h1 x hx
      · exact entOrd3.trans x a y (h1 x hx) (hgt y hy)
    · intro c
      by_cases hc : keyE a = c
      · subst hc
        rw [List.filter_append, List.filter_cons_of_pos (by simp), cls_none (l := E1) (a := a) (fun x hx => .inr (h1 x hx)), cls_none (l := mg t E3) (a := a) (fun x hx => .inl (hgt x hx)), List.cons_append, List.filter_cons_of_pos (by simp)]
        rfl
      · have e3 := i2 c
        rw [List.filter_append] at e3
        rw [List.filter_append, List.filter_cons_of_neg (by simpa using hc), e3, List.cons_append, List.filter_cons_of_neg (by simpa using hc), List.filter_append, List.filter_append, g3 c (fun e => hc e.symm)]
        match hq : E1.filter (fun x => decide (keyE x = c)) with
        | [] => rw [List.nil_append, List.nil_append]
        | x :: r =>
          have hx : x ∈ E1.filter (fun x => decide (keyE x = c)) := by rw [hq]; simp
          have hx1 := (List.mem_filter.1 hx).1
          have hxc : keyE x = c := by simpa using (List.mem_filter.1 hx).2
          subst hxc
          have t1 : t.filter (fun y => decide (keyE y = keyE x)) = [] := cls_none fun y hy => .inl (entOrd3.trans x a y (h1 x hx1) (hat.1 y hy))
          have t2 : E2.filter (fun y => decide (keyE y = keyE x)) = [] := cls_none fun y hy => .inl (hp.2.2 x hx1 y hy)
          have t3 := cls_one hp.1 (keyE x)
          rw [hq] at t3
          rw [t1, t2]
          simp only [List.nil_append, List.append_nil, List.take_nil]
          exact t3.symm
def ddA : Option Ent → List Ent → List Ent
  | _, [] => []
  | p, x :: t => if p.any (fun y => decide (keyE y = keyE x)) = true then ddA (some x) t else x :: ddA (some x) t
theorem ddA_some : ∀ (l : List Ent) (y : Ent), SrtL entLt (y :: l) → ordE (y :: ddA (some y) l) ∧ ∀ c, (ddA (some y) l).filter (fun x => decide (keyE x = c)) = if keyE y = c then [] else (l.filter (fun x => decide (keyE x = c))).take 1 := by
  intro l
  induction l with
  | nil => intro y _; exact ⟨by simp [ddA, ordE], fun c => by simp [ddA]⟩
  | cons x t ih =>
    intro y h
    have h0 := List.pairwise_cons.1 h
    have h1 := List.pairwise_cons.1 h0.2
    obtain ⟨i1, i2⟩ := ih x h0.2
    have j1 := List.pairwise_cons.1 i1
    by_cases hk : keyE y = keyE x
    · have e : ddA (some y) (x :: t) = ddA (some x) t := by show (if _ then _ else _) = _; rw [if_pos (by simpa using hk)]
      rw [e]
      refine ⟨List.pairwise_cons.2 ⟨fun z hz => entOrd3.le_lt (entOrd3.irr x y hk.symm) (j1.1 z hz), j1.2⟩, fun c => ?_⟩
      rw [i2 c, ← hk]
      by_cases hc : keyE y = c
      · rw [if_pos hc, if_pos hc]
      · rw [if_neg hc, if_neg hc, List.filter_cons_of_neg (by rw [← hk]; simpa using hc)]
    · have e : ddA (some y) (x :: t) = x :: ddA (some x) t := by show (if _ then _ else _) = _; rw [if_neg (by simpa using hk)]
      rw [e]
      have hyx : entLt y x = true := by
        rcases entOrd3.tri y x with q | q | q
        · exact q
        · exact absurd q hk
        · rw [h0.1 x (by simp)] at q; cases q
      refine ⟨List.pairwise_cons.2 ⟨fun z hz => ?_, i1⟩, fun c => ?_⟩
      · rcases List.mem_cons.1 hz with rfl | hz
        · exact hyx
        · exact entOrd3.trans y x z hyx (j1.1 z hz)
      · by_cases hc : keyE x = c
        · subst hc
          rw [if_neg hk, List.filter_cons_of_pos (by simp), List.filter_cons_of_pos (by simp), i2, if_pos rfl]
          rfl
        · rw [List.filter_cons_of_neg (by simpa using hc), List.filter_cons_of_neg (by simpa using hc), i2, if_neg hc]
          by_cases hy : keyE y = c
          · subst hy
            rw [if_pos rfl, cls_none (fun z hz => .inl (entOrd3.lt_le hyx (h1.1 z hz)))]
            rfl
          · rw [if_neg hy]
theorem ddA_none (l : List Ent) (h : SrtL entLt l) : ordE (ddA none l) ∧ FstL keyE (ddA none l) l := by
  match l, h with
  | [], _ => exact ⟨List.Pairwise.nil, fun c => rfl⟩
  | x :: t, h =>
    obtain ⟨i1, i2⟩ := ddA_some t x h
    have e : ddA none (x :: t) = x :: ddA (some x) t := rfl
    rw [e]
    refine ⟨i1, fun c => ?_⟩
    by_cases hc : keyE x = c
    · subst hc
      rw [List.filter_cons_of_pos (by simp), List.filter_cons_of_pos (by simp), i2, if_pos rfl]
      rfl
    · rw [List.filter_cons_of_neg (by simpa using hc), List.filter_cons_of_neg (by simpa using hc), i2, if_neg hc]
theorem foldl_mg : ∀ (L : List (List Ent)) (acc F : List Ent), (∀ e ∈ L, ordE e) → ordE acc → FstL keyE acc F → ordE (L.foldl mg acc) ∧ FstL keyE (L.foldl mg acc) (F ++ L.flatten) := by
  intro L
  induction L with
  | nil => intro acc F _ h1 h2; simpa using ⟨h1, h2⟩
  | cons e L ih =>
    intro acc F h h1 h2
    obtain ⟨m1, m2⟩ := mg_props acc e h1 (h e (by simp))
    have := ih (mg acc e) (F ++ e) (fun e' he => h e' (List.mem_cons_of_mem _ he)) m1 (fun c => by
      rw [m2 c, List.filter_append, List.filter_append, h2 c]
      match F.filter (fun x => decide (keyE x = c)) with
      | [] => rfl
      | x :: r => rfl)
    simpa using this
theorem piece_zero {α : Type} (l : List α) (b : Nat) (hi : Int) (h2 : hi = (b : Int)) (h4 : b ≤ l.length) : piece l (0 : Int) hi = some (l.take b) := by
  rw [piece_nat l 0 b 0 hi rfl h2 (by omega) h4]; simp
theorem totalV_flatten (l : List (List Ent)) : l.flatten.length = totalV l := by
  unfold totalV
  rw [List.length_flatten]
theorem grow_nil_eq (n : Nat) (h : n ≤ 1048576) : slices_Grow_94167_nil (n : Int) = some [] := by
  unfold slices_Grow_94167_nil
  rw [if_neg (by simp)]
  have w1 : IntKind.i64.wrap (((0 : Nat) : Int) - ((([] : List Ent).length : Nat) : Int)) = 0 := by rw [wrap_ok (by simp) (by simp)] <;> rfl
  have w2 : IntKind.i64.wrap ((n : Int) - 0) = (n : Int) := by rw [wrap_ok (by omega) (by omega)]; omega
  simp only [w1, w2]
  rcases Nat.eq_zero_or_pos n with h0 | h0
  · subst h0; rfl
  · have z : zapp 48 (n : Int) = some n := by
      unfold zapp
      rw [if_pos ⟨by omega, by omega, by omega⟩, Int.toNat_natCast]
    rw [if_pos (decide_eq_true (by omega)), z]
    rw [piece_zero _ 0 _ rfl (by omega)]
    simp only [Option.bind_some]
    rw [piece_zero _ 0 _ (show ((([] : List Ent).length : Nat) : Int) = ((0 : Nat) : Int) from rfl) (by omega)]
    rfl
theorem concat_eq (l : List (List Ent)) (h : l.length ≤ 1048576) (ht : totalV l ≤ 1048576) : slices_Concat_94167 l = some l.flatten := by
  unfold slices_Concat_94167
  have hsum : ∀ k, k ≤ l.length → totalV (l.take k) ≤ totalV l := by
    intro k _
    have := totalV_flatten l
    have e := totalV_flatten (l.take k)
    rw [← List.take_append_drop k l, List.flatten_append, List.length_append] at this
    rw [List.take_append_drop] at this
    omega
  have hstep : ∀ k (hk : k < l.length), (l.take (k + 1)).flatten = (l.take k).flatten ++ l[k] := by
    intro k hk
    rw [take_snoc l k hk, List.flatten_append]; simp
  have hst2 : ∀ k (hk : k < l.length), totalV (l.take (k + 1)) = totalV (l.take k) + l[k].length := by
    intro k hk
    rw [← totalV_flatten, hstep k hk, List.length_append, totalV_flatten]
  refine loopO_G (τ := Int × Int) (ρ := Int) (R := List Ent) (fun x => x = some l.flatten) (fun k s => s = ((totalV (l.take k) : Int), (k : Int))) l.length (fun r => r = .go (totalV l : Int)) ?_ ?_ ?_ ?_
  · show _ = _
    simp [totalV]
  · rintro k _ hk rfl
    left
    have e1 : idx l (k : Int) = some l[k] := idx_nat l k hk
    have h1 := hst2 k hk
    have h2 := hsum (k + 1) (by omega)
    have w1 : IntKind.i64.wrap ((totalV (l.take k) : Int) + ((l[k].length : Nat) : Int)) = (totalV (l.take (k + 1)) : Int) := by rw [wrap_ok (by omega) (by omega)]; omega
    have w2 : IntKind.i64.wrap ((k : Int) + 1) = ((k + 1 : Nat) : Int) := by rw [wrap_ok (by omega) (by omega)]; omega
    refine ⟨_, ?_, rfl⟩
    simp only [e1, Option.bind_some, w1, w2]
    rw [if_pos (decide_eq_true (by omega)), if_neg (by simp)]
  · rintro _ rfl
    refine ⟨_, ?_, rfl⟩
    simp
  · rintro _ rfl
    rw [bindC_go, grow_nil_eq _ ht]
    simp only [Option.bind_some]
    refine loopO_G (τ := Int × List Ent) (ρ := List Ent) (R := List Ent) (fun x => x = some l.flatten) (fun k s => s = ((k : Int), (l.take k).flatten)) l.length (fun r => r = .go l.flatten) ?_ ?_ ?_ ?_
    · show _ = _
      simp
    · rintro k _ hk rfl
      left
      have e1 : idx l (k : Int) = some l[k] := idx_nat l k hk
      have h1 := hst2 k hk
      have h2 := hsum (k + 1) (by omega)
      have h3 := totalV_flatten (l.take k)
      have w2 : IntKind.i64.wrap ((k : Int) + 1) = ((k + 1 : Nat) : Int) := by rw [wrap_ok (by omega) (by omega)]; omega
      refine ⟨_, ?_, rfl⟩
      simp only [e1, Option.bind_some, w2]
      rw [if_pos (decide_eq_true (by omega)), app_ok (by omega) (by omega), hstep k hk]
      rfl
    · rintro _ rfl
      refine ⟨_, ?_, rfl⟩
      simp
    · rintro _ rfl
      rfl
theorem merged_1_eq (a b : Ent) : impl_merged_1 a b = some (decide (keyE a = keyE b)) := by
  unfold impl_merged_1
  by_cases h1 : a.Key = b.Key
  · by_cases h2 : a.Seq = b.Seq
    · simp [h1, h2, keyE]
    · simp [h1, h2, keyE]
  · simp [h1, keyE]
theorem ddA_eq (y x : Ent) (t : List Ent) : ddA (some y) (x :: t) = if keyE y = keyE x then ddA (some x) t else x :: ddA (some x) t := by
  show (if _ then _ else _) = _
  by_cases h : keyE y = keyE x
  · rw [if_pos (by simpa using h), if_pos h]
  · rw [if_neg (by simpa using h), if_neg h]
theorem compactF_eq (s : List Ent) (h : s.length ≤ 1048576) : slices_CompactFunc_94167_at_impl_merged_1 s = some (ddA none s) := by
  unfold slices_CompactFunc_94167_at_impl_merged_1
  by_cases hn : s.length < 2
  · rw [if_pos (decide_eq_true (by omega))]
    match s, hn with
    | [], _ => rfl
    | [x], _ => rfl
    | _ :: _ :: _, hn => simp at hn; omega
  · rw [if_neg (by simp; omega)]
    refine loopO_G (τ := Int) (ρ := Unit) (R := List Ent) (fun x => x = some (ddA none s)) (fun t i => i = ((t + 1 : Nat) : Int) ∧ ∃ h : t < s.length, ddA none s = s.take (t + 1) ++ ddA (some s[t]) (s.drop (t + 1))) (s.length - 1)
      (fun r => (r = .go () ∧ ddA none s = s) ∨ r = .done (ddA none s)) ⟨rfl, by omega, ?_⟩ ?_ ?_ ?_
    · match s, hn with
      | [], hn => simp at hn
      | x :: t, _ => rfl
    · rintro t _ ht ⟨rfl, ht0, hd⟩
      have ht1 : t + 1 < s.length := by omega
      have e1 : idx s ((t + 1 : Nat) : Int) = some s[t + 1] := idx_nat s (t + 1) ht1
      have w1 : IntKind.i64.wrap (((t + 1 : Nat) : Int) - 1) = ((t : Nat) : Int) := by rw [wrap_ok (by omega) (by omega)]; omega
      have w2 : IntKind.i64.wrap (((t + 1 : Nat) : Int) + 1) = ((t + 1 + 1 : Nat) : Int) := by rw [wrap_ok (by omega) (by omega)]; omega
      have e2 : idx s ((t : Nat) : Int) = some s[t] := idx_nat s t ht0
      rw [List.drop_eq_getElem_cons ht1, ddA_eq] at hd
      have c1 : decide (((t + 1 : Nat) : Int) < ((s.length : Nat) : Int)) = true := decide_eq_true (by omega)
      simp only [c1, if_true, e1, w1, e2, Option.bind_some, merged_1_eq]
      by_cases hk : keyE s[t + 1] = keyE s[t]
      · rw [if_pos (decide_eq_true hk)]
        rw [if_pos hk.symm] at hd
        rw [piece_nat s (t + 1) s.length _ _ rfl rfl (by omega) (by omega)]
        simp only [Option.bind_some]
        right
        refine loopO_G (τ := Int × Int × List Ent) (ρ := Int × List Ent) (R := Ctl Int (Ctl Unit (List Ent))) (fun x => ∃ r, x = some (.done r) ∧ ((r = .go () ∧ ddA none s = s) ∨ r = .done (ddA none s)))
          (fun u q => ∃ (k : Nat) (s' : List Ent), q = ((k : Int), ((u + 1 : Nat) : Int), s') ∧ s'.length = s.length ∧ k ≤ t + 1 + u ∧ s'.drop (t + 1 + u) = s.drop (t + 1 + u) ∧ ∃ h : t + 1 + u < s.length, ddA none s = s'.take k ++ ddA (some s[t + 1 + u]) (s.drop (t + 1 + u + 1))) (s.length - (t + 2))
          (fun r => ∃ (k : Nat) (s' : List Ent), r = .go ((k : Int), s') ∧ s'.length = s.length ∧ k ≤ s.length ∧ ddA none s = s'.take k)
          ⟨t + 1, s, rfl, rfl, by omega, rfl, ht1, hd⟩ ?_ ?_ ?_
        · rintro u _ hu ⟨k, s', rfl, g1, g2, g3, g4, g5⟩
          left
          have g6 : t + 1 + u + 1 < s.length := by omega
          have p1 : piece s' ((t + 1 : Nat) : Int) ((s.length : Nat) : Int) = some (s'.drop (t + 1)) := by
            rw [piece_nat s' (t + 1) s.length _ _ rfl rfl (by omega) (by omega), List.take_of_length_le (by rw [List.length_drop]; omega)]
          have c2 : decide (((u + 1 : Nat) : Int) < (((s'.drop (t + 1)).length : Nat) : Int)) = true := decide_eq_true (by rw [List.length_drop]; omega)
          have a1 : ∀ j (hj : t + 1 + u + j < s.length), idx (s'.drop (t + 1)) ((u + j : Nat) : Int) = some s[t + 1 + u + j] := by
            intro j hj
            rw [idx_nat _ (u + j) (by rw [List.length_drop]; omega), List.getElem_drop]
            have := congrArg (fun l => l[j]?) g3
            simp only [List.getElem?_drop] at this
            rw [List.getElem?_eq_getElem (by omega), List.getElem?_eq_getElem hj] at this
            rw [← this]
            congr 1
            simp only [Nat.add_assoc]
          have w3 : IntKind.i64.wrap (((u + 1 : Nat) : Int) - 1) = ((u + 0 : Nat) : Int) := by rw [wrap_ok (by omega) (by omega)]; omega
          have w4 : IntKind.i64.wrap (((u + 1 : Nat) : Int) + 1) = ((u + 1 + 1 : Nat) : Int) := by rw [wrap_ok (by omega) (by omega)]; omega
          simp only [p1, Option.bind_some, c2, if_true, a1 1 g6, w3, a1 0 g4, merged_1_eq, w4]
          rw [List.drop_eq_getElem_cons g6, ddA_eq] at g5
          have e5 : s[t + 1 + u + 0] = s[t + 1 + u] := rfl
          by_cases hq : keyE s[t + 1 + u + 1] = keyE s[t + 1 + u]
          · rw [if_pos hq.symm] at g5
            rw [if_neg (by simp [hq])]
            refine ⟨_, rfl, k, s', rfl, g1, by omega, ?_, g6, g5⟩
            have := congrArg (List.drop 1) g3
            rw [List.drop_drop, List.drop_drop] at this
            exact this
          · rw [if_neg (fun e => hq e.symm)] at g5
            rw [if_pos (by simp [hq])]
            have e6 : idx s' (k : Int) = some s'[k] := idx_nat s' k (by omega)
            have w5 : IntKind.i64.wrap ((k : Int) + 1) = ((k + 1 : Nat) : Int) := by rw [wrap_ok (by omega) (by omega)]; omega
            simp only [e6, Option.bind_some, w5, Int.toNat_natCast]
            refine ⟨_, rfl, k + 1, s'.set k s[t + 1 + u + 1], rfl, by rw [List.length_set]; exact g1, by omega, ?_, g6, ?_⟩
            · rw [List.drop_set_of_lt (by omega)]
              have := congrArg (List.drop 1) g3
              rw [List.drop_drop, List.drop_drop] at this
              exact this
            · rw [g5, List.take_succ_eq_append_getElem (by rw [List.length_set]; omega), List.take_set_of_le (by omega)]
              simp
              rfl
        · rintro _ ⟨k, s', rfl, g1, g2, g3, g4, g5⟩
          have hu : t + 1 + (s.length - (t + 2)) + 1 = s.length := by omega
          rw [hu, List.drop_length] at g5
          have p1 : piece s' ((t + 1 : Nat) : Int) ((s.length : Nat) : Int) = some (s'.drop (t + 1)) := by
            rw [piece_nat s' (t + 1) s.length _ _ rfl rfl (by omega) (by omega), List.take_of_length_le (by rw [List.length_drop]; omega)]
          have c2 : decide (((s.length - (t + 2) + 1 : Nat) : Int) < (((s'.drop (t + 1)).length : Nat) : Int)) = false := decide_eq_false (by rw [List.length_drop]; omega)
          simp only [p1, Option.bind_some, c2]
          refine ⟨_, rfl, k, s', rfl, g1, by omega, ?_⟩
          rw [g5]
          exact List.append_nil _
        · rintro _ ⟨k, s', rfl, g1, g2, g3⟩
          rw [bindC_go]
          simp only
          rw [piece_nat s' k s'.length _ _ rfl rfl (by omega) (by omega), piece_zero s' k _ rfl (by omega)]
          simp only [Option.bind_some]
          refine ⟨_, rfl, .inr ?_⟩
          rw [g3]
      · left
        rw [if_neg (by simpa using hk), w2]
        rw [if_neg (fun e => hk e.symm)] at hd
        refine ⟨_, rfl, rfl, ht1, ?_⟩
        rw [take_snoc s (t + 1) ht1, List.append_assoc]
        exact hd
    · rintro _ ⟨rfl, ht0, hd⟩
      refine ⟨.go (), ?_, .inl ⟨rfl, ?_⟩⟩
      · rw [if_neg (by simp; omega)]
      · have e : s.length - 1 + 1 = s.length := by omega
        rw [e, List.take_length, List.drop_length] at hd
        rw [hd]
        exact List.append_nil _
    · rintro _ (⟨rfl, hd⟩ | rfl)
      · rw [bindC_go, hd]
      · rfl
theorem merged_eq (l : List (List Ent)) (h : l.length ≤ 1048576) (ht : totalV l ≤ 262144) (hv : ∀ e ∈ l, ordE e) : impl_merged l = some (l.foldl mg []) := by
  unfold impl_merged
  rw [concat_eq l h (by omega)]
  simp only [Option.bind_some]
  obtain ⟨R, h1, h2, h3⟩ := stable_eq l.flatten (by rw [totalV_flatten]; exact ht)
  have hR : R.length = l.flatten.length := h3.length
  rw [totalV_flatten] at hR
  rw [h1]
  simp only [Option.bind_some]
  rw [compactF_eq R (by omega)]
  simp only [Option.bind_some]
  obtain ⟨d1, d2⟩ := ddA_none R h2
  obtain ⟨m1, m2⟩ := foldl_mg l [] [] hv List.Pairwise.nil (fun c => rfl)
  have : ddA none R = l.foldl mg [] := FstL.uniq d1 m1 d2 m2 h3
  rw [this]
  unfold slices_Clip_94167
  rw [piece_zero _ _ _ rfl (Nat.le_refl _), List.take_length]
  rfl
theorem skp_len (a : Ent) (l : List Ent) : (skp a l).length ≤ l.length := by
  match l with
  | [] => exact Nat.le_refl _
  | x :: r =>
    show (if entLt a x = true then x :: r else r).length ≤ _
    split
    · exact Nat.le_refl _
    · simp
theorem mg_len : ∀ (l e : List Ent), (mg l e).length ≤ l.length + e.length := by
  intro l
  induction l with
  | nil => intro e; simp [mg]
  | cons a t ih =>
    intro e
    have h1 := ih (skp a (e.dropWhile (fun x => entLt x a)))
    have h2 := skp_len a (e.dropWhile (fun x => entLt x a))
    have h3 : (e.takeWhile (fun x => entLt x a)).length + (e.dropWhile (fun x => entLt x a)).length = e.length := by rw [← List.length_append, List.takeWhile_append_dropWhile]
    show (_ ++ _ :: _).length ≤ _
    rw [List.length_append, List.length_cons, List.length_cons]
    omega
theorem foldl_mg_len : ∀ (L : List (List Ent)) (acc : List Ent), (L.foldl mg acc).length ≤ acc.length + totalV L := by
  intro L
  induction L with
  | nil => intro acc; simp
  | cons e L ih =>
    intro acc
    have h1 := ih (mg acc e)
    have h2 := mg_len acc e
    have h3 : totalV (e :: L) = e.length + totalV L := by simp [totalV]
    rw [List.foldl_cons]
    omega
theorem total_mem {l : List (List Ent)} {e : List Ent} (h : e ∈ l) : e.length ≤ totalV l := sum_mem List.length h
theorem mg_nil (e : List Ent) : mg [] e = e := rfl
theorem mg_cons (a : Ent) (t e : List Ent) : mg (a :: t) e = e.takeWhile (fun x => entLt x a) ++ a :: mg t (skp a (e.dropWhile (fun x => entLt x a))) := rfl
def mergeOk (l : List (List Ent)) : Bool := decide (totalV l ≤ 400) && l.all entsV
def mergeR (l : List (List Ent)) : List Ent := bif mergeOk l then l.foldl mg [] else []
theorem takeWhile_none {α : Type} (p : α → Bool) (x : α) (t : List α) (h : p x = false) : (x :: t).takeWhile p = [] ∧ (x :: t).dropWhile p = x :: t := by
  rw [List.takeWhile_cons, List.dropWhile_cons, h]; exact ⟨rfl, rfl⟩
theorem takeWhile_some {α : Type} (p : α → Bool) (x : α) (t : List α) (h : p x = true) : (x :: t).takeWhile p = x :: t.takeWhile p ∧ (x :: t).dropWhile p = t.dropWhile p := by
  rw [List.takeWhile_cons, List.dropWhile_cons, h]; exact ⟨rfl, rfl⟩
theorem spec_MergeEnts_eq (l : List (List Ent)) (h : l.length ≤ 1048576) (ht : totalV l ≤ 1048576) : spec_MergeEnts l = some (mergeR l) := by
  unfold spec_MergeEnts
  have hbad : ∀ e ∈ l, entsV e = false → mergeR l = [] := by
    intro e he hv
    have : l.all entsV = false := by
      rw [← Bool.not_eq_true]
      intro ha
      rw [List.all_eq_true.1 ha e he] at hv; cases hv
    unfold mergeR mergeOk
    rw [this]; simp
  have hbig : 400 < totalV l → mergeR l = [] := by
    intro hb
    unfold mergeR mergeOk
    rw [decide_eq_false (by omega)]; rfl
  refine loopO_G (τ := Int × List Ent) (ρ := List Ent) (R := List Ent) (fun x => x = some (mergeR l)) (fun k s => s = ((k : Int), (l.take k).foldl mg []) ∧ ∀ e ∈ l.take k, entsV e = true) l.length
    (fun r => (r = .go (l.foldl mg []) ∧ ∀ e ∈ l, entsV e = true) ∨ (r = .done [] ∧ mergeR l = [])) ⟨rfl, by simp⟩ ?_ ?_ ?_
  · rintro k _ hk ⟨rfl, hv⟩
    have hm : l[k] ∈ l := List.getElem_mem hk
    have he := total_mem hm
    have ha := foldl_mg_len (l.take k) []
    have hk1 := total_take l k hk
    have hk2 := total_le l (k + 1)
    rw [List.length_nil, Nat.zero_add] at ha
    have hnext : (l.take (k + 1)).foldl mg [] = mg ((l.take k).foldl mg []) l[k] := by rw [take_snoc l k hk, List.foldl_append]; rfl
    generalize hacc : (l.take k).foldl mg [] = acc at *
    have c0 : decide ((k : Int) < ((l.length : Nat) : Int)) = true := decide_eq_true (by omega)
    simp only [c0, if_true, idx_nat l k hk, Option.bind_some, spec_l9Ents_eq l[k] (by omega)]
    cases c1 : entsV l[k] with
    | false => exact .inr ⟨_, rfl, .inr ⟨rfl, hbad _ hm c1⟩⟩
    | true =>
      by_cases c2 : l[k].length > 400
      · rw [decide_eq_true (by omega : ((l[k].length : Nat) : Int) > 400)]
        exact .inr ⟨_, rfl, .inr ⟨rfl, hbig (by omega)⟩⟩
      · rw [decide_eq_false (by omega : ¬ ((l[k].length : Nat) : Int) > 400)]
        by_cases c3 : acc.length > 400
        · rw [decide_eq_true (by omega : ((acc.length : Nat) : Int) > 400)]
          exact .inr ⟨_, rfl, .inr ⟨rfl, hbig (by omega)⟩⟩
        · rw [decide_eq_false (by omega : ¬ ((acc.length : Nat) : Int) > 400)]
          have a0 : app 48 ([] : List Ent) l[k] = some l[k] := app_ok (by rw [List.length_nil]; omega) (by rw [List.length_nil]; omega)
          simp only [Bool.not_true, Bool.false_eq_true, if_false, Option.bind_some, a0]
          left
          have hord : ordE acc := by
            have := foldl_mg (l.take k) [] [] (fun e he => ((entsV_iff e).1 (hv e he)).2) List.Pairwise.nil (fun c => rfl)
            rw [hacc] at this
            exact this.1
          have hv' : ∀ e ∈ l.take (k + 1), entsV e = true := by
            intro e he
            rw [take_snoc l k hk] at he
            rcases List.mem_append.1 he with he | he
            · exact hv e he
            · rw [List.mem_singleton.1 he]; exact c1
          have hfin : ∀ (out : List Ent) (j : Nat), j ≤ l[k].length → out ++ l[k].drop j = mg acc l[k] → ∃ s', ((piece l[k] (j : Int) ((l[k].length : Nat) : Int)).bind fun E73 => (app 48 out E73).bind fun E76 => some (Ctl.go (ρ := Ctl (List Ent) (List Ent)) (IntKind.i64.wrap ((k : Int) + (1 : Int)), E76))) = some (.go s') ∧ s' = (((k + 1 : Nat) : Int), (l.take (k + 1)).foldl mg []) ∧ ∀ e ∈ l.take (k + 1), entsV e = true := by
            intro out j hj ho
            have hlen := mg_len acc l[k]
            have hl2 := congrArg List.length ho
            rw [List.length_append, List.length_drop] at hl2
            rw [piece_nat l[k] j l[k].length _ _ rfl rfl hj (Nat.le_refl _), List.take_of_length_le (by rw [List.length_drop]; omega)]
            simp only [Option.bind_some]
            rw [app_ok (by rw [List.length_drop]; omega) (by rw [List.length_drop]; omega), ho, wrap_ok (by omega) (by omega)]
            exact ⟨_, rfl, by rw [hnext]; rfl, hv'⟩
          generalize l[k] = e at *
          refine loopO_G (τ := Int × Int × List Ent) (ρ := Int × List Ent) (R := Ctl (Int × List Ent) (Ctl (List Ent) (List Ent))) (fun x => ∃ s', x = some (.go s') ∧ s' = (((k + 1 : Nat) : Int), (l.take (k + 1)).foldl mg []) ∧ ∀ e ∈ l.take (k + 1), entsV e = true)
            (fun i s => ∃ (j : Nat) (out : List Ent), s = ((j : Int), (i : Int), out) ∧ j ≤ e.length ∧ out ++ mg (acc.drop i) (e.drop j) = mg acc e ∧ out.length ≤ i + j) acc.length
            (fun r => ∃ (j : Nat) (out : List Ent), r = .go ((j : Int), out) ∧ j ≤ e.length ∧ out ++ e.drop j = mg acc e) ⟨0, [], rfl, by omega, by simp, by simp⟩ ?_ ?_ ?_
          · rintro i _ hi ⟨j, out, rfl, hj, ho, hol⟩
            left
            have c4 : decide ((i : Int) < ((acc.length : Nat) : Int)) = true := decide_eq_true (by omega)
            simp only [c4, if_true, idx_nat acc i hi, Option.bind_some]
            rw [List.drop_eq_getElem_cons hi, mg_cons] at ho
            refine loopO_G (τ := Int × List Ent) (ρ := Int × List Ent) (R := Ctl (Int × Int × List Ent) (Ctl (Int × List Ent) (Ctl (Int × List Ent) (Ctl (List Ent) (List Ent)))))
              (fun x => ∃ s', x = some (.go s') ∧ ∃ (j : Nat) (out : List Ent), s' = ((j : Int), ((i + 1 : Nat) : Int), out) ∧ j ≤ e.length ∧ out ++ mg (acc.drop (i + 1)) (e.drop j) = mg acc e ∧ out.length ≤ i + 1 + j)
              (fun t s => ∃ (j' : Nat) (out' : List Ent), s = ((j' : Int), out') ∧ j' = j + t ∧ j' ≤ e.length ∧ out' ++ ((e.drop j').takeWhile (fun x => entLt x acc[i]) ++ acc[i] :: mg (acc.drop (i + 1)) (skp acc[i] ((e.drop j').dropWhile (fun x => entLt x acc[i])))) = mg acc e ∧ out'.length ≤ i + j') (e.length - j)
              (fun r => ∃ (j' : Nat) (out' : List Ent), r = .go ((j' : Int), out') ∧ j' ≤ e.length ∧ out' ++ (acc[i] :: mg (acc.drop (i + 1)) (skp acc[i] (e.drop j'))) = mg acc e ∧ out'.length ≤ i + j') ⟨j, out, rfl, rfl, hj, ho, hol⟩ ?_ ?_ ?_
            · rintro t _ ht ⟨j', out', rfl, hjt, hj', ho', hol'⟩
              have hj1 : j' < e.length := by omega
              have c5 : decide ((j' : Int) < ((e.length : Nat) : Int)) = true := decide_eq_true (by omega)
              simp only [c5, if_true, idx_nat e j' hj1, Option.bind_some, spec_l9Ahead_eq]
              rw [List.drop_eq_getElem_cons hj1] at ho'
              cases hlt : entLt e[j'] acc[i] with
              | true =>
                left
                rw [(takeWhile_some (fun x => entLt x acc[i]) _ _ hlt).1, (takeWhile_some (fun x => entLt x acc[i]) _ _ hlt).2] at ho'
                rw [if_pos rfl, app_ok (by simp only [List.length_singleton]; omega) (by simp only [List.length_singleton]; omega), wrap_ok (by omega) (by omega)]
                refine ⟨_, rfl, j' + 1, out' ++ [e[j']], rfl, by omega, by omega, ?_, by rw [List.length_append, List.length_singleton]; omega⟩
                rw [← ho']
                simp only [List.append_assoc, List.cons_append, List.nil_append]
              | false =>
                right
                rw [(takeWhile_none (fun x => entLt x acc[i]) _ _ hlt).1, (takeWhile_none (fun x => entLt x acc[i]) _ _ hlt).2, ← List.drop_eq_getElem_cons hj1] at ho'
                exact ⟨_, rfl, j', out', rfl, by omega, ho', hol'⟩
            · rintro _ ⟨j', out', rfl, hjt, hj', ho', hol'⟩
              have hj1 : j' = e.length := by omega
              have c5 : decide ((j' : Int) < ((e.length : Nat) : Int)) = false := decide_eq_false (by omega)
              simp only [c5]
              refine ⟨_, rfl, j', out', rfl, by omega, ?_, hol'⟩
              rw [List.drop_of_length_le (Nat.le_of_eq hj1.symm)] at ho' ⊢
              exact ho'
            · rintro _ ⟨j', out', rfl, hj', ho', hol'⟩
              rw [bindC_go]
              have a1 : app 48 out' [acc[i]] = some (out' ++ [acc[i]]) := app_ok (by simp only [List.length_singleton]; omega) (by simp only [List.length_singleton]; omega)
              have w1 : IntKind.i64.wrap ((i : Int) + 1) = ((i + 1 : Nat) : Int) := by rw [wrap_ok (by omega) (by omega)]; omega
              have w2 : IntKind.i64.wrap ((j' : Int) + 1) = ((j' + 1 : Nat) : Int) := by rw [wrap_ok (by omega) (by omega)]; omega
              simp only [a1, w1, w2, Option.bind_some, spec_l9Ahead_eq]
              have happ : ∀ r, (out' ++ [acc[i]]) ++ mg (acc.drop (i + 1)) r = out' ++ (acc[i] :: mg (acc.drop (i + 1)) r) := fun r => by simp
              rcases Nat.lt_or_ge j' e.length with hj1 | hj1
              · have c5 : decide ((j' : Int) < ((e.length : Nat) : Int)) = true := decide_eq_true (by omega)
                simp only [c5, if_true, idx_nat e j' hj1, Option.bind_some]
                rw [List.drop_eq_getElem_cons hj1] at ho'
                have es : skp acc[i] (e[j'] :: e.drop (j' + 1)) = if entLt acc[i] e[j'] = true then e[j'] :: e.drop (j' + 1) else e.drop (j' + 1) := rfl
                rw [es] at ho'
                cases hlt : entLt acc[i] e[j'] with
                | true =>
                  rw [hlt, if_pos rfl, ← List.drop_eq_getElem_cons hj1] at ho'
                  exact ⟨_, rfl, j', out' ++ [acc[i]], rfl, by omega, by rw [happ]; exact ho', by rw [List.length_append, List.length_singleton]; omega⟩
                | false =>
                  rw [hlt, if_neg (by simp)] at ho'
                  exact ⟨_, rfl, j' + 1, out' ++ [acc[i]], rfl, by omega, by rw [happ]; exact ho', by rw [List.length_append, List.length_singleton]; omega⟩
              · have c5 : decide ((j' : Int) < ((e.length : Nat) : Int)) = false := decide_eq_false (by omega)
                simp only [c5]
                refine ⟨_, rfl, j', out' ++ [acc[i]], rfl, by omega, ?_, by rw [List.length_append, List.length_singleton]; omega⟩
                rw [happ]
                rw [List.drop_of_length_le hj1] at ho' ⊢
                exact ho'
          · rintro _ ⟨j, out, rfl, hj, ho, hol⟩
            refine ⟨.go ((j : Int), out), ?_, j, out, rfl, hj, ?_⟩
            · rw [if_neg (by simp)]
            · rw [List.drop_length, mg_nil] at ho; exact ho
          · rintro _ ⟨j, out, rfl, hj, ho⟩
            rw [bindC_go]
            exact hfin out j hj ho
  · rintro _ ⟨rfl, hv⟩
    rw [List.take_length] at hv ⊢
    exact ⟨.go (l.foldl mg []), by rw [if_neg (by simp)], .inl ⟨rfl, hv⟩⟩
  · rintro _ (⟨rfl, hv⟩ | ⟨rfl, hr⟩)
    · rw [bindC_go]
      refine loopO_G (τ := Int × Int) (ρ := Int) (R := List Ent) (fun x => x = some (mergeR l)) (fun k s => s = ((totalV (l.take k) : Int), (k : Int))) l.length (fun r => r = .go (totalV l : Int)) rfl ?_ ?_ ?_
      · rintro k _ hk rfl
        left
        have h1 := total_take l k hk
        have h2 := total_le l (k + 1)
        have w1 : IntKind.i64.wrap ((totalV (l.take k) : Int) + ((l[k].length : Nat) : Int)) = (totalV (l.take (k + 1)) : Int) := by rw [wrap_ok (by omega) (by omega)]; omega
        have w2 : IntKind.i64.wrap ((k : Int) + 1) = ((k + 1 : Nat) : Int) := by rw [wrap_ok (by omega) (by omega)]; omega
        refine ⟨_, ?_, rfl⟩
        simp only [idx_nat l k hk, Option.bind_some, w1, w2]
        rw [if_pos (decide_eq_true (by omega))]
      · rintro _ rfl
        exact ⟨_, by simp, rfl⟩
      · rintro _ rfl
        rw [bindC_go]
        by_cases h1 : totalV l ≤ 400
        · rw [if_neg (by simp; omega)]
          unfold mergeR mergeOk
          rw [decide_eq_true h1, List.all_eq_true.2 hv]
          rfl
        · rw [if_pos (decide_eq_true (by omega)), hbig (by omega)]
    · rw [hr]; rfl
/-! an engine's tables merged into one -/
def mergeC (e : Eng) : List Ent := finE true (keepT e.Snaps (e.Tables.foldl mg []) 0 (e.Tables.foldl mg []).length)
def tab1 (c : List Ent) : List (List Ent) := bif decide (0 < c.length) then [c] else []
def mergeS (e : Eng) : Bool × Eng := bif decide (e.Tables.length = 0) then (false, e) else (true, { Mem := e.Mem, Tables := tab1 (mergeC e), Seq := e.Seq, Snaps := e.Snaps })
def mergeER (e : Eng) : Eng × Bool := bif engV e then ((mergeS e).2, (mergeS e).1) else ({ Mem := [], Tables := [], Seq := 0, Snaps := [] }, false)
theorem tabsV_each {seq : Int} : ∀ (t : List (List Ent)) (low : Int), tabsV seq low t = true → ∀ x ∈ t, entsV x = true ∧ ∀ y ∈ x, y.Seq < low ∧ y.Seq ≤ seq := by
  intro t
  induction t with
  | nil => intro _ _ x hx; simp at hx
  | cons a t ih =>
    intro low h x hx
    simp only [tabsV, Bool.and_eq_true, decide_eq_true_eq] at h
    obtain ⟨⟨h1, h2, h3, h4⟩, h5⟩ := h
    have hhi := (rangeV_hi a (rangeV a).2).1 (Int.le_refl _)
    rcases List.mem_cons.1 hx with rfl | hx
    · exact ⟨h2, fun y hy => ⟨by have := hhi.2 y hy; omega, by have := hhi.2 y hy; omega⟩⟩
    · obtain ⟨i1, i2⟩ := ih _ h5 x hx
      refine ⟨i1, fun y hy => ?_⟩
      have := i2 y hy
      obtain ⟨z, hz⟩ := List.exists_mem_of_ne_nil a h1
      have q1 := hhi.2 z hz
      have q2 := ((rangeV_lo a (rangeV a).1).1 (Int.le_refl _)).2 z hz
      omega
theorem merge_ents {e : Eng} (h : engV e = true) : entsV (e.Tables.foldl mg []) = true ∧ (e.Tables.foldl mg []).length ≤ totalV e.Tables ∧ ∀ x ∈ e.Tables.foldl mg [], ∃ t ∈ e.Tables, x ∈ t := by
  obtain ⟨h1, h2, h3, h4, h5, h6, h7, h8⟩ := engV_all h
  have ht := tabsV_each e.Tables _ h7
  obtain ⟨m1, m2⟩ := foldl_mg e.Tables [] [] (fun t htm => ((entsV_iff t).1 (ht t htm).1).2) List.Pairwise.nil (fun c => rfl)
  have hl := foldl_mg_len e.Tables []
  have hmem : ∀ x ∈ e.Tables.foldl mg [], ∃ t ∈ e.Tables, x ∈ t := fun x hx => by
    have := m2.mem hx
    rw [List.nil_append] at this
    exact List.mem_flatten.1 this
  refine ⟨(entsV_iff _).2 ⟨fun x hx => ?_, m1⟩, by simpa using hl, hmem⟩
  obtain ⟨t, ht1, ht2⟩ := hmem x hx
  exact ((entsV_iff t).1 (ht t ht1).1).1 x ht2
theorem mergeC_sub {e : Eng} (h : engV e = true) : (mergeC e).Sublist (e.Tables.foldl mg []) := by
  obtain ⟨h1, h2, h3, h4, h5, h6, h7, h8⟩ := engV_all h
  obtain ⟨g1, g2, _⟩ := merge_ents h
  have hx := compactR_G e.Snaps true (l := e.Tables.foldl mg []) (by omega) g1
  have hc : compactR (e.Tables.foldl mg []) e.Snaps true = mergeC e := by
    unfold compactR mergeC
    rw [if_pos ⟨by omega, g1⟩]
  rw [← hc, hx]
  exact (finE_sub _ _).trans (keepG_sub _ _ _)
theorem mergeC_props {e : Eng} (h : engV e = true) : entsV (mergeC e) = true ∧ (mergeC e).length ≤ totalV e.Tables ∧ ∀ x ∈ mergeC e, x.Seq < (rangeV e.Mem).1 ∧ x.Seq ≤ e.Seq := by
  obtain ⟨h1, h2, h3, h4, h5, h6, h7, h8⟩ := engV_all h
  obtain ⟨g1, g2, g3⟩ := merge_ents h
  have hsub := mergeC_sub h
  refine ⟨entsV_sublist hsub g1, Nat.le_trans hsub.length_le g2, fun x hx => ?_⟩
  obtain ⟨t, ht1, ht2⟩ := g3 x (hsub.mem hx)
  exact (tabsV_each e.Tables _ h7 t ht1).2 x ht2
theorem tab1_len (c : List Ent) : (tab1 c).length ≤ 1 ∧ totalV (tab1 c) ≤ c.length ∧ ∀ t ∈ tab1 c, t = c := by
  unfold tab1
  by_cases hc : 0 < c.length
  · rw [decide_eq_true hc]; exact ⟨Nat.le_refl _, by simp [totalV], fun t ht => by simpa using ht⟩
  · rw [decide_eq_false hc]; exact ⟨by simp, by simp [totalV], fun t ht => by simp at ht⟩
theorem mergeS_ok {e : Eng} (h : engV e = true) : engV (mergeS e).2 = true := by
  unfold mergeS
  by_cases c : e.Tables.length = 0
  · rw [decide_eq_true c]; exact h
  · rw [decide_eq_false c]
    obtain ⟨h1, h2, h3, h4, h5, h6, h7, h8⟩ := engV_all h
    obtain ⟨g1, g2, g3⟩ := mergeC_props h
    obtain ⟨t1, t2, t3⟩ := tab1_len (mergeC e)
    show engV { Mem := e.Mem, Tables := tab1 (mergeC e), Seq := e.Seq, Snaps := e.Snaps } = true
    unfold engV memV
    simp only [Bool.and_eq_true, decide_eq_true_eq]
    refine ⟨⟨h1, h2, by omega, by omega, h5, h6, ?_⟩, h8⟩
    unfold tab1
    by_cases hc : 0 < (mergeC e).length
    · rw [decide_eq_true hc]
      show tabsV _ _ [mergeC e] = true
      have hmem : (rangeV e.Mem).1 ≤ 1000001 := ((rangeV_lo e.Mem _).1 (Int.le_refl _)).1
      obtain ⟨z, hz⟩ := List.exists_mem_of_ne_nil (mergeC e) (by intro h0; rw [h0] at hc; simp at hc)
      have hz0 := g3 z hz
      have hzv := ((entsV_iff _).1 g1).1 z hz
      unfold entV at hzv
      simp only [Bool.and_eq_true, decide_eq_true_eq] at hzv
      have q1 : (rangeV (mergeC e)).2 ≤ (rangeV e.Mem).1 - 1 := (rangeV_hi _ _).2 ⟨by omega, fun x hx => by have := g3 x hx; omega⟩
      have q2 : (rangeV (mergeC e)).2 ≤ e.Seq := (rangeV_hi _ _).2 ⟨by omega, fun x hx => (g3 x hx).2⟩
      simp only [tabsV, Bool.and_eq_true, decide_eq_true_eq]
      exact ⟨⟨by intro h0; rw [h0] at hc; simp at hc, g1, by omega, q2⟩, trivial⟩
    · rw [decide_eq_false hc]; rfl
theorem impl_Eng_merge_eq {e : Eng} (h : engV e = true) : impl_Eng_merge e = some (mergeS e) := by
  obtain ⟨h1, h2, h3, h4, h5, h6, h7, h8⟩ := engV_all h
  obtain ⟨g1, g2, g3⟩ := merge_ents h
  have ht := tabsV_each e.Tables _ h7
  unfold impl_Eng_merge mergeS
  by_cases c : e.Tables.length = 0
  · rw [if_pos (decide_eq_true (by omega)), decide_eq_true c]; rfl
  · rw [if_neg (fun h_ => absurd (of_decide_eq_true h_) (by omega)), decide_eq_false c, merged_eq e.Tables (by omega) (by omega) (fun t htm => ((entsV_iff t).1 (ht t htm).1).2)]
    simp only [Option.bind_some]
    rw [impl_compacted_eq _ e.Snaps true (by omega) (by omega)]
    simp only [Option.bind_some]
    show _ = some (true, ({ Mem := e.Mem, Tables := tab1 (mergeC e), Seq := e.Seq, Snaps := e.Snaps } : Eng))
    have hm : finE true (keepT e.Snaps (e.Tables.foldl mg []) 0 (e.Tables.foldl mg []).length) = mergeC e := rfl
    rw [hm]
    generalize mergeC e = x
    unfold tab1
    by_cases hc : 0 < x.length
    · rw [if_pos (decide_eq_true (by omega)), decide_eq_true hc]; rfl
    · rw [if_neg (fun h_ => absurd (of_decide_eq_true h_) (by omega)), decide_eq_false hc]; rfl
theorem eng_small {e : Eng} (h : engV e = true) : e.Mem.length ≤ 1048576 ∧ e.Tables.length ≤ 1048576 ∧ totalV e.Tables ≤ 1048576 ∧ e.Snaps.length ≤ 1048576 ∧ ∀ t ∈ e.Tables, t.length ≤ 1048576 := by
  obtain ⟨h1, h2, h3, h4, h5, h6, h7, h8⟩ := engV_all h
  exact ⟨by omega, by omega, by omega, by omega, fun t ht => by have := total_mem ht; omega⟩
theorem spec_EngMerge_eq (e : Eng) (h1 : e.Mem.length ≤ 1048576) (h2 : e.Tables.length ≤ 1048576) (h3 : totalV e.Tables ≤ 1048576) (h4 : e.Snaps.length ≤ 1048576) : spec_EngMerge e = some (mergeER e) := by
  unfold spec_EngMerge mergeER
  rw [spec_EngOk_eq e h1 h2 h3 h4]
  cases hv : engV e with
  | false => rfl
  | true =>
    obtain ⟨q1, q2, q3, q4, q5, q6, q7, q8⟩ := engV_all hv
    obtain ⟨g1, g2, g3⟩ := merge_ents hv
    obtain ⟨_, _, _, _, hlen⟩ := eng_small hv
    have ht := tabsV_each e.Tables _ q7
    simp only [Option.bind_some, Bool.not_true, Bool.false_eq_true, if_false, spec_l20Copy_eq e h1 h2 hlen h4, cond_true]
    unfold mergeS
    by_cases c : e.Tables.length = 0
    · rw [if_pos (decide_eq_true (by omega)), decide_eq_true c]; rfl
    · have hR : mergeR e.Tables = e.Tables.foldl mg [] := by
        unfold mergeR mergeOk
        rw [decide_eq_true (by omega), List.all_eq_true.2 fun t htm => (ht t htm).1]; rfl
      have hc : compactR (e.Tables.foldl mg []) e.Snaps true = mergeC e := by
        unfold compactR mergeC
        rw [if_pos ⟨by omega, g1⟩]
      rw [if_neg (fun h_ => absurd (of_decide_eq_true h_) (by omega)), decide_eq_false c, spec_MergeEnts_eq e.Tables h2 h3, hR]
      simp only [Option.bind_some]
      rw [spec_CompactEnts_eq _ e.Snaps true (by omega) h4, hc]
      simp only [Option.bind_some]
      have hml := (mergeC_props hv).2.1
      show _ = some (({ Mem := e.Mem, Tables := tab1 (mergeC e), Seq := e.Seq, Snaps := e.Snaps } : Eng), true)
      generalize mergeC e = x at hml
      unfold tab1
      by_cases hc : 0 < x.length
      · rw [if_pos (decide_eq_true (by omega)), decide_eq_true hc, app_ok (by simp) (by simp)]; rfl
      · rw [if_neg (fun h_ => absurd (of_decide_eq_true h_) (by omega)), decide_eq_false hc]; rfl
theorem impl_EngMerge_eq (e : Eng) (h1 : e.Mem.length ≤ 1048576) (h2 : e.Tables.length ≤ 1048576) (h3 : totalV e.Tables ≤ 1048576) (h4 : e.Snaps.length ≤ 1048576) : impl_EngMerge e = some (mergeER e) := by
  unfold impl_EngMerge mergeER
  rw [impl_EngOk_eq e h1 h2 h3 h4]
  cases hv : engV e with
  | false => rfl
  | true =>
    obtain ⟨_, _, _, _, hlen⟩ := eng_small hv
    simp only [Option.bind_some, Bool.not_true, Bool.false_eq_true, if_false, impl_copyEng_eq e h1 h2 hlen h4, cond_true, impl_Eng_merge_eq hv]
    unfold mergeS
    cases decide (e.Tables.length = 0) <;> rfl
/-! the merge and the flush that follow a put -/
def tidyS (e : Eng) : Bool × Eng :=
  let m := bif decide (6 ≤ e.Tables.length) then mergeS e else (false, e)
  let f := bif decide (54 < e.Mem.length) then flushS m.2 else (false, m.2)
  (m.1 || f.1, f.2)
def tidyR (e : Eng) : Eng × Bool := bif engV e then ((tidyS e).2, (tidyS e).1) else ({ Mem := [], Tables := [], Seq := 0, Snaps := [] }, false)
theorem flushS_ok {e : Eng} (h : engV e = true) : engV (flushS e).2 = true := by
  by_cases c : e.Mem.length = 0 ∨ 6 ≤ e.Tables.length
  · rw [flushS_pos c]; exact h
  · rw [flushS_neg c]
    obtain ⟨h1, h2, h3, h4, h5, h6, h7, h8⟩ := engV_all h
    show engV { Mem := [], Tables := e.Mem :: e.Tables, Seq := e.Seq, Snaps := e.Snaps } = true
    have hne : e.Mem ≠ [] := by intro h0; rw [h0] at c; simp at c
    have ht : totalV (e.Mem :: e.Tables) = e.Mem.length + totalV e.Tables := by simp [totalV]
    unfold engV memV
    simp only [Bool.and_eq_true, decide_eq_true_eq, tabsV]
    refine ⟨⟨h1, h2, by simp; omega, by simp [ht]; omega, ⟨by simp, rfl⟩, by show (-1 : Int) ≤ e.Seq; omega, ⟨⟨hne, h5.2, by show (rangeV e.Mem).2 < 1000001; omega, h6⟩, h7⟩⟩, h8⟩
theorem flushS_mem (e : Eng) : (flushS e).2.Seq = e.Seq ∧ (flushS e).2.Snaps = e.Snaps := by
  by_cases c : e.Mem.length = 0 ∨ 6 ≤ e.Tables.length
  · rw [flushS_pos c]; exact ⟨rfl, rfl⟩
  · rw [flushS_neg c]; exact ⟨rfl, rfl⟩
theorem mergeS_mem (e : Eng) : (mergeS e).2.Mem = e.Mem ∧ (mergeS e).2.Seq = e.Seq ∧ (mergeS e).2.Snaps = e.Snaps := by
  unfold mergeS
  cases decide (e.Tables.length = 0) <;> exact ⟨rfl, rfl, rfl⟩
def tidyM (e : Eng) : Bool × Eng := bif decide (6 ≤ e.Tables.length) then mergeS e else (false, e)
theorem tidyM_ok {e : Eng} (h : engV e = true) : engV (tidyM e).2 = true := by
  unfold tidyM
  cases decide (6 ≤ e.Tables.length) with
  | true => exact mergeS_ok h
  | false => exact h
theorem tidyM_mem (e : Eng) : (tidyM e).2.Mem = e.Mem ∧ (tidyM e).2.Seq = e.Seq ∧ (tidyM e).2.Snaps = e.Snaps := by
  unfold tidyM
  cases decide (6 ≤ e.Tables.length) with
  | true => exact mergeS_mem e
  | false => exact ⟨rfl, rfl, rfl⟩
def tidyF (e : Eng) : Bool × Eng := bif decide (54 < e.Mem.length) then flushS e else (false, e)
theorem tidyF_ok {e : Eng} (h : engV e = true) : engV (tidyF e).2 = true := by
  unfold tidyF
  cases decide (54 < e.Mem.length) with
  | true => exact flushS_ok h
  | false => exact h
theorem tidyS_eq (e : Eng) : tidyS e = ((tidyM e).1 || (tidyF (tidyM e).2).1, (tidyF (tidyM e).2).2) := by
  unfold tidyS tidyF
  show ((tidyM e).1 || (bif decide (54 < e.Mem.length) then flushS (tidyM e).2 else (false, (tidyM e).2)).1, (bif decide (54 < e.Mem.length) then flushS (tidyM e).2 else (false, (tidyM e).2)).2) = _
  rw [(tidyM_mem e).1]
theorem tidyS_ok {e : Eng} (h : engV e = true) : engV (tidyS e).2 = true := by
  rw [tidyS_eq]; exact tidyF_ok (tidyM_ok h)
theorem impl_EngTidy_eq (e : Eng) (h1 : e.Mem.length ≤ 1048576) (h2 : e.Tables.length ≤ 1048576) (h3 : totalV e.Tables ≤ 1048576) (h4 : e.Snaps.length ≤ 1048576) : impl_EngTidy e = some (tidyR e) := by
  unfold impl_EngTidy tidyR
  rw [impl_EngOk_eq e h1 h2 h3 h4]
  cases hv : engV e with
  | false => rfl
  | true =>
    obtain ⟨_, _, _, _, hlen⟩ := eng_small hv
    obtain ⟨q1, q2, q3, q4, q5, q6, q7, q8⟩ := engV_all hv
    simp only [Option.bind_some, Bool.not_true, Bool.false_eq_true, if_false, impl_copyEng_eq e h1 h2 hlen h4, cond_true, tidyS_eq]
    have hM : (if (decide (((e.Tables.length : Nat) : Int) = (6 : Int))) = true then ((impl_Eng_merge e).bind fun R17 => some (Ctl.go (ρ := Eng × Bool) (R17.2.Seq, R17.1, R17.2.Tables))) else (some (.go (e.Seq, false, e.Tables)))) = some (.go ((tidyM e).2.Seq, (tidyM e).1, (tidyM e).2.Tables)) := by
      unfold tidyM
      by_cases c : 6 ≤ e.Tables.length
      · rw [if_pos (decide_eq_true (by omega)), decide_eq_true c, impl_Eng_merge_eq hv]; rfl
      · rw [if_neg (fun h_ => absurd (of_decide_eq_true h_) (by omega)), decide_eq_false c]; rfl
    rw [hM, bindC_go]
    obtain ⟨m1, m2, m3⟩ := tidyM_mem e
    have hok := tidyM_ok hv
    have he : ({ Mem := e.Mem, Tables := (tidyM e).2.Tables, Seq := (tidyM e).2.Seq, Snaps := e.Snaps } : Eng) = (tidyM e).2 := by
      conv => lhs; rw [← m1, ← m3]
    simp only [he]
    generalize tidyM e = t at *
    obtain ⟨b, x⟩ := t
    simp only at *
    unfold tidyF
    rw [m1]
    by_cases c : 54 < e.Mem.length
    · rw [if_pos (decide_eq_true (by omega)), decide_eq_true c, impl_flush_eq x (eng_small hok).2.1]
      simp only [Option.bind_some, cond_true]
      obtain ⟨f1, f2⟩ := flushS_mem x
      rw [m3] at f2
      generalize flushS x = y at *
      obtain ⟨b2, y⟩ := y
      simp only at f1 f2 ⊢
      cases b <;> (simp only [Bool.false_eq_true, if_true, if_false, Option.bind_some, bindC_go, Bool.true_or, Bool.false_or]; rw [← f2])
    · rw [if_neg (fun h_ => absurd (of_decide_eq_true h_) (by omega)), decide_eq_false c]
      simp only [bindC_go, cond_false, Bool.or_false]
      rw [← m1, ← m3]
/-! all entries of an engine -/
def allR (e : Eng) : List Ent := (e.Mem :: e.Tables).foldl mg []
theorem fold_ents {L : List (List Ent)} (h : ∀ t ∈ L, entsV t = true) : entsV (L.foldl mg []) = true ∧ (L.foldl mg []).length ≤ totalV L ∧ ∀ x ∈ L.foldl mg [], ∃ t ∈ L, x ∈ t := by
  obtain ⟨m1, m2⟩ := foldl_mg L [] [] (fun t ht => ((entsV_iff t).1 (h t ht)).2) List.Pairwise.nil (fun c => rfl)
  have hl := foldl_mg_len L []
  have hmem : ∀ x ∈ L.foldl mg [], ∃ t ∈ L, x ∈ t := fun x hx => by
    have := m2.mem hx
    rw [List.nil_append] at this
    exact List.mem_flatten.1 this
  refine ⟨(entsV_iff _).2 ⟨fun x hx => ?_, m1⟩, by simpa using hl, hmem⟩
  obtain ⟨t, ht1, ht2⟩ := hmem x hx
  exact ((entsV_iff t).1 (h t ht1)).1 x ht2
theorem all_rows {e : Eng} (h : engV e = true) : (∀ t ∈ e.Mem :: e.Tables, entsV t = true) ∧ totalV (e.Mem :: e.Tables) ≤ 400 ∧ (e.Mem :: e.Tables).length ≤ 7 := by
  obtain ⟨h1, h2, h3, h4, h5, h6, h7, h8⟩ := engV_all h
  refine ⟨fun t ht => ?_, ?_, by simp; omega⟩
  · rcases List.mem_cons.1 ht with rfl | ht
    · exact h5.2
    · exact (tabsV_each e.Tables _ h7 t ht).1
  · have : totalV (e.Mem :: e.Tables) = e.Mem.length + totalV e.Tables := by simp [totalV]
    omega
theorem allR_props {e : Eng} (h : engV e = true) : entsV (allR e) = true ∧ (allR e).length ≤ 400 := by
  obtain ⟨g1, g2, g3⟩ := all_rows h
  obtain ⟨f1, f2, _⟩ := fold_ents g1
  exact ⟨f1, Nat.le_trans f2 g2⟩
theorem impl_Eng_all_eq {e : Eng} (h : engV e = true) : impl_Eng_all e = some (allR e) := by
  obtain ⟨g1, g2, g3⟩ := all_rows h
  unfold impl_Eng_all
  have ha : app 24 [e.Mem] e.Tables = some (e.Mem :: e.Tables) := app_ok (l := [e.Mem]) (by simp only [List.length_cons, List.length_nil] at *; omega) (by simp only [List.length_cons, List.length_nil] at *; omega)
  rw [ha]
  simp only [Option.bind_some]
  rw [merged_eq _ (by omega) (by omega) (fun t ht => ((entsV_iff t).1 (g1 t ht)).2)]
  rfl
def getE (l : List Ent) (key : List UInt8) (seq : Int) : Ent × Bool := match l.find? (fun d => decide (d.Key = key) && decide (d.Seq ≤ seq)) with | some d => (d, true) | none => ({ Key := [], Seq := 0, Del := false, Val := [] }, false)
theorem impl_get_eq (l : List Ent) (key : List UInt8) (seq : Int) (h : l.length ≤ 1048576) : impl_get l key seq = some (getE l key seq) := by
  unfold impl_get getE
  generalize hp : (fun d : Ent => decide (d.Key = key) && decide (d.Seq ≤ seq)) = p
  refine loopO_G (τ := Int) (ρ := Unit) (R := Ent × Bool) (fun x => x = some (match l.find? p with | some d => (d, true) | none => ({ Key := [], Seq := 0, Del := false, Val := [] }, false))) (fun k s => s = (k : Int) ∧ l.find? p = (l.drop k).find? p) l.length
    (fun r => (∃ d, l.find? p = some d ∧ r = .done (d, true)) ∨ (l.find? p = none ∧ r = .go ())) ⟨rfl, rfl⟩ ?_ ?_ ?_
  · rintro k _ hk ⟨rfl, hf⟩
    rw [List.drop_eq_getElem_cons hk, List.find?_cons] at hf
    have c0 : decide ((k : Int) < ((l.length : Nat) : Int)) = true := decide_eq_true (by omega)
    simp only [c0, if_true, idx_nat l k hk, Option.bind_some]
    have e1 : (if (decide (l[k].Key = key)) = true then (some (decide (l[k].Seq ≤ seq))) else (some false)) = some (p l[k]) := by
      rw [← hp]
      show _ = some (decide (l[k].Key = key) && decide (l[k].Seq ≤ seq))
      cases decide (l[k].Key = key) <;> rfl
    rw [e1]
    simp only [Option.bind_some]
    cases hq : p l[k] with
    | true =>
      rw [hq] at hf
      exact .inr ⟨_, rfl, .inl ⟨l[k], hf, rfl⟩⟩
    | false =>
      rw [hq] at hf
      refine .inl ⟨_, rfl, ?_, hf⟩
      rw [wrap_ok (by omega) (by omega)]; omega
  · rintro _ ⟨rfl, hf⟩
    rw [List.drop_length] at hf
    exact ⟨.go (), by rw [if_neg (by simp)], .inr ⟨hf, rfl⟩⟩
  · rintro _ (⟨d, hd, rfl⟩ | ⟨hd, rfl⟩)
    · rw [hd]; rfl
    · rw [hd]; rfl
def valE (x : Ent × Bool) : List UInt8 × Bool := if x.2 = true ∧ x.1.Del = false then (x.1.Val, true) else ([], false)
def getR (e : Eng) (key : List UInt8) (seq : Int) : List UInt8 × Bool := bif engV e then valE (getE (allR e) key seq) else ([], false)
theorem valE_eq (x : Ent × Bool) : ((if (!x.2) = true then (some true) else (some x.1.Del)).bind (fun (T8 : Bool) => if T8 = true then (some (([] : List UInt8), false)) else (some (x.1.Val, true)))) = some (valE x) := by
  obtain ⟨d, b⟩ := x
  unfold valE
  cases b with
  | false => simp
  | true =>
    cases hd : d.Del with
    | true => simp [hd]
    | false => simp [hd]
theorem impl_EngGet_eq (e : Eng) (key : List UInt8) (seq : Int) (h1 : e.Mem.length ≤ 1048576) (h2 : e.Tables.length ≤ 1048576) (h3 : totalV e.Tables ≤ 1048576) (h4 : e.Snaps.length ≤ 1048576) : impl_EngGet e key seq = some (getR e key seq) := by
  unfold impl_EngGet getR
  rw [impl_EngOk_eq e h1 h2 h3 h4]
  cases hv : engV e with
  | false => rfl
  | true =>
    have hl := (allR_props hv).2
    simp only [Option.bind_some, Bool.not_true, Bool.false_eq_true, if_false, cond_true]
    unfold impl_Eng_value
    rw [impl_Eng_all_eq hv]
    simp only [Option.bind_some]
    rw [impl_get_eq _ key seq (by omega)]
    simp only [Option.bind_some]
    rw [valE_eq]
    rfl
/-! the map of an engine -/
def mapR (e : Eng) (seq : Int) : List KV := bif engV e then visL (allR e) seq (allR e).length else []
theorem mapR_len (e : Eng) (seq : Int) : (mapR e seq).length ≤ 400 := by
  unfold mapR
  cases hv : engV e with
  | false => simp
  | true => exact Nat.le_trans (visL_len _ seq _ (Nat.le_refl _)) (allR_props hv).2
theorem impl_EngMap_eq (e : Eng) (seq : Int) (h1 : e.Mem.length ≤ 1048576) (h2 : e.Tables.length ≤ 1048576) (h3 : totalV e.Tables ≤ 1048576) (h4 : e.Snaps.length ≤ 1048576) : impl_EngMap e seq = some (mapR e seq) := by
  unfold impl_EngMap mapR
  rw [impl_EngOk_eq e h1 h2 h3 h4]
  cases hv : engV e with
  | false => rfl
  | true =>
    obtain ⟨hV, hl⟩ := allR_props hv
    simp only [Option.bind_some, Bool.not_true, Bool.false_eq_true, if_false, cond_true]
    rw [impl_Eng_all_eq hv]
    simp only [Option.bind_some]
    rw [impl_visible_eq _ seq hV (by omega)]
    rfl
/-! batches as text -/
/-! batches read -/
/-! ## two rows of one place -/
/-! ## what an engine shows -/
def seeE (l : List Ent) (key : List UInt8) (seq : Int) : Option Ent := l.find? fun d => decide (d.Key = key) && decide (d.Seq ≤ seq)
def valO : Option Ent → Option (List UInt8)
  | some e => bif e.Del then none else some e.Val
  | none => none
theorem seeE_cons (e : Ent) (r : List Ent) (key : List UInt8) (seq : Int) : seeE (e :: r) key seq = if e.Key = key ∧ e.Seq ≤ seq then some e else seeE r key seq := by
  unfold seeE
  rw [List.find?_cons]
  by_cases h : e.Key = key ∧ e.Seq ≤ seq
  · rw [if_pos h, decide_eq_true h.1, decide_eq_true h.2]; rfl
  · rw [if_neg h]
    have : (decide (e.Key = key) && decide (e.Seq ≤ seq)) = false := by
      by_cases h1 : e.Key = key
      · rw [decide_eq_false fun h2 => h ⟨h1, h2⟩, Bool.and_false]
      · rw [decide_eq_false h1, Bool.false_and]
    rw [this]
theorem seeE_mem {l : List Ent} {key : List UInt8} {seq : Int} {e : Ent} (h : seeE l key seq = some e) : e ∈ l ∧ e.Key = key ∧ e.Seq ≤ seq := by
  have h1 := List.mem_of_find?_eq_some h
  have h2 := List.find?_some h
  simp only [Bool.and_eq_true, decide_eq_true_eq] at h2
  exact ⟨h1, h2⟩
theorem seeE_none {l : List Ent} {key : List UInt8} {seq : Int} : seeE l key seq = none ↔ ∀ e ∈ l, e.Key = key → ¬ e.Seq ≤ seq := by
  unfold seeE
  rw [List.find?_eq_none]
  constructor
  · intro h e he h1 h2
    have := h e he
    simp [h1, h2] at this
  · intro h e he
    simp only [Bool.and_eq_true, decide_eq_true_eq, not_and]
    exact h e he
theorem see_iff {l : List Ent} (ho : ordE l) {key : List UInt8} {seq : Int} {e : Ent} : seeE l key seq = some e ↔ (e ∈ l ∧ e.Key = key ∧ e.Seq ≤ seq ∧ ∀ y ∈ l, y.Key = key → y.Seq ≤ seq → y.Seq ≤ e.Seq) := by
  induction l with
  | nil => simp [seeE]
  | cons a r ih =>
    have hp := List.pairwise_cons.1 ho
    rw [seeE_cons]
    by_cases c : a.Key = key ∧ a.Seq ≤ seq
    · rw [if_pos c]
      have hr : ∀ y ∈ r, y.Key = key → y.Seq < a.Seq := by
        intro y hy hk
        have := hp.1 y hy
        unfold entLt at this
        rw [c.1, hk, sLt_irrefl] at this
        simpa using this
      constructor
      · rintro h
        cases h
        refine ⟨by simp, c.1, c.2, fun y hy hk _ => ?_⟩
        rcases List.mem_cons.1 hy with rfl | hy
        · exact Int.le_refl _
        · exact Int.le_of_lt (hr y hy hk)
      · rintro ⟨h1, h2, h3, h4⟩
        rcases List.mem_cons.1 h1 with rfl | h1
        · rfl
        · have := h4 a (by simp) c.1 c.2
          have := hr e h1 h2
          omega
    · rw [if_neg c, ih hp.2]
      constructor
      · rintro ⟨h1, h2, h3, h4⟩
        refine ⟨List.mem_cons_of_mem _ h1, h2, h3, fun y hy hk hs => ?_⟩
        rcases List.mem_cons.1 hy with rfl | hy
        · exact absurd ⟨hk, hs⟩ c
        · exact h4 y hy hk hs
      · rintro ⟨h1, h2, h3, h4⟩
        refine ⟨?_, h2, h3, fun y hy => h4 y (List.mem_cons_of_mem _ hy)⟩
        rcases List.mem_cons.1 h1 with rfl | h1
        · exact absurd ⟨h2, h3⟩ c
        · exact h1
theorem see_ext {l l' : List Ent} (h1 : ordE l) (h2 : ordE l') (key : List UInt8) (seq : Int) (h : ∀ e, e.Key = key → e.Seq ≤ seq → (e ∈ l ↔ e ∈ l')) : seeE l key seq = seeE l' key seq := by
  have key' : ∀ e, seeE l key seq = some e ↔ seeE l' key seq = some e := by
    intro e
    rw [see_iff h1, see_iff h2]
    constructor
    · rintro ⟨a, b, c, d⟩
      exact ⟨(h e b c).1 a, b, c, fun y hy hk hs => d y ((h y hk hs).2 hy) hk hs⟩
    · rintro ⟨a, b, c, d⟩
      exact ⟨(h e b c).2 a, b, c, fun y hy hk hs => d y ((h y hk hs).1 hy) hk hs⟩
  cases h3 : seeE l key seq with
  | some e => exact ((key' e).1 h3).symm
  | none =>
    cases h4 : seeE l' key seq with
    | none => rfl
    | some e => rw [(key' e).2 h4] at h3; cases h3
theorem vis_mem (seq : Int) : ∀ (l : List Ent) (last : Option (List UInt8)), ordE l → (∀ k, last = some k → ∀ e ∈ l, sLt k e.Key = true ∨ k = e.Key) → ∀ kv : KV, kv ∈ visG seq last l ↔ (last ≠ some kv.Key ∧ valO (seeE l kv.Key seq) = some kv.Val)
  | [], last, _, _, kv => by simp [visG, seeE, valO]
  | e :: r, last, ho, hl, kv => by
    have hp := List.pairwise_cons.1 ho
    have hkey : ∀ y ∈ r, sLt e.Key y.Key = true ∨ e.Key = y.Key := fun y hy => key_le (hp.1 y hy)
    rw [visG, seeE_cons]
    by_cases c1 : e.Seq ≤ seq
    · by_cases c2 : last = some e.Key
      · rw [decide_eq_true c1, decide_eq_true c2]
        simp only [Bool.not_true, Bool.and_false, cond_false]
        rw [vis_mem seq r last hp.2 (fun k hk y hy => hl k hk y (List.mem_cons_of_mem _ hy)) kv]
        by_cases c3 : e.Key = kv.Key
        · constructor
          · rintro ⟨h, _⟩; rw [c2, c3] at h; exact absurd rfl h
          · rintro ⟨h, _⟩; rw [c2, c3] at h; exact absurd rfl h
        · rw [if_neg fun h => c3 h.1]
      · rw [decide_eq_true c1, decide_eq_false c2]
        simp only [Bool.not_false, Bool.and_true, cond_true]
        have ih := vis_mem seq r (some e.Key) hp.2 (fun k hk y hy => by cases hk; exact hkey y hy) kv
        by_cases c3 : e.Key = kv.Key
        · rw [if_pos ⟨c3, c1⟩]
          have hno : ¬ kv ∈ visG seq (some e.Key) r := by
            rw [ih]; rintro ⟨h, _⟩; rw [c3] at h; exact h rfl
          have hlast : last ≠ some kv.Key := by rw [← c3]; exact c2
          cases hd : e.Del with
          | true => simp [hno, valO, hd]
          | false =>
            simp only [cond_false, List.mem_cons, hno, or_false, valO, hd, Option.some.injEq]
            obtain ⟨k1, v1⟩ := kv
            constructor
            · intro h; cases h; exact ⟨hlast, rfl⟩
            · rintro ⟨_, h⟩; simp only at c3 h; subst c3; subst h; rfl
        · rw [if_neg fun h => c3 h.1]
          have hstep : kv ∈ (bif e.Del then visG seq (some e.Key) r else { Key := e.Key, Val := e.Val } :: visG seq (some e.Key) r) ↔ kv ∈ visG seq (some e.Key) r := by
            cases hd : e.Del with
            | true => rfl
            | false =>
              simp only [cond_false, List.mem_cons]
              constructor
              · rintro (rfl | h)
                · exact absurd rfl c3
                · exact h
              · exact .inr
          rw [hstep, ih]
          constructor
          · rintro ⟨_, h⟩
            refine ⟨fun hk => ?_, h⟩
            cases hs : seeE r kv.Key seq with
            | none => rw [hs] at h; cases h
            | some y =>
              obtain ⟨m1, m2, _⟩ := seeE_mem hs
              rcases hl _ hk e (by simp) with h1 | h1
              · rcases hkey y m1 with h2 | h2
                · rw [m2] at h2
                  have := sLt_trans h1 h2
                  rw [sLt_irrefl] at this; cases this
                · exact c3 (h2.trans m2)
              · exact c3 h1.symm
          · rintro ⟨_, h⟩
            exact ⟨fun hk => c3 (Option.some.inj hk), h⟩
    · rw [decide_eq_false c1, Bool.false_and]
      simp only [cond_false]
      rw [vis_mem seq r last hp.2 (fun k hk y hy => hl k hk y (List.mem_cons_of_mem _ hy)) kv, if_neg fun h => c1 h.2]
def srtK (m : List KV) : Prop := m.Pairwise fun a b => sLt a.Key b.Key = true
theorem vis_srt (seq : Int) : ∀ (l : List Ent) (last : Option (List UInt8)), ordE l → (∀ k, last = some k → ∀ e ∈ l, sLt k e.Key = true ∨ k = e.Key) → srtK (visG seq last l)
  | [], _, _, _ => List.Pairwise.nil
  | e :: r, last, ho, hl => by
    have hp := List.pairwise_cons.1 ho
    have hkey : ∀ y ∈ r, sLt e.Key y.Key = true ∨ e.Key = y.Key := fun y hy => key_le (hp.1 y hy)
    have hk2 : ∀ k, some e.Key = some k → ∀ y ∈ r, sLt k y.Key = true ∨ k = y.Key := fun k hk y hy => by cases hk; exact hkey y hy
    have i1 := vis_srt seq r (some e.Key) hp.2 hk2
    rw [visG]
    cases (decide (e.Seq ≤ seq) && !decide (last = some e.Key)) with
    | false => exact vis_srt seq r last hp.2 fun k hk y hy => hl k hk y (List.mem_cons_of_mem _ hy)
    | true =>
      simp only [cond_true]
      cases e.Del with
      | true => exact i1
      | false =>
        refine List.pairwise_cons.2 ⟨fun kv hkv => ?_, i1⟩
        obtain ⟨h1, h2⟩ := (vis_mem seq r (some e.Key) hp.2 hk2 kv).1 hkv
        cases hs : seeE r kv.Key seq with
        | none => rw [hs] at h2; cases h2
        | some y =>
          obtain ⟨m1, m2, _⟩ := seeE_mem hs
          rcases hkey y m1 with h | h
          · rw [← m2]; exact h
          · exact absurd (by rw [h, m2]) h1
theorem srtK_ext : ∀ {a b : List KV}, srtK a → srtK b → (∀ kv, kv ∈ a ↔ kv ∈ b) → a = b
  | [], [], _, _, _ => rfl
  | [], y :: t, _, _, h => by have := (h y).2 (by simp); simp at this
  | x :: t, [], _, _, h => by have := (h x).1 (by simp); simp at this
  | x :: s, y :: t, ha, hb, h => by
    have pa := List.pairwise_cons.1 ha
    have pb := List.pairwise_cons.1 hb
    have hxy : x = y := by
      rcases List.mem_cons.1 ((h x).1 (by simp)) with h1 | h1
      · exact h1
      · rcases List.mem_cons.1 ((h y).2 (by simp)) with h2 | h2
        · exact h2.symm
        · have := sLt_trans (pb.1 x h1) (pa.1 y h2)
          rw [sLt_irrefl] at this; cases this
    subst hxy
    congr 1
    refine srtK_ext pa.2 pb.2 fun kv => ?_
    constructor
    · intro hm
      rcases List.mem_cons.1 ((h kv).1 (List.mem_cons_of_mem _ hm)) with h1 | h1
      · subst h1
        have := pa.1 _ hm
        rw [sLt_irrefl] at this; cases this
      · exact h1
    · intro hm
      rcases List.mem_cons.1 ((h kv).2 (List.mem_cons_of_mem _ hm)) with h1 | h1
      · subst h1
        have := pb.1 _ hm
        rw [sLt_irrefl] at this; cases this
      · exact h1
theorem vis_ext {l l' : List Ent} {s s' : Int} (h1 : ordE l) (h2 : ordE l') (h : ∀ key, valO (seeE l key s) = valO (seeE l' key s')) : visG s none l = visG s' none l' := by
  refine srtK_ext (vis_srt s l none h1 (fun k hk => by cases hk)) (vis_srt s' l' none h2 (fun k hk => by cases hk)) fun kv => ?_
  rw [vis_mem s l none h1 (fun k hk => by cases hk), vis_mem s' l' none h2 (fun k hk => by cases hk), h]
theorem vis_inj {l l' : List Ent} {s s' : Int} (h1 : ordE l) (h2 : ordE l') (h : visG s none l = visG s' none l') (key : List UInt8) : valO (seeE l key s) = valO (seeE l' key s') := by
  have hm : ∀ v, valO (seeE l key s) = some v ↔ valO (seeE l' key s') = some v := by
    intro v
    have a := vis_mem s l none h1 (fun k hk => by cases hk) { Key := key, Val := v : KV }
    have b := vis_mem s' l' none h2 (fun k hk => by cases hk) { Key := key, Val := v : KV }
    rw [h] at a
    have := a.symm.trans b
    simpa using this
  cases h3 : valO (seeE l key s) with
  | some v => exact ((hm v).1 h3).symm
  | none =>
    cases h4 : valO (seeE l' key s') with
    | none => rfl
    | some v => rw [(hm v).2 h4] at h3; cases h3
theorem tabs_uniq {seq : Int} : ∀ (t : List (List Ent)) (low : Int), tabsV seq low t = true → ∀ x ∈ t.flatten, ∀ y ∈ t.flatten, keyE x = keyE y → x = y := by
  intro t
  induction t with
  | nil => intro _ _ x hx; simp at hx
  | cons a t ih =>
    intro low h x hx y hy hk
    have h' := h
    simp only [tabsV, Bool.and_eq_true, decide_eq_true_eq] at h'
    obtain ⟨⟨h1, h2, h3, h4⟩, h5⟩ := h'
    have hlo := (rangeV_lo a (rangeV a).1).1 (Int.le_refl _)
    have heach := tabsV_each t _ h5
    have hs : x.Seq = y.Seq := by have := congrArg Prod.snd hk; exact this
    have ho := ((entsV_iff a).1 h2).2
    have hin : ∀ x ∈ a, ∀ y ∈ a, keyE x = keyE y → x = y := by
      intro x hx y hy hk
      rcases List.pairwise_iff_getElem.1 ho with hpw
      obtain ⟨i, hi, rfl⟩ := List.getElem_of_mem hx
      obtain ⟨j, hj, rfl⟩ := List.getElem_of_mem hy
      rcases Nat.lt_trichotomy i j with c | c | c
      · have := hpw i j hi hj c; rw [entOrd3.irr _ _ hk] at this; cases this
      · subst c; rfl
      · have := hpw j i hj hi c; rw [entOrd3.irr _ _ hk.symm] at this; cases this
    rw [List.flatten_cons, List.mem_append] at hx hy
    rcases hx with hx | hx <;> rcases hy with hy | hy
    · exact hin x hx y hy hk
    · obtain ⟨s, hs1, hs2⟩ := List.mem_flatten.1 hy
      have := (heach s hs1).2 y hs2
      have := hlo.2 x hx
      omega
    · obtain ⟨s, hs1, hs2⟩ := List.mem_flatten.1 hx
      have := (heach s hs1).2 x hs2
      have := hlo.2 y hy
      omega
    · exact ih _ h5 x hx y hy hk
theorem fst_mem {r l : List Ent} (h : FstL keyE r l) (hu : ∀ x ∈ l, ∀ y ∈ l, keyE x = keyE y → x = y) (x : Ent) : x ∈ r ↔ x ∈ l := by
  refine ⟨h.mem, fun hx => ?_⟩
  have hf := h (keyE x)
  have hx' : x ∈ l.filter (fun y => decide (keyE y = keyE x)) := List.mem_filter.2 ⟨hx, by simp⟩
  cases hq : l.filter (fun y => decide (keyE y = keyE x)) with
  | nil => rw [hq] at hx'; simp at hx'
  | cons y t =>
    rw [hq] at hf
    have hy : y ∈ r.filter (fun y => decide (keyE y = keyE x)) := by rw [hf]; simp
    have hyl : y ∈ l.filter (fun y => decide (keyE y = keyE x)) := by rw [hq]; simp
    have := hu y (List.mem_filter.1 hyl).1 x hx (by simpa using (List.mem_filter.1 hyl).2)
    rw [← this]
    exact (List.mem_filter.1 hy).1
def tabE (e : Eng) : List Ent := e.Tables.foldl mg []
theorem tabE_ok {e : Eng} (h : engV e = true) : ordE (tabE e) ∧ ∀ x, x ∈ tabE e ↔ ∃ t ∈ e.Tables, x ∈ t := by
  obtain ⟨h1, h2, h3, h4, h5, h6, h7, h8⟩ := engV_all h
  have ht := tabsV_each e.Tables _ h7
  obtain ⟨m1, m2⟩ := foldl_mg e.Tables [] [] (fun t htm => ((entsV_iff t).1 (ht t htm).1).2) List.Pairwise.nil (fun c => rfl)
  rw [List.nil_append] at m2
  refine ⟨m1, fun x => ?_⟩
  rw [← List.mem_flatten]
  exact fst_mem m2 (tabs_uniq e.Tables _ h7) x
theorem allR_ok {e : Eng} (h : engV e = true) : ordE (allR e) ∧ ∀ x, x ∈ allR e ↔ x ∈ e.Mem ∨ x ∈ tabE e := by
  obtain ⟨h1, h2, h3, h4, h5, h6, h7, h8⟩ := engV_all h
  have ht := tabsV_each e.Tables _ h7
  obtain ⟨g1, _, _⟩ := all_rows h
  obtain ⟨m1, m2⟩ := foldl_mg (e.Mem :: e.Tables) [] [] (fun t htm => ((entsV_iff t).1 (g1 t htm)).2) List.Pairwise.nil (fun c => rfl)
  rw [List.nil_append] at m2
  refine ⟨m1, fun x => ?_⟩
  rw [(tabE_ok h).2 x, ← List.mem_flatten, ← List.mem_append, ← List.flatten_cons]
  refine fst_mem m2 ?_ x
  have hlo := (rangeV_lo e.Mem (rangeV e.Mem).1).1 (Int.le_refl _)
  have ho := ((entsV_iff e.Mem).1 h5.2).2
  intro x hx y hy hk
  have hs : x.Seq = y.Seq := by have := congrArg Prod.snd hk; exact this
  rw [List.flatten_cons, List.mem_append] at hx hy
  rcases hx with hx | hx <;> rcases hy with hy | hy
  · have hpw := List.pairwise_iff_getElem.1 ho
    obtain ⟨i, hi, rfl⟩ := List.getElem_of_mem hx
    obtain ⟨j, hj, rfl⟩ := List.getElem_of_mem hy
    rcases Nat.lt_trichotomy i j with c | c | c
    · have := hpw i j hi hj c; rw [entOrd3.irr _ _ hk] at this; cases this
    · subst c; rfl
    · have := hpw j i hj hi c; rw [entOrd3.irr _ _ hk.symm] at this; cases this
  · obtain ⟨s, hs1, hs2⟩ := List.mem_flatten.1 hy
    have := (ht s hs1).2 y hs2
    have := hlo.2 x hx
    omega
  · obtain ⟨s, hs1, hs2⟩ := List.mem_flatten.1 hx
    have := (ht s hs1).2 x hs2
    have := hlo.2 y hy
    omega
  · exact tabs_uniq e.Tables _ h7 x hx y hy hk
theorem see_split {e : Eng} (h : engV e = true) (key : List UInt8) (seq : Int) : seeE (allR e) key seq = (seeE e.Mem key seq).or (seeE (tabE e) key seq) := by
  obtain ⟨h1, h2, h3, h4, h5, h6, h7, h8⟩ := engV_all h
  obtain ⟨a1, a2⟩ := allR_ok h
  obtain ⟨t1, t2⟩ := tabE_ok h
  have ht := tabsV_each e.Tables _ h7
  have hlo := (rangeV_lo e.Mem (rangeV e.Mem).1).1 (Int.le_refl _)
  have hmo := ((entsV_iff e.Mem).1 h5.2).2
  have hlt : ∀ x ∈ e.Mem, ∀ y ∈ tabE e, y.Seq < x.Seq := by
    intro x hx y hy
    obtain ⟨s, hs1, hs2⟩ := (t2 y).1 hy
    have := (ht s hs1).2 y hs2
    have := hlo.2 x hx
    omega
  cases hm : seeE e.Mem key seq with
  | some x =>
    obtain ⟨m1, m2, m3, m4⟩ := (see_iff hmo).1 hm
    rw [Option.some_or, see_iff a1]
    refine ⟨(a2 x).2 (.inl m1), m2, m3, fun y hy hk hs => ?_⟩
    rcases (a2 y).1 hy with hy | hy
    · exact m4 y hy hk hs
    · exact Int.le_of_lt (hlt x m1 y hy)
  | none =>
    have hn := seeE_none.1 hm
    rw [Option.none_or]
    refine see_ext a1 t1 key seq fun x hk hs => ?_
    rw [a2 x]
    constructor
    · rintro (hx | hx)
      · exact absurd hs (hn x hx hk)
      · exact hx
    · exact .inr
theorem mapR_G {e : Eng} (h : engV e = true) (seq : Int) : mapR e seq = visG seq none (allR e) := by
  unfold mapR
  rw [h]
  exact visL_G (allR_props h).1 seq
theorem mapR_mem {e : Eng} (h : engV e = true) (seq : Int) (kv : KV) : kv ∈ mapR e seq ↔ valO (seeE (allR e) kv.Key seq) = some kv.Val := by
  rw [mapR_G h, vis_mem seq (allR e) none (allR_ok h).1 (fun k hk => by cases hk)]
  simp
theorem mapR_srt {e : Eng} (h : engV e = true) (seq : Int) : srtK (mapR e seq) := by
  rw [mapR_G h]
  exact vis_srt seq _ none (allR_ok h).1 fun k hk => by cases hk
theorem mapR_ext {e e' : Eng} {s s' : Int} (h : engV e = true) (h' : engV e' = true) (hs : ∀ key, valO (seeE (allR e) key s) = valO (seeE (allR e') key s')) : mapR e s = mapR e' s' := by
  rw [mapR_G h, mapR_G h']
  exact vis_ext (allR_ok h).1 (allR_ok h').1 hs
theorem flush_map {e : Eng} (h : engV e = true) (s : Int) : mapR (flushS e).2 s = mapR e s := by
  have h' := flushS_ok h
  by_cases c : e.Mem.length = 0 ∨ 6 ≤ e.Tables.length
  · rw [flushS_pos c]
  · rw [flushS_neg c] at h' ⊢
    exact mapR_ext h' h fun key => rfl
theorem merge_map {e : Eng} (h : engV e = true) (s : Int) (hs : s ∈ e.Snaps ∨ e.Seq ≤ s) : mapR (mergeS e).2 s = mapR e s := by
  have h' := mergeS_ok h
  obtain ⟨h1, h2, h3, h4, h5, h6, h7, h8⟩ := engV_all h
  by_cases c : e.Tables.length = 0
  · have : mergeS e = (false, e) := by unfold mergeS; rw [decide_eq_true c]; rfl
    rw [this]
  · have hm : (mergeS e).2 = { Mem := e.Mem, Tables := tab1 (mergeC e), Seq := e.Seq, Snaps := e.Snaps } := by unfold mergeS; rw [decide_eq_false c]; rfl
    rw [hm] at h' ⊢
    obtain ⟨g1, g2, g3⟩ := merge_ents h
    have hc : compactR (tabE e) e.Snaps true = mergeC e := by
      unfold compactR mergeC tabE
      rw [if_pos ⟨by omega, g1⟩]
    have ht' : tabE { Mem := e.Mem, Tables := tab1 (mergeC e), Seq := e.Seq, Snaps := e.Snaps : Eng } = mergeC e := by
      unfold tabE tab1
      by_cases c0 : 0 < (mergeC e).length
      · rw [decide_eq_true c0]; rfl
      · rw [decide_eq_false c0]
        have : mergeC e = [] := List.length_eq_zero_iff.1 (by omega)
        rw [this]; rfl
    obtain ⟨s1, s2⟩ := compact_seen (l := tabE e) e.Snaps true (by have : (tabE e).length ≤ totalV e.Tables := g2; omega) g1
    rw [hc] at s1 s2
    have ho := (tabE_ok h).1
    have hoc : ordE (mergeC e) := ((entsV_iff _).1 s1).2
    have hseen : ∀ s, s ∈ e.Snaps ∨ s = 1000000 → ∀ key, valO (seeE (mergeC e) key s) = valO (seeE (tabE e) key s) := by
      intro s hs key
      refine vis_inj hoc ho ?_ key
      rw [← visL_G s1, ← visL_G (l := tabE e) g1]
      unfold seenV at s2
      have h3 := List.append_inj' s2 rfl
      rcases hs with hs | rfl
      · exact List.map_inj_left.1 h3.1 s hs
      · simpa using h3.2
    have hall : ∀ {l : List Ent} {key : List UInt8}, (∀ x ∈ l, x.Seq ≤ e.Seq) → e.Seq ≤ s → seeE l key s = seeE l key 1000000 := by
      intro l key hl hs
      unfold seeE
      induction l with
      | nil => rfl
      | cons a t ih =>
        have ha := hl a (by simp)
        rw [List.find?_cons, List.find?_cons, ih fun x hx => hl x (List.mem_cons_of_mem _ hx), decide_eq_true (show a.Seq ≤ s by omega), decide_eq_true (show a.Seq ≤ 1000000 by omega)]
    have hseen2 : ∀ key, valO (seeE (mergeC e) key s) = valO (seeE (tabE e) key s) := by
      intro key
      rcases hs with hs | hs
      · exact hseen s (.inl hs) key
      · rw [hall (fun x hx => ((mergeC_props h).2.2 x hx).2) hs, hall (fun x hx => ?_) hs]
        · exact hseen _ (.inr rfl) key
        · obtain ⟨t, ht1, ht2⟩ := g3 x hx
          exact ((tabsV_each e.Tables _ h7 t ht1).2 x ht2).2
    refine mapR_ext h' h fun key => ?_
    rw [see_split h', see_split h, ht']
    cases seeE e.Mem key s with
    | some x => rfl
    | none => exact hseen2 key
theorem tidyM_map {e : Eng} (h : engV e = true) (s : Int) (hs : s ∈ e.Snaps ∨ e.Seq ≤ s) : mapR (tidyM e).2 s = mapR e s := by
  unfold tidyM
  cases decide (6 ≤ e.Tables.length) with
  | true => exact merge_map h s hs
  | false => rfl
theorem tidyF_map {e : Eng} (h : engV e = true) (s : Int) : mapR (tidyF e).2 s = mapR e s := by
  unfold tidyF
  cases decide (54 < e.Mem.length) with
  | true => exact flush_map h s
  | false => rfl
theorem tidyS_map {e : Eng} (h : engV e = true) (s : Int) (hs : s ∈ e.Snaps ∨ e.Seq ≤ s) : mapR (tidyS e).2 s = mapR e s := by
  rw [tidyS_eq]
  exact (tidyF_map (tidyM_ok h) s).trans (tidyM_map h s hs)
/-! ## drawn engines -/
def smallE (e : Eng) : Prop := e.Mem.length ≤ 2000 ∧ e.Tables.length ≤ 7 ∧ totalV e.Tables ≤ 401 ∧ e.Snaps.length ≤ 5
theorem smallE_of {e : Eng} (h : engV e = true) : smallE e := by
  obtain ⟨h1, h2, h3, h4, h5, h6, h7, h8⟩ := engV_all h
  exact ⟨by omega, by omega, by omega, by omega⟩
theorem snapsV_mk {seq : Int} {l : List Int} (h : ∀ k (hk : k < l.length), (0 ≤ l[k] ∧ l[k] ≤ seq) ∧ (∀ h0 : 0 < k, l[k - 1]'(by omega) < l[k])) : snapsV seq l = true := by
  unfold snapsV
  rw [List.all_eq_true]
  intro k hk
  have hk' : k < l.length := by simpa using hk
  obtain ⟨a, b⟩ := h k hk'
  rw [snapP_at seq l k hk', Bool.and_eq_true]
  refine ⟨decide_eq_true a, ?_⟩
  by_cases h0 : 0 < k
  · rw [dif_pos h0]; exact decide_eq_true (b h0)
  · rw [dif_neg h0]
theorem engV_snaps {e : Eng} (h : engV e = true) {l : List Int} (hl : l.length ≤ 4) (hs : snapsV e.Seq l = true) : engV { e with Snaps := l } = true := by
  obtain ⟨h1, h2, h3, h4, h5, h6, h7, h8⟩ := engV_all h
  unfold engV memV
  simp only [Bool.and_eq_true, decide_eq_true_eq]
  exact ⟨⟨h1, hl, h3, h4, h5, h6, h7⟩, hs⟩
theorem snapR_ok {e : Eng} (h : engV e = true) : engV (snapR e).1 = true := by
  obtain ⟨h1, h2, h3, h4, h5, h6, h7, h8⟩ := engV_all h
  unfold snapR
  rw [if_pos h]
  by_cases c1 : e.Seq ∈ e.Snaps
  · rw [if_pos c1]; exact h
  · by_cases c2 : e.Snaps.length = 4
    · rw [if_neg c1, if_pos c2]; exact h
    · rw [if_neg c1, if_neg c2]
      refine engV_snaps h (by simp; omega) (snapsV_mk fun k hk => ?_)
      have hk' : k < e.Snaps.length + 1 := by simpa using hk
      rcases Nat.lt_succ_iff_lt_or_eq.1 hk' with g | g
      · have := snaps_at h8 k g
        rw [List.getElem_append_left g]
        refine ⟨this.1, fun h0 => ?_⟩
        rw [List.getElem_append_left (by omega)]
        exact this.2 h0
      · subst g
        rw [List.getElem_append_right (by omega)]
        simp only [Nat.sub_self, List.getElem_cons_zero]
        refine ⟨⟨h1.1, Int.le_refl _⟩, fun h0 => ?_⟩
        rw [List.getElem_append_left (by omega)]
        have q := (snaps_at h8 (e.Snaps.length - 1) (by omega)).1
        have : e.Snaps[e.Snaps.length - 1]'(by omega) ≠ e.Seq := fun hq => c1 (by rw [← hq]; exact List.getElem_mem _)
        omega
theorem engDropR_ok {e : Eng} (h : engV e = true) (x : Int) : engV (engDropR e x).1 = true := by
  obtain ⟨h1, h2, h3, h4, h5, h6, h7, h8⟩ := engV_all h
  unfold engDropR
  rw [if_pos h]
  by_cases c1 : x ∈ e.Snaps
  · rw [if_pos c1]
    obtain ⟨j, hj, rfl⟩ := List.getElem_of_mem c1
    have hd := dropS_at h8 j hj
    refine engV_snaps h ?_ (snapsV_mk fun k hk => ?_)
    · rw [hd]; simp; omega
    · simp only [hd] at hk ⊢
      have hl : (e.Snaps.take j).length = j := by simp; omega
      have hlen : k < e.Snaps.length - 1 := by simp at hk; omega
      have lft : ∀ i (hi : i < j) (hh : i < (e.Snaps.take j ++ e.Snaps.drop (j + 1)).length), (e.Snaps.take j ++ e.Snaps.drop (j + 1))[i] = e.Snaps[i]'(by omega) := fun i hi hh => by
        rw [List.getElem_append_left (by omega), List.getElem_take]
      have rgt : ∀ i (hi : j ≤ i) (hh : i < (e.Snaps.take j ++ e.Snaps.drop (j + 1)).length) (h3 : i + 1 < e.Snaps.length), (e.Snaps.take j ++ e.Snaps.drop (j + 1))[i] = e.Snaps[i + 1]'h3 := fun i hi hh h3 => by
        rw [List.getElem_append_right (by omega), List.getElem_drop]
        congr 1
        omega
      by_cases c : k < j
      · rw [lft k c]
        have := snaps_at h8 k (by omega)
        refine ⟨this.1, fun h0 => ?_⟩
        rw [lft (k - 1) (by omega)]
        exact this.2 h0
      · rw [rgt k (by omega) hk (by omega)]
        have := snaps_at h8 (k + 1) (by omega)
        refine ⟨this.1, fun h0 => ?_⟩
        by_cases c3 : k = j
        · subst c3
          rw [lft (k - 1) (by omega)]
          exact snaps_lt h8 (k + 1) (by omega) (k - 1) (by omega)
        · rw [rgt (k - 1) (by omega) (by omega) (by omega)]
          exact snaps_lt h8 (k + 1) (by omega) (k - 1 + 1) (by omega)
  · rw [if_neg c1]; exact h
theorem flushR_ok {e : Eng} (h : engV e = true) : engV (flushR e).1 = true := by unfold flushR; rw [h]; exact flushS_ok h
theorem mergeER_ok {e : Eng} (h : engV e = true) : engV (mergeER e).1 = true := by unfold mergeER; rw [h]; exact mergeS_ok h
theorem putR_ok {e : Eng} (h : engV e = true) (l : List Op) : engV (putR e l).1 = true := by
  unfold putR
  rw [h]
  cases hb : batchV l with
  | false => exact h
  | true =>
    cases ho : okB e l with
    | false => exact h
    | true => exact (engB_ok h hb).trans ho
theorem bindC_ex {τ R : Type} {m : Option (Ctl τ R)} {k : τ → Option R} {P : Option R → Prop} (Q : τ → Prop) (h : ∃ t, m = some (.go t) ∧ Q t) (hk : ∀ t, Q t → P (k t)) : P (bindC m k) := by
  obtain ⟨t, rfl, hq⟩ := h
  exact hk t hq
def engT6 (t : Int × Int × Int × List Ent × List (List Ent) × List Int) : Eng := { Mem := t.2.2.2.1, Tables := t.2.2.2.2.1, Seq := t.2.2.1, Snaps := t.2.2.2.2.2 }
def okT6 (b : List UInt8) (t : Int × Int × Int × List Ent × List (List Ent) × List Int) : Prop := engV (engT6 t) = true ∧ (0 ≤ t.1 ∧ t.1 ≤ b.length)
def smT6 (b : List UInt8) (t : Int × Int × Int × List Ent × List (List Ent) × List Int) : Prop := smallE { Mem := t.2.2.2.1, Tables := t.2.2.2.2.1, Seq := t.1, Snaps := t.2.2.2.2.2 } ∧ (0 ≤ t.2.1 ∧ t.2.1 ≤ b.length)
def smT5 (b : List UInt8) (seq : Int) (t : Int × Int × List Ent × List (List Ent) × List Int) : Prop := smallE { Mem := t.2.2.1, Tables := t.2.2.2.1, Seq := seq, Snaps := t.2.2.2.2 } ∧ (0 ≤ t.1 ∧ t.1 ≤ b.length)
def smT4 (b : List UInt8) (seq : Int) (snaps : List Int) (t : Int × Int × List Ent × List (List Ent)) : Prop := smallE { Mem := t.2.2.1, Tables := t.2.2.2, Seq := seq, Snaps := snaps } ∧ (0 ≤ t.1 ∧ t.1 ≤ b.length)
def goO {T R : Type} (Q : T → Prop) (o : Option (Ctl T R)) : Prop := ∃ t, o = some (.go t) ∧ Q t
def drE (b : List UInt8) (o : Option (Eng × L1Cur)) : Prop := ∃ e i' h', o = some (e, ({ b := b, i := i', h := h' } : L1Cur)) ∧ smallE e ∧ (0 ≤ i' ∧ i' ≤ (b.length : Int))
theorem l20Some_ok (b : List UInt8) (i h most : Int) (hm : 0 < most ∧ most ≤ 1000) (hi : 0 ≤ i ∧ i ≤ b.length) (hb : b.length ≤ 1048576) : ∃ e i' h', spec_l20Some { b := b, i := i, h := h } most = some (e, { b := b, i := i', h := h' }) ∧ smallE e ∧ (0 ≤ i' ∧ i' ≤ b.length) := by
  unfold spec_l20Some
  obtain ⟨n, i1, h1, hn, hn1, hi1⟩ := l1Below_ok b i h most hi hb
  rw [hn]
  simp only [Option.bind_some]
  refine bindC_ex (P := drE b) (okT6 b) ?_ ?_
  · refine (loopO_total (ρ := Ctl (Int × Int × Int × List Ent × List (List Ent) × List Int) (Eng × L1Cur)) (s0 := (i1, h1, (0 : Int), n, ([] : List Ent), ([] : List (List Ent)), ([] : List Int)))
      (fun k S => engV (engT6 (S.1, S.2.1, S.2.2.1, S.2.2.2.2)) = true ∧ (0 ≤ S.1 ∧ S.1 ≤ b.length) ∧ S.2.2.2.1 = n - k) n.toNat (fun r => ∃ t, r = .go t ∧ engV (engT6 t) = true ∧ (0 ≤ t.1 ∧ t.1 ≤ b.length)) ⟨rfl, hi1, by show n = n - ((0 : Nat) : Int); omega⟩ ?_ ?_).elim fun r ⟨hr, t, hrt, hq⟩ => ⟨t, hrt ▸ hr, hq⟩
    · rintro k ⟨i2, h2, seq, c, mem, tabs, snaps⟩ hk ⟨hv, hi2, hc⟩
      simp only at hc hi2 hv
      left
      simp only
      rw [if_pos (by simp; omega)]
      obtain ⟨d, i3, h3, hd, hd1, hi3⟩ := l1Below_ok b i2 h2 10 hi2 hb
      rw [hd]
      simp only [Option.bind_some]
      have hE : ({ Mem := mem, Tables := tabs, Seq := seq, Snaps := snaps } : Eng) = engT6 (i2, h2, seq, mem, tabs, snaps) := rfl
      obtain ⟨s1, s2, s3, s4⟩ := smallE_of hv
      refine bindC_ex (P := goO fun s' : Int × Int × Int × Int × List Ent × List (List Ent) × List Int => engV (engT6 (s'.1, s'.2.1, s'.2.2.1, s'.2.2.2.2)) = true ∧ (0 ≤ s'.1 ∧ s'.1 ≤ b.length) ∧ s'.2.2.2.1 = n - ((k + 1 : Nat) : Int)) (okT6 b) ?_ ?_
      · by_cases c0 : d = 0
        · rw [if_pos (by simpa using c0), hE, spec_EngSnap_eq _ (by omega) (by omega) (by omega) (by omega)]
          exact ⟨_, rfl, snapR_ok hv, hi3⟩
        rw [if_neg (by simpa using c0)]
        refine bindC_ex (P := goO (okT6 b)) (okT6 b) ?_ (fun t ht => ⟨_, rfl, ht⟩)
        by_cases c1 : d = 1
        · rw [if_pos (by simpa using c1)]
          refine bindC_ex (P := goO (okT6 b)) (okT6 b) ?_ (fun t ht => ⟨_, rfl, ht⟩)
          by_cases c2 : 0 < snaps.length
          · rw [if_pos (by simp; omega)]
            obtain ⟨x, i4, h4, hx, hx1, hi4⟩ := l1Below_ok b i3 h3 (snaps.length : Int) hi3 hb
            rw [hx]
            obtain ⟨xn, rfl⟩ : ∃ m : Nat, x = (m : Int) := ⟨x.toNat, by omega⟩
            have hxl : xn < snaps.length := by have := hx1.2.1 (by omega); omega
            simp only [Option.bind_some]
            rw [idx_nat snaps xn hxl]
            simp only [Option.bind_some]
            rw [hE, spec_EngDrop_eq _ _ (by omega) (by omega) (by omega) (by omega)]
            exact ⟨_, rfl, engDropR_ok hv _, hi4⟩
          · rw [if_neg (by rw [decide_eq_true_eq]; omega)]
            exact ⟨_, rfl, hv, hi3⟩
        rw [if_neg (by simpa using c1)]
        refine bindC_ex (P := goO (okT6 b)) (fun _ : Bool => True) (by by_cases c2 : d = 2 <;> simp [c2]) fun T42 _ => ?_
        refine bindC_ex (P := goO (okT6 b)) (okT6 b) ?_ (fun t ht => ⟨_, rfl, ht⟩)
        cases T42 with
        | true =>
          rw [if_pos rfl, hE, spec_EngFlush_eq _ (by omega) (by omega) (by omega) (by omega)]
          exact ⟨_, rfl, flushR_ok hv, hi3⟩
        | false =>
          rw [if_neg (by simp)]
          refine bindC_ex (P := goO (okT6 b)) (okT6 b) ?_ (fun t ht => ⟨_, rfl, ht⟩)
          by_cases c4 : d = 4
          · rw [if_pos (by simpa using c4), hE, spec_EngMerge_eq _ (by omega) (by omega) (by omega) (by omega)]
            exact ⟨_, rfl, mergeER_ok hv, hi3⟩
          · rw [if_neg (by simpa using c4)]
            obtain ⟨l, i4, h4, hl, hl1, hi4⟩ := l7Batch_ok b i3 h3 hi3 hb
            rw [hl]
            simp only [Option.bind_some]
            rw [hE, spec_EngPut_eq _ _ (by omega) (by omega) (by omega) (by omega) (by omega)]
            exact ⟨_, rfl, putR_ok hv l, hi4⟩
      · rintro t ⟨ht1, ht2⟩
        refine ⟨_, rfl, ht1, ht2, ?_⟩
        simp only
        rw [wrap_ok (by omega) (by omega)]
        omega
    · rintro ⟨i2, h2, seq, c, mem, tabs, snaps⟩ ⟨hv, hi2, hc⟩
      simp only at hc hi2 hv
      simp only
      rw [if_neg (by simp; omega)]
      exact ⟨_, rfl, _, rfl, hv, hi2⟩
  · rintro ⟨i2, h2, seq, mem, tabs, snaps⟩ ⟨hv, hi2⟩
    simp only at hi2 hv
    obtain ⟨s1, s2, s3, s4⟩ := smallE_of hv
    obtain ⟨g1, g2, g3, g4, g5, g6, g7, g8⟩ := engV_all hv
    simp only [engT6] at s1 s2 s3 s4 g2 g3 g4 g5
    obtain ⟨d, i3, h3, hd, hi3⟩ := l1Once_ok b i2 h2 10 hi2 hb
    simp only [hd, Option.bind_some]
    refine bindC_ex (P := drE b) (smT6 b) ?_ (fun t ht => ⟨_, _, _, rfl, ht⟩)
    cases d with
    | false =>
      rw [if_neg (by simp)]
      exact ⟨_, rfl, smallE_of hv, hi3⟩
    | true =>
      rw [if_pos rfl]
      obtain ⟨q, i4, h4, hq, hq1, hi4⟩ := l1Below_ok b i3 h3 5 hi3 hb
      simp only [hq, Option.bind_some]
      refine bindC_ex (P := goO (smT6 b)) (smT6 b) ?_ (fun t ht => ⟨_, rfl, ht⟩)
      by_cases c0 : q = 0
      · rw [if_pos (by simpa using c0)]
        obtain ⟨x, i5, h5, hx, hx1, hi5⟩ := l1PickInt_ok b i4 h4 [(-1 : Int), 0, 1000000, 1000001] (by simp) hi4 hb
        simp only [hx, Option.bind_some]
        exact ⟨_, rfl, ⟨s1, s2, s3, s4⟩, hi5⟩
      rw [if_neg (by simpa using c0)]
      refine bindC_ex (P := goO (smT6 b)) (smT5 b seq) ?_ (fun t ht => ⟨_, rfl, ht⟩)
      by_cases c1 : q = 1
      · rw [if_pos (by simpa using c1)]
        obtain ⟨x, i5, h5, hx, hx1, hi5⟩ := l1Below_ok b i4 h4 9 hi4 hb
        simp only [hx, Option.bind_some]
        rw [app_ok (by simp; omega) (by simp; omega)]
        exact ⟨_, rfl, ⟨s1, s2, s3, by simp; omega⟩, hi5⟩
      rw [if_neg (by simpa using c1)]
      refine bindC_ex (P := goO (smT5 b seq)) (smT4 b seq snaps) ?_ (fun t ht => ⟨_, rfl, ht⟩)
      by_cases c2 : q = 2
      · rw [if_pos (by simpa using c2)]
        obtain ⟨x, i5, h5, hx, hx1, hi5⟩ := l1Below_ok b i4 h4 4 hi4 hb
        simp only [hx, Option.bind_some]
        rw [app_ok (by simp; omega) (by simp; omega)]
        exact ⟨_, rfl, ⟨s1, by simp; omega, by simp [totalV] at *; omega, s4⟩, hi5⟩
      rw [if_neg (by simpa using c2)]
      refine bindC_ex (P := goO (smT4 b seq snaps)) (smT4 b seq snaps) ?_ (fun t ht => ⟨_, rfl, ht⟩)
      by_cases c3 : q = 3
      · rw [if_pos (by simpa using c3)]
        obtain ⟨x, i5, h5, hx, hx1, hi5⟩ := l9Any_ok b i4 h4 9 (by omega) hi4 hb
        simp only [hx, Option.bind_some]
        exact ⟨_, rfl, ⟨hx1, s2, s3, s4⟩, hi5⟩
      · rw [if_neg (by simpa using c3)]
        rw [app_ok (by simp; omega) (by simp; omega)]
        exact ⟨_, rfl, ⟨s1, by simp; omega, by simp [totalV] at *; omega, s4⟩, hi4⟩
/-! ## the law of engines -/
theorem l1Size_ok (code : List UInt8) (most : Int) (h : code.length ≤ 1048576) (hm : 2 ≤ most ∧ most ≤ 1000) : ∃ n, spec_l1Size code most = some n ∧ 0 < n ∧ n ≤ 1000 := by
  unfold spec_l1Size
  have hd : Int.tdiv ((code.length : Nat) : Int) 20 = ((code.length / 20 : Nat) : Int) := rfl
  rw [hd, wrap_ok (n := ((code.length / 20 : Nat) : Int)) (by omega) (by omega), wrap_ok (by omega) (by omega)]
  by_cases c : (2 : Int) + ((code.length / 20 : Nat) : Int) > most
  · exact ⟨_, if_pos (by simpa using c), by omega, by omega⟩
  · exact ⟨_, if_neg (by simpa using c), by omega, by omega⟩
theorem DrawEngPut_ok (code : List UInt8) (hb : code.length ≤ 1048576) : ∃ e l, spec_DrawEngPut code = some (e, l) ∧ smallE e ∧ l.length ≤ 8 := by
  unfold spec_DrawEngPut
  obtain ⟨q, hq⟩ := l1New_ok code hb
  obtain ⟨n, hn, n1, n2⟩ := l1Size_ok code 24 hb (by omega)
  obtain ⟨e, i1, h1, he, hs, hi1⟩ := l20Some_ok code 0 q n ⟨n1, n2⟩ (by omega) hb
  obtain ⟨l, i2, h2, hl, hll, _⟩ := l7Batch_ok code i1 h1 hi1 hb
  simp only [hq, hn, he, hl, Option.bind_some]
  exact ⟨e, l, rfl, hs, hll⟩
/-! ## a put, as it shows -/
theorem memB_has (l : List Op) (seq : Int) (m : List Ent) (hm : ordE m) (hs : ∀ x ∈ m, x.Seq < seq) (hl : m.length + l.length ≤ 1048576) : ∀ k, k ≤ l.length → ∀ i (hi : i < l.length), i < k → laterV l i l[i].Key = false → entO l[i] seq ∈ memB l seq m k := by
  intro k
  induction k with
  | zero => intro _ i _ h; omega
  | succ k ih =>
    intro hk i hi hik hla
    have hk' : k < l.length := by omega
    obtain ⟨i1, i2, i3, _⟩ := memB_step l seq m hm hs hl k (by omega)
    cases hlk : laterV l k l[k].Key with
    | true =>
      rw [memB_later l seq m k hk' hlk]
      rcases Nat.lt_succ_iff_lt_or_eq.1 hik with h | rfl
      · exact ih (by omega) i hi h hla
      · rw [hla] at hlk; cases hlk
    | false =>
      obtain ⟨j, hj, _, h2, _⟩ := put_both (memB l seq m k) (entO l[k] seq) i1 (by omega) (memB_new l seq m _ k hk' hs i3)
      rw [memB_put l seq m k hk' hlk, h2, Option.getD_some]
      rcases Nat.lt_succ_iff_lt_or_eq.1 hik with h | rfl
      · exact insE_mem.2 (.inr (ih (by omega) i hi h hla))
      · exact insE_mem.2 (.inl rfl)
def opL (l : List Op) (key : List UInt8) : Option Op := l.reverse.find? fun o => decide (o.Key = key)
theorem opL_cons (a : Op) (t : List Op) (key : List UInt8) : opL (a :: t) key = (opL t key).or (if a.Key = key then some a else none) := by
  unfold opL
  rw [List.reverse_cons, List.find?_append]
  by_cases c : a.Key = key <;> simp [c]
theorem opL_iff (l : List Op) (key : List UInt8) (o : Op) : opL l key = some o ↔ ∃ i, ∃ hi : i < l.length, laterV l i key = false ∧ l[i].Key = key ∧ o = l[i] := by
  induction l with
  | nil => simp [opL]
  | cons a t ih =>
    rw [opL_cons]
    have h0 : ∀ i, laterV (a :: t) (i + 1) key = laterV t i key := fun i => by simp [laterV]
    have h1 : laterV (a :: t) 0 key = t.any fun x => decide (x.Key = key) := by simp [laterV]
    have hnone : opL t key = none ↔ (t.any fun x => decide (x.Key = key)) = false := by
      unfold opL
      rw [List.find?_eq_none, List.any_eq_false]
      simp
    constructor
    · intro h
      cases hq : opL t key with
      | some x =>
        rw [hq, Option.some_or] at h
        obtain ⟨i, hi, h2, h3, h4⟩ := ih.1 (hq.trans h)
        exact ⟨i + 1, by simp; omega, by rw [h0]; exact h2, h3, h4⟩
      | none =>
        rw [hq, Option.none_or] at h
        by_cases c : a.Key = key
        · rw [if_pos c] at h
          exact ⟨0, by simp, by rw [h1]; exact hnone.1 hq, c, (Option.some.inj h).symm⟩
        · rw [if_neg c] at h; cases h
    · rintro ⟨i, hi, h2, h3, rfl⟩
      cases i with
      | zero =>
        rw [h1] at h2
        rw [hnone.2 h2, Option.none_or]
        exact if_pos h3
      | succ i =>
        rw [h0] at h2
        have := ih.2 ⟨i, by simpa using hi, h2, h3, rfl⟩
        simp only [List.getElem_cons_succ]
        rw [this]; rfl
theorem opL_none {l : List Op} {key : List UInt8} (h : opL l key = none) : ∀ o ∈ l, o.Key ≠ key := by
  unfold opL at h
  rw [List.find?_eq_none] at h
  intro o ho hk
  have := h o (List.mem_reverse.2 ho)
  simp [hk] at this
theorem memB_old (l : List Op) (seq : Int) (m : List Ent) (hm : ordE m) (hs : ∀ x ∈ m, x.Seq < seq) (hl : m.length + l.length ≤ 1048576) (key : List UInt8) (s : Int) (h : s < seq) : seeE (memB l seq m l.length) key s = seeE m key s := by
  obtain ⟨i1, i2, i3, i4⟩ := memB_step l seq m hm hs hl l.length (Nat.le_refl _)
  refine see_ext i1 hm key s fun x hk hx => ⟨fun hxm => ?_, fun hxm => i4 x hxm⟩
  rcases i3 x hxm with h1 | ⟨i, hi, _, _, rfl⟩
  · exact h1
  · have : seq ≤ s := hx
    omega
theorem memB_late (l : List Op) (seq : Int) (m : List Ent) (hm : ordE m) (hs : ∀ x ∈ m, x.Seq < seq) (hl : m.length + l.length ≤ 1048576) (key : List UInt8) : seeE (memB l seq m l.length) key seq = ((opL l key).map fun o => entO o seq).or (seeE m key seq) := by
  obtain ⟨i1, i2, i3, i4⟩ := memB_step l seq m hm hs hl l.length (Nat.le_refl _)
  cases hq : opL l key with
  | some o =>
    obtain ⟨i, hi, h2, h3, rfl⟩ := (opL_iff l key o).1 hq
    rw [Option.map_some, Option.some_or, see_iff i1]
    exact ⟨memB_has l seq m hm hs hl l.length (Nat.le_refl _) i hi hi (by rw [h3]; exact h2), h3, Int.le_refl _, fun y _ _ hy => hy⟩
  | none =>
    rw [Option.map_none, Option.none_or]
    refine see_ext i1 hm key seq fun x hk hx => ⟨fun hxm => ?_, fun hxm => i4 x hxm⟩
    rcases i3 x hxm with h1 | ⟨i, hi, _, _, rfl⟩
    · exact h1
    · exact absurd hk (opL_none hq _ (List.getElem_mem hi))
theorem see_up {l : List Ent} {key : List UInt8} {s s' : Int} (h : ∀ x ∈ l, x.Seq ≤ s) (hs : s ≤ s') : seeE l key s' = seeE l key s := by
  unfold seeE
  induction l with
  | nil => rfl
  | cons a t ih =>
    have ha := h a (by simp)
    rw [List.find?_cons, List.find?_cons, ih fun x hx => h x (List.mem_cons_of_mem _ hx), decide_eq_true (show a.Seq ≤ s by omega), decide_eq_true (show a.Seq ≤ s' by omega)]
theorem eng_seqs {e : Eng} (h : engV e = true) : (∀ x ∈ e.Mem, x.Seq ≤ e.Seq) ∧ (∀ x ∈ tabE e, x.Seq ≤ e.Seq) := by
  obtain ⟨h1, h2, h3, h4, h5, h6, h7, h8⟩ := engV_all h
  refine ⟨fun x hx => ((rangeV_hi _ _).1 h6).2 x hx, fun x hx => ?_⟩
  obtain ⟨t, ht1, ht2⟩ := ((tabE_ok h).2 x).1 hx
  exact ((tabsV_each e.Tables _ h7 t ht1).2 x ht2).2
theorem put_see_old {e : Eng} {l : List Op} (h : engV e = true) (hb : batchV l = true) (ho : okB e l = true) (key : List UInt8) (s : Int) (hs : s ≤ e.Seq) : seeE (allR (engB e l)) key s = seeE (allR e) key s := by
  have h' : engV (engB e l) = true := (engB_ok h hb).trans ho
  obtain ⟨g1, g2, g3⟩ := engB_mem h hb
  rw [see_split h', see_split h]
  show (seeE (memB l (e.Seq + 1) e.Mem l.length) key s).or (seeE (tabE e) key s) = _
  rw [memB_old l (e.Seq + 1) e.Mem g1 g2 (by omega) key s (by omega)]
theorem put_see_new {e : Eng} {l : List Op} (h : engV e = true) (hb : batchV l = true) (ho : okB e l = true) (key : List UInt8) : seeE (allR (engB e l)) key (e.Seq + 1) = ((opL l key).map fun o => entO o (e.Seq + 1)).or (seeE (allR e) key e.Seq) := by
  have h' : engV (engB e l) = true := (engB_ok h hb).trans ho
  obtain ⟨g1, g2, g3⟩ := engB_mem h hb
  obtain ⟨q1, q2⟩ := eng_seqs h
  rw [see_split h', see_split h]
  show (seeE (memB l (e.Seq + 1) e.Mem l.length) key (e.Seq + 1)).or (seeE (tabE e) key (e.Seq + 1)) = _
  rw [memB_late l (e.Seq + 1) e.Mem g1 g2 (by omega) key, see_up q1 (by omega), see_up q2 (by omega), Option.or_assoc]
/-! maps as they are put -/
def newK (o : Op) : List KV := bif o.Del then [] else [{ Key := o.Key, Val := o.Val }]
def putK (m : List KV) (o : Op) : List KV := m.filter (fun x => sLt x.Key o.Key) ++ (newK o ++ m.filter (fun x => sLt o.Key x.Key))
def applyK (m : List KV) (l : List Op) : List KV := l.foldl putK m
theorem newK_mem (o : Op) (kv : KV) : kv ∈ newK o ↔ o.Del = false ∧ kv.Key = o.Key ∧ kv.Val = o.Val := by
  unfold newK
  obtain ⟨k, v⟩ := kv
  cases o.Del <;> simp
theorem putK_mem (m : List KV) (o : Op) (kv : KV) : kv ∈ putK m o ↔ (o.Del = false ∧ kv.Key = o.Key ∧ kv.Val = o.Val) ∨ (kv.Key ≠ o.Key ∧ kv ∈ m) := by
  unfold putK
  rw [List.mem_append, List.mem_append, newK_mem, List.mem_filter, List.mem_filter]
  constructor
  · rintro (⟨h1, h2⟩ | h | ⟨h1, h2⟩)
    · exact .inr ⟨fun h => by (rw [h, sLt_irrefl] at h2; cases h2), h1⟩
    · exact .inl h
    · exact .inr ⟨fun h => by (rw [h, sLt_irrefl] at h2; cases h2), h1⟩
  · rintro (h | ⟨h1, h2⟩)
    · exact .inr (.inl h)
    · cases c1 : sLt kv.Key o.Key with
      | true => exact .inl ⟨h2, rfl⟩
      | false =>
        cases c2 : sLt o.Key kv.Key with
        | true => exact .inr (.inr ⟨h2, rfl⟩)
        | false => exact absurd (sLt_same c1 c2) h1
theorem putK_srt {m : List KV} (h : srtK m) (o : Op) : srtK (putK m o) := by
  unfold putK srtK
  rw [List.pairwise_append, List.pairwise_append]
  refine ⟨h.filter _, ⟨?_, h.filter _, ?_⟩, ?_⟩
  · unfold newK; cases o.Del <;> simp
  · intro a ha b hb
    rw [((newK_mem o a).1 ha).2.1]
    exact (List.mem_filter.1 hb).2
  · intro a ha b hb
    have h1 := (List.mem_filter.1 ha).2
    rcases List.mem_append.1 hb with hb | hb
    · rw [((newK_mem o b).1 hb).2.1]; exact h1
    · exact sLt_trans h1 (List.mem_filter.1 hb).2
theorem applyK_srt (l : List Op) : ∀ {m : List KV}, srtK m → srtK (applyK m l) := by
  induction l with
  | nil => intro m h; exact h
  | cons a t ih => intro m h; exact ih (putK_srt h a)
theorem applyK_mem (l : List Op) : ∀ (m : List KV) (kv : KV), kv ∈ applyK m l ↔ match opL l kv.Key with | some o => o.Del = false ∧ kv.Val = o.Val | none => kv ∈ m := by
  induction l with
  | nil => intro m kv; simp [applyK, opL]
  | cons a t ih =>
    intro m kv
    show kv ∈ applyK (putK m a) t ↔ _
    rw [ih, opL_cons]
    cases hq : opL t kv.Key with
    | some o => simp
    | none =>
      simp only [Option.none_or]
      rw [putK_mem]
      by_cases c : a.Key = kv.Key
      · simp [c]
      · have : kv.Key ≠ a.Key := fun h => c h.symm
        simp [c, this]
theorem applyK_len (l : List Op) : ∀ m : List KV, (applyK m l).length ≤ m.length + l.length := by
  induction l with
  | nil => intro m; simp [applyK]
  | cons a t ih =>
    intro m
    have h1 := ih (putK m a)
    have h2 : (putK m a).length ≤ m.length + 1 := by
      unfold putK newK
      have q : (m.filter fun x => sLt x.Key a.Key).length + (m.filter fun x => sLt a.Key x.Key).length ≤ m.length := by
        clear h1
        induction m with
        | nil => simp
        | cons x r ihm =>
          simp only [List.filter_cons, List.length_cons]
          cases c1 : sLt x.Key a.Key with
          | true => rw [sLt_asymm c1]; simp; omega
          | false => cases sLt a.Key x.Key <;> simp <;> omega
      cases a.Del <;> simp <;> omega
    show (applyK (putK m a) t).length ≤ _
    simp only [List.length_cons]
    omega
theorem put_map {e : Eng} {l : List Op} (h : engV e = true) (hb : batchV l = true) (ho : okB e l = true) : mapR (engB e l) (e.Seq + 1) = applyK (mapR e e.Seq) l := by
  have h' : engV (engB e l) = true := (engB_ok h hb).trans ho
  refine srtK_ext (mapR_srt h' _) (applyK_srt l (mapR_srt h _)) fun kv => ?_
  rw [mapR_mem h', put_see_new h hb ho, applyK_mem]
  cases hq : opL l kv.Key with
  | none => rw [Option.map_none, Option.none_or]; exact (mapR_mem h _ kv).symm
  | some o =>
    simp only [Option.map_some, Option.some_or, valO, entO]
    cases o.Del with
    | true => simp
    | false =>
      simp only [cond_false, Option.some.injEq, true_and]
      exact eq_comm
theorem put_map_old {e : Eng} {l : List Op} (h : engV e = true) (hb : batchV l = true) (ho : okB e l = true) {s : Int} (hs : s ≤ e.Seq) : mapR (engB e l) s = mapR e s :=
  mapR_ext ((engB_ok h hb).trans ho) h fun key => by rw [put_see_old h hb ho key s hs]
def kvV (x : KV) : Bool := opV { Key := x.Key, Del := false, Val := x.Val }
theorem mapR_kv {e : Eng} (h : engV e = true) (s : Int) : ∀ x ∈ mapR e s, kvV x = true := by
  intro x hx
  rw [mapR_mem h] at hx
  cases hq : seeE (allR e) x.Key s with
  | none => rw [hq] at hx; cases hx
  | some d =>
    obtain ⟨m1, m2, _⟩ := seeE_mem hq
    have hv := ((entsV_iff _).1 (allR_props h).1).1 d m1
    rw [hq] at hx
    unfold entV at hv
    simp only [Bool.and_eq_true] at hv
    have hx : (bif d.Del then none else some d.Val) = some x.Val := hx
    cases hd : d.Del with
    | true => rw [hd] at hx; cases hx
    | false =>
      rw [hd] at hx
      have e1 : d.Val = x.Val := Option.some.inj hx
      unfold kvV opV
      simp only [Bool.not_false, Bool.true_or, Bool.and_true, Bool.and_eq_true]
      rw [← m2, ← e1]
      exact ⟨hv.1, hv.2.2.1⟩
theorem putK_cut {m : List KV} {o : Op} (p : Nat) (h1 : ∀ x ∈ m.take p, sLt x.Key o.Key = true) (h2 : ∀ x ∈ m.drop p, sLt x.Key o.Key = false) : putK m o = m.take p ++ (newK o ++ (m.drop p).filter fun x => !decide (x.Key = o.Key)) := by
  unfold putK
  have e : m = m.take p ++ m.drop p := (List.take_append_drop p m).symm
  have a1 : m.filter (fun x => sLt x.Key o.Key) = m.take p := by
    conv => lhs; rw [e]
    rw [List.filter_append, List.filter_eq_self.2 h1, List.filter_eq_nil_iff.2 fun x hx => by rw [h2 x hx]; simp, List.append_nil]
  have a2 : m.filter (fun x => sLt o.Key x.Key) = (m.drop p).filter fun x => !decide (x.Key = o.Key) := by
    conv => lhs; rw [e]
    rw [List.filter_append, List.filter_eq_nil_iff.2 fun x hx => by rw [sLt_asymm (h1 x hx)]; simp, List.nil_append]
    refine List.filter_congr fun x hx => ?_
    by_cases c : x.Key = o.Key
    · rw [c, sLt_irrefl]; simp
    · rw [decide_eq_false c]
      cases c2 : sLt o.Key x.Key with
      | true => rfl
      | false => exact absurd (sLt_same (h2 x hx) c2) c
  rw [a1, a2]
theorem spec_l7Put_eq (m : List KV) (o : Op) (hm : srtK m) (hl : m.length ≤ 1000000) : spec_l7Put m o = some (putK m o) := by
  unfold spec_l7Put
  refine loopO_bind (fun k (S : Bool × Int × List KV) => S.2.1 = (k : Int) ∧ ((S.1 = o.Del ∧ S.2.2 = m.take k ∧ ∀ x ∈ m.take k, sLt x.Key o.Key = true) ∨
      (S.1 = true ∧ ∃ p, p ≤ k ∧ S.2.2 = m.take p ++ (newK o ++ ((m.take k).drop p).filter fun x => !decide (x.Key = o.Key)) ∧ (∀ x ∈ m.take p, sLt x.Key o.Key = true) ∧ ∀ x ∈ m.drop p, sLt x.Key o.Key = false))) m.length
    (fun r => ∃ b a, r = .go (b, a) ∧ ((b = o.Del ∧ a = m ∧ ∀ x ∈ m, sLt x.Key o.Key = true) ∨ (b = true ∧ a = putK m o))) ⟨rfl, .inl ⟨rfl, by simp, by simp⟩⟩ ?_ ?_ ?_
  · rintro k ⟨b, c, a⟩ hk ⟨hc, hS⟩
    simp only at hc hS
    subst hc
    left
    have htk : m.take (k + 1) = m.take k ++ [m[k]] := by rw [List.take_add_one, List.getElem?_eq_getElem hk]; rfl
    have hw : IntKind.i64.wrap ((k : Int) + 1) = ((k + 1 : Nat) : Int) := by rw [wrap_ok (by omega) (by omega)]; omega
    have ap : ∀ (x y : List KV), x.length ≤ 1000001 → y.length ≤ 1 → app 32 x y = some (x ++ y) := fun x y h1 h2 => app_ok (by omega) (by omega)
    simp only [idx_nat m k hk, Option.bind_some, hw]
    rw [if_pos (by simpa using hk)]
    rcases hS with ⟨hb, ha, hlt⟩ | ⟨hb, p, hp, ha, hlt, hge⟩
    · subst hb ha
      have hla : (m.take k).length ≤ 1000000 := by simp; omega
      cases c1 : sLt m[k].Key o.Key with
      | true =>
        have hne : ¬ m[k].Key = o.Key := fun h => by rw [h, sLt_irrefl] at c1; cases c1
        refine ⟨(o.Del, ((k + 1 : Nat) : Int), m.take (k + 1)), ?_, rfl, .inl ⟨rfl, rfl, ?_⟩⟩
        · rw [htk]
          cases o.Del <;> simp [hne, bindC, ap (m.take k) [m[k]] (by omega) (by simp)]
        · intro x hx
          rw [htk, List.mem_append] at hx
          rcases hx with hx | hx
          · exact hlt x hx
          · rw [List.mem_singleton.1 hx]; exact c1
      | false =>
        have hge : ∀ x ∈ m.drop k, sLt x.Key o.Key = false := by
          intro x hx
          rw [List.drop_eq_getElem_cons hk] at hx
          rcases List.mem_cons.1 hx with rfl | hx
          · exact c1
          · have hpw := hm
            unfold srtK at hpw
            rw [← List.take_append_drop k m, List.pairwise_append, List.drop_eq_getElem_cons hk] at hpw
            have hlt2 := (List.pairwise_cons.1 hpw.2.1).1 x hx
            cases c2 : sLt x.Key o.Key with
            | false => rfl
            | true => rw [sLt_trans hlt2 c2] at c1; cases c1
        refine ⟨(true, ((k + 1 : Nat) : Int), m.take k ++ (newK o ++ ((m.take (k + 1)).drop k).filter fun x => !decide (x.Key = o.Key))), ?_, rfl, .inr ⟨rfl, k, by omega, rfl, hlt, hge⟩⟩
        have hd : (m.take (k + 1)).drop k = [m[k]] := by rw [htk, List.drop_append_of_le_length (by simp; omega)]; simp
        rw [hd]
        unfold newK
        cases o.Del with
        | true =>
          by_cases c2 : m[k].Key = o.Key
          · simp [c2, bindC]
          · simp [c2, bindC, ap (m.take k) [m[k]] (by omega) (by simp)]
        | false =>
          by_cases c2 : m[k].Key = o.Key
          · simp [c2, bindC, ap (m.take k) [({ Key := o.Key, Val := o.Val } : KV)] (by omega) (by simp)]
          · simp [c2, bindC, ap (m.take k) [({ Key := o.Key, Val := o.Val } : KV)] (by omega) (by simp), ap (m.take k ++ [({ Key := o.Key, Val := o.Val } : KV)]) [m[k]] (by simp; omega) (by simp)]
    · subst hb ha
      have hd : (m.take (k + 1)).drop p = (m.take k).drop p ++ [m[k]] := by rw [htk, List.drop_append_of_le_length (by simp; omega)]
      have hlen : (m.take p ++ (newK o ++ ((m.take k).drop p).filter fun x => !decide (x.Key = o.Key))).length ≤ 1000001 := by
        have q1 : (newK o).length ≤ 1 := by unfold newK; cases o.Del <;> simp
        have q2 := List.length_filter_le (fun x => !decide (x.Key = o.Key)) ((m.take k).drop p)
        simp only [List.length_append, List.length_take, List.length_drop] at *
        omega
      refine ⟨(true, ((k + 1 : Nat) : Int), m.take p ++ (newK o ++ ((m.take (k + 1)).drop p).filter fun x => !decide (x.Key = o.Key))), ?_, rfl, .inr ⟨rfl, p, by omega, rfl, hlt, hge⟩⟩
      rw [hd, List.filter_append]
      by_cases c2 : m[k].Key = o.Key
      · simp [c2, bindC]
      · rw [show [m[k]].filter (fun x => !decide (x.Key = o.Key)) = [m[k]] by simp [c2]]
        simp only [Bool.not_true, Bool.false_eq_true, if_false, Option.bind_some, bindC_go, decide_eq_false c2, Bool.not_false, if_true]
        rw [ap _ [m[k]] hlen (by simp)]
        simp
  · rintro ⟨b, c, a⟩ ⟨hc, hS⟩
    simp only at hc hS
    subst hc
    refine ⟨.go (b, a), by simp, b, a, rfl, ?_⟩
    rcases hS with ⟨hb, ha, hlt⟩ | ⟨hb, p, hp, ha, hlt, hge⟩
    · left
      rw [List.take_length] at ha hlt
      exact ⟨hb, ha, hlt⟩
    · right
      rw [List.take_length] at ha
      exact ⟨hb, by rw [ha, putK_cut p hlt hge]⟩
  · rintro r ⟨b, a, rfl, ⟨hb, ha, hlt⟩ | ⟨hb, ha⟩⟩
    · subst hb ha
      have hp : putK a o = a ++ newK o := by
        have := putK_cut (m := a) (o := o) a.length (by rw [List.take_length]; exact hlt) (by simp)
        simpa using this
      rw [hp]
      unfold newK
      cases o.Del with
      | true => simp [bindC]
      | false =>
        have ha : app 32 a [({ Key := o.Key, Val := o.Val } : KV)] = some (a ++ [{ Key := o.Key, Val := o.Val }]) := app_ok (by simp; omega) (by simp; omega)
        simp [bindC, ha]
    · subst hb ha
      simp [bindC]
theorem MapOk_true (m : List KV) (h1 : srtK m) (h2 : ∀ x ∈ m, kvV x = true) (hl : m.length ≤ 1000000) : spec_MapOk m = some true := by
  unfold spec_MapOk
  refine loopO_bind (fun k s => s = (k : Int)) m.length (fun r => r = .go ()) rfl ?_ ?_ (fun r hr => by rw [hr]; rfl)
  · rintro k _ hk rfl
    left
    have hv : opV { Key := m[k].Key, Del := false, Val := m[k].Val } = true := h2 _ (List.getElem_mem hk)
    refine ⟨((k + 1 : Nat) : Int), ?_, rfl⟩
    simp only [idx_nat m k hk, Option.bind_some, spec_l7Op_eq, hv]
    rw [if_pos (by simpa using hk), wrap_ok (n := (k : Int) + 1) (by omega) (by omega)]
    by_cases h0 : 0 < k
    · have hlt := List.pairwise_iff_getElem.1 h1 (k - 1) k (by omega) hk (by omega)
      rw [wrap_ok (n := (k : Int) - 1) (by omega) (by omega), show (k : Int) - 1 = ((k - 1 : Nat) : Int) by omega, idx_nat m (k - 1) (by omega)]
      simp [hlt]
    · have : k = 0 := by omega
      subst this
      simp
  · rintro _ rfl
    exact ⟨.go (), by simp, rfl⟩
theorem ApplyBatch_eq (m : List KV) (l : List Op) (h1 : srtK m) (h2 : ∀ x ∈ m, kvV x = true) (hm : m.length ≤ 100000) (hl : l.length ≤ 1000) : spec_ApplyBatch m l = some (bif batchV l then (applyK m l, true) else (m, false)) := by
  unfold spec_ApplyBatch
  rw [MapOk_true m h1 h2 (by omega)]
  simp only [Option.bind_some, Bool.not_true, Bool.false_eq_true, if_false]
  rw [app_ok (by simp only [List.length_nil]; omega) (by simp only [List.length_nil]; omega), spec_BatchOk_eq l (by omega)]
  simp only [Option.bind_some, List.nil_append]
  cases batchV l with
  | false => rfl
  | true =>
    simp only [Bool.not_true, Bool.false_eq_true, if_false, cond_true]
    refine loopO_bind (fun k (S : Int × List KV) => S = ((k : Int), applyK m (l.take k))) l.length (fun r => r = .go (applyK m l)) rfl ?_ ?_ (fun r hr => by rw [hr]; rfl)
    · rintro k _ hk rfl
      left
      have htk : l.take (k + 1) = l.take k ++ [l[k]] := by rw [List.take_add_one, List.getElem?_eq_getElem hk]; rfl
      have hlen := applyK_len (l.take k) m
      refine ⟨_, ?_, rfl⟩
      simp only [idx_nat l k hk, Option.bind_some]
      rw [if_pos (by simpa using hk), spec_l7Put_eq _ _ (applyK_srt _ h1) (by simp at hlen; omega), wrap_ok (n := (k : Int) + 1) (by omega) (by omega)]
      simp only [Option.bind_some]
      rw [htk, show applyK m (l.take k ++ [l[k]]) = putK (applyK m (l.take k)) l[k] by simp only [applyK, List.foldl_append, List.foldl_cons, List.foldl_nil]]
      rfl
    · rintro _ rfl
      refine ⟨.go (applyK m l), ?_, rfl⟩
      simp [List.take_length]
/-! ## batches read: what is read is what was shown -/
/-! ## batches read by the reference -/
/-! ## stores as required -/
/-! ## the model: lists of tenants and rows -/
/-! ## maps in order: a key found, set, dropped -/
/-! ## lists of tenants: put, dropped -/
/-! ## the model's step, in plain words -/
/-! ## small parts of the model, both sides -/
/-! ## the model's step: flush and crash, both sides -/
/-! ## the model's step: calls of a tenant, both sides -/
/-! ## the model's step, both sides -/
/-! ## what a model keeps -/
/-! ## a model's play -/
/-! ## calls drawn -/
/-! ## replies at the beginning do not depend on what comes behind -/
/-! ## the store: keys -/
/-! ## the store: what is right, in plain words -/
/-! rows played -/
/-! ## the store's step, in plain words -/
/-! ## the store: what stays right -/
/-! flush -/
/-! make, change, drop a tenant -/
/-! ## the store: marks, crashes, writes, snapshots -/
/-! writes -/
/-! snapshots -/
/-! rows that are kept for good stay first -/
/-! ## the store: small parts, both sides -/
/-! ## the store: sizes -/
/-! ## the store: copies, both sides -/
/-! ## the store: engines of tenants -/
/-! ## the store: flush, both sides -/
/-! ## the store: writes, both sides -/
/-! ## the store: calls of the owner, both sides -/
/-! ## the store: crashes, both sides -/
/-! ## the store: calls of tenants, and all calls, both sides -/
/-! ## a call of a store: the law -/
/-! ## the law of an engine -/
structure KeepE (e : Eng) (k : Nat) (now : List KV) (was : List (List KV)) (at0 : List Int) : Prop where
  v : engV e = true
  s : e.Seq ≤ k
  n : totalV e.Tables + e.Mem.length ≤ 6 * k
  m : now = mapR e e.Seq
  l : was.length = at0.length
  c : at0.length ≤ k
  a : ∀ j (h : j < at0.length) (h' : j < was.length), at0[j] ∈ e.Snaps ∧ was[j] = mapR e at0[j]
theorem KeepE.up {e : Eng} {k : Nat} {now : List KV} {was : List (List KV)} {at0 : List Int} (h : KeepE e k now was at0) : KeepE e (k + 1) now was at0 :=
  ⟨h.v, by have := h.s; omega, by have := h.n; omega, h.m, h.l, by have := h.c; omega, h.a⟩
theorem KeepE.to {e e' : Eng} {k : Nat} {now : List KV} {was : List (List KV)} {at0 : List Int} (h : KeepE e k now was at0) (hv : engV e' = true) (hs : e'.Seq = e.Seq) (hn : totalV e'.Tables + e'.Mem.length ≤ totalV e.Tables + e.Mem.length)
    (ha : ∀ x ∈ e.Snaps, x ∈ e'.Snaps) (hm : ∀ s, s ∈ e.Snaps ∨ e.Seq ≤ s → mapR e' s = mapR e s) : KeepE e' k now was at0 :=
  ⟨hv, by have := h.s; omega, by have := h.n; omega, by rw [hs, hm _ (.inr (Int.le_refl _))]; exact h.m, h.l, h.c, fun j hj hj' => ⟨ha _ (h.a j hj hj').1, by rw [hm _ (.inl (h.a j hj hj').1)]; exact (h.a j hj hj').2⟩⟩
theorem mapR_snaps (e : Eng) (l : List Int) (h : engV e = true) (h' : engV { e with Snaps := l } = true) (s : Int) : mapR { e with Snaps := l } s = mapR e s := mapR_ext h' h fun _ => rfl
theorem flushS_same (e : Eng) : (flushS e).2.Seq = e.Seq ∧ (flushS e).2.Snaps = e.Snaps ∧ totalV (flushS e).2.Tables + (flushS e).2.Mem.length = totalV e.Tables + e.Mem.length := by
  by_cases c : e.Mem.length = 0 ∨ 6 ≤ e.Tables.length
  · rw [flushS_pos c]; exact ⟨rfl, rfl, rfl⟩
  · rw [flushS_neg c]; refine ⟨rfl, rfl, ?_⟩; simp [totalV]; omega
theorem mergeS_same {e : Eng} (h : engV e = true) : (mergeS e).2.Seq = e.Seq ∧ (mergeS e).2.Snaps = e.Snaps ∧ (mergeS e).2.Mem = e.Mem ∧ totalV (mergeS e).2.Tables ≤ totalV e.Tables ∧ (mergeS e).2.Tables.length ≤ 1 := by
  by_cases c : e.Tables.length = 0
  · have : mergeS e = (false, e) := by unfold mergeS; rw [decide_eq_true c]; rfl
    rw [this]; exact ⟨rfl, rfl, rfl, Nat.le_refl _, by show e.Tables.length ≤ 1; omega⟩
  · have : mergeS e = (true, { Mem := e.Mem, Tables := tab1 (mergeC e), Seq := e.Seq, Snaps := e.Snaps }) := by unfold mergeS; rw [decide_eq_false c]; rfl
    rw [this]
    have hp := (mergeC_props h).2.1
    refine ⟨rfl, rfl, rfl, ?_, ?_⟩ <;> (unfold tab1; cases decide (0 < (mergeC e).length) <;> simp [totalV] at hp ⊢)
    exact hp
theorem tidyM_same {e : Eng} (h : engV e = true) : (tidyM e).2.Seq = e.Seq ∧ (tidyM e).2.Snaps = e.Snaps ∧ (tidyM e).2.Mem = e.Mem ∧ totalV (tidyM e).2.Tables ≤ totalV e.Tables ∧ (tidyM e).2.Tables.length ≤ 5 := by
  unfold tidyM
  by_cases c : 6 ≤ e.Tables.length
  · rw [decide_eq_true c]
    obtain ⟨a, b, d, f, g⟩ := mergeS_same h
    exact ⟨a, b, d, f, by show (mergeS e).2.Tables.length ≤ 5; omega⟩
  · rw [decide_eq_false c]; exact ⟨rfl, rfl, rfl, Nat.le_refl _, by show e.Tables.length ≤ 5; omega⟩
theorem tidyS_same {e : Eng} (h : engV e = true) : (tidyS e).2.Seq = e.Seq ∧ (tidyS e).2.Snaps = e.Snaps ∧ totalV (tidyS e).2.Tables + (tidyS e).2.Mem.length ≤ totalV e.Tables + e.Mem.length ∧ (tidyS e).2.Mem.length ≤ 54 := by
  obtain ⟨a, b, c, d, f⟩ := tidyM_same h
  have hq : (tidyS e).2 = (tidyF (tidyM e).2).2 := by rw [tidyS_eq]
  rw [hq]
  unfold tidyF
  by_cases c2 : 54 < (tidyM e).2.Mem.length
  · rw [decide_eq_true c2]
    obtain ⟨g1, g2, g3⟩ := flushS_same (tidyM e).2
    refine ⟨g1.trans a, g2.trans b, ?_, ?_⟩
    · show totalV (flushS (tidyM e).2).2.Tables + (flushS (tidyM e).2).2.Mem.length ≤ _
      rw [g3, c]; omega
    · show (flushS (tidyM e).2).2.Mem.length ≤ 54
      rw [flushS_neg (by omega)]; simp
  · rw [decide_eq_false c2]
    refine ⟨a, b, ?_, by show (tidyM e).2.Mem.length ≤ 54; omega⟩
    show totalV (tidyM e).2.Tables + (tidyM e).2.Mem.length ≤ _
    rw [c]; omega
theorem KeepE.flush {e : Eng} {k : Nat} {now : List KV} {was : List (List KV)} {at0 : List Int} (h : KeepE e k now was at0) : KeepE (flushR e).1 k now was at0 := by
  have : (flushR e).1 = (flushS e).2 := by unfold flushR; rw [h.v]; rfl
  rw [this]
  obtain ⟨a, b, c⟩ := flushS_same e
  exact h.to (flushS_ok h.v) a (Nat.le_of_eq c) (fun x hx => by rw [b]; exact hx) fun s _ => flush_map h.v s
theorem KeepE.merge {e : Eng} {k : Nat} {now : List KV} {was : List (List KV)} {at0 : List Int} (h : KeepE e k now was at0) : KeepE (mergeER e).1 k now was at0 := by
  have : (mergeER e).1 = (mergeS e).2 := by unfold mergeER; rw [h.v]; rfl
  rw [this]
  obtain ⟨a, b, c, d, _⟩ := mergeS_same h.v
  exact h.to (mergeS_ok h.v) a (by rw [c]; omega) (fun x hx => by rw [b]; exact hx) fun s hs => merge_map h.v s hs
theorem tidyR_fst {e : Eng} (h : engV e = true) : (tidyR e).1 = (tidyS e).2 := by unfold tidyR; rw [h]; rfl
theorem KeepE.tidy {e : Eng} {k : Nat} {now : List KV} {was : List (List KV)} {at0 : List Int} (h : KeepE e k now was at0) : KeepE (tidyR e).1 k now was at0 ∧ (tidyR e).1.Mem.length ≤ 54 := by
  rw [tidyR_fst h.v]
  obtain ⟨a, b, c, d⟩ := tidyS_same h.v
  exact ⟨h.to (tidyS_ok h.v) a c (fun x hx => by rw [b]; exact hx) fun s hs => tidyS_map h.v s hs, d⟩
theorem KeepE.snap {e : Eng} {k : Nat} {now : List KV} {was : List (List KV)} {at0 : List Int} (h : KeepE e k now was at0) : engV (snapR e).1 = true ∧ (((snapR e).2.2 = true ∧ KeepE (snapR e).1 (k + 1) now (was ++ [now]) (at0 ++ [(snapR e).2.1])) ∨ ((snapR e).2.2 = false ∧ KeepE (snapR e).1 (k + 1) now was at0)) := by
  have hok := snapR_ok h.v
  refine ⟨hok, ?_⟩
  have key : ∀ e' : Eng, engV e' = true → e'.Seq = e.Seq → e'.Mem = e.Mem → e'.Tables = e.Tables → (∀ x ∈ e.Snaps, x ∈ e'.Snaps) → e.Seq ∈ e'.Snaps → (∀ s, mapR e' s = mapR e s) → KeepE e' (k + 1) now (was ++ [now]) (at0 ++ [e.Seq]) := by
    intro e' hv hs hm ht ha hq hr
    refine ⟨hv, by have := h.s; omega, by rw [hm, ht]; have := h.n; omega, by rw [hs, hr]; exact h.m, by simp [h.l], by have := h.c; simp; omega, fun j hj hj' => ?_⟩
    by_cases c : j < at0.length
    · rw [List.getElem_append_left c, List.getElem_append_left (by rw [h.l]; exact c), hr]
      have := h.a j c (by rw [h.l]; exact c)
      exact ⟨ha _ this.1, this.2⟩
    · have e1 : j = at0.length := by simp at hj; omega
      subst e1
      rw [List.getElem_append_right (Nat.le_refl _), List.getElem_append_right (by rw [h.l]; exact Nat.le_refl _)]
      simp only [Nat.sub_self, List.getElem_cons_zero, h.l]
      exact ⟨hq, by rw [hr]; exact h.m⟩
  revert hok
  unfold snapR
  rw [if_pos h.v]
  by_cases c1 : e.Seq ∈ e.Snaps
  · rw [if_pos c1]
    exact fun hok => .inl ⟨rfl, key e h.v rfl rfl rfl (fun x hx => hx) c1 fun _ => rfl⟩
  · by_cases c2 : e.Snaps.length = 4
    · rw [if_neg c1, if_pos c2]
      exact fun hok => .inr ⟨rfl, h.up⟩
    · rw [if_neg c1, if_neg c2]
      exact fun hok => .inl ⟨rfl, key _ hok rfl rfl rfl (fun x hx => List.mem_append.2 (.inl hx)) (by simp) fun s => mapR_snaps e _ h.v hok s⟩
theorem KeepE.put {e : Eng} {k : Nat} {now : List KV} {was : List (List KV)} {at0 : List Int} {l : List Op} (h : KeepE e k now was at0) (hk : k ≤ 30) (hm : e.Mem.length ≤ 54) (hb : batchV l = true) :
    putR e l = (engB e l, true) ∧ KeepE (engB e l) (k + 1) (applyK now l) was at0 := by
  obtain ⟨g1, g2, g3⟩ := engB_mem h.v hb
  have hl : l.length ≤ 6 := by
    unfold batchV at hb
    rw [Bool.and_eq_true, decide_eq_true_eq] at hb
    exact hb.1.2
  obtain ⟨i1, i2, i3, i4⟩ := memB_step l (e.Seq + 1) e.Mem g1 g2 (by omega) l.length (Nat.le_refl _)
  have hn := h.n
  have hs := h.s
  have ho : okB e l = true := by
    unfold okB
    simp only [Bool.and_eq_true, decide_eq_true_eq]
    exact ⟨by omega, by omega, by omega⟩
  refine ⟨by unfold putR; rw [h.v, hb, ho]; rfl, (engB_ok h.v hb).trans ho, by show e.Seq + 1 ≤ _; omega, ?_, ?_, h.l, by have := h.c; omega, fun j hj hj' => ?_⟩
  · show totalV e.Tables + (memB l (e.Seq + 1) e.Mem l.length).length ≤ _
    omega
  · show _ = mapR (engB e l) (e.Seq + 1)
    rw [put_map h.v hb ho, ← h.m]
  · have := h.a j hj hj'
    refine ⟨this.1, ?_⟩
    have hle : at0[j] ≤ e.Seq := by
      obtain ⟨q, hq, e1⟩ := List.getElem_of_mem this.1
      rw [← e1]
      exact (snaps_at (engV_all h.v).2.2.2.2.2.2.2 q hq).1.2
    rw [put_map_old h.v hb ho hle]
    exact this.2
theorem fresh_ok (code : List UInt8) (salt : Int) (h : code.length ≤ 1048576) : ∃ b, laws_fresh code salt = some b ∧ b.length ≤ 1000 := by
  unfold laws_fresh
  have hm : min code.length 600 ≤ code.length := Nat.min_le_left _ _
  refine loopO_G (τ := Int × List UInt8) (ρ := List UInt8) (R := List UInt8) (fun o => ∃ b, o = some b ∧ b.length ≤ 1000) (fun k S => S.1 = (k : Int) ∧ S.2.length = k + 1) (min code.length 600) (fun r => ∃ b : List UInt8, r = .go b ∧ b.length ≤ 1000) ⟨rfl, rfl⟩ ?_ ?_ ?_
  · rintro k ⟨i, b⟩ hk ⟨rfl, hb⟩
    left
    simp only at hb ⊢
    have c1 : decide ((k : Int) < ((code.length : Nat) : Int)) = true := decide_eq_true (by omega)
    have c2 : decide ((k : Int) < (600 : Int)) = true := decide_eq_true (by omega)
    simp only [c1, c2, if_true, Option.bind_some, idx_nat code k (by omega), app_ok (l := b) (k := [_]) (by_ := 1) (by simp; omega) (by simp; omega)]
    exact ⟨_, rfl, by simp only; rw [wrap_ok (by omega) (by omega)]; omega, by simp [hb]⟩
  · rintro ⟨i, b⟩ ⟨rfl, hb⟩
    simp only at hb ⊢
    refine ⟨.go b, ?_, b, rfl, by omega⟩
    by_cases c1 : code.length ≤ 600
    · have c3 : decide (((min code.length 600 : Nat) : Int) < ((code.length : Nat) : Int)) = false := decide_eq_false (by omega)
      rw [c3]; rfl
    · have c2 : decide (((min code.length 600 : Nat) : Int) < (600 : Int)) = false := decide_eq_false (by omega)
      by_cases c3 : ((min code.length 600 : Nat) : Int) < ((code.length : Nat) : Int)
      · rw [decide_eq_true c3, c2]; rfl
      · rw [decide_eq_false c3]; rfl
  · rintro _ ⟨b, rfl, hb⟩
    exact ⟨b, rfl, hb⟩
abbrev S8E := Int × Int × List Ent × List (List Ent) × List Int × List KV × List (List KV) × List Int
abbrev T7E := Int × List Ent × List (List Ent) × List Int × List KV × List (List KV) × List Int
def engT7 (t : T7E) : Eng := { Mem := t.2.1, Tables := t.2.2.1, Seq := t.1, Snaps := t.2.2.2.1 }
def okT7 (k : Nat) (t : T7E) : Prop := KeepE (engT7 t) k t.2.2.2.2.1 t.2.2.2.2.2.1 t.2.2.2.2.2.2
def goS (k : Nat) (o : Option (Ctl S8E (Ctl Unit Bool))) : Prop := ∃ s', o = some (.go s') ∧ s'.2.1 = ((k + 1 : Nat) : Int) ∧ okT7 (k + 1) (s'.1, s'.2.2)
def okT5 (k : Nat) (was : List (List KV)) (at0 : List Int) (t : Int × List Ent × List (List Ent) × List Int × List KV) : Prop := KeepE { Mem := t.2.1, Tables := t.2.2.1, Seq := t.1, Snaps := t.2.2.2.1 } k t.2.2.2.2 was at0
def okT2 (e : Eng) (k : Nat) (now : List KV) (t : List (List KV) × List Int) : Prop := KeepE e k now t.1 t.2
theorem getR_map {e : Eng} (h : engV e = true) (s : Int) (kv : KV) (hm : kv ∈ mapR e s) : getR e kv.Key s = (kv.Val, true) := by
  have hv := (mapR_mem h s kv).1 hm
  unfold getR
  rw [h]
  unfold valE getE
  unfold seeE at hv
  simp only [cond_true]
  cases hq : (allR e).find? (fun d => decide (d.Key = kv.Key) && decide (d.Seq ≤ s)) with
  | none => rw [hq] at hv; cases hv
  | some d =>
    rw [hq] at hv
    unfold valO at hv
    cases hd : d.Del with
    | true => simp only [hd, cond_true] at hv; cases hv
    | false =>
      simp only [hd, cond_false, Option.some.injEq] at hv
      simp [hd, hv]
theorem loopO_unit {ρ : Type} {body : Int → Option (Ctl Int (Ctl Unit ρ))} (n : Nat) (h : ∀ j : Nat, j < n → body (j : Int) = some (.go ((j + 1 : Nat) : Int))) (hn : body (n : Int) = some (.done (.go ()))) : ∃ t, loopO body (0 : Int) = some (.go t) ∧ True := by
  obtain ⟨r, hr, e⟩ := loopO_total (body := body) (s0 := (0 : Int)) (fun j s => s = (j : Int)) n (fun r => r = .go ()) rfl (fun j s hj hs => .inl ⟨_, hs ▸ h j hj, rfl⟩) (fun s hs => ⟨_, hs ▸ hn, rfl⟩)
  exact ⟨(), e ▸ hr, trivial⟩
theorem FnEngine_pure (code : List UInt8) : laws_FnEngine code = some true := by
  unfold laws_FnEngine
  rw [big_eq]
  by_cases hb : ((code.length : Nat) : Int) > 1048576
  · simp [hb]
  have hb' : code.length ≤ 1048576 := by omega
  rw [decide_eq_false hb]
  simp only [Option.bind_some, Bool.false_eq_true, if_false]
  refine loopO_bind (τ := S8E) (fun k S => S.2.1 = (k : Int) ∧ okT7 k (S.1, S.2.2)) 26 (fun r => r = .go ()) ⟨rfl, by
    have hv : engV { Mem := [], Tables := [], Seq := 0, Snaps := [] } = true := rfl
    refine ⟨hv, Int.le_refl _, Nat.le_refl _, ?_, rfl, Nat.le_refl _, fun j hj => absurd hj (by simp)⟩
    show [] = mapR _ _
    unfold mapR
    rw [show engV (engT7 (0, [], [], [], [], [], [])) = true from rfl]
    rfl⟩ ?_ ?_ (fun r hr => by rw [hr]; rfl)
  · rintro k ⟨seq, i, mem, tabs, snaps, now, was, at0⟩ hk ⟨rfl, hK⟩
    have hK' : KeepE { Mem := mem, Tables := tabs, Seq := seq, Snaps := snaps } k now was at0 := hK
    clear hK
    left
    simp only
    rw [if_pos (decide_eq_true (by omega))]
    obtain ⟨x, hx, hx0, hx1⟩ := at_ok code (k : Int) (by omega) hb'
    rw [hx]
    simp only [Option.bind_some]
    obtain ⟨s1, s2, s3, s4⟩ := smallE_of hK'.v
    have hdone : ∀ t : T7E, okT7 (k + 1) t → ∃ s' : S8E, (some (.go (t.1, IntKind.i64.wrap ((k : Int) + (1 : Int)), t.2.1, t.2.2.1, t.2.2.2.1, t.2.2.2.2.1, t.2.2.2.2.2.1, t.2.2.2.2.2.2)) : Option (Ctl S8E (Ctl Unit Bool))) = some (.go s') ∧ s'.2.1 = ((k + 1 : Nat) : Int) ∧ okT7 (k + 1) (s'.1, s'.2.2) := fun t ht =>
      ⟨_, rfl, by simp only; rw [wrap_ok (by omega) (by omega)]; omega, ht⟩
    refine bindC_ex (P := goS k) (okT7 (k + 1)) ?_ ?_
    · by_cases c0 : Int.tmod x 9 = 0
      · rw [if_pos (decide_eq_true c0), impl_EngFlush_eq _ (by omega) (by omega) (by omega) (by omega)]
        exact ⟨_, rfl, hK'.flush.up⟩
      rw [if_neg (by simpa using c0)]
      refine bindC_ex (P := goO (okT7 (k + 1))) (okT7 (k + 1)) ?_ (fun t ht => ⟨_, rfl, ht⟩)
      by_cases c1 : Int.tmod x 9 = 1
      · rw [if_pos (decide_eq_true c1), impl_EngMerge_eq _ (by omega) (by omega) (by omega) (by omega)]
        exact ⟨_, rfl, hK'.merge.up⟩
      rw [if_neg (by simpa using c1)]
      refine bindC_ex (P := goO (okT7 (k + 1))) (okT7 (k + 1)) ?_ (fun t ht => ⟨_, rfl, ht⟩)
      by_cases c2 : Int.tmod x 9 = 2
      · rw [if_pos (decide_eq_true c2), impl_EngSnap_eq _ (by omega) (by omega) (by omega) (by omega)]
        simp only [Option.bind_some]
        have hc := hK'.c
        have hl := hK'.l
        refine bindC_ex (P := goO (okT7 (k + 1))) (okT2 (snapR { Mem := mem, Tables := tabs, Seq := seq, Snaps := snaps }).1 (k + 1) now) ?_ (fun t ht => ⟨_, rfl, ht⟩)
        rcases hK'.snap.2 with ⟨g1, g2⟩ | ⟨g1, g2⟩
        · rw [if_pos g1, app_ok (by simp; omega) (by simp; omega)]
          simp only [Option.bind_some]
          rw [app_ok (by simp; omega) (by simp; omega)]
          exact ⟨_, rfl, g2⟩
        · rw [if_neg (by simp [g1])]
          exact ⟨_, rfl, g2⟩
      rw [if_neg (by simpa using c2)]
      refine bindC_ex (P := goO (okT7 (k + 1))) (okT5 (k + 1) was at0) ?_ (fun t ht => ⟨_, rfl, ht⟩)
      obtain ⟨gt, gm⟩ := hK'.tidy
      by_cases c3 : Int.tmod x 9 = 3
      · rw [if_pos (decide_eq_true c3), impl_EngTidy_eq _ (by omega) (by omega) (by omega) (by omega)]
        exact ⟨_, rfl, gt.up⟩
      rw [if_neg (by simpa using c3)]
      obtain ⟨b, hfb, hbl⟩ := fresh_ok code (k : Int) hb'
      obtain ⟨e0, l, hd, _, hl⟩ := DrawEngPut_ok b (by omega)
      simp only [hfb, hd, Option.bind_some]
      rw [impl_EngTidy_eq _ (by omega) (by omega) (by omega) (by omega)]
      simp only [Option.bind_some]
      obtain ⟨t1, t2, t3, t4⟩ := smallE_of gt.v
      rw [impl_EngPut_eq _ l (by omega) (by omega) (by omega) (by omega) (by omega)]
      simp only [Option.bind_some]
      have hnow := hK'.m
      have hml := mapR_len { Mem := mem, Tables := tabs, Seq := seq, Snaps := snaps : Eng } seq
      rw [ApplyBatch_eq now l (by rw [hnow]; exact mapR_srt hK'.v _) (by rw [hnow]; exact mapR_kv hK'.v _) (by rw [hnow]; show (mapR _ seq).length ≤ _; omega) (by omega)]
      simp only [Option.bind_some]
      refine (?_ : goO (okT5 (k + 1) was at0) _)
      cases hbv : batchV l with
      | true =>
        obtain ⟨q1, q2⟩ := gt.put (by omega) gm hbv
        rw [q1]
        simp only [cond_true, decide_true, Bool.not_true, Bool.false_eq_true, if_false]
        exact ⟨_, rfl, q2⟩
      | false =>
        have q1 : putR (tidyR { Mem := mem, Tables := tabs, Seq := seq, Snaps := snaps }).1 l = ((tidyR { Mem := mem, Tables := tabs, Seq := seq, Snaps := snaps }).1, false) := by unfold putR; rw [gt.v, hbv]; rfl
        rw [q1]
        simp only [cond_false, decide_true, Bool.not_true, Bool.false_eq_true, if_false]
        exact ⟨_, rfl, gt.up⟩
    · rintro ⟨seq, mem, tabs, snaps, now, was, at0⟩ hK
      have hd := hdone _ hK
      have hK' : KeepE { Mem := mem, Tables := tabs, Seq := seq, Snaps := snaps } (k + 1) now was at0 := hK
      clear hdone hK' s1 s2 s3 s4
      have hK' : KeepE { Mem := mem, Tables := tabs, Seq := seq, Snaps := snaps } (k + 1) now was at0 := hK
      simp only at hd ⊢
      obtain ⟨s1, s2, s3, s4⟩ := smallE_of hK'.v
      have hml := mapR_len { Mem := mem, Tables := tabs, Seq := seq, Snaps := snaps : Eng }
      have hc := hK'.c
      have hl := hK'.l
      have hnow : now = mapR { Mem := mem, Tables := tabs, Seq := seq, Snaps := snaps } seq := hK'.m
      have hnl := hml seq
      rw [← hnow] at hnl
      have hsame : ∀ s, laws_sameMap (mapR { Mem := mem, Tables := tabs, Seq := seq, Snaps := snaps } s) (mapR { Mem := mem, Tables := tabs, Seq := seq, Snaps := snaps } s) = some true := fun s => by
        rw [sameMap_eq _ _ (by have := hml s; omega)]; simp
      rw [spec_EngOk_eq _ (by omega) (by omega) (by omega) (by omega), hK'.v]
      simp only [Option.bind_some, Bool.not_true, Bool.false_eq_true, if_false]
      rw [impl_EngMap_eq _ _ (by omega) (by omega) (by omega) (by omega)]
      simp only [Option.bind_some]
      have h1 := hsame seq
      rw [← hnow] at h1
      rw [← hnow, h1]
      simp only [Option.bind_some, Bool.not_true, Bool.false_eq_true, if_false]
      refine bindC_ex (P := goS k) (fun _ : Unit => True) ?_ ?_
      · refine loopO_unit at0.length (fun j hj => ?_) ?_
        · obtain ⟨a1, a2⟩ := hK'.a j hj (by omega)
          rw [if_pos (decide_eq_true (by omega)), idx_nat at0 j hj, Option.bind_some, impl_EngMap_eq _ _ (by omega) (by omega) (by omega) (by omega), Option.bind_some, idx_nat was j (by omega), Option.bind_some, a2, hsame]
          simp only [Option.bind_some, Bool.not_true, Bool.false_eq_true, if_false]
          rw [wrap_ok (by omega) (by omega)]
          rfl
        · rw [if_neg (by simp)]
      · intro _ _
        refine bindC_ex (P := goS k) (fun _ : Unit => True) ?_ (fun _ _ => hd)
        refine loopO_unit now.length (fun j hj => ?_) ?_
        · have hg := getR_map hK'.v seq now[j] (by rw [← hnow]; exact List.getElem_mem hj)
          rw [if_pos (decide_eq_true (by omega)), idx_nat now j hj, Option.bind_some, impl_EngGet_eq _ _ _ (by omega) (by omega) (by omega) (by omega), Option.bind_some, hg]
          simp only [Bool.not_true, Bool.false_eq_true, if_false, decide_true, Option.bind_some]
          rw [wrap_ok (by omega) (by omega)]
          rfl
        · rw [if_neg (by simp)]
  · rintro ⟨seq, i, mem, tabs, snaps, now, was, at0⟩ ⟨rfl, _⟩
    exact ⟨_, by simp only; rw [if_neg (by simp)], rfl⟩
theorem FnEngine_proved : Rows.FnEngineSaid := FnEngine_over fun code _ => FnEngine_pure code
end Go.Proofs.YtkikmcdmklkdpaaGreat
