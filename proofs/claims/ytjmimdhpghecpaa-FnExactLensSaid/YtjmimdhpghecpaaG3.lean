/-
  The functions that a law reaches, each as a pure function, with the proof that the program computes it, and the step from a pure law to the given statement. Conditions: none.
-/
import Derived.Test.YtjmimdhpghecpaaG2
set_option linter.unusedVariables false
namespace Go.Proofs.Ytjmimdhpghecpaa
open Go Sl

open Go.ChangeShapes Go.WideShapes Go.ChangeAt Go.RowKit
open Go.ChangeMaps (open_string shut_string)
theorem own : ownKnob Try.prog.godebug = none := by kernel_rfl
theorem laidOut : laidOutB Try.prog = true := by kernel_rfl

set_option maxRecDepth 100000 in
theorem FnExactNeed_lifted (hp : ∀ (aQuota : Int), okI aQuota → laws_FnExactNeed aQuota = some true) (os : Os) (started : os.Started) (H : Type) (enc : TypeId × Value → H) :
    ReturnsInHanded {} Try.checked os 3 .any (Rows.fnExactNeedSpec.pre6 enc Try.prog Try.f3 Rows.fnExactNeedRow.domain false) (Rows.fnExactNeedSpec.post enc Try.prog Try.f3 false true false false) := by
  refine returnsInHanded_of_change (C := Try.checked) own started (by kernel_rfl) Try.func3
    (ChangeSpec.witness6 (enc := enc) (C := Try.checked) false ⟨#[], #[.int .i64 (0 : Int)], []⟩ 20 (by kernel_rfl) (by kernel_rfl) (by kernel_rfl) (by kernel_rfl)) ?_
  intro W base args ds gs before hval0 hW hcnd _
  have hval : ∀ (j : Nat) t v, Try.f3.params[j]? = some t → args[j]? = some v → Value.okWide Try.prog W .any base t v := hval0
  have hW' := hW
  obtain ⟨p, q, hA0, hV, rfl, hfz, hnd⟩ := hW
  have hA : DataW.TrodAll enc Try.prog W 0 (fun _ => true) true Try.f3.params.toList args.toList ds p := hA0
  rw [Try.params3] at hA hval
  obtain ⟨v0, vs0, d0, ds0, p0, q0, hargs, rfl, rfl, h0, r0⟩ := trodAll_cons hA
  obtain ⟨rfl, rfl, rfl⟩ := trodAll_nil r0
  obtain rfl : args = #[v0] := by cases args; simp_all
  obtain ⟨rfl, rfl⟩ := trodVars_none hV
  have k0 := h0
  have lt0 : ∀ x ∈ p0, x.block < W.heap.size := by obtain ⟨m, hm⟩ := k0; exact DataW.trod_lt m _ _ _ hm
  have ow0 := hval 0 3 v0 rfl rfl
  obtain ⟨C0, S0, g0, f0⟩ := arg_fits 20 hs3 h0
  obtain ⟨c0, e0, rfl, m0, f0⟩ := f0.cons_inv
  obtain rfl := f0.nil_inv
  obtain ⟨x0, rfl, w0_⟩ := m0.int_inv
  have w0 := okI_of w0_
  obtain ⟨V0_0, y0_0, z0_0, b0_0, _, g0⟩ := Rds.cons_inv g0
  obtain rfl := Rds.nil_inv g0
  rw [cells_int hu3 ow0] at z0_0
  obtain rfl := (List.cons.inj z0_0).1
  obtain rfl := Base.val b0_0 rfl
  clear hA0 hval0
  have hb_ := Con.below (W := W) (laws_FnExactNeed_con x0  true (hp x0 w0)) (by
    intro p hp
    cases hp)
  refine hb_.mono fun e W' ⟨he, bel⟩ => ?_
  subst he
  exact ⟨_, rfl, _, _, _, [], _, [], hW', trodAll_mk1 (shut_bool kb4 _), (trodAll_cons_mk (Below.trod laidOut (by kernel_rfl) (of_decide_eq_true (by kernel_rfl)) k0 bel lt0) trodAll_mk0), rfl, bel.frame _, fun h => by cases h⟩

theorem FnExactNeed_over (hp : ∀ (aQuota : Int), okI aQuota → laws_FnExactNeed aQuota = some true) : Rows.FnExactNeedSaid :=
  OpenClaim.holds_of_wide 3 Try.f3 rfl rfl rfl rfl rfl rfl rfl ⟨rfl, rfl, rfl, rfl, rfl⟩ rfl rfl rfl rfl rfl (by kernel_rfl) Try.func3 (by kernel_rfl)
    (of_decide_eq_true (by kernel_rfl)) (by unfold Func.isWrapper; first | (rw [if_pos (by decide +kernel)]; kernel_rfl) | (rw [if_neg (by decide +kernel)]; exact ⟨rfl, rfl⟩))
    (fun os started H enc _ => FnExactNeed_lifted hp os started H enc)

set_option maxRecDepth 100000 in
theorem FnExactSpaceOk_lifted (hp : ∀ (aS : Space), Dec.ok aS → laws_FnExactSpaceOk aS = some true) (os : Os) (started : os.Started) (H : Type) (enc : TypeId × Value → H) :
    ReturnsInHanded {} Try.checked os 4 .any (Rows.fnExactSpaceOkSpec.pre6 enc Try.prog Try.f4 Rows.fnExactSpaceOkRow.domain false) (Rows.fnExactSpaceOkSpec.post enc Try.prog Try.f4 false true false false) := by
  refine returnsInHanded_of_change (C := Try.checked) own started (by kernel_rfl) Try.func4
    (ChangeSpec.witness6 (enc := enc) (C := Try.checked) false ⟨#[], #[.agg #[.slice none 0 0]], []⟩ 20 (by kernel_rfl) (by kernel_rfl) (by kernel_rfl) (by kernel_rfl)) ?_
  intro W base args ds gs before hval0 hW hcnd _
  have hval : ∀ (j : Nat) t v, Try.f4.params[j]? = some t → args[j]? = some v → Value.okWide Try.prog W .any base t v := hval0
  have hW' := hW
  obtain ⟨p, q, hA0, hV, rfl, hfz, hnd⟩ := hW
  have hA : DataW.TrodAll enc Try.prog W 0 (fun _ => true) true Try.f4.params.toList args.toList ds p := hA0
  rw [Try.params4] at hA hval
  obtain ⟨v0, vs0, d0, ds0, p0, q0, hargs, rfl, rfl, h0, r0⟩ := trodAll_cons hA
  obtain ⟨rfl, rfl, rfl⟩ := trodAll_nil r0
  obtain rfl : args = #[v0] := by cases args; simp_all
  obtain ⟨rfl, rfl⟩ := trodVars_none hV
  have k0 := h0
  have lt0 : ∀ x ∈ p0, x.block < W.heap.size := by obtain ⟨m, hm⟩ := k0; exact DataW.trod_lt m _ _ _ hm
  have ow0 := hval 0 26 v0 rfl rfl
  obtain ⟨C0, S0, g0, f0⟩ := arg_fits 20 hs26 h0
  obtain ⟨x0, rfl, w0⟩ := Dec.dec (α := Space) _ f0
  obtain ⟨V0_0, y0_0, z0_0, b0_0, _, g0⟩ := Rds.cons_inv g0
  obtain rfl := Rds.nil_inv g0
  obtain rfl := cells_agg hu26 ow0 z0_0
  clear hA0 hval0
  have hb_ := Con.below (W := W) (laws_FnExactSpaceOk_con x0 V0_0 true (hp x0 w0)) (by
    intro p hp
    rcases List.mem_cons.1 hp with rfl | hp
    · exact b0_0
    cases hp)
  refine hb_.mono fun e W' ⟨he, bel⟩ => ?_
  subst he
  exact ⟨_, rfl, _, _, _, [], _, [], hW', trodAll_mk1 (shut_bool kb4 _), (trodAll_cons_mk (Below.trod laidOut (by kernel_rfl) (of_decide_eq_true (by kernel_rfl)) k0 bel lt0) trodAll_mk0), rfl, bel.frame _, fun h => by cases h⟩

theorem FnExactSpaceOk_over (hp : ∀ (aS : Space), Dec.ok aS → laws_FnExactSpaceOk aS = some true) : Rows.FnExactSpaceOkSaid :=
  OpenClaim.holds_of_wide 4 Try.f4 rfl rfl rfl rfl rfl rfl rfl ⟨rfl, rfl, rfl, rfl, rfl⟩ rfl rfl rfl rfl rfl (by kernel_rfl) Try.func4 (by kernel_rfl)
    (of_decide_eq_true (by kernel_rfl)) (by unfold Func.isWrapper; first | (rw [if_pos (by decide +kernel)]; kernel_rfl) | (rw [if_neg (by decide +kernel)]; exact ⟨rfl, rfl⟩))
    (fun os started H enc _ => FnExactSpaceOk_lifted hp os started H enc)

set_option maxRecDepth 100000 in
theorem FnExactSharesOk_lifted (hp : ∀ (aS : Shares), Dec.ok aS → laws_FnExactSharesOk aS = some true) (os : Os) (started : os.Started) (H : Type) (enc : TypeId × Value → H) :
    ReturnsInHanded {} Try.checked os 6 .any (Rows.fnExactSharesOkSpec.pre6 enc Try.prog Try.f6 Rows.fnExactSharesOkRow.domain false) (Rows.fnExactSharesOkSpec.post enc Try.prog Try.f6 false true false false) := by
  refine returnsInHanded_of_change (C := Try.checked) own started (by kernel_rfl) Try.func6
    (ChangeSpec.witness6 (enc := enc) (C := Try.checked) false ⟨#[], #[.agg #[.int .i64 (0 : Int), .slice none 0 0]], []⟩ 20 (by kernel_rfl) (by kernel_rfl) (by kernel_rfl) (by kernel_rfl)) ?_
  intro W base args ds gs before hval0 hW hcnd _
  have hval : ∀ (j : Nat) t v, Try.f6.params[j]? = some t → args[j]? = some v → Value.okWide Try.prog W .any base t v := hval0
  have hW' := hW
  obtain ⟨p, q, hA0, hV, rfl, hfz, hnd⟩ := hW
  have hA : DataW.TrodAll enc Try.prog W 0 (fun _ => true) true Try.f6.params.toList args.toList ds p := hA0
  rw [Try.params6] at hA hval
  obtain ⟨v0, vs0, d0, ds0, p0, q0, hargs, rfl, rfl, h0, r0⟩ := trodAll_cons hA
  obtain ⟨rfl, rfl, rfl⟩ := trodAll_nil r0
  obtain rfl : args = #[v0] := by cases args; simp_all
  obtain ⟨rfl, rfl⟩ := trodVars_none hV
  have k0 := h0
  have lt0 : ∀ x ∈ p0, x.block < W.heap.size := by obtain ⟨m, hm⟩ := k0; exact DataW.trod_lt m _ _ _ hm
  have ow0 := hval 0 42 v0 rfl rfl
  obtain ⟨C0, S0, g0, f0⟩ := arg_fits 20 hs42 h0
  obtain ⟨x0, rfl, w0⟩ := Dec.dec (α := Shares) _ f0
  obtain ⟨V0_0, y0_0, z0_0, b0_0, _, g0⟩ := Rds.cons_inv g0
  obtain ⟨V0_1, y0_1, z0_1, b0_1, _, g0⟩ := Rds.cons_inv g0
  obtain rfl := Rds.nil_inv g0
  subst z0_1
  obtain rfl := cells_agg hu42 ow0 z0_0
  obtain rfl := Base.val b0_0 rfl
  clear hA0 hval0
  have hb_ := Con.below (W := W) (laws_FnExactSharesOk_con x0 V0_1 true (hp x0 w0)) (by
    intro p hp
    rcases List.mem_cons.1 hp with rfl | hp
    · exact b0_1
    cases hp)
  refine hb_.mono fun e W' ⟨he, bel⟩ => ?_
  subst he
  exact ⟨_, rfl, _, _, _, [], _, [], hW', trodAll_mk1 (shut_bool kb4 _), (trodAll_cons_mk (Below.trod laidOut (by kernel_rfl) (of_decide_eq_true (by kernel_rfl)) k0 bel lt0) trodAll_mk0), rfl, bel.frame _, fun h => by cases h⟩

theorem FnExactSharesOk_over (hp : ∀ (aS : Shares), Dec.ok aS → laws_FnExactSharesOk aS = some true) : Rows.FnExactSharesOkSaid :=
  OpenClaim.holds_of_wide 6 Try.f6 rfl rfl rfl rfl rfl rfl rfl ⟨rfl, rfl, rfl, rfl, rfl⟩ rfl rfl rfl rfl rfl (by kernel_rfl) Try.func6 (by kernel_rfl)
    (of_decide_eq_true (by kernel_rfl)) (by unfold Func.isWrapper; first | (rw [if_pos (by decide +kernel)]; kernel_rfl) | (rw [if_neg (by decide +kernel)]; exact ⟨rfl, rfl⟩))
    (fun os started H enc _ => FnExactSharesOk_lifted hp os started H enc)

set_option maxRecDepth 100000 in
theorem FnExactSpaceGive_lifted (hp : ∀ (aS : Space) (aWho : Int) (aBlocks : List Int), Dec.ok aS → okI aWho → okl aBlocks → laws_FnExactSpaceGive aS aWho aBlocks = some true) (os : Os) (started : os.Started) (H : Type) (enc : TypeId × Value → H) :
    ReturnsInHanded {} Try.checked os 7 .any (Rows.fnExactSpaceGiveSpec.pre6 enc Try.prog Try.f7 Rows.fnExactSpaceGiveRow.domain false) (Rows.fnExactSpaceGiveSpec.post enc Try.prog Try.f7 false true false false) := by
  refine returnsInHanded_of_change (C := Try.checked) own started (by kernel_rfl) Try.func7
    (ChangeSpec.witness6 (enc := enc) (C := Try.checked) false ⟨#[], #[.agg #[.slice none 0 0], .int .i64 (0 : Int), .slice none 0 0], []⟩ 20 (by kernel_rfl) (by kernel_rfl) (by kernel_rfl) (by kernel_rfl)) ?_
  intro W base args ds gs before hval0 hW hcnd _
  have hval : ∀ (j : Nat) t v, Try.f7.params[j]? = some t → args[j]? = some v → Value.okWide Try.prog W .any base t v := hval0
  have hW' := hW
  obtain ⟨p, q, hA0, hV, rfl, hfz, hnd⟩ := hW
  have hA : DataW.TrodAll enc Try.prog W 0 (fun _ => true) true Try.f7.params.toList args.toList ds p := hA0
  rw [Try.params7] at hA hval
  obtain ⟨v0, vs0, d0, ds0, p0, q0, hargs, rfl, rfl, h0, r0⟩ := trodAll_cons hA
  obtain ⟨v1, vs1, d1, ds1, p1, q1, rfl, rfl, rfl, h1, r1⟩ := trodAll_cons r0
  obtain ⟨v2, vs2, d2, ds2, p2, q2, rfl, rfl, rfl, h2, r2⟩ := trodAll_cons r1
  obtain ⟨rfl, rfl, rfl⟩ := trodAll_nil r2
  obtain rfl : args = #[v0, v1, v2] := by cases args; simp_all
  obtain ⟨rfl, rfl⟩ := trodVars_none hV
  have k0 := h0
  have lt0 : ∀ x ∈ p0, x.block < W.heap.size := by obtain ⟨m, hm⟩ := k0; exact DataW.trod_lt m _ _ _ hm
  have ow0 := hval 0 26 v0 rfl rfl
  obtain ⟨C0, S0, g0, f0⟩ := arg_fits 20 hs26 h0
  obtain ⟨x0, rfl, w0⟩ := Dec.dec (α := Space) _ f0
  obtain ⟨V0_0, y0_0, z0_0, b0_0, _, g0⟩ := Rds.cons_inv g0
  obtain rfl := Rds.nil_inv g0
  obtain rfl := cells_agg hu26 ow0 z0_0
  have k1 := h1
  have lt1 : ∀ x ∈ p1, x.block < W.heap.size := by obtain ⟨m, hm⟩ := k1; exact DataW.trod_lt m _ _ _ hm
  have ow1 := hval 1 3 v1 rfl rfl
  obtain ⟨C1, S1, g1, f1⟩ := arg_fits 20 hs3 h1
  obtain ⟨c1, e1, rfl, m1, f1⟩ := f1.cons_inv
  obtain rfl := f1.nil_inv
  obtain ⟨x1, rfl, w1_⟩ := m1.int_inv
  have w1 := okI_of w1_
  obtain ⟨V1_0, y1_0, z1_0, b1_0, _, g1⟩ := Rds.cons_inv g1
  obtain rfl := Rds.nil_inv g1
  rw [cells_int hu3 ow1] at z1_0
  obtain rfl := (List.cons.inj z1_0).1
  obtain rfl := Base.val b1_0 rfl
  have k2 := h2
  have lt2 : ∀ x ∈ p2, x.block < W.heap.size := by obtain ⟨m, hm⟩ := k2; exact DataW.trod_lt m _ _ _ hm
  have ow2 := hval 2 24 v2 rfl rfl
  obtain ⟨C2, S2, g2, f2⟩ := arg_fits 20 hs24 h2
  obtain ⟨c2, e2, rfl, m2, f2⟩ := f2.cons_inv
  obtain rfl := f2.nil_inv
  obtain ⟨x2, rfl, w2⟩ := m2.sl_inv (α := Int) rfl
  obtain ⟨V2_0, y2_0, z2_0, b2_0, _, g2⟩ := Rds.cons_inv g2
  obtain rfl := Rds.nil_inv g2
  rw [cells_slice hu24 ow2] at z2_0
  obtain rfl := (List.cons.inj z2_0).1
  clear hA0 hval0
  have hb_ := Con.below (W := W) (laws_FnExactSpaceGive_con x0 x1 x2 V0_0 v2 true (hp x0 x1 x2 w0 w1 w2)) (by
    intro p hp
    rcases List.mem_cons.1 hp with rfl | hp
    · exact b0_0
    rcases List.mem_cons.1 hp with rfl | hp
    · exact b2_0
    cases hp)
  refine hb_.mono fun e W' ⟨he, bel⟩ => ?_
  subst he
  exact ⟨_, rfl, _, _, _, [], _, [], hW', trodAll_mk1 (shut_bool kb4 _), (trodAll_cons_mk (Below.trod laidOut (by kernel_rfl) (of_decide_eq_true (by kernel_rfl)) k0 bel lt0) (trodAll_cons_mk (Below.trod laidOut (by kernel_rfl) (of_decide_eq_true (by kernel_rfl)) k1 bel lt1) (trodAll_cons_mk (Below.trod laidOut (by kernel_rfl) (of_decide_eq_true (by kernel_rfl)) k2 bel lt2) trodAll_mk0))), rfl, bel.frame _, fun h => by cases h⟩

theorem FnExactSpaceGive_over (hp : ∀ (aS : Space) (aWho : Int) (aBlocks : List Int), Dec.ok aS → okI aWho → okl aBlocks → laws_FnExactSpaceGive aS aWho aBlocks = some true) : Rows.FnExactSpaceGiveSaid :=
  OpenClaim.holds_of_wide 7 Try.f7 rfl rfl rfl rfl rfl rfl rfl ⟨rfl, rfl, rfl, rfl, rfl⟩ rfl rfl rfl rfl rfl (by kernel_rfl) Try.func7 (by kernel_rfl)
    (of_decide_eq_true (by kernel_rfl)) (by unfold Func.isWrapper; first | (rw [if_pos (by decide +kernel)]; kernel_rfl) | (rw [if_neg (by decide +kernel)]; exact ⟨rfl, rfl⟩))
    (fun os started H enc _ => FnExactSpaceGive_lifted hp os started H enc)

set_option maxRecDepth 100000 in
theorem FnExactLens_lifted (hp : ∀ (aL : List LogRow) (aTenant : Int), okl aL → okI aTenant → laws_FnExactLens aL aTenant = some true) (os : Os) (started : os.Started) (H : Type) (enc : TypeId × Value → H) :
    ReturnsInHanded {} Try.checked os 8 .any (Rows.fnExactLensSpec.pre6 enc Try.prog Try.f8 Rows.fnExactLensRow.domain false) (Rows.fnExactLensSpec.post enc Try.prog Try.f8 false true false false) := by
  refine returnsInHanded_of_change (C := Try.checked) own started (by kernel_rfl) Try.func8
    (ChangeSpec.witness6 (enc := enc) (C := Try.checked) false ⟨#[], #[.slice none 0 0, .int .i64 (0 : Int)], []⟩ 20 (by kernel_rfl) (by kernel_rfl) (by kernel_rfl) (by kernel_rfl)) ?_
  intro W base args ds gs before hval0 hW hcnd _
  have hval : ∀ (j : Nat) t v, Try.f8.params[j]? = some t → args[j]? = some v → Value.okWide Try.prog W .any base t v := hval0
  have hW' := hW
  obtain ⟨p, q, hA0, hV, rfl, hfz, hnd⟩ := hW
  have hA : DataW.TrodAll enc Try.prog W 0 (fun _ => true) true Try.f8.params.toList args.toList ds p := hA0
  rw [Try.params8] at hA hval
  obtain ⟨v0, vs0, d0, ds0, p0, q0, hargs, rfl, rfl, h0, r0⟩ := trodAll_cons hA
  obtain ⟨v1, vs1, d1, ds1, p1, q1, rfl, rfl, rfl, h1, r1⟩ := trodAll_cons r0
  obtain ⟨rfl, rfl, rfl⟩ := trodAll_nil r1
  obtain rfl : args = #[v0, v1] := by cases args; simp_all
  obtain ⟨rfl, rfl⟩ := trodVars_none hV
  have k0 := h0
  have lt0 : ∀ x ∈ p0, x.block < W.heap.size := by obtain ⟨m, hm⟩ := k0; exact DataW.trod_lt m _ _ _ hm
  have ow0 := hval 0 33 v0 rfl rfl
  obtain ⟨C0, S0, g0, f0⟩ := arg_fits 20 hs33 h0
  obtain ⟨c0, e0, rfl, m0, f0⟩ := f0.cons_inv
  obtain rfl := f0.nil_inv
  obtain ⟨x0, rfl, w0⟩ := m0.sl_inv (α := LogRow) rfl
  obtain ⟨V0_0, y0_0, z0_0, b0_0, _, g0⟩ := Rds.cons_inv g0
  obtain rfl := Rds.nil_inv g0
  rw [cells_slice hu33 ow0] at z0_0
  obtain rfl := (List.cons.inj z0_0).1
  have k1 := h1
  have lt1 : ∀ x ∈ p1, x.block < W.heap.size := by obtain ⟨m, hm⟩ := k1; exact DataW.trod_lt m _ _ _ hm
  have ow1 := hval 1 3 v1 rfl rfl
  obtain ⟨C1, S1, g1, f1⟩ := arg_fits 20 hs3 h1
  obtain ⟨c1, e1, rfl, m1, f1⟩ := f1.cons_inv
  obtain rfl := f1.nil_inv
  obtain ⟨x1, rfl, w1_⟩ := m1.int_inv
  have w1 := okI_of w1_
  obtain ⟨V1_0, y1_0, z1_0, b1_0, _, g1⟩ := Rds.cons_inv g1
  obtain rfl := Rds.nil_inv g1
  rw [cells_int hu3 ow1] at z1_0
  obtain rfl := (List.cons.inj z1_0).1
  obtain rfl := Base.val b1_0 rfl
  clear hA0 hval0
  have hb_ := Con.below (W := W) (laws_FnExactLens_con x0 x1 v0 true (hp x0 x1 w0 w1)) (by
    intro p hp
    rcases List.mem_cons.1 hp with rfl | hp
    · exact b0_0
    cases hp)
  refine hb_.mono fun e W' ⟨he, bel⟩ => ?_
  subst he
  exact ⟨_, rfl, _, _, _, [], _, [], hW', trodAll_mk1 (shut_bool kb4 _), (trodAll_cons_mk (Below.trod laidOut (by kernel_rfl) (of_decide_eq_true (by kernel_rfl)) k0 bel lt0) (trodAll_cons_mk (Below.trod laidOut (by kernel_rfl) (of_decide_eq_true (by kernel_rfl)) k1 bel lt1) trodAll_mk0)), rfl, bel.frame _, fun h => by cases h⟩

theorem FnExactLens_over (hp : ∀ (aL : List LogRow) (aTenant : Int), okl aL → okI aTenant → laws_FnExactLens aL aTenant = some true) : Rows.FnExactLensSaid :=
  OpenClaim.holds_of_wide 8 Try.f8 rfl rfl rfl rfl rfl rfl rfl ⟨rfl, rfl, rfl, rfl, rfl⟩ rfl rfl rfl rfl rfl (by kernel_rfl) Try.func8 (by kernel_rfl)
    (of_decide_eq_true (by kernel_rfl)) (by unfold Func.isWrapper; first | (rw [if_pos (by decide +kernel)]; kernel_rfl) | (rw [if_neg (by decide +kernel)]; exact ⟨rfl, rfl⟩))
    (fun os started H enc _ => FnExactLens_lifted hp os started H enc)
end Go.Proofs.Ytjmimdhpghecpaa
