/-
  The functions that a law reaches, each as a pure function, with the proof that the program computes it, and the step from a pure law to the given statement. Conditions: none.
-/
import Derived.Test.YtkheimgjallpkaaGreatQ4
set_option linter.unusedVariables false
set_option maxRecDepth 100000
set_option maxHeartbeats 4000000
namespace Go.Proofs.YtkheimgjallpkaaGreat
open Go Sl

open Go.ChangeShapes Go.WideShapes Go.ChangeAt Go.RowKit
open Go.ChangeMaps (open_string shut_string)
theorem own : ownKnob Tryz.prog.godebug = none := by kernel_rfl
theorem laidOut : laidOutB Tryz.prog = true := by kernel_rfl

set_option maxRecDepth 100000 in
theorem FnExactStoreOk_lifted (hp : ∀ (aS : Store), Dec.ok aS → laws_FnExactStoreOk aS = some true) (os : Os) (started : os.Started) (H : Type) (enc : TypeId × Value → H) :
    ReturnsInHanded {} Tryz.checked os 3 .any (Rows.fnExactStoreOkSpec.pre6 enc Tryz.prog Tryz.f3 Rows.fnExactStoreOkRow.domain false) (Rows.fnExactStoreOkSpec.post enc Tryz.prog Tryz.f3 false true false false) := by
  refine returnsInHanded_of_change (C := Tryz.checked) own started (by kernel_rfl) Tryz.func3
    (ChangeSpec.witness6 (enc := enc) (C := Tryz.checked) false ⟨#[], #[.agg #[strV ([]), strV ([]), .slice none 0 0, .int .i64 (0 : Int), .int .i64 (0 : Int), .slice none 0 0, .slice none 0 0, .slice none 0 0, .slice none 0 0, .int .i64 (0 : Int)]], []⟩ 20 (by kernel_rfl) (by kernel_rfl) (by kernel_rfl) (by kernel_rfl)) ?_
  intro W base args ds gs before hval0 hW hcnd _
  have hval : ∀ (j : Nat) t v, Tryz.f3.params[j]? = some t → args[j]? = some v → Value.okWide Tryz.prog W .any base t v := hval0
  have hW' := hW
  obtain ⟨p, q, hA0, hV, rfl, hfz, hnd⟩ := hW
  have hA : DataW.TrodAll enc Tryz.prog W 0 (fun _ => true) true Tryz.f3.params.toList args.toList ds p := hA0
  rw [Tryz.params3] at hA hval
  obtain ⟨v0, vs0, d0, ds0, p0, q0, hargs, rfl, rfl, h0, r0⟩ := trodAll_cons hA
  obtain ⟨rfl, rfl, rfl⟩ := trodAll_nil r0
  obtain rfl : args = #[v0] := by cases args; simp_all
  obtain ⟨rfl, rfl⟩ := trodVars_none hV
  have k0 := h0
  have lt0 : ∀ x ∈ p0, x.block < W.heap.size := by obtain ⟨m, hm⟩ := k0; exact DataW.trod_lt m _ _ _ hm
  have ow0 := hval 0 31 v0 rfl rfl
  obtain ⟨C0, S0, g0, f0⟩ := arg_fits 20 hs31 h0
  obtain ⟨x0, rfl, w0⟩ := Dec.dec (α := Store) _ f0
  obtain ⟨V0_0, y0_0, z0_0, b0_0, _, g0⟩ := Rds.cons_inv g0
  obtain ⟨V0_1, y0_1, z0_1, b0_1, _, g0⟩ := Rds.cons_inv g0
  obtain ⟨V0_2, y0_2, z0_2, b0_2, _, g0⟩ := Rds.cons_inv g0
  obtain ⟨V0_3, y0_3, z0_3, b0_3, _, g0⟩ := Rds.cons_inv g0
  obtain ⟨V0_4, y0_4, z0_4, b0_4, _, g0⟩ := Rds.cons_inv g0
  obtain ⟨V0_5, y0_5, z0_5, b0_5, _, g0⟩ := Rds.cons_inv g0
  obtain ⟨V0_6, y0_6, z0_6, b0_6, _, g0⟩ := Rds.cons_inv g0
  obtain ⟨V0_7, y0_7, z0_7, b0_7, _, g0⟩ := Rds.cons_inv g0
  obtain ⟨V0_8, y0_8, z0_8, b0_8, _, g0⟩ := Rds.cons_inv g0
  obtain ⟨V0_9, y0_9, z0_9, b0_9, _, g0⟩ := Rds.cons_inv g0
  obtain rfl := Rds.nil_inv g0
  subst z0_9
  subst z0_8
  subst z0_7
  subst z0_6
  subst z0_5
  subst z0_4
  subst z0_3
  subst z0_2
  subst z0_1
  obtain rfl := cells_agg hu31 ow0 z0_0
  obtain rfl := Base.val b0_0 rfl
  obtain rfl := Base.val b0_1 rfl
  obtain rfl := Base.val b0_3 rfl
  obtain rfl := Base.val b0_4 rfl
  obtain rfl := Base.val b0_9 rfl
  clear hA0 hval0
  have hb_ := Con.below (W := W) ((laws_FnExactStoreOk_c (U0 := V0_2) (U1 := V0_5) (U2 := V0_6) (U3 := V0_7) (U4 := V0_8)).2 true (hp x0 w0)) (by
    intro p hp
    rcases List.mem_cons.1 hp with rfl | hp
    · exact b0_2
    rcases List.mem_cons.1 hp with rfl | hp
    · exact b0_5
    rcases List.mem_cons.1 hp with rfl | hp
    · exact b0_6
    rcases List.mem_cons.1 hp with rfl | hp
    · exact b0_7
    rcases List.mem_cons.1 hp with rfl | hp
    · exact b0_8
    cases hp)
  refine hb_.mono fun e W' ⟨he, bel⟩ => ?_
  subst he
  exact ⟨_, rfl, _, _, _, [], _, [], hW', trodAll_mk1 (shut_bool kb4 _), (trodAll_cons_mk (Below.trod laidOut (by kernel_rfl) (of_decide_eq_true (by kernel_rfl)) k0 bel lt0) trodAll_mk0), rfl, bel.frame _, fun h => by cases h⟩

theorem FnExactStoreOk_over (hp : ∀ (aS : Store), Dec.ok aS → laws_FnExactStoreOk aS = some true) : Rows.FnExactStoreOkSaid :=
  OpenClaim.holds_of_wide 3 Tryz.f3 rfl rfl rfl rfl rfl rfl rfl ⟨rfl, rfl, rfl, rfl, rfl⟩ rfl rfl rfl rfl rfl (by kernel_rfl) Tryz.func3 (by kernel_rfl)
    (of_decide_eq_true (by kernel_rfl)) (by unfold Func.isWrapper; first | (rw [if_pos (by decide +kernel)]; kernel_rfl) | (rw [if_neg (by decide +kernel)]; exact ⟨rfl, rfl⟩))
    (fun os started H enc _ => FnExactStoreOk_lifted hp os started H enc)
end Go.Proofs.YtkheimgjallpkaaGreat
