/-
  The functions that a law reaches, each as a pure function, with the proof that the program computes it, and the step from a pure law to the given statement. Conditions: none.
-/
import Derived.Test.YtnfejohfdkoibaaH3
set_option linter.unusedVariables false
set_option maxRecDepth 100000
set_option maxHeartbeats 4000000
namespace Go.Proofs.Ytnfejohfdkoibaa
open Go Sl

open Go.ChangeShapes Go.WideShapes Go.ChangeAt Go.RowKit
open Go.ChangeMaps (open_string shut_string)
theorem own : ownKnob Try.prog.godebug = none := by kernel_rfl
theorem laidOut : laidOutB Try.prog = true := by kernel_rfl

set_option maxRecDepth 100000 in
theorem FnExactEngMap_lifted (hp : ∀ (aE : Eng) (aSeq : Int), Dec.ok aE → okI aSeq → laws_FnExactEngMap aE aSeq = some true) (os : Os) (started : os.Started) (H : Type) (enc : TypeId × Value → H) :
    ReturnsInHanded {} Try.checked os 4 .any (Rows.fnExactEngMapSpec.pre6 enc Try.prog Try.f4 Rows.fnExactEngMapRow.domain false) (Rows.fnExactEngMapSpec.post enc Try.prog Try.f4 false true false false) := by
  refine returnsInHanded_of_change (C := Try.checked) own started (by kernel_rfl) Try.func4
    (ChangeSpec.witness6 (enc := enc) (C := Try.checked) false ⟨#[], #[.agg #[.slice none 0 0, .slice none 0 0, .int .i64 (0 : Int), .slice none 0 0], .int .i64 (0 : Int)], []⟩ 20 (by kernel_rfl) (by kernel_rfl) (by kernel_rfl) (by kernel_rfl)) ?_
  intro W base args ds gs before hval0 hW hcnd _
  have hval : ∀ (j : Nat) t v, Try.f4.params[j]? = some t → args[j]? = some v → Value.okWide Try.prog W .any base t v := hval0
  have hW' := hW
  obtain ⟨p, q, hA0, hV, rfl, hfz, hnd⟩ := hW
  have hA : DataW.TrodAll enc Try.prog W 0 (fun _ => true) true Try.f4.params.toList args.toList ds p := hA0
  rw [Try.params4] at hA hval
  obtain ⟨v0, vs0, d0, ds0, p0, q0, hargs, rfl, rfl, h0, r0⟩ := trodAll_cons hA
  obtain ⟨v1, vs1, d1, ds1, p1, q1, rfl, rfl, rfl, h1, r1⟩ := trodAll_cons r0
  obtain ⟨rfl, rfl, rfl⟩ := trodAll_nil r1
  obtain rfl : args = #[v0, v1] := by cases args; simp_all
  obtain ⟨rfl, rfl⟩ := trodVars_none hV
  have k0 := h0
  have lt0 : ∀ x ∈ p0, x.block < W.heap.size := by obtain ⟨m, hm⟩ := k0; exact DataW.trod_lt m _ _ _ hm
  have ow0 := hval 0 26 v0 rfl rfl
  obtain ⟨C0, S0, g0, f0⟩ := arg_fits 20 hs26 h0
  obtain ⟨x0, rfl, w0⟩ := Dec.dec (α := Eng) _ f0
  obtain ⟨V0_0, y0_0, z0_0, b0_0, _, g0⟩ := Rds.cons_inv g0
  obtain ⟨V0_1, y0_1, z0_1, b0_1, _, g0⟩ := Rds.cons_inv g0
  obtain ⟨V0_2, y0_2, z0_2, b0_2, _, g0⟩ := Rds.cons_inv g0
  obtain ⟨V0_3, y0_3, z0_3, b0_3, _, g0⟩ := Rds.cons_inv g0
  obtain rfl := Rds.nil_inv g0
  subst z0_3
  subst z0_2
  subst z0_1
  obtain rfl := cells_agg hu26 ow0 z0_0
  obtain rfl := Base.val b0_2 rfl
  have k1 := h1
  have lt1 : ∀ x ∈ p1, x.block < W.heap.size := by obtain ⟨m, hm⟩ := k1; exact DataW.trod_lt m _ _ _ hm
  have ow1 := hval 1 3 v1 rfl rfl
  obtain ⟨C1, S1, g1, f1⟩ := arg_fits 20 hs3 h1
  obtain ⟨c1, e1, rfl, m1, f1⟩ := f1.cons_inv
  obtain rfl := f1.nil_inv
  obtain ⟨x1, rfl, w1_⟩ := m1.int_inv
  have w1 := okI_of w1_
  obtain ⟨V1_0, y1_0, z1_0, b1_0, _, g1⟩ := Rds.cons_inv g1
  obtain rfl := Rds.nil_inv g1
  rw [cells_int hu3 ow1] at z1_0
  obtain rfl := (List.cons.inj z1_0).1
  obtain rfl := Base.val b1_0 rfl
  clear hA0 hval0
  have hb_ := Con.below (W := W) (laws_FnExactEngMap_con x0 x1 V0_0 V0_1 V0_3 true (hp x0 x1 w0 w1)) (by
    intro p hp
    rcases List.mem_cons.1 hp with rfl | hp
    · exact b0_0
    rcases List.mem_cons.1 hp with rfl | hp
    · exact b0_1
    rcases List.mem_cons.1 hp with rfl | hp
    · exact b0_3
    cases hp)
  refine hb_.mono fun e W' ⟨he, bel⟩ => ?_
  subst he
  exact ⟨_, rfl, _, _, _, [], _, [], hW', trodAll_mk1 (shut_bool kb4 _), (trodAll_cons_mk (Below.trod laidOut (by kernel_rfl) (of_decide_eq_true (by kernel_rfl)) k0 bel lt0) (trodAll_cons_mk (Below.trod laidOut (by kernel_rfl) (of_decide_eq_true (by kernel_rfl)) k1 bel lt1) trodAll_mk0)), rfl, bel.frame _, fun h => by cases h⟩

theorem FnExactEngMap_over (hp : ∀ (aE : Eng) (aSeq : Int), Dec.ok aE → okI aSeq → laws_FnExactEngMap aE aSeq = some true) : Rows.FnExactEngMapSaid :=
  OpenClaim.holds_of_wide 4 Try.f4 rfl rfl rfl rfl rfl rfl rfl ⟨rfl, rfl, rfl, rfl, rfl⟩ rfl rfl rfl rfl rfl (by kernel_rfl) Try.func4 (by kernel_rfl)
    (of_decide_eq_true (by kernel_rfl)) (by unfold Func.isWrapper; first | (rw [if_pos (by decide +kernel)]; kernel_rfl) | (rw [if_neg (by decide +kernel)]; exact ⟨rfl, rfl⟩))
    (fun os started H enc _ => FnExactEngMap_lifted hp os started H enc)
end Go.Proofs.Ytnfejohfdkoibaa
