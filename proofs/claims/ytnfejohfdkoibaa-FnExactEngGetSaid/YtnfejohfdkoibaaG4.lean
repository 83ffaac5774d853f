/-
  The functions that a law reaches, each as a pure function, with the proof that the program computes it, and the step from a pure law to the given statement. Conditions: none.
-/
import Derived.Test.YtnfejohfdkoibaaG3
set_option linter.unusedVariables false
set_option maxRecDepth 100000
set_option maxHeartbeats 4000000
namespace Go.Proofs.Ytnfejohfdkoibaa
open Go Sl

open Go.ChangeShapes Go.WideShapes Go.ChangeAt Go.RowKit
open Go.ChangeMaps (open_string shut_string)
theorem own : ownKnob Try.prog.godebug = none := by kernel_rfl
theorem laidOut : laidOutB Try.prog = true := by kernel_rfl

set_option maxRecDepth 100000 in
theorem FnExactEngGet_lifted (hp : ∀ (aE : Eng) (aKey : List UInt8) (aSeq : Int), Dec.ok aE → aKey.length ≤ 9223372036854775807 → okI aSeq → laws_FnExactEngGet aE aKey aSeq = some true) (os : Os) (started : os.Started) (H : Type) (enc : TypeId × Value → H) :
    ReturnsInHanded {} Try.checked os 3 .any (Rows.fnExactEngGetSpec.pre6 enc Try.prog Try.f3 Rows.fnExactEngGetRow.domain false) (Rows.fnExactEngGetSpec.post enc Try.prog Try.f3 false true false false) := by
  refine returnsInHanded_of_change (C := Try.checked) own started (by kernel_rfl) Try.func3
    (ChangeSpec.witness6 (enc := enc) (C := Try.checked) false ⟨#[], #[.agg #[.slice none 0 0, .slice none 0 0, .int .i64 (0 : Int), .slice none 0 0], strV ([]), .int .i64 (0 : Int)], []⟩ 20 (by kernel_rfl) (by kernel_rfl) (by kernel_rfl) (by kernel_rfl)) ?_
  intro W base args ds gs before hval0 hW hcnd _
  have hval : ∀ (j : Nat) t v, Try.f3.params[j]? = some t → args[j]? = some v → Value.okWide Try.prog W .any base t v := hval0
  have hW' := hW
  obtain ⟨p, q, hA0, hV, rfl, hfz, hnd⟩ := hW
  have hA : DataW.TrodAll enc Try.prog W 0 (fun _ => true) true Try.f3.params.toList args.toList ds p := hA0
  rw [Try.params3] at hA hval
  obtain ⟨v0, vs0, d0, ds0, p0, q0, hargs, rfl, rfl, h0, r0⟩ := trodAll_cons hA
  obtain ⟨v1, vs1, d1, ds1, p1, q1, rfl, rfl, rfl, h1, r1⟩ := trodAll_cons r0
  obtain ⟨v2, vs2, d2, ds2, p2, q2, rfl, rfl, rfl, h2, r2⟩ := trodAll_cons r1
  obtain ⟨rfl, rfl, rfl⟩ := trodAll_nil r2
  obtain rfl : args = #[v0, v1, v2] := by cases args; simp_all
  obtain ⟨rfl, rfl⟩ := trodVars_none hV
  have k0 := h0
  have lt0 : ∀ x ∈ p0, x.block < W.heap.size := by obtain ⟨m, hm⟩ := k0; exact DataW.trod_lt m _ _ _ hm
  have ow0 := hval 0 26 v0 rfl rfl
  obtain ⟨C0, S0, g0, f0⟩ := arg_fits 20 hs26 h0
  obtain ⟨x0, rfl, w0⟩ := Dec.dec (α := Eng) _ f0
  obtain ⟨V0_0, y0_0, z0_0, b0_0, _, g0⟩ := Rds.cons_inv g0
  obtain ⟨V0_1, y0_1, z0_1, b0_1, _, g0⟩ := Rds.cons_inv g0
  obtain ⟨V0_2, y0_2, z0_2, b0_2, _, g0⟩ := Rds.cons_inv g0
  obtain ⟨V0_3, y0_3, z0_3, b0_3, _, g0⟩ := Rds.cons_inv g0
  obtain rfl := Rds.nil_inv g0
  subst z0_3
  subst z0_2
  subst z0_1
  obtain rfl := cells_agg hu26 ow0 z0_0
  obtain rfl := Base.val b0_2 rfl
  have k1 := h1
  have lt1 : ∀ x ∈ p1, x.block < W.heap.size := by obtain ⟨m, hm⟩ := k1; exact DataW.trod_lt m _ _ _ hm
  have ow1 := hval 1 9 v1 rfl rfl
  obtain ⟨C1, S1, g1, f1⟩ := arg_fits 20 hs9 h1
  obtain ⟨c1, e1, rfl, m1, f1⟩ := f1.cons_inv
  obtain rfl := f1.nil_inv
  obtain ⟨x1, rfl, w1⟩ := m1.str_inv
  obtain ⟨V1_0, y1_0, z1_0, b1_0, _, g1⟩ := Rds.cons_inv g1
  obtain rfl := Rds.nil_inv g1
  rw [cells_str hu9 ow1] at z1_0
  obtain rfl := (List.cons.inj z1_0).1
  obtain rfl := Base.val b1_0 rfl
  have k2 := h2
  have lt2 : ∀ x ∈ p2, x.block < W.heap.size := by obtain ⟨m, hm⟩ := k2; exact DataW.trod_lt m _ _ _ hm
  have ow2 := hval 2 3 v2 rfl rfl
  obtain ⟨C2, S2, g2, f2⟩ := arg_fits 20 hs3 h2
  obtain ⟨c2, e2, rfl, m2, f2⟩ := f2.cons_inv
  obtain rfl := f2.nil_inv
  obtain ⟨x2, rfl, w2_⟩ := m2.int_inv
  have w2 := okI_of w2_
  obtain ⟨V2_0, y2_0, z2_0, b2_0, _, g2⟩ := Rds.cons_inv g2
  obtain rfl := Rds.nil_inv g2
  rw [cells_int hu3 ow2] at z2_0
  obtain rfl := (List.cons.inj z2_0).1
  obtain rfl := Base.val b2_0 rfl
  clear hA0 hval0
  have hb_ := Con.below (W := W) (laws_FnExactEngGet_con x0 x1 x2 V0_0 V0_1 V0_3 true (hp x0 x1 x2 w0 w1 w2)) (by
    intro p hp
    rcases List.mem_cons.1 hp with rfl | hp
    · exact b0_0
    rcases List.mem_cons.1 hp with rfl | hp
    · exact b0_1
    rcases List.mem_cons.1 hp with rfl | hp
    · exact b0_3
    cases hp)
  refine hb_.mono fun e W' ⟨he, bel⟩ => ?_
  subst he
  exact ⟨_, rfl, _, _, _, [], _, [], hW', trodAll_mk1 (shut_bool kb4 _), (trodAll_cons_mk (Below.trod laidOut (by kernel_rfl) (of_decide_eq_true (by kernel_rfl)) k0 bel lt0) (trodAll_cons_mk (Below.trod laidOut (by kernel_rfl) (of_decide_eq_true (by kernel_rfl)) k1 bel lt1) (trodAll_cons_mk (Below.trod laidOut (by kernel_rfl) (of_decide_eq_true (by kernel_rfl)) k2 bel lt2) trodAll_mk0))), rfl, bel.frame _, fun h => by cases h⟩

theorem FnExactEngGet_over (hp : ∀ (aE : Eng) (aKey : List UInt8) (aSeq : Int), Dec.ok aE → aKey.length ≤ 9223372036854775807 → okI aSeq → laws_FnExactEngGet aE aKey aSeq = some true) : Rows.FnExactEngGetSaid :=
  OpenClaim.holds_of_wide 3 Try.f3 rfl rfl rfl rfl rfl rfl rfl ⟨rfl, rfl, rfl, rfl, rfl⟩ rfl rfl rfl rfl rfl (by kernel_rfl) Try.func3 (by kernel_rfl)
    (of_decide_eq_true (by kernel_rfl)) (by unfold Func.isWrapper; first | (rw [if_pos (by decide +kernel)]; kernel_rfl) | (rw [if_neg (by decide +kernel)]; exact ⟨rfl, rfl⟩))
    (fun os started H enc _ => FnExactEngGet_lifted hp os started H enc)
end Go.Proofs.Ytnfejohfdkoibaa
