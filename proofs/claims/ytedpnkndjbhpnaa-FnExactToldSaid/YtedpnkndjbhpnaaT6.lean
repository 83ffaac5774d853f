/-
  The functions that a law reaches, each as a pure function, with the proof that the program computes it, and the step from a pure law to the given statement. Conditions: none.
-/
import Derived.Test.YtedpnkndjbhpnaaT5
set_option linter.unusedVariables false
set_option maxRecDepth 100000
set_option maxHeartbeats 4000000
namespace Go.Proofs.Ytedpnkndjbhpnaa
open Go Sl

open Go.ChangeShapes Go.WideShapes Go.ChangeAt Go.RowKit
open Go.ChangeMaps (open_string shut_string)
theorem own : ownKnob Try.prog.godebug = none := by kernel_rfl
theorem laidOut : laidOutB Try.prog = true := by kernel_rfl

set_option maxRecDepth 100000 in
theorem FnExactTold_lifted (hp : ∀ (aSecret : List UInt8) (aL : List Call) (aR : List Reply) (aTenant : Int), aSecret.length ≤ 9223372036854775807 → okl aL → okl aR → okI aTenant → laws_FnExactTold aSecret aL aR aTenant = some true) (os : Os) (started : os.Started) (H : Type) (enc : TypeId × Value → H) :
    ReturnsInHanded {} Try.checked os 5 .any (Rows.fnExactToldSpec.pre6 enc Try.prog Try.f5 Rows.fnExactToldRow.domain false) (Rows.fnExactToldSpec.post enc Try.prog Try.f5 false true false false) := by
  refine returnsInHanded_of_change (C := Try.checked) own started (by kernel_rfl) Try.func5
    (ChangeSpec.witness6 (enc := enc) (C := Try.checked) false ⟨#[], #[strV ([]), .slice none 0 0, .slice none 0 0, .int .i64 (0 : Int)], []⟩ 20 (by kernel_rfl) (by kernel_rfl) (by kernel_rfl) (by kernel_rfl)) ?_
  intro W base args ds gs before hval0 hW hcnd _
  have hval : ∀ (j : Nat) t v, Try.f5.params[j]? = some t → args[j]? = some v → Value.okWide Try.prog W .any base t v := hval0
  have hW' := hW
  obtain ⟨p, q, hA0, hV, rfl, hfz, hnd⟩ := hW
  have hA : DataW.TrodAll enc Try.prog W 0 (fun _ => true) true Try.f5.params.toList args.toList ds p := hA0
  rw [Try.params5] at hA hval
  obtain ⟨v0, vs0, d0, ds0, p0, q0, hargs, rfl, rfl, h0, r0⟩ := trodAll_cons hA
  obtain ⟨v1, vs1, d1, ds1, p1, q1, rfl, rfl, rfl, h1, r1⟩ := trodAll_cons r0
  obtain ⟨v2, vs2, d2, ds2, p2, q2, rfl, rfl, rfl, h2, r2⟩ := trodAll_cons r1
  obtain ⟨v3, vs3, d3, ds3, p3, q3, rfl, rfl, rfl, h3, r3⟩ := trodAll_cons r2
  obtain ⟨rfl, rfl, rfl⟩ := trodAll_nil r3
  obtain rfl : args = #[v0, v1, v2, v3] := by cases args; simp_all
  obtain ⟨rfl, rfl⟩ := trodVars_none hV
  have k0 := h0
  have lt0 : ∀ x ∈ p0, x.block < W.heap.size := by obtain ⟨m, hm⟩ := k0; exact DataW.trod_lt m _ _ _ hm
  have ow0 := hval 0 9 v0 rfl rfl
  obtain ⟨C0, S0, g0, f0⟩ := arg_fits 20 hs9 h0
  obtain ⟨c0, e0, rfl, m0, f0⟩ := f0.cons_inv
  obtain rfl := f0.nil_inv
  obtain ⟨x0, rfl, w0⟩ := m0.str_inv
  obtain ⟨V0_0, y0_0, z0_0, b0_0, _, g0⟩ := Rds.cons_inv g0
  obtain rfl := Rds.nil_inv g0
  rw [cells_str hu9 ow0] at z0_0
  obtain rfl := (List.cons.inj z0_0).1
  obtain rfl := Base.val b0_0 rfl
  have k1 := h1
  have lt1 : ∀ x ∈ p1, x.block < W.heap.size := by obtain ⟨m, hm⟩ := k1; exact DataW.trod_lt m _ _ _ hm
  have ow1 := hval 1 33 v1 rfl rfl
  obtain ⟨C1, S1, g1, f1⟩ := arg_fits 20 hs33 h1
  obtain ⟨c1, e1, rfl, m1, f1⟩ := f1.cons_inv
  obtain rfl := f1.nil_inv
  obtain ⟨x1, rfl, w1⟩ := m1.sl_inv (α := Call) rfl
  obtain ⟨V1_0, y1_0, z1_0, b1_0, _, g1⟩ := Rds.cons_inv g1
  obtain rfl := Rds.nil_inv g1
  rw [cells_slice hu33 ow1] at z1_0
  obtain rfl := (List.cons.inj z1_0).1
  have k2 := h2
  have lt2 : ∀ x ∈ p2, x.block < W.heap.size := by obtain ⟨m, hm⟩ := k2; exact DataW.trod_lt m _ _ _ hm
  have ow2 := hval 2 41 v2 rfl rfl
  obtain ⟨C2, S2, g2, f2⟩ := arg_fits 20 hs41 h2
  obtain ⟨c2, e2, rfl, m2, f2⟩ := f2.cons_inv
  obtain rfl := f2.nil_inv
  obtain ⟨x2, rfl, w2⟩ := m2.sl_inv (α := Reply) rfl
  obtain ⟨V2_0, y2_0, z2_0, b2_0, _, g2⟩ := Rds.cons_inv g2
  obtain rfl := Rds.nil_inv g2
  rw [cells_slice hu41 ow2] at z2_0
  obtain rfl := (List.cons.inj z2_0).1
  have k3 := h3
  have lt3 : ∀ x ∈ p3, x.block < W.heap.size := by obtain ⟨m, hm⟩ := k3; exact DataW.trod_lt m _ _ _ hm
  have ow3 := hval 3 3 v3 rfl rfl
  obtain ⟨C3, S3, g3, f3⟩ := arg_fits 20 hs3 h3
  obtain ⟨c3, e3, rfl, m3, f3⟩ := f3.cons_inv
  obtain rfl := f3.nil_inv
  obtain ⟨x3, rfl, w3_⟩ := m3.int_inv
  have w3 := okI_of w3_
  obtain ⟨V3_0, y3_0, z3_0, b3_0, _, g3⟩ := Rds.cons_inv g3
  obtain rfl := Rds.nil_inv g3
  rw [cells_int hu3 ow3] at z3_0
  obtain rfl := (List.cons.inj z3_0).1
  obtain rfl := Base.val b3_0 rfl
  clear hA0 hval0
  have hb_ := Con.below (W := W) (laws_FnExactTold_con x0 x1 x2 x3 v1 v2 true (hp x0 x1 x2 x3 w0 w1 w2 w3)) (by
    intro p hp
    rcases List.mem_cons.1 hp with rfl | hp
    · exact b1_0
    rcases List.mem_cons.1 hp with rfl | hp
    · exact b2_0
    cases hp)
  refine hb_.mono fun e W' ⟨he, bel⟩ => ?_
  subst he
  exact ⟨_, rfl, _, _, _, [], _, [], hW', trodAll_mk1 (shut_bool kb4 _), (trodAll_cons_mk (Below.trod laidOut (by kernel_rfl) (of_decide_eq_true (by kernel_rfl)) k0 bel lt0) (trodAll_cons_mk (Below.trod laidOut (by kernel_rfl) (of_decide_eq_true (by kernel_rfl)) k1 bel lt1) (trodAll_cons_mk (Below.trod laidOut (by kernel_rfl) (of_decide_eq_true (by kernel_rfl)) k2 bel lt2) (trodAll_cons_mk (Below.trod laidOut (by kernel_rfl) (of_decide_eq_true (by kernel_rfl)) k3 bel lt3) trodAll_mk0)))), rfl, bel.frame _, fun h => by cases h⟩

theorem FnExactTold_over (hp : ∀ (aSecret : List UInt8) (aL : List Call) (aR : List Reply) (aTenant : Int), aSecret.length ≤ 9223372036854775807 → okl aL → okl aR → okI aTenant → laws_FnExactTold aSecret aL aR aTenant = some true) : Rows.FnExactToldSaid :=
  OpenClaim.holds_of_wide 5 Try.f5 rfl rfl rfl rfl rfl rfl rfl ⟨rfl, rfl, rfl, rfl, rfl⟩ rfl rfl rfl rfl rfl (by kernel_rfl) Try.func5 (by kernel_rfl)
    (of_decide_eq_true (by kernel_rfl)) (by unfold Func.isWrapper; first | (rw [if_pos (by decide +kernel)]; kernel_rfl) | (rw [if_neg (by decide +kernel)]; exact ⟨rfl, rfl⟩))
    (fun os started H enc _ => FnExactTold_lifted hp os started H enc)
end Go.Proofs.Ytedpnkndjbhpnaa
