/-
  The functions that a law reaches, each as a pure function, with the proof that the program computes it, and the step from a pure law to the given statement. Conditions: none.
-/
import Derived.Test.YtmigafjpdoeicaaGreatQ6
set_option linter.unusedVariables false
set_option maxRecDepth 100000
set_option maxHeartbeats 4000000
namespace Go.Proofs.YtmigafjpdoeicaaGreat
open Go Sl
open Go.ChangeShapes Go.WideShapes Go.ChangeAt Go.RowKit
open Go.ChangeMaps (open_string shut_string)
theorem own : ownKnob Tryz.prog.godebug = none := by kernel_rfl
theorem laidOut : laidOutB Tryz.prog = true := by kernel_rfl
set_option maxRecDepth 100000 in
theorem FnExactModelPlay_lifted (hp : ∀ (aSecret : List UInt8) (aSize : Int) (aL : List Call), aSecret.length ≤ 9223372036854775807 → okI aSize → okl aL → laws_FnExactModelPlay aSecret aSize aL = some true) (os : Os) (started : os.Started) (H : Type) (enc : TypeId × Value → H) :
    ReturnsInHanded {} Tryz.checked os 4 .any (Rows.fnExactModelPlaySpec.pre6 enc Tryz.prog Tryz.f4 Rows.fnExactModelPlayRow.domain false) (Rows.fnExactModelPlaySpec.post enc Tryz.prog Tryz.f4 false true false false) := by
  refine returnsInHanded_of_change (C := Tryz.checked) own started (by kernel_rfl) Tryz.func4
    (ChangeSpec.witness6 (enc := enc) (C := Tryz.checked) false ⟨#[], #[strV ([]), .int .i64 (0 : Int), .slice none 0 0], []⟩ 20 (by kernel_rfl) (by kernel_rfl) (by kernel_rfl) (by kernel_rfl)) ?_
  intro W base args ds gs before hval0 hW hcnd _
  have hval : ∀ (j : Nat) t v, Tryz.f4.params[j]? = some t → args[j]? = some v → Value.okWide Tryz.prog W .any base t v := hval0
  have hW' := hW
  obtain ⟨p, q, hA0, hV, rfl, hfz, hnd⟩ := hW
  have hA : DataW.TrodAll enc Tryz.prog W 0 (fun _ => true) true Tryz.f4.params.toList args.toList ds p := hA0
  rw [Tryz.params4] at hA hval
  obtain ⟨v0, vs0, d0, ds0, p0, q0, hargs, rfl, rfl, h0, r0⟩ := trodAll_cons hA
  obtain ⟨v1, vs1, d1, ds1, p1, q1, rfl, rfl, rfl, h1, r1⟩ := trodAll_cons r0
  obtain ⟨v2, vs2, d2, ds2, p2, q2, rfl, rfl, rfl, h2, r2⟩ := trodAll_cons r1
  obtain ⟨rfl, rfl, rfl⟩ := trodAll_nil r2
  obtain rfl : args = #[v0, v1, v2] := by cases args; simp_all
  obtain ⟨rfl, rfl⟩ := trodVars_none hV
  have k0 := h0
  have lt0 : ∀ x ∈ p0, x.block < W.heap.size := by obtain ⟨m, hm⟩ := k0; exact DataW.trod_lt m _ _ _ hm
  have ow0 := hval 0 9 v0 rfl rfl
  obtain ⟨C0, S0, g0, f0⟩ := arg_fits 20 hs9 h0
  obtain ⟨c0, e0, rfl, m0, f0⟩ := f0.cons_inv
  obtain rfl := f0.nil_inv
  obtain ⟨x0, rfl, w0⟩ := m0.str_inv
  obtain ⟨V0_0, y0_0, z0_0, b0_0, _, g0⟩ := Rds.cons_inv g0
  obtain rfl := Rds.nil_inv g0
  rw [cells_str hu9 ow0] at z0_0
  obtain rfl := (List.cons.inj z0_0).1
  obtain rfl := Base.val b0_0 rfl
  have k1 := h1
  have lt1 : ∀ x ∈ p1, x.block < W.heap.size := by obtain ⟨m, hm⟩ := k1; exact DataW.trod_lt m _ _ _ hm
  have ow1 := hval 1 3 v1 rfl rfl
  obtain ⟨C1, S1, g1, f1⟩ := arg_fits 20 hs3 h1
  obtain ⟨c1, e1, rfl, m1, f1⟩ := f1.cons_inv
  obtain rfl := f1.nil_inv
  obtain ⟨x1, rfl, w1_⟩ := m1.int_inv
  have w1 := okI_of w1_
  obtain ⟨V1_0, y1_0, z1_0, b1_0, _, g1⟩ := Rds.cons_inv g1
  obtain rfl := Rds.nil_inv g1
  rw [cells_int hu3 ow1] at z1_0
  obtain rfl := (List.cons.inj z1_0).1
  obtain rfl := Base.val b1_0 rfl
  have k2 := h2
  have lt2 : ∀ x ∈ p2, x.block < W.heap.size := by obtain ⟨m, hm⟩ := k2; exact DataW.trod_lt m _ _ _ hm
  have ow2 := hval 2 48 v2 rfl rfl
  obtain ⟨C2, S2, g2, f2⟩ := arg_fits 20 hs48 h2
  obtain ⟨c2, e2, rfl, m2, f2⟩ := f2.cons_inv
  obtain rfl := f2.nil_inv
  obtain ⟨x2, rfl, w2⟩ := m2.sl_inv (α := Call) rfl
  obtain ⟨V2_0, y2_0, z2_0, b2_0, _, g2⟩ := Rds.cons_inv g2
  obtain rfl := Rds.nil_inv g2
  rw [cells_slice hu48 ow2] at z2_0
  obtain rfl := (List.cons.inj z2_0).1
  clear hA0 hval0
  have hb_ := Con.below (W := W) ((laws_FnExactModelPlay_c (U0 := v2)).2 true (hp x0 x1 x2 w0 w1 w2)) (by
    intro p hp
    rcases List.mem_cons.1 hp with rfl | hp
    · exact b2_0
    cases hp)
  refine hb_.mono fun e W' ⟨he, bel⟩ => ?_
  subst he
  exact ⟨_, rfl, _, _, _, [], _, [], hW', trodAll_mk1 (shut_bool kb4 _), (trodAll_cons_mk (Below.trod laidOut (by kernel_rfl) (of_decide_eq_true (by kernel_rfl)) k0 bel lt0) (trodAll_cons_mk (Below.trod laidOut (by kernel_rfl) (of_decide_eq_true (by kernel_rfl)) k1 bel lt1) (trodAll_cons_mk (Below.trod laidOut (by kernel_rfl) (of_decide_eq_true (by kernel_rfl)) k2 bel lt2) trodAll_mk0))), rfl, bel.frame _, fun h => by cases h⟩
theorem FnExactModelPlay_over (hp : ∀ (aSecret : List UInt8) (aSize : Int) (aL : List Call), aSecret.length ≤ 9223372036854775807 → okI aSize → okl aL → laws_FnExactModelPlay aSecret aSize aL = some true) : Rows.FnExactModelPlaySaid :=
  OpenClaim.holds_of_wide 4 Tryz.f4 rfl rfl rfl rfl rfl rfl rfl ⟨rfl, rfl, rfl, rfl, rfl⟩ rfl rfl rfl rfl rfl (by kernel_rfl) Tryz.func4 (by kernel_rfl)
    (of_decide_eq_true (by kernel_rfl)) (by unfold Func.isWrapper; first | (rw [if_pos (by decide +kernel)]; kernel_rfl) | (rw [if_neg (by decide +kernel)]; exact ⟨rfl, rfl⟩))
    (fun os started H enc _ => FnExactModelPlay_lifted hp os started H enc)
end Go.Proofs.YtmigafjpdoeicaaGreat
