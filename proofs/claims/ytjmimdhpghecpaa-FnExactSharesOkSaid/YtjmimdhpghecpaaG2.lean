/-
  The functions that a law reaches, each as a pure function, with the proof that the program computes it, and the step from a pure law to the given statement. Conditions: none.
-/
import Derived.Test.YtjmimdhpghecpaaG1
set_option linter.unusedVariables false
namespace Go.Proofs.Ytjmimdhpghecpaa
open Go Sl

/-- loop.example/g00950/spec.SpaceGive -/
noncomputable def spec_SpaceGive (s : Space) (who : Int) (blocks : List Int) : Option (Space × Bool) :=
  (spec_SpaceOk s).bind fun R3 =>
  if (!R3) = true then (some ({ Owner := ([] : List Int) : Space }, false))
  else ((spec_l18Copy s).bind fun R8 =>
  bindC (loopO (fun (S12 : Int × List Int) => if (decide (S12.1 < ((blocks.length : Nat) : Int))) = true then ((idx blocks S12.1).bind fun E17 =>
  (if (decide (E17 < (0 : Int))) = true then (some true)
  else (if (decide (E17 ≥ ((S12.2.length : Nat) : Int))) = true then (some true)
  else ((idx S12.2 E17).bind fun E23 =>
  if (!(decide (E23 = who))) = true then (some true)
  else (some (decide (who < (1 : Int))))))).bind (fun (T19 : Bool) =>
  if T19 = true then (some (.done (.done (R8, false))))
  else ((idx S12.2 E17).bind fun E28 =>
  some (.go (IntKind.i64.wrap (S12.1 + (1 : Int)), (S12.2.set E17.toNat (0 : Int)))))))
  else (some (.done (.go S12.2))))
  ((0 : Int), R8.Owner))
  (fun (T14 : List Int) => some ({ Owner := T14 : Space }, true)))

theorem spec_SpaceGive_con (s : Space) (who : Int) (blocks : List Int) (V_s0 : Value) (V_blocks0 : Value) (r : Space × Bool) (hm : spec_SpaceGive s who blocks = some r) :
    Con Try.prog 26 [.agg #[V_s0], .int .i64 who, V_blocks0] [] [(V_s0, lc 3 s.Owner), (V_blocks0, lc 3 blocks)] (fun X : Value => .tuple #[.agg #[X], .bool r.2]) (fun X => [.own X (lc 3 r.1.Owner)]) := by
  refine Con.intro (args := [.agg #[V_s0], .int .i64 who, V_blocks0]) (n := 56) (val := fun r (X : Value) => .tuple #[.agg #[X], .bool r.2]) (post := fun r X => [.own X (lc 3 r.1.Owner)]) (m := spec_SpaceGive s who blocks) Try.func26 rfl rfl rfl hm ?_
  intro w S hrd
  have HB_V_s0 := hrd _ (.head _)
  have HB_V_blocks0 := hrd _ (.tail _ (.head _))
  clear hrd
  unfold spec_SpaceGive
  refine TW.seq ?_
  refine TW.region ?_
  refine TO.ef (Ef.box rfl (Cel.agg ⟨(One.can (Base.can HB_V_s0)), trivial⟩)) rfl rfl rfl (fun B1 => ?_)
  refine TO.ef (Ef.alloc kz29 rfl) rfl rfl rfl (fun B2 => ?_)
  refine TO.y (Y.assign rfl) rfl rfl rfl ?_
  refine TO.nil ?_
  refine TE.next ?_
  refine TW.seq ?_
  refine TW.seq ?_
  refine TW.region ?_
  refine TO.y (Y.load_box (v := .agg #[V_s0]) 1 kk29 rfl rfl rfl) rfl rfl rfl ?_
  refine TO.bind fun R3 H4 => ?_
  refine TO.ef (Ef.call (rest := [.box B2 29 [.slice none 0 0], .box B1 29 [V_s0]]) [0, 0] (spec_SpaceOk_con s V_s0 R3 H4) kc12 rfl rfl ⟨(Base.can HB_V_s0), trivial⟩) rfl rfl rfl (fun _ => ?_)
  refine TO.y (Y.not rfl) rfl rfl rfl ?_
  refine TO.nil ?_
  refine TE.next ?_
  refine TW.cond rfl (fun H6 => ?_) (fun H6 => ?_)
  · refine TW.seq ?_
    refine TW.region ?_
    refine TO.y (Y.build (cells := [.slice none 0 0]) [] kp29 kz29 trivial rfl) rfl rfl rfl ?_
    refine TO.ef0 (Ef.store_box (us := [.slice none 0 0]) (vs' := [.slice none 0 0]) (is' := [.box B2 29 [.slice none 0 0], .box B1 29 [V_s0]]) 0 kk29 rfl rfl rfl (Cel.plain rfl rfl) rfl rfl rfl rfl) rfl rfl (fun _ => ?_)
    refine TO.y (Y.assign rfl) rfl rfl rfl ?_
    refine TO.nil ?_
    refine TE.next ?_
    refine TW.ret ?_
    refine TE.then_ret ?_
    exact TE.leaf fun _ _ hf_ hs_ => ret_any (rs := [.cell 6 29, .tmp 7]) (vs := [.agg #[.slice none 0 0], .bool false]) (.inl rfl) rfl (RV.cell 0 rfl rfl kk29 rfl ⟨rfl, trivial⟩) hf_ hs_ ⟨(.slice none 0 0), rfl, (hs_.nilItem 3 1).pulls [0] rfl⟩
  · refine TW.skip ?_
    refine TE.next ?_
    refine TW.seq ?_
    refine TW.region ?_
    refine TO.y (Y.load_box (v := .agg #[V_s0]) 1 kk29 rfl rfl rfl) rfl rfl rfl ?_
    refine TO.bind fun R8 H9 => ?_
    refine TO.ef (Ef.call (rest := [.box B2 29 [.slice none 0 0], .box B1 29 [V_s0]]) [0, 0] (spec_l18Copy_con s V_s0 R8 H9) kc49 rfl rfl ⟨(Base.can HB_V_s0), trivial⟩) rfl rfl rfl (fun Y10 => ?_)
    refine TO.ef (Ef.alloc kz29 rfl) rfl rfl rfl (fun B11 => ?_)
    refine TO.ef0 (Ef.store_box (us := [Y10]) (vs' := [Y10]) (is' := [.box B11 29 [Y10], .own Y10 (lc 3 R8.Owner), .box B2 29 [.slice none 0 0], .box B1 29 [V_s0]]) 0 kk29 rfl rfl rfl (Cel.agg ⟨(One.can (Can.own 1 rfl)), trivial⟩) rfl rfl rfl rfl) rfl rfl (fun _ => ?_)
    refine TO.nil ?_
    refine TE.next ?_
    refine TW.seq ?_
    refine TW.seq ?_
    refine TW.region ?_
    refine TO.y (Y.assign rfl) rfl rfl rfl ?_
    refine TO.nil ?_
    refine TE.next ?_
    refine TW.joinX (τ := List Int) (X := Unit) (fun _ _ => [(6, .pointer (some ⟨B2, 0, none⟩)), (8, .pointer (some ⟨B11, 0, none⟩))]) (fun T _ => [.box B2 29 [.slice none 0 0], .box B11 29 [Y10], .own Y10 (lc 3 T)]) ?_ (fun T14 X15 => ?_)
    · refine TW.block ?_
      refine TW.loopX (σ := Int × List Int) (X := Unit) (fun T _ => [(1, .int .i64 who), (2, V_blocks0), (3, .pointer (some ⟨B1, 0, none⟩)), (6, .pointer (some ⟨B2, 0, none⟩)), (8, .pointer (some ⟨B11, 0, none⟩)), (9, .int .i64 T.1)]) (fun T _ => [.box B1 29 [V_s0], .box B2 29 [.slice none 0 0], .box B11 29 [Y10], .own Y10 (lc 3 T.2)]) () [3, 2, 0, 0] ⟨rfl, rfl, rfl, rfl, rfl, rfl, trivial⟩ rfl (fun S12 X13 => ?_)
      refine TW.seq ?_
      refine TW.seq ?_
      refine TW.region ?_
      refine TO.y (Y.move rfl) rfl rfl rfl ?_
      refine TO.y (Y.move rfl) rfl rfl rfl ?_
      refine TO.y (Y.len (l := blocks) ke24 (Base.can HB_V_blocks0) rfl) rfl rfl rfl ?_
      refine TO.y (Y.lss rfl rfl) rfl rfl rfl ?_
      refine TO.nil ?_
      refine TE.next ?_
      refine TW.cond rfl (fun H16 => ?_) (fun H16 => ?_)
      · refine TW.skip ?_
        refine TE.next ?_
        refine TW.seq ?_
        refine TW.block ?_
        refine TW.seq ?_
        refine TW.region ?_
        refine TO.y (Y.move rfl) rfl rfl rfl ?_
        refine TO.y (Y.move rfl) rfl rfl rfl ?_
        refine TO.bind fun E17 H18 => ?_
        refine TO.y (Y.index ke24 (Base.can HB_V_blocks0) H18 rfl rfl) rfl rfl rfl ?_
        refine TO.y (Y.load_el (us := [.int .i64 E17]) (u := .int .i64 E17) kk3 rfl (Base.can HB_V_blocks0) (idx_get H18).2.2 rfl rfl rfl rfl rfl) rfl rfl rfl ?_
        refine TO.y (Y.assign rfl) rfl rfl rfl ?_
        refine TO.nil ?_
        refine TE.next ?_
        refine TW.seq ?_
        refine TW.seq ?_
        refine TW.joinBX (τ := Bool) (X := Unit) (fun T _ => [(1, .int .i64 who), (2, V_blocks0), (3, .pointer (some ⟨B1, 0, none⟩)), (6, .pointer (some ⟨B2, 0, none⟩)), (8, .pointer (some ⟨B11, 0, none⟩)), (9, .int .i64 S12.1), (10, .int .i64 E17), (48, .bool T)]) (fun _ _ => [.box B1 29 [V_s0], .box B2 29 [.slice none 0 0], .box B11 29 [Y10], .own Y10 (lc 3 S12.2)]) ?_ (fun T19 X20 => ?_)
        · refine TW.region ?_
          refine TO.y (Y.move rfl) rfl rfl rfl ?_
          refine TO.y (Y.lss rfl rfl) rfl rfl rfl ?_
          refine TO.y (Y.move rfl) rfl rfl rfl ?_
          refine TO.ite (b := decide (E17 < (0 : Int))) (fun H21 => ?_) (fun H21 => ?_)
          · refine TO.off (Gd.at 2 false 29 (decide (E17 < (0 : Int))) rfl rfl rfl (beq_tf H21)) rfl rfl ?_
            refine TO.off (Gd.at 2 false 29 (decide (E17 < (0 : Int))) rfl rfl rfl (beq_tf H21)) rfl rfl ?_
            refine TO.off (Gd.at 2 false 29 (decide (E17 < (0 : Int))) rfl rfl rfl (beq_tf H21)) rfl rfl ?_
            refine TO.off (Gd.at 2 false 29 (decide (E17 < (0 : Int))) rfl rfl rfl (beq_tf H21)) rfl rfl ?_
            refine TO.off (Gd.at 2 false 29 (decide (E17 < (0 : Int))) rfl rfl rfl (beq_tf H21)) rfl rfl ?_
            refine TO.y (Y.pick_t H21 rfl rfl) rfl rfl rfl ?_
            refine TO.y (Y.move rfl) rfl rfl rfl ?_
            refine TO.off (Gd.at 9 false 36 true rfl rfl rfl rfl) rfl rfl ?_
            refine TO.off (Gd.at 9 false 36 true rfl rfl rfl rfl) rfl rfl ?_
            refine TO.off (Gd.at 9 false 36 true rfl rfl rfl rfl) rfl rfl ?_
            refine TO.off (Gd.at 9 false 36 true rfl rfl rfl rfl) rfl rfl ?_
            refine TO.off (Gd.at 9 false 36 true rfl rfl rfl rfl) rfl rfl ?_
            refine TO.off (Gd.at 9 false 36 true rfl rfl rfl rfl) rfl rfl ?_
            refine TO.off (Gd.at 9 false 36 true rfl rfl rfl rfl) rfl rfl ?_
            refine TO.y (Y.pick_t rfl rfl rfl) rfl rfl rfl ?_
            refine TO.y (Y.move rfl) rfl rfl rfl ?_
            refine TO.off (Gd.at 18 false 45 true rfl rfl rfl rfl) rfl rfl ?_
            refine TO.off (Gd.at 18 false 45 true rfl rfl rfl rfl) rfl rfl ?_
            refine TO.y (Y.pick_t rfl rfl rfl) rfl rfl rfl ?_
            refine TO.nil ?_
            exact TE.jb_go () [0, 0, 0, 0] ⟨rfl, rfl, rfl, rfl, rfl, rfl, rfl, rfl, trivial⟩ rfl
          · refine TO.y (Y.move rfl) (Gd.at 2 false 29 (decide (E17 < (0 : Int))) rfl rfl rfl (beq_ff H21)) rfl rfl ?_
            refine TO.y (Y.field_box kf29_0 rfl rfl) (Gd.at 2 false 29 (decide (E17 < (0 : Int))) rfl rfl rfl (beq_ff H21)) rfl rfl ?_
            refine TO.y (Y.load_box (v := Y10) 2 kk24 rfl rfl rfl) (Gd.at 2 false 29 (decide (E17 < (0 : Int))) rfl rfl rfl (beq_ff H21)) rfl rfl ?_
            refine TO.y (Y.len (l := S12.2) ke24 (Can.own 3 rfl) rfl) (Gd.at 2 false 29 (decide (E17 < (0 : Int))) rfl rfl rfl (beq_ff H21)) rfl rfl ?_
            refine TO.y (Y.geq rfl rfl) (Gd.at 2 false 29 (decide (E17 < (0 : Int))) rfl rfl rfl (beq_ff H21)) rfl rfl ?_
            refine TO.y (Y.pick_f H21 rfl rfl) rfl rfl rfl ?_
            refine TO.y (Y.move rfl) rfl rfl rfl ?_
            refine TO.ite (b := decide (E17 ≥ ((S12.2.length : Nat) : Int))) (fun H22 => ?_) (fun H22 => ?_)
            · refine TO.off (Gd.at 9 false 36 (decide (E17 ≥ ((S12.2.length : Nat) : Int))) rfl rfl rfl (beq_tf H22)) rfl rfl ?_
              refine TO.off (Gd.at 9 false 36 (decide (E17 ≥ ((S12.2.length : Nat) : Int))) rfl rfl rfl (beq_tf H22)) rfl rfl ?_
              refine TO.off (Gd.at 9 false 36 (decide (E17 ≥ ((S12.2.length : Nat) : Int))) rfl rfl rfl (beq_tf H22)) rfl rfl ?_
              refine TO.off (Gd.at 9 false 36 (decide (E17 ≥ ((S12.2.length : Nat) : Int))) rfl rfl rfl (beq_tf H22)) rfl rfl ?_
              refine TO.off (Gd.at 9 false 36 (decide (E17 ≥ ((S12.2.length : Nat) : Int))) rfl rfl rfl (beq_tf H22)) rfl rfl ?_
              refine TO.off (Gd.at 9 false 36 (decide (E17 ≥ ((S12.2.length : Nat) : Int))) rfl rfl rfl (beq_tf H22)) rfl rfl ?_
              refine TO.off (Gd.at 9 false 36 (decide (E17 ≥ ((S12.2.length : Nat) : Int))) rfl rfl rfl (beq_tf H22)) rfl rfl ?_
              refine TO.y (Y.pick_t H22 rfl rfl) rfl rfl rfl ?_
              refine TO.y (Y.move rfl) rfl rfl rfl ?_
              refine TO.off (Gd.at 18 false 45 true rfl rfl rfl rfl) rfl rfl ?_
              refine TO.off (Gd.at 18 false 45 true rfl rfl rfl rfl) rfl rfl ?_
              refine TO.y (Y.pick_t rfl rfl rfl) rfl rfl rfl ?_
              refine TO.nil ?_
              exact TE.jb_go () [0, 0, 0, 0] ⟨rfl, rfl, rfl, rfl, rfl, rfl, rfl, rfl, trivial⟩ rfl
            · refine TO.y (Y.field_box kf29_0 rfl rfl) (Gd.at 9 false 36 (decide (E17 ≥ ((S12.2.length : Nat) : Int))) rfl rfl rfl (beq_ff H22)) rfl rfl ?_
              refine TO.y (Y.load_box (v := Y10) 2 kk24 rfl rfl rfl) (Gd.at 9 false 36 (decide (E17 ≥ ((S12.2.length : Nat) : Int))) rfl rfl rfl (beq_ff H22)) rfl rfl ?_
              refine TO.y (Y.move rfl) (Gd.at 9 false 36 (decide (E17 ≥ ((S12.2.length : Nat) : Int))) rfl rfl rfl (beq_ff H22)) rfl rfl ?_
              refine TO.bind fun E23 H24 => ?_
              refine TO.y (Y.index ke24 (Can.own 3 rfl) H24 rfl rfl) (Gd.at 9 false 36 (decide (E17 ≥ ((S12.2.length : Nat) : Int))) rfl rfl rfl (beq_ff H22)) rfl rfl ?_
              refine TO.y (Y.load_el (us := [.int .i64 E23]) (u := .int .i64 E23) kk3 rfl (Can.own 3 rfl) (idx_get H24).2.2 rfl rfl rfl rfl rfl) (Gd.at 9 false 36 (decide (E17 ≥ ((S12.2.length : Nat) : Int))) rfl rfl rfl (beq_ff H22)) rfl rfl ?_
              refine TO.y (Y.move rfl) (Gd.at 9 false 36 (decide (E17 ≥ ((S12.2.length : Nat) : Int))) rfl rfl rfl (beq_ff H22)) rfl rfl ?_
              refine TO.y (Y.neq rfl rfl) (Gd.at 9 false 36 (decide (E17 ≥ ((S12.2.length : Nat) : Int))) rfl rfl rfl (beq_ff H22)) rfl rfl ?_
              refine TO.y (Y.pick_f H22 rfl rfl) rfl rfl rfl ?_
              refine TO.y (Y.move rfl) rfl rfl rfl ?_
              refine TO.ite (b := !(decide (E23 = who))) (fun H25 => ?_) (fun H25 => ?_)
              · refine TO.off (Gd.at 18 false 45 (!(decide (E23 = who))) rfl rfl rfl (beq_tf H25)) rfl rfl ?_
                refine TO.off (Gd.at 18 false 45 (!(decide (E23 = who))) rfl rfl rfl (beq_tf H25)) rfl rfl ?_
                refine TO.y (Y.pick_t H25 rfl rfl) rfl rfl rfl ?_
                refine TO.nil ?_
                exact TE.jb_go () [0, 0, 0, 0] ⟨rfl, rfl, rfl, rfl, rfl, rfl, rfl, rfl, trivial⟩ rfl
              · refine TO.y (Y.move rfl) (Gd.at 18 false 45 (!(decide (E23 = who))) rfl rfl rfl (beq_ff H25)) rfl rfl ?_
                refine TO.y (Y.lss rfl rfl) (Gd.at 18 false 45 (!(decide (E23 = who))) rfl rfl rfl (beq_ff H25)) rfl rfl ?_
                refine TO.y (Y.pick_f H25 rfl rfl) rfl rfl rfl ?_
                refine TO.nil ?_
                exact TE.jb_go () [0, 0, 0, 0] ⟨rfl, rfl, rfl, rfl, rfl, rfl, rfl, rfl, trivial⟩ rfl
        · refine TE.next ?_
          refine TW.cond rfl (fun H26 => ?_) (fun H26 => ?_)
          · refine TW.seq ?_
            refine TW.region ?_
            refine TO.y (Y.load_box (v := .agg #[V_s0]) 0 kk29 rfl rfl rfl) rfl rfl rfl ?_
            refine TO.ef (Ef.call (rest := [.box B1 29 [V_s0], .box B2 29 [.slice none 0 0], .box B11 29 [Y10], .own Y10 (lc 3 S12.2)]) [0, 0, 0, 0] (spec_l18Copy_con s V_s0 R8 H9) kc49 rfl rfl ⟨(Base.can HB_V_s0), trivial⟩) rfl rfl rfl (fun Y27 => ?_)
            refine TO.ef0 (Ef.store_box (us := [Y27]) (vs' := [Y27]) (is' := [.own Y27 (lc 3 R8.Owner), .box B1 29 [V_s0], .box B2 29 [Y27], .box B11 29 [Y10], .own Y10 (lc 3 S12.2)]) 2 kk29 rfl rfl rfl (Cel.agg ⟨(One.can (Can.own 0 rfl)), trivial⟩) rfl rfl rfl rfl) rfl rfl (fun _ => ?_)
            refine TO.y (Y.assign rfl) rfl rfl rfl ?_
            refine TO.nil ?_
            refine TE.next ?_
            refine TW.ret ?_
            refine TE.then_ret ?_
            refine TE.block_ret ?_
            refine TE.then_ret ?_
            refine TE.lp_ret ?_
            refine TE.block_ret ?_
            refine TE.jn_done ?_
            refine TE.then_ret ?_
            exact TE.leaf fun _ _ hf_ hs_ => ret_any (rs := [.cell 6 29, .tmp 7]) (vs := [.agg #[Y27], .bool false]) (.inl rfl) rfl (RV.cell 2 rfl rfl kk29 rfl ⟨rfl, trivial⟩) hf_ hs_ ⟨Y27, rfl, hs_.pulls [0] rfl⟩
          · refine TW.skip ?_
            refine TE.next ?_
            refine TW.region ?_
            refine TO.y (Y.field_box kf29_0 rfl rfl) rfl rfl rfl ?_
            refine TO.y (Y.load_box (v := Y10) 2 kk24 rfl rfl rfl) rfl rfl rfl ?_
            refine TO.y (Y.move rfl) rfl rfl rfl ?_
            refine TO.bind fun E28 H29 => ?_
            refine TO.y (Y.index ke24 (Can.own 3 rfl) H29 rfl rfl) rfl rfl rfl ?_
            refine TO.ef0 (Ef.store_el (us := [.int .i64 (0 : Int)]) (is' := [.box B1 29 [V_s0], .box B2 29 [.slice none 0 0], .box B11 29 [Y10], .own Y10 (lc 3 (S12.2.set E17.toNat (0 : Int)))]) (0 : Int) 3 kk3 rfl rfl (idx_get H29).2.2 rfl rfl (Cel.plain rfl rfl) rfl rfl rfl rfl) rfl rfl (fun _ => ?_)
            refine TO.nil ?_
            refine TE.block_normal ?_
            refine TE.next ?_
            refine TW.region ?_
            refine TO.y (Y.move rfl) rfl rfl rfl ?_
            refine TO.y (Y.add rfl rfl) rfl rfl rfl ?_
            refine TO.y (Y.assign rfl) rfl rfl rfl ?_
            refine TO.nil ?_
            exact TE.lp_go () [0, 0, 0, 0] ⟨rfl, rfl, rfl, rfl, rfl, rfl, trivial⟩ rfl
      · refine TW.exit ?_
        refine TE.then_exit ?_
        refine TE.lp_exit ?_
        refine TE.block_exit ?_
        exact TE.jn_go () [1, 1, 1] ⟨rfl, rfl, trivial⟩ rfl
    · refine TE.next ?_
      refine TW.seq ?_
      refine TW.region ?_
      refine TO.y (Y.load_box (v := .agg #[Y10]) 1 kk29 rfl rfl rfl) rfl rfl rfl ?_
      refine TO.ef0 (Ef.store_box (us := [Y10]) (vs' := [Y10]) (is' := [.box B2 29 [Y10], .box B11 29 [Y10], .own Y10 (lc 3 T14)]) 0 kk29 rfl rfl rfl (Cel.agg ⟨(One.can (Can.own 2 rfl)), trivial⟩) rfl rfl rfl rfl) rfl rfl (fun _ => ?_)
      refine TO.y (Y.assign rfl) rfl rfl rfl ?_
      refine TO.nil ?_
      refine TE.next ?_
      refine TW.ret ?_
      exact TE.leaf fun _ _ hf_ hs_ => ret_any (rs := [.cell 6 29, .tmp 7]) (vs := [.agg #[Y10], .bool true]) (.inl rfl) rfl (RV.cell 0 rfl rfl kk29 rfl ⟨rfl, trivial⟩) hf_ hs_ ⟨Y10, rfl, hs_.pulls [2] rfl⟩

/-- slices.Clone[[]int,int] -/
noncomputable def slices_Clone_88240 (s : List Int) : Option (List Int) :=
  (app 8 ([] : List Int) s).bind fun E4 =>
  some E4

theorem slices_Clone_88240_con (s : List Int) (V_s0 : Value) (r : List Int) (hm : slices_Clone_88240 s = some r) :
    Con Try.prog 54 [V_s0] [] [(V_s0, lc 3 s)] (fun X : Value => X) (fun X => [.own X (lc 3 r)]) := by
  refine Con.intro (args := [V_s0]) (n := 8) (val := fun _ (X : Value) => X) (post := fun r X => [.own X (lc 3 r)]) (m := slices_Clone_88240 s) Try.func54 rfl rfl rfl hm ?_
  intro w S hrd
  have HB_V_s0 := hrd _ (.head _)
  clear hrd
  unfold slices_Clone_88240
  refine TW.seq ?_
  refine TW.region ?_
  refine TO.y (Y.assign rfl) rfl rfl rfl ?_
  refine TO.nil ?_
  refine TE.next ?_
  refine TW.seq ?_
  refine TW.seq ?_
  refine TW.region ?_
  refine TO.y (Y.move rfl) rfl rfl rfl ?_
  refine TO.y (Y.nileq ke24 (Base.can HB_V_s0) rfl rfl) rfl rfl rfl ?_
  refine TO.nil ?_
  refine TE.next ?_
  refine TW.cond_nil (Base.can HB_V_s0) rfl (fun hnil_ => ?_) ?_
  · subst hnil_
    show TW _ _ _ (some ([])) _ _ _ _ _
    refine TW.seq ?_
    refine TW.region ?_
    refine TO.y (Y.assign rfl) rfl rfl rfl ?_
    refine TO.nil ?_
    refine TE.next ?_
    refine TW.ret ?_
    refine TE.then_ret ?_
    exact TE.leaf fun _ _ hf_ hs_ => ret_any (rs := [.tmp 2]) (vs := [.slice none 0 0]) (.inl rfl) rfl ⟨rfl, trivial⟩ hf_ hs_ ⟨(.slice none 0 0), rfl, (hs_.nilItem 3 1).pulls [0] rfl⟩
  · refine TW.skip ?_
    refine TE.next ?_
    refine TW.seq ?_
    refine TW.region ?_
    refine TO.ef (Ef.buildSlice (α := Int) (Vs := []) ([] : List Int) ke24 kz3 rfl rfl rfl rfl rfl) rfl rfl rfl (fun B2 => ?_)
    refine TO.y (Y.move rfl) rfl rfl rfl ?_
    refine TO.bind fun E4 H5 => ?_
    refine TO.ef (Ef.append (α := Int) (is' := []) [0] H5 ke24 kz3 rfl rfl rfl rfl rfl (Base.can HB_V_s0)) rfl rfl rfl (fun V3 => ?_)
    refine TO.y (Y.assign rfl) rfl rfl rfl ?_
    refine TO.nil ?_
    refine TE.next ?_
    refine TW.ret ?_
    exact TE.leaf fun _ _ hf_ hs_ => ret_any (rs := [.tmp 2]) (vs := [V3]) (.inl rfl) rfl ⟨rfl, trivial⟩ hf_ hs_ ⟨V3, rfl, hs_.pulls [0] rfl⟩

/-- loop.example/g00950/impl.copySpace -/
noncomputable def impl_copySpace (s : Space) : Option Space :=
  (slices_Clone_88240 s.Owner).bind fun R3 =>
  some ({ Owner := R3 : Space })

theorem impl_copySpace_con (s : Space) (V_s0 : Value) (r : Space) (hm : impl_copySpace s = some r) :
    Con Try.prog 50 [.agg #[V_s0]] [] [(V_s0, lc 3 s.Owner)] (fun X : Value => .agg #[X]) (fun X => [.own X (lc 3 r.Owner)]) := by
  refine Con.intro (args := [.agg #[V_s0]]) (n := 7) (val := fun _ (X : Value) => .agg #[X]) (post := fun r X => [.own X (lc 3 r.Owner)]) (m := impl_copySpace s) Try.func50 rfl rfl rfl hm ?_
  intro w S hrd
  have HB_V_s0 := hrd _ (.head _)
  clear hrd
  unfold impl_copySpace
  refine TW.seq ?_
  refine TW.region ?_
  refine TO.ef (Ef.box rfl (Cel.agg ⟨(One.can (Base.can HB_V_s0)), trivial⟩)) rfl rfl rfl (fun B1 => ?_)
  refine TO.ef (Ef.alloc kz29 rfl) rfl rfl rfl (fun B2 => ?_)
  refine TO.nil ?_
  refine TE.next ?_
  refine TW.seq ?_
  refine TW.region ?_
  refine TO.y (Y.field_box kf29_0 rfl rfl) rfl rfl rfl ?_
  refine TO.y (Y.load_box (v := V_s0) 1 kk24 rfl rfl rfl) rfl rfl rfl ?_
  refine TO.bind fun R3 H4 => ?_
  refine TO.ef (Ef.call (rest := [.box B2 29 [.slice none 0 0], .box B1 29 [V_s0]]) [0, 0] (slices_Clone_88240_con s.Owner V_s0 R3 H4) kc54 rfl rfl ⟨(Base.can HB_V_s0), trivial⟩) rfl rfl rfl (fun Y5 => ?_)
  refine TO.y (Y.build (cells := [Y5]) [(0, [Y5])] kp29 kz29 ⟨rfl, ⟨_, rfl, (Cel.one (One.can (Can.own 0 rfl)))⟩, trivial⟩ rfl) rfl rfl rfl ?_
  refine TO.ef0 (Ef.store_box (us := [Y5]) (vs' := [Y5]) (is' := [.own Y5 (lc 3 R3), .box B2 29 [Y5], .box B1 29 [V_s0]]) 1 kk29 rfl rfl rfl (Cel.agg ⟨(One.can (Can.own 0 rfl)), trivial⟩) rfl rfl rfl rfl) rfl rfl (fun _ => ?_)
  refine TO.nil ?_
  refine TE.next ?_
  refine TW.ret ?_
  exact TE.leaf fun _ _ hf_ hs_ => ret_any (rs := [.cell 2 29]) (vs := [.agg #[Y5]]) (.inl rfl) rfl (RV.cell 1 rfl rfl kk29 rfl trivial) hf_ hs_ ⟨Y5, rfl, hs_.pulls [0] rfl⟩

/-- loop.example/g00950/impl.SpaceGive -/
noncomputable def impl_SpaceGive (s : Space) (who : Int) (blocks : List Int) : Option (Space × Bool) :=
  (impl_SpaceOk s).bind fun R3 =>
  if (!R3) = true then (some ({ Owner := ([] : List Int) : Space }, false))
  else ((impl_copySpace s).bind fun R8 =>
  bindC (loopO (fun (S12 : Int × List Int) => if (decide (S12.1 < ((blocks.length : Nat) : Int))) = true then ((idx blocks S12.1).bind fun E17 =>
  (if (decide (who < (1 : Int))) = true then (some true)
  else ((impl_inRange E17 (0 : Int) (IntKind.i64.wrap (((S12.2.length : Nat) : Int) - (1 : Int)))).bind fun R22 =>
  if (!R22) = true then (some true)
  else ((idx S12.2 E17).bind fun E26 =>
  some (!(decide (E26 = who)))))).bind (fun (T19 : Bool) =>
  if T19 = true then (some (.done (.done (R8, false))))
  else ((idx S12.2 E17).bind fun E30 =>
  some (.go (IntKind.i64.wrap (S12.1 + (1 : Int)), (S12.2.set E17.toNat (0 : Int)))))))
  else (some (.done (.go S12.2))))
  ((0 : Int), R8.Owner))
  (fun (T14 : List Int) => some ({ Owner := T14 : Space }, true)))

theorem impl_SpaceGive_con (s : Space) (who : Int) (blocks : List Int) (V_s0 : Value) (V_blocks0 : Value) (r : Space × Bool) (hm : impl_SpaceGive s who blocks = some r) :
    Con Try.prog 28 [.agg #[V_s0], .int .i64 who, V_blocks0] [] [(V_s0, lc 3 s.Owner), (V_blocks0, lc 3 blocks)] (fun X : Value => .tuple #[.agg #[X], .bool r.2]) (fun X => [.own X (lc 3 r.1.Owner)]) := by
  refine Con.intro (args := [.agg #[V_s0], .int .i64 who, V_blocks0]) (n := 51) (val := fun r (X : Value) => .tuple #[.agg #[X], .bool r.2]) (post := fun r X => [.own X (lc 3 r.1.Owner)]) (m := impl_SpaceGive s who blocks) Try.func28 rfl rfl rfl hm ?_
  intro w S hrd
  have HB_V_s0 := hrd _ (.head _)
  have HB_V_blocks0 := hrd _ (.tail _ (.head _))
  clear hrd
  unfold impl_SpaceGive
  refine TW.seq ?_
  refine TW.region ?_
  refine TO.ef (Ef.box rfl (Cel.agg ⟨(One.can (Base.can HB_V_s0)), trivial⟩)) rfl rfl rfl (fun B1 => ?_)
  refine TO.ef (Ef.alloc kz29 rfl) rfl rfl rfl (fun B2 => ?_)
  refine TO.y (Y.assign rfl) rfl rfl rfl ?_
  refine TO.nil ?_
  refine TE.next ?_
  refine TW.seq ?_
  refine TW.seq ?_
  refine TW.region ?_
  refine TO.y (Y.load_box (v := .agg #[V_s0]) 1 kk29 rfl rfl rfl) rfl rfl rfl ?_
  refine TO.bind fun R3 H4 => ?_
  refine TO.ef (Ef.call (rest := [.box B2 29 [.slice none 0 0], .box B1 29 [V_s0]]) [0, 0] (impl_SpaceOk_con s V_s0 R3 H4) kc14 rfl rfl ⟨(Base.can HB_V_s0), trivial⟩) rfl rfl rfl (fun _ => ?_)
  refine TO.y (Y.not rfl) rfl rfl rfl ?_
  refine TO.nil ?_
  refine TE.next ?_
  refine TW.cond rfl (fun H6 => ?_) (fun H6 => ?_)
  · refine TW.seq ?_
    refine TW.region ?_
    refine TO.y (Y.build (cells := [.slice none 0 0]) [] kp29 kz29 trivial rfl) rfl rfl rfl ?_
    refine TO.ef0 (Ef.store_box (us := [.slice none 0 0]) (vs' := [.slice none 0 0]) (is' := [.box B2 29 [.slice none 0 0], .box B1 29 [V_s0]]) 0 kk29 rfl rfl rfl (Cel.plain rfl rfl) rfl rfl rfl rfl) rfl rfl (fun _ => ?_)
    refine TO.y (Y.assign rfl) rfl rfl rfl ?_
    refine TO.nil ?_
    refine TE.next ?_
    refine TW.ret ?_
    refine TE.then_ret ?_
    exact TE.leaf fun _ _ hf_ hs_ => ret_any (rs := [.cell 6 29, .tmp 7]) (vs := [.agg #[.slice none 0 0], .bool false]) (.inl rfl) rfl (RV.cell 0 rfl rfl kk29 rfl ⟨rfl, trivial⟩) hf_ hs_ ⟨(.slice none 0 0), rfl, (hs_.nilItem 3 1).pulls [0] rfl⟩
  · refine TW.skip ?_
    refine TE.next ?_
    refine TW.seq ?_
    refine TW.region ?_
    refine TO.y (Y.load_box (v := .agg #[V_s0]) 1 kk29 rfl rfl rfl) rfl rfl rfl ?_
    refine TO.bind fun R8 H9 => ?_
    refine TO.ef (Ef.call (rest := [.box B2 29 [.slice none 0 0], .box B1 29 [V_s0]]) [0, 0] (impl_copySpace_con s V_s0 R8 H9) kc50 rfl rfl ⟨(Base.can HB_V_s0), trivial⟩) rfl rfl rfl (fun Y10 => ?_)
    refine TO.ef (Ef.alloc kz29 rfl) rfl rfl rfl (fun B11 => ?_)
    refine TO.ef0 (Ef.store_box (us := [Y10]) (vs' := [Y10]) (is' := [.box B11 29 [Y10], .own Y10 (lc 3 R8.Owner), .box B2 29 [.slice none 0 0], .box B1 29 [V_s0]]) 0 kk29 rfl rfl rfl (Cel.agg ⟨(One.can (Can.own 1 rfl)), trivial⟩) rfl rfl rfl rfl) rfl rfl (fun _ => ?_)
    refine TO.nil ?_
    refine TE.next ?_
    refine TW.seq ?_
    refine TW.seq ?_
    refine TW.region ?_
    refine TO.y (Y.move rfl) rfl rfl rfl ?_
    refine TO.y (Y.len (l := blocks) ke24 (Base.can HB_V_blocks0) rfl) rfl rfl rfl ?_
    refine TO.y (Y.move rfl) rfl rfl rfl ?_
    refine TO.nil ?_
    refine TE.next ?_
    refine TW.joinX (τ := List Int) (X := Unit) (fun _ _ => [(6, .pointer (some ⟨B2, 0, none⟩)), (8, .pointer (some ⟨B11, 0, none⟩))]) (fun T _ => [.box B2 29 [.slice none 0 0], .box B11 29 [Y10], .own Y10 (lc 3 T)]) ?_ (fun T14 X15 => ?_)
    · refine TW.block ?_
      refine TW.loopX (σ := Int × List Int) (X := Unit) (fun T _ => [(1, .int .i64 who), (3, .pointer (some ⟨B1, 0, none⟩)), (6, .pointer (some ⟨B2, 0, none⟩)), (8, .pointer (some ⟨B11, 0, none⟩)), (17, V_blocks0), (18, .int .i64 ((blocks.length : Nat) : Int)), (19, .int .i64 T.1)]) (fun T _ => [.box B1 29 [V_s0], .box B2 29 [.slice none 0 0], .box B11 29 [Y10], .own Y10 (lc 3 T.2)]) () [3, 2, 0, 0] ⟨rfl, rfl, rfl, rfl, rfl, rfl, rfl, trivial⟩ rfl (fun S12 X13 => ?_)
      refine TW.seq ?_
      refine TW.region ?_
      refine TO.y (Y.lss rfl rfl) rfl rfl rfl ?_
      refine TO.nil ?_
      refine TE.next ?_
      refine TW.seq ?_
      refine TW.cond rfl (fun H16 => ?_) (fun H16 => ?_)
      · refine TW.skip ?_
        refine TE.next ?_
        refine TW.seq ?_
        refine TW.block ?_
        refine TW.seq ?_
        refine TW.region ?_
        refine TO.bind fun E17 H18 => ?_
        refine TO.y (Y.index ke24 (Base.can HB_V_blocks0) H18 rfl rfl) rfl rfl rfl ?_
        refine TO.y (Y.load_el (us := [.int .i64 E17]) (u := .int .i64 E17) kk3 rfl (Base.can HB_V_blocks0) (idx_get H18).2.2 rfl rfl rfl rfl rfl) rfl rfl rfl ?_
        refine TO.y (Y.assign rfl) rfl rfl rfl ?_
        refine TO.nil ?_
        refine TE.next ?_
        refine TW.seq ?_
        refine TW.seq ?_
        refine TW.joinBX (τ := Bool) (X := Unit) (fun T _ => [(1, .int .i64 who), (3, .pointer (some ⟨B1, 0, none⟩)), (6, .pointer (some ⟨B2, 0, none⟩)), (8, .pointer (some ⟨B11, 0, none⟩)), (10, .int .i64 E17), (17, V_blocks0), (18, .int .i64 ((blocks.length : Nat) : Int)), (19, .int .i64 S12.1), (42, .bool T)]) (fun _ _ => [.box B1 29 [V_s0], .box B2 29 [.slice none 0 0], .box B11 29 [Y10], .own Y10 (lc 3 S12.2)]) ?_ (fun T19 X20 => ?_)
        · refine TW.region ?_
          refine TO.y (Y.move rfl) rfl rfl rfl ?_
          refine TO.y (Y.lss rfl rfl) rfl rfl rfl ?_
          refine TO.y (Y.move rfl) rfl rfl rfl ?_
          refine TO.ite (b := decide (who < (1 : Int))) (fun H21 => ?_) (fun H21 => ?_)
          · refine TO.off (Gd.at 2 false 25 (decide (who < (1 : Int))) rfl rfl rfl (beq_tf H21)) rfl rfl ?_
            refine TO.off (Gd.at 2 false 25 (decide (who < (1 : Int))) rfl rfl rfl (beq_tf H21)) rfl rfl ?_
            refine TO.off (Gd.at 2 false 25 (decide (who < (1 : Int))) rfl rfl rfl (beq_tf H21)) rfl rfl ?_
            refine TO.off (Gd.at 2 false 25 (decide (who < (1 : Int))) rfl rfl rfl (beq_tf H21)) rfl rfl ?_
            refine TO.off (Gd.at 2 false 25 (decide (who < (1 : Int))) rfl rfl rfl (beq_tf H21)) rfl rfl ?_
            refine TO.off (Gd.at 2 false 25 (decide (who < (1 : Int))) rfl rfl rfl (beq_tf H21)) rfl rfl ?_
            refine TO.off (Gd.at 2 false 25 (decide (who < (1 : Int))) rfl rfl rfl (beq_tf H21)) rfl rfl ?_
            refine TO.y (Y.pick_t H21 rfl rfl) rfl rfl rfl ?_
            refine TO.y (Y.move rfl) rfl rfl rfl ?_
            refine TO.off (Gd.at 11 false 34 true rfl rfl rfl rfl) rfl rfl ?_
            refine TO.off (Gd.at 11 false 34 true rfl rfl rfl rfl) rfl rfl ?_
            refine TO.off (Gd.at 11 false 34 true rfl rfl rfl rfl) rfl rfl ?_
            refine TO.off (Gd.at 11 false 34 true rfl rfl rfl rfl) rfl rfl ?_
            refine TO.off (Gd.at 11 false 34 true rfl rfl rfl rfl) rfl rfl ?_
            refine TO.off (Gd.at 11 false 34 true rfl rfl rfl rfl) rfl rfl ?_
            refine TO.off (Gd.at 11 false 34 true rfl rfl rfl rfl) rfl rfl ?_
            refine TO.y (Y.pick_t rfl rfl rfl) rfl rfl rfl ?_
            refine TO.nil ?_
            exact TE.jb_go () [0, 0, 0, 0] ⟨rfl, rfl, rfl, rfl, rfl, rfl, rfl, rfl, rfl, trivial⟩ rfl
          · refine TO.y (Y.move rfl) (Gd.at 2 false 25 (decide (who < (1 : Int))) rfl rfl rfl (beq_ff H21)) rfl rfl ?_
            refine TO.y (Y.field_box kf29_0 rfl rfl) (Gd.at 2 false 25 (decide (who < (1 : Int))) rfl rfl rfl (beq_ff H21)) rfl rfl ?_
            refine TO.y (Y.load_box (v := Y10) 2 kk24 rfl rfl rfl) (Gd.at 2 false 25 (decide (who < (1 : Int))) rfl rfl rfl (beq_ff H21)) rfl rfl ?_
            refine TO.y (Y.len (l := S12.2) ke24 (Can.own 3 rfl) rfl) (Gd.at 2 false 25 (decide (who < (1 : Int))) rfl rfl rfl (beq_ff H21)) rfl rfl ?_
            refine TO.y (Y.sub rfl rfl) (Gd.at 2 false 25 (decide (who < (1 : Int))) rfl rfl rfl (beq_ff H21)) rfl rfl ?_
            refine TO.bind fun R22 H23 => ?_
            refine TO.ef (Ef.call (rest := [.box B1 29 [V_s0], .box B2 29 [.slice none 0 0], .box B11 29 [Y10], .own Y10 (lc 3 S12.2)]) [0, 0, 0, 0] (impl_inRange_con E17 (0 : Int) (IntKind.i64.wrap (((S12.2.length : Nat) : Int) - (1 : Int)))  R22 H23) kc38 rfl rfl trivial) (Gd.at 2 false 25 (decide (who < (1 : Int))) rfl rfl rfl (beq_ff H21)) rfl rfl (fun _ => ?_)
            refine TO.y (Y.not rfl) (Gd.at 2 false 25 (decide (who < (1 : Int))) rfl rfl rfl (beq_ff H21)) rfl rfl ?_
            refine TO.y (Y.pick_f H21 rfl rfl) rfl rfl rfl ?_
            refine TO.y (Y.move rfl) rfl rfl rfl ?_
            refine TO.ite (b := !R22) (fun H25 => ?_) (fun H25 => ?_)
            · refine TO.off (Gd.at 11 false 34 (!R22) rfl rfl rfl (beq_tf H25)) rfl rfl ?_
              refine TO.off (Gd.at 11 false 34 (!R22) rfl rfl rfl (beq_tf H25)) rfl rfl ?_
              refine TO.off (Gd.at 11 false 34 (!R22) rfl rfl rfl (beq_tf H25)) rfl rfl ?_
              refine TO.off (Gd.at 11 false 34 (!R22) rfl rfl rfl (beq_tf H25)) rfl rfl ?_
              refine TO.off (Gd.at 11 false 34 (!R22) rfl rfl rfl (beq_tf H25)) rfl rfl ?_
              refine TO.off (Gd.at 11 false 34 (!R22) rfl rfl rfl (beq_tf H25)) rfl rfl ?_
              refine TO.off (Gd.at 11 false 34 (!R22) rfl rfl rfl (beq_tf H25)) rfl rfl ?_
              refine TO.y (Y.pick_t H25 rfl rfl) rfl rfl rfl ?_
              refine TO.nil ?_
              exact TE.jb_go () [0, 0, 0, 0] ⟨rfl, rfl, rfl, rfl, rfl, rfl, rfl, rfl, rfl, trivial⟩ rfl
            · refine TO.y (Y.field_box kf29_0 rfl rfl) (Gd.at 11 false 34 (!R22) rfl rfl rfl (beq_ff H25)) rfl rfl ?_
              refine TO.y (Y.load_box (v := Y10) 2 kk24 rfl rfl rfl) (Gd.at 11 false 34 (!R22) rfl rfl rfl (beq_ff H25)) rfl rfl ?_
              refine TO.y (Y.move rfl) (Gd.at 11 false 34 (!R22) rfl rfl rfl (beq_ff H25)) rfl rfl ?_
              refine TO.bind fun E26 H27 => ?_
              refine TO.y (Y.index ke24 (Can.own 3 rfl) H27 rfl rfl) (Gd.at 11 false 34 (!R22) rfl rfl rfl (beq_ff H25)) rfl rfl ?_
              refine TO.y (Y.load_el (us := [.int .i64 E26]) (u := .int .i64 E26) kk3 rfl (Can.own 3 rfl) (idx_get H27).2.2 rfl rfl rfl rfl rfl) (Gd.at 11 false 34 (!R22) rfl rfl rfl (beq_ff H25)) rfl rfl ?_
              refine TO.y (Y.move rfl) (Gd.at 11 false 34 (!R22) rfl rfl rfl (beq_ff H25)) rfl rfl ?_
              refine TO.y (Y.neq rfl rfl) (Gd.at 11 false 34 (!R22) rfl rfl rfl (beq_ff H25)) rfl rfl ?_
              refine TO.y (Y.pick_f H25 rfl rfl) rfl rfl rfl ?_
              refine TO.nil ?_
              exact TE.jb_go () [0, 0, 0, 0] ⟨rfl, rfl, rfl, rfl, rfl, rfl, rfl, rfl, rfl, trivial⟩ rfl
        · refine TE.next ?_
          refine TW.cond rfl (fun H28 => ?_) (fun H28 => ?_)
          · refine TW.seq ?_
            refine TW.region ?_
            refine TO.y (Y.load_box (v := .agg #[V_s0]) 0 kk29 rfl rfl rfl) rfl rfl rfl ?_
            refine TO.ef (Ef.call (rest := [.box B1 29 [V_s0], .box B2 29 [.slice none 0 0], .box B11 29 [Y10], .own Y10 (lc 3 S12.2)]) [0, 0, 0, 0] (impl_copySpace_con s V_s0 R8 H9) kc50 rfl rfl ⟨(Base.can HB_V_s0), trivial⟩) rfl rfl rfl (fun Y29 => ?_)
            refine TO.ef0 (Ef.store_box (us := [Y29]) (vs' := [Y29]) (is' := [.own Y29 (lc 3 R8.Owner), .box B1 29 [V_s0], .box B2 29 [Y29], .box B11 29 [Y10], .own Y10 (lc 3 S12.2)]) 2 kk29 rfl rfl rfl (Cel.agg ⟨(One.can (Can.own 0 rfl)), trivial⟩) rfl rfl rfl rfl) rfl rfl (fun _ => ?_)
            refine TO.y (Y.assign rfl) rfl rfl rfl ?_
            refine TO.nil ?_
            refine TE.next ?_
            refine TW.ret ?_
            refine TE.then_ret ?_
            refine TE.block_ret ?_
            refine TE.then_ret ?_
            refine TE.lp_ret ?_
            refine TE.block_ret ?_
            refine TE.jn_done ?_
            refine TE.then_ret ?_
            exact TE.leaf fun _ _ hf_ hs_ => ret_any (rs := [.cell 6 29, .tmp 7]) (vs := [.agg #[Y29], .bool false]) (.inl rfl) rfl (RV.cell 2 rfl rfl kk29 rfl ⟨rfl, trivial⟩) hf_ hs_ ⟨Y29, rfl, hs_.pulls [0] rfl⟩
          · refine TW.skip ?_
            refine TE.next ?_
            refine TW.region ?_
            refine TO.y (Y.field_box kf29_0 rfl rfl) rfl rfl rfl ?_
            refine TO.y (Y.load_box (v := Y10) 2 kk24 rfl rfl rfl) rfl rfl rfl ?_
            refine TO.y (Y.move rfl) rfl rfl rfl ?_
            refine TO.bind fun E30 H31 => ?_
            refine TO.y (Y.index ke24 (Can.own 3 rfl) H31 rfl rfl) rfl rfl rfl ?_
            refine TO.ef0 (Ef.store_el (us := [.int .i64 (0 : Int)]) (is' := [.box B1 29 [V_s0], .box B2 29 [.slice none 0 0], .box B11 29 [Y10], .own Y10 (lc 3 (S12.2.set E17.toNat (0 : Int)))]) (0 : Int) 3 kk3 rfl rfl (idx_get H31).2.2 rfl rfl (Cel.plain rfl rfl) rfl rfl rfl rfl) rfl rfl (fun _ => ?_)
            refine TO.nil ?_
            refine TE.block_normal ?_
            refine TE.next ?_
            refine TW.region ?_
            refine TO.y (Y.add rfl rfl) rfl rfl rfl ?_
            refine TO.y (Y.move rfl) rfl rfl rfl ?_
            refine TO.nil ?_
            exact TE.lp_go () [0, 0, 0, 0] ⟨rfl, rfl, rfl, rfl, rfl, rfl, rfl, trivial⟩ rfl
      · refine TW.exit ?_
        refine TE.then_exit ?_
        refine TE.lp_exit ?_
        refine TE.block_exit ?_
        exact TE.jn_go () [1, 1, 1] ⟨rfl, rfl, trivial⟩ rfl
    · refine TE.next ?_
      refine TW.seq ?_
      refine TW.region ?_
      refine TO.y (Y.load_box (v := .agg #[Y10]) 1 kk29 rfl rfl rfl) rfl rfl rfl ?_
      refine TO.ef0 (Ef.store_box (us := [Y10]) (vs' := [Y10]) (is' := [.box B2 29 [Y10], .box B11 29 [Y10], .own Y10 (lc 3 T14)]) 0 kk29 rfl rfl rfl (Cel.agg ⟨(One.can (Can.own 2 rfl)), trivial⟩) rfl rfl rfl rfl) rfl rfl (fun _ => ?_)
      refine TO.y (Y.assign rfl) rfl rfl rfl ?_
      refine TO.nil ?_
      refine TE.next ?_
      refine TW.ret ?_
      exact TE.leaf fun _ _ hf_ hs_ => ret_any (rs := [.cell 6 29, .tmp 7]) (vs := [.agg #[Y10], .bool true]) (.inl rfl) rfl (RV.cell 0 rfl rfl kk29 rfl ⟨rfl, trivial⟩) hf_ hs_ ⟨Y10, rfl, hs_.pulls [2] rfl⟩

/-- loop.example/g00950/laws.markIntS -/
noncomputable def laws_markIntS (a : List Int) (k : Int) : Option (Int × List Int) :=
  bindC (loopO (fun (S1 : Int × Int × List Int) => if (decide (S1.2.1 < ((S1.2.2.length : Nat) : Int))) = true then ((idx S1.2.2 S1.2.1).bind fun E6 =>
  some (.go (IntKind.i64.wrap (S1.1 + (1 : Int)), IntKind.i64.wrap (S1.2.1 + (1 : Int)), (S1.2.2.set S1.2.1.toNat S1.1))))
  else (some (.done (.go (S1.1, S1.2.2)))))
  (k, (0 : Int), a))
  (fun (T3 : Int × List Int) => some (T3.1, T3.2))

theorem laws_markIntS_con (a : List Int) (k : Int) (V_a0 : Value) (r : Int × List Int) (hm : laws_markIntS a k = some r) :
    Con Try.prog 31 [V_a0, .int .i64 k] [.own V_a0 (lc 3 a)] [] (fun _ : Unit => .int .i64 r.1) (fun _ => [.own V_a0 (lc 3 r.2)]) := by
  refine Con.intro (args := [V_a0, .int .i64 k]) (n := 19) (val := fun r (_ : Unit) => .int .i64 r.1) (post := fun r _ => [.own V_a0 (lc 3 r.2)]) (m := laws_markIntS a k) Try.func31 rfl rfl rfl hm ?_
  intro w S _
  unfold laws_markIntS
  refine TW.seq ?_
  refine TW.region ?_
  refine TO.y (Y.assign rfl) rfl rfl rfl ?_
  refine TO.nil ?_
  refine TE.next ?_
  refine TW.seq ?_
  refine TW.seq ?_
  refine TW.region ?_
  refine TO.y (Y.assign rfl) rfl rfl rfl ?_
  refine TO.nil ?_
  refine TE.next ?_
  refine TW.joinX (τ := Int × List Int) (X := Unit) (fun T _ => [(1, .int .i64 T.1)]) (fun T _ => [.own V_a0 (lc 3 T.2)]) ?_ (fun T3 X4 => ?_)
  · refine TW.block ?_
    refine TW.loopX (σ := Int × Int × List Int) (X := Unit) (fun T _ => [(0, V_a0), (1, .int .i64 T.1), (5, .int .i64 T.2.1)]) (fun T _ => [.own V_a0 (lc 3 T.2.2)]) () [0] ⟨rfl, rfl, rfl, trivial⟩ rfl (fun S1 X2 => ?_)
    refine TW.seq ?_
    refine TW.seq ?_
    refine TW.region ?_
    refine TO.y (Y.move rfl) rfl rfl rfl ?_
    refine TO.y (Y.move rfl) rfl rfl rfl ?_
    refine TO.y (Y.len (l := S1.2.2) ke24 (Can.own 0 rfl) rfl) rfl rfl rfl ?_
    refine TO.y (Y.lss rfl rfl) rfl rfl rfl ?_
    refine TO.nil ?_
    refine TE.next ?_
    refine TW.cond rfl (fun H5 => ?_) (fun H5 => ?_)
    · refine TW.skip ?_
      refine TE.next ?_
      refine TW.seq ?_
      refine TW.block ?_
      refine TW.seq ?_
      refine TW.region ?_
      refine TO.y (Y.move rfl) rfl rfl rfl ?_
      refine TO.y (Y.move rfl) rfl rfl rfl ?_
      refine TO.y (Y.move rfl) rfl rfl rfl ?_
      refine TO.bind fun E6 H7 => ?_
      refine TO.y (Y.index ke24 (Can.own 0 rfl) H7 rfl rfl) rfl rfl rfl ?_
      refine TO.ef0 (Ef.store_el (us := [.int .i64 S1.1]) (is' := [.own V_a0 (lc 3 (S1.2.2.set S1.2.1.toNat S1.1))]) S1.1 0 kk3 rfl rfl (idx_get H7).2.2 rfl rfl (Cel.plain rfl rfl) rfl rfl rfl rfl) rfl rfl (fun _ => ?_)
      refine TO.nil ?_
      refine TE.next ?_
      refine TW.region ?_
      refine TO.y (Y.move rfl) rfl rfl rfl ?_
      refine TO.y (Y.add rfl rfl) rfl rfl rfl ?_
      refine TO.y (Y.assign rfl) rfl rfl rfl ?_
      refine TO.nil ?_
      refine TE.block_normal ?_
      refine TE.next ?_
      refine TW.region ?_
      refine TO.y (Y.move rfl) rfl rfl rfl ?_
      refine TO.y (Y.add rfl rfl) rfl rfl rfl ?_
      refine TO.y (Y.assign rfl) rfl rfl rfl ?_
      refine TO.nil ?_
      exact TE.lp_go () [0] ⟨rfl, rfl, rfl, trivial⟩ rfl
    · refine TW.exit ?_
      refine TE.then_exit ?_
      refine TE.lp_exit ?_
      refine TE.block_exit ?_
      exact TE.jn_go () [0] ⟨rfl, trivial⟩ rfl
  · refine TE.next ?_
    refine TW.seq ?_
    refine TW.region ?_
    refine TO.y (Y.move rfl) rfl rfl rfl ?_
    refine TO.y (Y.assign rfl) rfl rfl rfl ?_
    refine TO.nil ?_
    refine TE.next ?_
    refine TW.ret ?_
    exact TE.leaf fun _ _ hf_ hs_ => ret_any (rs := [.tmp 4]) (vs := [.int .i64 T3.1]) (.inl rfl) rfl ⟨rfl, trivial⟩ hf_ hs_ ⟨(), rfl, hs_.pulls [0] rfl⟩

/-- loop.example/g00950/laws.markSpace -/
noncomputable def laws_markSpace (a : Space) (k : Int) : Option (Int × List Int) :=
  (laws_markIntS a.Owner k).bind fun R2 =>
  some (R2.1, R2.2)

theorem laws_markSpace_con (a : Space) (k : Int) (V_a0 : Value) (r : Int × List Int) (hm : laws_markSpace a k = some r) :
    Con Try.prog 30 [.agg #[V_a0], .int .i64 k] [.own V_a0 (lc 3 a.Owner)] [] (fun _ : Unit => .int .i64 r.1) (fun _ => [.own V_a0 (lc 3 r.2)]) := by
  refine Con.intro (args := [.agg #[V_a0], .int .i64 k]) (n := 10) (val := fun r (_ : Unit) => .int .i64 r.1) (post := fun r _ => [.own V_a0 (lc 3 r.2)]) (m := laws_markSpace a k) Try.func30 rfl rfl rfl hm ?_
  intro w S _
  unfold laws_markSpace
  refine TW.seq ?_
  refine TW.region ?_
  refine TO.ef (Ef.box rfl (Cel.agg ⟨(One.can (Can.own 0 rfl)), trivial⟩)) rfl rfl rfl (fun B1 => ?_)
  refine TO.y (Y.assign rfl) rfl rfl rfl ?_
  refine TO.nil ?_
  refine TE.next ?_
  refine TW.seq ?_
  refine TW.region ?_
  refine TO.y (Y.field_box kf29_0 rfl rfl) rfl rfl rfl ?_
  refine TO.y (Y.load_box (v := V_a0) 0 kk24 rfl rfl rfl) rfl rfl rfl ?_
  refine TO.y (Y.move rfl) rfl rfl rfl ?_
  refine TO.bind fun R2 H3 => ?_
  refine TO.ef (Ef.call (rest := [.box B1 29 [V_a0]]) [1, 0] (laws_markIntS_con a.Owner k V_a0 R2 H3) kc31 rfl rfl trivial) rfl rfl rfl (fun _ => ?_)
  refine TO.y (Y.assign rfl) rfl rfl rfl ?_
  refine TO.nil ?_
  refine TE.next ?_
  refine TW.seq ?_
  refine TW.region ?_
  refine TO.y (Y.move rfl) rfl rfl rfl ?_
  refine TO.y (Y.assign rfl) rfl rfl rfl ?_
  refine TO.nil ?_
  refine TE.next ?_
  refine TW.ret ?_
  exact TE.leaf fun _ _ hf_ hs_ => ret_any (rs := [.tmp 4]) (vs := [.int .i64 R2.1]) (.inl rfl) rfl ⟨rfl, trivial⟩ hf_ hs_ ⟨(), rfl, hs_.pulls [0] rfl⟩

/-- loop.example/g00950/laws.heldIntS -/
noncomputable def laws_heldIntS (a : List Int) (k : Int) : Option Int :=
  bindC (loopO (fun (S1 : Int × Int) => if (decide (S1.2 < ((a.length : Nat) : Int))) = true then ((idx a S1.2).bind fun E6 =>
  if (!(decide (E6 = S1.1))) = true then (some (.done (.done (-1 : Int))))
  else (some (.go (IntKind.i64.wrap (S1.1 + (1 : Int)), IntKind.i64.wrap (S1.2 + (1 : Int))))))
  else (some (.done (.go S1.1))))
  (k, (0 : Int)))
  (fun (T3 : Int) => some T3)

theorem laws_heldIntS_con (a : List Int) (k : Int) (V_a0 : Value) (r : Int) (hm : laws_heldIntS a k = some r) :
    Con Try.prog 36 [V_a0, .int .i64 k] [] [(V_a0, lc 3 a)] (fun _ : Unit => .int .i64 r) (fun _ => []) := by
  refine Con.intro (args := [V_a0, .int .i64 k]) (n := 21) (val := fun r (_ : Unit) => .int .i64 r) (post := fun _ _ => []) (m := laws_heldIntS a k) Try.func36 rfl rfl rfl hm ?_
  intro w S hrd
  have HB_V_a0 := hrd _ (.head _)
  clear hrd
  unfold laws_heldIntS
  refine TW.seq ?_
  refine TW.region ?_
  refine TO.y (Y.assign rfl) rfl rfl rfl ?_
  refine TO.nil ?_
  refine TE.next ?_
  refine TW.seq ?_
  refine TW.seq ?_
  refine TW.region ?_
  refine TO.y (Y.assign rfl) rfl rfl rfl ?_
  refine TO.nil ?_
  refine TE.next ?_
  refine TW.joinX (τ := Int) (X := Unit) (fun T _ => [(1, .int .i64 T)]) (fun _ _ => []) ?_ (fun T3 X4 => ?_)
  · refine TW.block ?_
    refine TW.loopX (σ := Int × Int) (X := Unit) (fun T _ => [(0, V_a0), (1, .int .i64 T.1), (5, .int .i64 T.2)]) (fun _ _ => []) () [] ⟨rfl, rfl, rfl, trivial⟩ rfl (fun S1 X2 => ?_)
    refine TW.seq ?_
    refine TW.seq ?_
    refine TW.region ?_
    refine TO.y (Y.move rfl) rfl rfl rfl ?_
    refine TO.y (Y.move rfl) rfl rfl rfl ?_
    refine TO.y (Y.len (l := a) ke24 (Base.can HB_V_a0) rfl) rfl rfl rfl ?_
    refine TO.y (Y.lss rfl rfl) rfl rfl rfl ?_
    refine TO.nil ?_
    refine TE.next ?_
    refine TW.cond rfl (fun H5 => ?_) (fun H5 => ?_)
    · refine TW.skip ?_
      refine TE.next ?_
      refine TW.seq ?_
      refine TW.block ?_
      refine TW.seq ?_
      refine TW.seq ?_
      refine TW.region ?_
      refine TO.y (Y.move rfl) rfl rfl rfl ?_
      refine TO.y (Y.move rfl) rfl rfl rfl ?_
      refine TO.bind fun E6 H7 => ?_
      refine TO.y (Y.index ke24 (Base.can HB_V_a0) H7 rfl rfl) rfl rfl rfl ?_
      refine TO.y (Y.load_el (us := [.int .i64 E6]) (u := .int .i64 E6) kk3 rfl (Base.can HB_V_a0) (idx_get H7).2.2 rfl rfl rfl rfl rfl) rfl rfl rfl ?_
      refine TO.y (Y.move rfl) rfl rfl rfl ?_
      refine TO.y (Y.neq rfl rfl) rfl rfl rfl ?_
      refine TO.nil ?_
      refine TE.next ?_
      refine TW.cond rfl (fun H8 => ?_) (fun H8 => ?_)
      · refine TW.seq ?_
        refine TW.region ?_
        refine TO.y (Y.assign rfl) rfl rfl rfl ?_
        refine TO.nil ?_
        refine TE.next ?_
        refine TW.ret ?_
        refine TE.then_ret ?_
        refine TE.block_ret ?_
        refine TE.then_ret ?_
        refine TE.lp_ret ?_
        refine TE.block_ret ?_
        refine TE.jn_done ?_
        refine TE.then_ret ?_
        exact TE.leaf fun _ _ hf_ hs_ => ret_any (rs := [.tmp 4]) (vs := [.int .i64 (-1 : Int)]) (.inl rfl) rfl ⟨rfl, trivial⟩ hf_ hs_ ⟨(), rfl, hs_.pulls [] rfl⟩
      · refine TW.skip ?_
        refine TE.next ?_
        refine TW.region ?_
        refine TO.y (Y.move rfl) rfl rfl rfl ?_
        refine TO.y (Y.add rfl rfl) rfl rfl rfl ?_
        refine TO.y (Y.assign rfl) rfl rfl rfl ?_
        refine TO.nil ?_
        refine TE.block_normal ?_
        refine TE.next ?_
        refine TW.region ?_
        refine TO.y (Y.move rfl) rfl rfl rfl ?_
        refine TO.y (Y.add rfl rfl) rfl rfl rfl ?_
        refine TO.y (Y.assign rfl) rfl rfl rfl ?_
        refine TO.nil ?_
        exact TE.lp_go () [] ⟨rfl, rfl, rfl, trivial⟩ rfl
    · refine TW.exit ?_
      refine TE.then_exit ?_
      refine TE.lp_exit ?_
      refine TE.block_exit ?_
      exact TE.jn_go () [] ⟨rfl, trivial⟩ rfl
  · refine TE.next ?_
    refine TW.seq ?_
    refine TW.region ?_
    refine TO.y (Y.move rfl) rfl rfl rfl ?_
    refine TO.y (Y.assign rfl) rfl rfl rfl ?_
    refine TO.nil ?_
    refine TE.next ?_
    refine TW.ret ?_
    exact TE.leaf fun _ _ hf_ hs_ => ret_any (rs := [.tmp 4]) (vs := [.int .i64 T3]) (.inl rfl) rfl ⟨rfl, trivial⟩ hf_ hs_ ⟨(), rfl, hs_.pulls [] rfl⟩

/-- loop.example/g00950/laws.heldSpace -/
noncomputable def laws_heldSpace (a : Space) (k : Int) : Option Int :=
  (laws_heldIntS a.Owner k).bind fun R2 =>
  if (decide (R2 < (0 : Int))) = true then (some (-1 : Int))
  else (some R2)

theorem laws_heldSpace_con (a : Space) (k : Int) (V_a0 : Value) (r : Int) (hm : laws_heldSpace a k = some r) :
    Con Try.prog 32 [.agg #[V_a0], .int .i64 k] [] [(V_a0, lc 3 a.Owner)] (fun _ : Unit => .int .i64 r) (fun _ => []) := by
  refine Con.intro (args := [.agg #[V_a0], .int .i64 k]) (n := 12) (val := fun r (_ : Unit) => .int .i64 r) (post := fun _ _ => []) (m := laws_heldSpace a k) Try.func32 rfl rfl rfl hm ?_
  intro w S hrd
  have HB_V_a0 := hrd _ (.head _)
  clear hrd
  unfold laws_heldSpace
  refine TW.seq ?_
  refine TW.region ?_
  refine TO.ef (Ef.box rfl (Cel.agg ⟨(One.can (Base.can HB_V_a0)), trivial⟩)) rfl rfl rfl (fun B1 => ?_)
  refine TO.y (Y.assign rfl) rfl rfl rfl ?_
  refine TO.nil ?_
  refine TE.next ?_
  refine TW.seq ?_
  refine TW.region ?_
  refine TO.y (Y.field_box kf29_0 rfl rfl) rfl rfl rfl ?_
  refine TO.y (Y.load_box (v := V_a0) 0 kk24 rfl rfl rfl) rfl rfl rfl ?_
  refine TO.y (Y.move rfl) rfl rfl rfl ?_
  refine TO.bind fun R2 H3 => ?_
  refine TO.ef (Ef.call (rest := [.box B1 29 [V_a0]]) [0] (laws_heldIntS_con a.Owner k V_a0 R2 H3) kc36 rfl rfl ⟨(Base.can HB_V_a0), trivial⟩) rfl rfl rfl (fun _ => ?_)
  refine TO.y (Y.assign rfl) rfl rfl rfl ?_
  refine TO.nil ?_
  refine TE.next ?_
  refine TW.seq ?_
  refine TW.seq ?_
  refine TW.region ?_
  refine TO.y (Y.move rfl) rfl rfl rfl ?_
  refine TO.y (Y.lss rfl rfl) rfl rfl rfl ?_
  refine TO.nil ?_
  refine TE.next ?_
  refine TW.cond rfl (fun H5 => ?_) (fun H5 => ?_)
  · refine TW.seq ?_
    refine TW.region ?_
    refine TO.y (Y.assign rfl) rfl rfl rfl ?_
    refine TO.nil ?_
    refine TE.next ?_
    refine TW.ret ?_
    refine TE.then_ret ?_
    exact TE.leaf fun _ _ hf_ hs_ => ret_any (rs := [.tmp 4]) (vs := [.int .i64 (-1 : Int)]) (.inl rfl) rfl ⟨rfl, trivial⟩ hf_ hs_ ⟨(), rfl, hs_.pulls [] rfl⟩
  · refine TW.skip ?_
    refine TE.next ?_
    refine TW.seq ?_
    refine TW.region ?_
    refine TO.y (Y.move rfl) rfl rfl rfl ?_
    refine TO.y (Y.assign rfl) rfl rfl rfl ?_
    refine TO.nil ?_
    refine TE.next ?_
    refine TW.ret ?_
    exact TE.leaf fun _ _ hf_ hs_ => ret_any (rs := [.tmp 4]) (vs := [.int .i64 R2]) (.inl rfl) rfl ⟨rfl, trivial⟩ hf_ hs_ ⟨(), rfl, hs_.pulls [] rfl⟩

/-- loop.example/g00950/laws.FnExactSpaceGive -/
noncomputable def laws_FnExactSpaceGive (aS : Space) (aWho : Int) (aBlocks : List Int) : Option Bool :=
  if (decide (((aBlocks.length : Nat) : Int) > (1048576 : Int))) = true then (some true)
  else ((laws_szSpace aS (1048576 : Int)).bind fun R3 =>
  if (decide (R3 < (0 : Int))) = true then (some true)
  else ((laws_toSpace aS).bind fun R7 =>
  (laws_toIntS aBlocks).bind fun R10 =>
  (spec_SpaceGive R7 aWho R10).bind fun R13 =>
  (impl_SpaceGive R7 aWho R10).bind fun R20 =>
  ((laws_eqSpace R20.1 R13.1).bind fun R26 =>
  if (!R26) = true then (some true)
  else (some (!(decide (R20.2 = R13.2))))).bind (fun (T24 : Bool) =>
  if T24 = true then (some false)
  else ((laws_eqSpace R7 R7).bind fun R32 =>
  if (!R32) = true then (some false)
  else ((laws_eqIntS R10 R10).bind fun R37 =>
  if (!R37) = true then (some false)
  else ((laws_markSpace R7 (1 : Int)).bind fun R41 =>
  (laws_markIntS R10 R41.1).bind fun R44 =>
  (if (decide (R44.1 < (0 : Int))) = true then (some true)
  else ((laws_eqSpace R20.1 R13.1).bind fun R50 =>
  if (!R50) = true then (some true)
  else (some (!(decide (R20.2 = R13.2)))))).bind (fun (T47 : Bool) =>
  if T47 = true then (some false)
  else ((laws_markSpace R20.1 (1 : Int)).bind fun R55 =>
  (laws_heldSpace ({ Owner := R55.2 : Space }) (1 : Int)).bind fun R58 =>
  if (decide (R58 < (0 : Int))) = true then (some false)
  else (if (!(decide (R58 = R55.1))) = true then (some false)
  else (((laws_eqSpace R20.1 R13.1).bind fun R69 =>
  if (!R69) = true then (some true)
  else (some (!(decide (R20.2 = R13.2))))).bind (fun (T67 : Bool) =>
  if T67 = true then (some false)
  else (if (decide (R58 < (0 : Int))) = true then (some false)
  else (if (!(decide (R58 = R55.1))) = true then (some false)
  else (some true))))))))))))))

theorem laws_FnExactSpaceGive_con (aS : Space) (aWho : Int) (aBlocks : List Int) (V_aS0 : Value) (V_aBlocks0 : Value) (r : Bool) (hm : laws_FnExactSpaceGive aS aWho aBlocks = some r) :
    Con Try.prog 7 [.agg #[V_aS0], .int .i64 aWho, V_aBlocks0] [] [(V_aS0, lc 3 aS.Owner), (V_aBlocks0, lc 3 aBlocks)] (fun _ : Unit => .bool r) (fun _ => []) := by
  refine Con.intro (args := [.agg #[V_aS0], .int .i64 aWho, V_aBlocks0]) (n := 122) (val := fun r (_ : Unit) => .bool r) (post := fun _ _ => []) (m := laws_FnExactSpaceGive aS aWho aBlocks) Try.func7 rfl rfl rfl hm ?_
  intro w S hrd
  have HB_V_aS0 := hrd _ (.head _)
  have HB_V_aBlocks0 := hrd _ (.tail _ (.head _))
  clear hrd
  unfold laws_FnExactSpaceGive
  refine TW.seq ?_
  refine TW.region ?_
  refine TO.ef (Ef.box rfl (Cel.agg ⟨(One.can (Base.can HB_V_aS0)), trivial⟩)) rfl rfl rfl (fun B1 => ?_)
  refine TO.y (Y.assign rfl) rfl rfl rfl ?_
  refine TO.nil ?_
  refine TE.next ?_
  refine TW.seq ?_
  refine TW.seq ?_
  refine TW.region ?_
  refine TO.y (Y.move rfl) rfl rfl rfl ?_
  refine TO.y (Y.len (l := aBlocks) ke24 (Base.can HB_V_aBlocks0) rfl) rfl rfl rfl ?_
  refine TO.y (Y.gtr rfl rfl) rfl rfl rfl ?_
  refine TO.nil ?_
  refine TE.next ?_
  refine TW.cond rfl (fun H2 => ?_) (fun H2 => ?_)
  · refine TW.seq ?_
    refine TW.region ?_
    refine TO.y (Y.assign rfl) rfl rfl rfl ?_
    refine TO.nil ?_
    refine TE.next ?_
    refine TW.ret ?_
    refine TE.then_ret ?_
    exact TE.leaf fun _ _ hf_ hs_ => ret_any (rs := [.tmp 6]) (vs := [.bool true]) (.inl rfl) rfl ⟨rfl, trivial⟩ hf_ hs_ ⟨(), rfl, hs_.pulls [] rfl⟩
  · refine TW.skip ?_
    refine TE.next ?_
    refine TW.seq ?_
    refine TW.region ?_
    refine TO.y (Y.assign rfl) rfl rfl rfl ?_
    refine TO.nil ?_
    refine TE.next ?_
    refine TW.seq ?_
    refine TW.region ?_
    refine TO.y (Y.load_box (v := .agg #[V_aS0]) 0 kk26 rfl rfl rfl) rfl rfl rfl ?_
    refine TO.y (Y.move rfl) rfl rfl rfl ?_
    refine TO.bind fun R3 H4 => ?_
    refine TO.ef (Ef.call (rest := [.box B1 26 [V_aS0]]) [0] (laws_szSpace_con aS (1048576 : Int) V_aS0 R3 H4) kc11 rfl rfl ⟨(Base.can HB_V_aS0), trivial⟩) rfl rfl rfl (fun _ => ?_)
    refine TO.y (Y.assign rfl) rfl rfl rfl ?_
    refine TO.nil ?_
    refine TE.next ?_
    refine TW.seq ?_
    refine TW.seq ?_
    refine TW.region ?_
    refine TO.y (Y.move rfl) rfl rfl rfl ?_
    refine TO.y (Y.lss rfl rfl) rfl rfl rfl ?_
    refine TO.nil ?_
    refine TE.next ?_
    refine TW.cond rfl (fun H6 => ?_) (fun H6 => ?_)
    · refine TW.seq ?_
      refine TW.region ?_
      refine TO.y (Y.assign rfl) rfl rfl rfl ?_
      refine TO.nil ?_
      refine TE.next ?_
      refine TW.ret ?_
      refine TE.then_ret ?_
      exact TE.leaf fun _ _ hf_ hs_ => ret_any (rs := [.tmp 6]) (vs := [.bool true]) (.inl rfl) rfl ⟨rfl, trivial⟩ hf_ hs_ ⟨(), rfl, hs_.pulls [] rfl⟩
    · refine TW.skip ?_
      refine TE.next ?_
      refine TW.seq ?_
      refine TW.region ?_
      refine TO.y (Y.load_box (v := .agg #[V_aS0]) 0 kk26 rfl rfl rfl) rfl rfl rfl ?_
      refine TO.bind fun R7 H8 => ?_
      refine TO.ef (Ef.call (rest := [.box B1 26 [V_aS0]]) [0] (laws_toSpace_con aS V_aS0 R7 H8) kc13 rfl rfl ⟨(Base.can HB_V_aS0), trivial⟩) rfl rfl rfl (fun Y9 => ?_)
      refine TO.y (Y.move rfl) rfl rfl rfl ?_
      refine TO.y (Y.move rfl) rfl rfl rfl ?_
      refine TO.bind fun R10 H11 => ?_
      refine TO.ef (Ef.call (rest := [.own Y9 (lc 3 R7.Owner), .box B1 26 [V_aS0]]) [0, 0] (laws_toIntS_con aBlocks V_aBlocks0 R10 H11) kc27 rfl rfl ⟨(Base.can HB_V_aBlocks0), trivial⟩) rfl rfl rfl (fun Y12 => ?_)
      refine TO.bind fun R13 H14 => ?_
      refine TO.ef (Ef.call (rest := [.own Y12 (lc 3 R10), .own Y9 (lc 3 R7.Owner), .box B1 26 [V_aS0]]) [0, 0, 0] (spec_SpaceGive_con R7 aWho R10 Y9 Y12 R13 H14) kc26 rfl rfl ⟨(Can.own 1 rfl), (Can.own 0 rfl), trivial⟩) rfl rfl rfl (fun Y15 => ?_)
      refine TO.y (Y.move rfl) rfl rfl rfl ?_
      refine TO.y (Y.extract rfl rfl) rfl rfl rfl ?_
      refine TO.y (Y.extract rfl rfl) rfl rfl rfl ?_
      refine TO.ef (Ef.alloc kz29 rfl) rfl rfl rfl (fun B16 => ?_)
      refine TO.ef0 (Ef.store_box (us := [Y15]) (vs' := [Y15]) (is' := [.box B16 29 [Y15], .own Y15 (lc 3 R13.1.Owner), .own Y12 (lc 3 R10), .own Y9 (lc 3 R7.Owner), .box B1 26 [V_aS0]]) 0 kk29 rfl rfl rfl (Cel.agg ⟨(One.can (Can.own 1 rfl)), trivial⟩) rfl rfl rfl rfl) rfl rfl (fun _ => ?_)
      refine TO.y (Y.assign rfl) rfl rfl rfl ?_
      refine TO.nil ?_
      refine TE.next ?_
      refine TW.seq ?_
      refine TW.region ?_
      refine TO.y (Y.load_box (v := .agg #[V_aS0]) 4 kk26 rfl rfl rfl) rfl rfl rfl ?_
      refine TO.ef (Ef.call (rest := [.box B16 29 [Y15], .own Y15 (lc 3 R13.1.Owner), .own Y12 (lc 3 R10), .own Y9 (lc 3 R7.Owner), .box B1 26 [V_aS0]]) [0, 0, 0, 0, 0] (laws_toSpace_con aS V_aS0 R7 H8) kc13 rfl rfl ⟨(Base.can HB_V_aS0), trivial⟩) rfl rfl rfl (fun Y17 => ?_)
      refine TO.ef (Ef.alloc kz29 rfl) rfl rfl rfl (fun B18 => ?_)
      refine TO.ef0 (Ef.store_box (us := [Y17]) (vs' := [Y17]) (is' := [.box B18 29 [Y17], .own Y17 (lc 3 R7.Owner), .box B16 29 [Y15], .own Y15 (lc 3 R13.1.Owner), .own Y12 (lc 3 R10), .own Y9 (lc 3 R7.Owner), .box B1 26 [V_aS0]]) 0 kk29 rfl rfl rfl (Cel.agg ⟨(One.can (Can.own 1 rfl)), trivial⟩) rfl rfl rfl rfl) rfl rfl (fun _ => ?_)
      refine TO.nil ?_
      refine TE.next ?_
      refine TW.seq ?_
      refine TW.region ?_
      refine TO.y (Y.move rfl) rfl rfl rfl ?_
      refine TO.ef (Ef.call (rest := [.box B18 29 [Y17], .own Y17 (lc 3 R7.Owner), .box B16 29 [Y15], .own Y15 (lc 3 R13.1.Owner), .own Y12 (lc 3 R10), .own Y9 (lc 3 R7.Owner), .box B1 26 [V_aS0]]) [0, 0, 0, 0, 0, 0, 0] (laws_toIntS_con aBlocks V_aBlocks0 R10 H11) kc27 rfl rfl ⟨(Base.can HB_V_aBlocks0), trivial⟩) rfl rfl rfl (fun Y19 => ?_)
      refine TO.y (Y.assign rfl) rfl rfl rfl ?_
      refine TO.nil ?_
      refine TE.next ?_
      refine TW.seq ?_
      refine TW.region ?_
      refine TO.y (Y.load_box (v := .agg #[Y17]) 1 kk29 rfl rfl rfl) rfl rfl rfl ?_
      refine TO.y (Y.move rfl) rfl rfl rfl ?_
      refine TO.y (Y.move rfl) rfl rfl rfl ?_
      refine TO.bind fun R20 H21 => ?_
      refine TO.ef (Ef.call (rest := [.own Y19 (lc 3 R10), .box B18 29 [Y17], .own Y17 (lc 3 R7.Owner), .box B16 29 [Y15], .own Y15 (lc 3 R13.1.Owner), .own Y12 (lc 3 R10), .own Y9 (lc 3 R7.Owner), .box B1 26 [V_aS0]]) [0, 0, 0, 0, 0, 0, 0, 0] (impl_SpaceGive_con R7 aWho R10 Y17 Y19 R20 H21) kc28 rfl rfl ⟨(Can.own 2 rfl), (Can.own 0 rfl), trivial⟩) rfl rfl rfl (fun Y22 => ?_)
      refine TO.y (Y.move rfl) rfl rfl rfl ?_
      refine TO.y (Y.extract rfl rfl) rfl rfl rfl ?_
      refine TO.y (Y.extract rfl rfl) rfl rfl rfl ?_
      refine TO.ef (Ef.alloc kz29 rfl) rfl rfl rfl (fun B23 => ?_)
      refine TO.ef0 (Ef.store_box (us := [Y22]) (vs' := [Y22]) (is' := [.box B23 29 [Y22], .own Y22 (lc 3 R20.1.Owner), .own Y19 (lc 3 R10), .box B18 29 [Y17], .own Y17 (lc 3 R7.Owner), .box B16 29 [Y15], .own Y15 (lc 3 R13.1.Owner), .own Y12 (lc 3 R10), .own Y9 (lc 3 R7.Owner), .box B1 26 [V_aS0]]) 0 kk29 rfl rfl rfl (Cel.agg ⟨(One.can (Can.own 1 rfl)), trivial⟩) rfl rfl rfl rfl) rfl rfl (fun _ => ?_)
      refine TO.y (Y.assign rfl) rfl rfl rfl ?_
      refine TO.nil ?_
      refine TE.next ?_
      refine TW.seq ?_
      refine TW.seq ?_
      refine TW.joinBX (τ := Bool) (X := Unit) (fun T _ => [(1, .int .i64 aWho), (2, V_aBlocks0), (3, .pointer (some ⟨B1, 0, none⟩)), (8, .pointer (some ⟨B16, 0, none⟩)), (9, .bool R13.2), (10, .pointer (some ⟨B18, 0, none⟩)), (11, Y19), (12, .pointer (some ⟨B23, 0, none⟩)), (13, .bool R20.2), (55, .bool T)]) (fun _ _ => [.box B1 26 [V_aS0], .box B16 29 [Y15], .box B18 29 [Y17], .box B23 29 [Y22], .own Y15 (lc 3 R13.1.Owner), .own Y17 (lc 3 R7.Owner), .own Y19 (lc 3 R10), .own Y22 (lc 3 R20.1.Owner)]) ?_ (fun T24 X25 => ?_)
      · refine TW.region ?_
        refine TO.y (Y.load_box (v := .agg #[Y22]) 0 kk29 rfl rfl rfl) rfl rfl rfl ?_
        refine TO.y (Y.load_box (v := .agg #[Y15]) 5 kk29 rfl rfl rfl) rfl rfl rfl ?_
        refine TO.bind fun R26 H27 => ?_
        refine TO.ef (Ef.call (rest := [.box B23 29 [Y22], .own Y22 (lc 3 R20.1.Owner), .own Y19 (lc 3 R10), .box B18 29 [Y17], .own Y17 (lc 3 R7.Owner), .box B16 29 [Y15], .own Y15 (lc 3 R13.1.Owner), .own Y12 (lc 3 R10), .own Y9 (lc 3 R7.Owner), .box B1 26 [V_aS0]]) [0, 0, 0, 0, 0, 0, 0, 0, 0, 0] (laws_eqSpace_con R20.1 R13.1 Y22 Y15 R26 H27) kc15 rfl rfl ⟨(Can.own 1 rfl), (Can.own 6 rfl), trivial⟩) rfl rfl rfl (fun _ => ?_)
        refine TO.y (Y.not rfl) rfl rfl rfl ?_
        refine TO.y (Y.move rfl) rfl rfl rfl ?_
        refine TO.ite (b := !R26) (fun H29 => ?_) (fun H29 => ?_)
        · refine TO.off (Gd.at 4 false 51 (!R26) rfl rfl rfl (beq_tf H29)) rfl rfl ?_
          refine TO.off (Gd.at 4 false 51 (!R26) rfl rfl rfl (beq_tf H29)) rfl rfl ?_
          refine TO.off (Gd.at 4 false 51 (!R26) rfl rfl rfl (beq_tf H29)) rfl rfl ?_
          refine TO.y (Y.pick_t H29 rfl rfl) rfl rfl rfl ?_
          refine TO.nil ?_
          exact TE.jb_go () [9, 5, 3, 0, 3, 2, 1, 0] ⟨rfl, rfl, rfl, rfl, rfl, rfl, rfl, rfl, rfl, rfl, trivial⟩ rfl
        · refine TO.y (Y.move rfl) (Gd.at 4 false 51 (!R26) rfl rfl rfl (beq_ff H29)) rfl rfl ?_
          refine TO.y (Y.move rfl) (Gd.at 4 false 51 (!R26) rfl rfl rfl (beq_ff H29)) rfl rfl ?_
          refine TO.y (Y.neb kb4 rfl rfl) (Gd.at 4 false 51 (!R26) rfl rfl rfl (beq_ff H29)) rfl rfl ?_
          refine TO.y (Y.pick_f H29 rfl rfl) rfl rfl rfl ?_
          refine TO.nil ?_
          exact TE.jb_go () [9, 5, 3, 0, 3, 2, 1, 0] ⟨rfl, rfl, rfl, rfl, rfl, rfl, rfl, rfl, rfl, rfl, trivial⟩ rfl
      · refine TE.next ?_
        refine TW.cond rfl (fun H30 => ?_) (fun H30 => ?_)
        · refine TW.seq ?_
          refine TW.region ?_
          refine TO.y (Y.assign rfl) rfl rfl rfl ?_
          refine TO.nil ?_
          refine TE.next ?_
          refine TW.ret ?_
          refine TE.then_ret ?_
          exact TE.leaf fun _ _ hf_ hs_ => ret_any (rs := [.tmp 6]) (vs := [.bool false]) (.inl rfl) rfl ⟨rfl, trivial⟩ hf_ hs_ ⟨(), rfl, hs_.pulls [] rfl⟩
        · refine TW.skip ?_
          refine TE.next ?_
          refine TW.seq ?_
          refine TW.seq ?_
          refine TW.draw (isH := [.box B1 26 [V_aS0], .box B16 29 [Y15], .box B18 29 [Y17], .box B23 29 [Y22], .own Y15 (lc 3 R13.1.Owner), .own Y17 (lc 3 R7.Owner), .own Y19 (lc 3 R10), .own Y22 (lc 3 R20.1.Owner)]) hMix ?_
          refine TA.y (listed' := #[true, false, false, false, false]) 0 [0, 0, 0, 0, 0, 0, 0, 0] rfl (Y.load_box (v := .agg #[Y17]) 2 kk29 rfl rfl rfl) rfl rfl rfl (by kernel_rfl) (by kernel_rfl) (by kernel_rfl) rfl rfl ?_
          refine TA.y (listed' := #[true, true, false, false, false]) 1 [0, 0, 0, 0, 0, 0, 0, 0] rfl (Y.load_box (v := .agg #[V_aS0]) 0 kk26 rfl rfl rfl) rfl rfl rfl (by kernel_rfl) (by kernel_rfl) (by kernel_rfl) rfl rfl ?_
          refine TA.one 2 (by kernel_rfl) ?_
          refine TX.ef (listed' := #[true, true, true, false, false]) [1, 1, 1, 1, 1, 1, 1, 1] rfl (Ef.call (rest := [.box B1 26 [V_aS0], .box B16 29 [Y15], .box B18 29 [Y17], .box B23 29 [Y22], .own Y15 (lc 3 R13.1.Owner), .own Y17 (lc 3 R7.Owner), .own Y19 (lc 3 R10), .own Y22 (lc 3 R20.1.Owner)]) [0, 0, 0, 0, 0, 0, 0, 0] (laws_toSpace_con aS V_aS0 R7 H8) kc13 rfl rfl ⟨(Base.can HB_V_aS0), trivial⟩) rfl rfl rfl rfl (fun _ => rfl) (fun Y31 => ?_)
          refine TA.bind fun R32 H33 => ?_
          refine TA.one 3 (by kernel_rfl) ?_
          refine TX.ef (listed' := #[true, true, true, true, false]) [1, 1, 1, 1, 1, 1, 1, 1] rfl (Ef.call (rest := [.own Y31 (lc 3 R7.Owner), .box B1 26 [V_aS0], .box B16 29 [Y15], .box B18 29 [Y17], .box B23 29 [Y22], .own Y15 (lc 3 R13.1.Owner), .own Y17 (lc 3 R7.Owner), .own Y19 (lc 3 R10), .own Y22 (lc 3 R20.1.Owner)]) [0, 0, 0, 0, 0, 0, 0, 0, 0] (laws_eqSpace_con R7 R7 Y17 Y31 R32 H33) kc15 rfl rfl ⟨(Can.own 6 rfl), (Can.own 0 rfl), trivial⟩) rfl rfl rfl rfl (fun _ => rfl) (fun _ => ?_)
          refine TA.y (listed' := #[true, true, true, true, true]) 4 [1, 1, 1, 1, 1, 1, 1, 1] rfl (Y.not rfl) rfl rfl rfl (by kernel_rfl) (by kernel_rfl) (by kernel_rfl) rfl rfl ?_
          refine TA.nil (by kernel_rfl) ?_
          refine TE.next ?_
          refine TW.cond rfl (fun H35 => ?_) (fun H35 => ?_)
          · refine TW.seq ?_
            refine TW.region ?_
            refine TO.y (Y.assign rfl) rfl rfl rfl ?_
            refine TO.nil ?_
            refine TE.next ?_
            refine TW.ret ?_
            refine TE.then_ret ?_
            exact TE.leaf fun _ _ hf_ hs_ => ret_any (rs := [.tmp 6]) (vs := [.bool false]) (.inl rfl) rfl ⟨rfl, trivial⟩ hf_ hs_ ⟨(), rfl, hs_.pulls [] rfl⟩
          · refine TW.skip ?_
            refine TE.next ?_
            refine TW.seq ?_
            refine TW.seq ?_
            refine TW.region ?_
            refine TO.y (Y.move rfl) rfl rfl rfl ?_
            refine TO.y (Y.move rfl) rfl rfl rfl ?_
            refine TO.ef (Ef.call (rest := [.own Y31 (lc 3 R7.Owner), .box B1 26 [V_aS0], .box B16 29 [Y15], .box B18 29 [Y17], .box B23 29 [Y22], .own Y15 (lc 3 R13.1.Owner), .own Y17 (lc 3 R7.Owner), .own Y19 (lc 3 R10), .own Y22 (lc 3 R20.1.Owner)]) [0, 0, 0, 0, 0, 0, 0, 0, 0] (laws_toIntS_con aBlocks V_aBlocks0 R10 H11) kc27 rfl rfl ⟨(Base.can HB_V_aBlocks0), trivial⟩) rfl rfl rfl (fun Y36 => ?_)
            refine TO.bind fun R37 H38 => ?_
            refine TO.ef (Ef.call (rest := [.own Y36 (lc 3 R10), .own Y31 (lc 3 R7.Owner), .box B1 26 [V_aS0], .box B16 29 [Y15], .box B18 29 [Y17], .box B23 29 [Y22], .own Y15 (lc 3 R13.1.Owner), .own Y17 (lc 3 R7.Owner), .own Y19 (lc 3 R10), .own Y22 (lc 3 R20.1.Owner)]) [0, 0, 0, 0, 0, 0, 0, 0, 0, 0] (laws_eqIntS_con R10 R10 Y19 Y36 R37 H38) kc29 rfl rfl ⟨(Can.own 8 rfl), (Can.own 0 rfl), trivial⟩) rfl rfl rfl (fun _ => ?_)
            refine TO.y (Y.not rfl) rfl rfl rfl ?_
            refine TO.nil ?_
            refine TE.next ?_
            refine TW.cond rfl (fun H40 => ?_) (fun H40 => ?_)
            · refine TW.seq ?_
              refine TW.region ?_
              refine TO.y (Y.assign rfl) rfl rfl rfl ?_
              refine TO.nil ?_
              refine TE.next ?_
              refine TW.ret ?_
              refine TE.then_ret ?_
              exact TE.leaf fun _ _ hf_ hs_ => ret_any (rs := [.tmp 6]) (vs := [.bool false]) (.inl rfl) rfl ⟨rfl, trivial⟩ hf_ hs_ ⟨(), rfl, hs_.pulls [] rfl⟩
            · refine TW.skip ?_
              refine TE.next ?_
              refine TW.seq ?_
              refine TW.region ?_
              refine TO.y (Y.assign rfl) rfl rfl rfl ?_
              refine TO.nil ?_
              refine TE.next ?_
              refine TW.seq ?_
              refine TW.region ?_
              refine TO.y (Y.load_box (v := .agg #[Y17]) 4 kk29 rfl rfl rfl) rfl rfl rfl ?_
              refine TO.y (Y.move rfl) rfl rfl rfl ?_
              refine TO.bind fun R41 H42 => ?_
              refine TO.ef (Ef.call (rest := [.own Y36 (lc 3 R10), .own Y31 (lc 3 R7.Owner), .box B1 26 [V_aS0], .box B16 29 [Y15], .box B18 29 [Y17], .box B23 29 [Y22], .own Y15 (lc 3 R13.1.Owner), .own Y19 (lc 3 R10), .own Y22 (lc 3 R20.1.Owner)]) [7, 0, 0, 0, 0, 0, 0, 0, 0, 0] (laws_markSpace_con R7 (1 : Int) Y17 R41 H42) kc30 rfl rfl trivial) rfl rfl rfl (fun _ => ?_)
              refine TO.y (Y.assign rfl) rfl rfl rfl ?_
              refine TO.nil ?_
              refine TE.next ?_
              refine TW.seq ?_
              refine TW.region ?_
              refine TO.y (Y.move rfl) rfl rfl rfl ?_
              refine TO.y (Y.move rfl) rfl rfl rfl ?_
              refine TO.bind fun R44 H45 => ?_
              refine TO.ef (Ef.call (rest := [.own Y17 (lc 3 R41.2), .own Y36 (lc 3 R10), .own Y31 (lc 3 R7.Owner), .box B1 26 [V_aS0], .box B16 29 [Y15], .box B18 29 [Y17], .box B23 29 [Y22], .own Y15 (lc 3 R13.1.Owner), .own Y22 (lc 3 R20.1.Owner)]) [8, 0, 0, 0, 0, 0, 0, 0, 0, 0] (laws_markIntS_con R10 R41.1 Y19 R44 H45) kc31 rfl rfl trivial) rfl rfl rfl (fun _ => ?_)
              refine TO.y (Y.assign rfl) rfl rfl rfl ?_
              refine TO.nil ?_
              refine TE.next ?_
              refine TW.seq ?_
              refine TW.seq ?_
              refine TW.joinBX (τ := Bool) (X := Unit) (fun T _ => [(1, .int .i64 aWho), (2, V_aBlocks0), (3, .pointer (some ⟨B1, 0, none⟩)), (8, .pointer (some ⟨B16, 0, none⟩)), (9, .bool R13.2), (12, .pointer (some ⟨B23, 0, none⟩)), (84, .bool T)]) (fun _ _ => [.box B1 26 [V_aS0], .box B16 29 [Y15], .box B23 29 [Y22], .own Y15 (lc 3 R13.1.Owner), .own Y22 (lc 3 R20.1.Owner)]) ?_ (fun T47 X48 => ?_)
              · refine TW.region ?_
                refine TO.y (Y.move rfl) rfl rfl rfl ?_
                refine TO.y (Y.lss rfl rfl) rfl rfl rfl ?_
                refine TO.y (Y.move rfl) rfl rfl rfl ?_
                refine TO.ite (b := decide (R44.1 < (0 : Int))) (fun H49 => ?_) (fun H49 => ?_)
                · refine TO.off (Gd.at 2 false 74 (decide (R44.1 < (0 : Int))) rfl rfl rfl (beq_tf H49)) rfl rfl ?_
                  refine TO.off (Gd.at 2 false 74 (decide (R44.1 < (0 : Int))) rfl rfl rfl (beq_tf H49)) rfl rfl ?_
                  refine TO.off (Gd.at 2 false 74 (decide (R44.1 < (0 : Int))) rfl rfl rfl (beq_tf H49)) rfl rfl ?_
                  refine TO.off (Gd.at 2 false 74 (decide (R44.1 < (0 : Int))) rfl rfl rfl (beq_tf H49)) rfl rfl ?_
                  refine TO.y (Y.pick_t H49 rfl rfl) rfl rfl rfl ?_
                  refine TO.y (Y.move rfl) rfl rfl rfl ?_
                  refine TO.off (Gd.at 8 false 80 true rfl rfl rfl rfl) rfl rfl ?_
                  refine TO.off (Gd.at 8 false 80 true rfl rfl rfl rfl) rfl rfl ?_
                  refine TO.off (Gd.at 8 false 80 true rfl rfl rfl rfl) rfl rfl ?_
                  refine TO.y (Y.pick_t rfl rfl rfl) rfl rfl rfl ?_
                  refine TO.nil ?_
                  exact TE.jb_go () [4, 4, 5, 5, 5] ⟨rfl, rfl, rfl, rfl, rfl, rfl, rfl, trivial⟩ rfl
                · refine TO.y (Y.load_box (v := .agg #[Y22]) 7 kk29 rfl rfl rfl) (Gd.at 2 false 74 (decide (R44.1 < (0 : Int))) rfl rfl rfl (beq_ff H49)) rfl rfl ?_
                  refine TO.y (Y.load_box (v := .agg #[Y15]) 5 kk29 rfl rfl rfl) (Gd.at 2 false 74 (decide (R44.1 < (0 : Int))) rfl rfl rfl (beq_ff H49)) rfl rfl ?_
                  refine TO.bind fun R50 H51 => ?_
                  refine TO.ef (Ef.call (rest := [.own Y19 (lc 3 R44.2), .own Y17 (lc 3 R41.2), .own Y36 (lc 3 R10), .own Y31 (lc 3 R7.Owner), .box B1 26 [V_aS0], .box B16 29 [Y15], .box B18 29 [Y17], .box B23 29 [Y22], .own Y15 (lc 3 R13.1.Owner), .own Y22 (lc 3 R20.1.Owner)]) [0, 0, 0, 0, 0, 0, 0, 0, 0, 0] (laws_eqSpace_con R20.1 R13.1 Y22 Y15 R50 H51) kc15 rfl rfl ⟨(Can.own 9 rfl), (Can.own 8 rfl), trivial⟩) (Gd.at 2 false 74 (decide (R44.1 < (0 : Int))) rfl rfl rfl (beq_ff H49)) rfl rfl (fun _ => ?_)
                  refine TO.y (Y.not rfl) (Gd.at 2 false 74 (decide (R44.1 < (0 : Int))) rfl rfl rfl (beq_ff H49)) rfl rfl ?_
                  refine TO.y (Y.pick_f H49 rfl rfl) rfl rfl rfl ?_
                  refine TO.y (Y.move rfl) rfl rfl rfl ?_
                  refine TO.ite (b := !R50) (fun H53 => ?_) (fun H53 => ?_)
                  · refine TO.off (Gd.at 8 false 80 (!R50) rfl rfl rfl (beq_tf H53)) rfl rfl ?_
                    refine TO.off (Gd.at 8 false 80 (!R50) rfl rfl rfl (beq_tf H53)) rfl rfl ?_
                    refine TO.off (Gd.at 8 false 80 (!R50) rfl rfl rfl (beq_tf H53)) rfl rfl ?_
                    refine TO.y (Y.pick_t H53 rfl rfl) rfl rfl rfl ?_
                    refine TO.nil ?_
                    exact TE.jb_go () [4, 4, 5, 5, 5] ⟨rfl, rfl, rfl, rfl, rfl, rfl, rfl, trivial⟩ rfl
                  · refine TO.y (Y.move rfl) (Gd.at 8 false 80 (!R50) rfl rfl rfl (beq_ff H53)) rfl rfl ?_
                    refine TO.y (Y.move rfl) (Gd.at 8 false 80 (!R50) rfl rfl rfl (beq_ff H53)) rfl rfl ?_
                    refine TO.y (Y.neb kb4 rfl rfl) (Gd.at 8 false 80 (!R50) rfl rfl rfl (beq_ff H53)) rfl rfl ?_
                    refine TO.y (Y.pick_f H53 rfl rfl) rfl rfl rfl ?_
                    refine TO.nil ?_
                    exact TE.jb_go () [4, 4, 5, 5, 5] ⟨rfl, rfl, rfl, rfl, rfl, rfl, rfl, trivial⟩ rfl
              · refine TE.next ?_
                refine TW.cond rfl (fun H54 => ?_) (fun H54 => ?_)
                · refine TW.seq ?_
                  refine TW.region ?_
                  refine TO.y (Y.assign rfl) rfl rfl rfl ?_
                  refine TO.nil ?_
                  refine TE.next ?_
                  refine TW.ret ?_
                  refine TE.then_ret ?_
                  exact TE.leaf fun _ _ hf_ hs_ => ret_any (rs := [.tmp 6]) (vs := [.bool false]) (.inl rfl) rfl ⟨rfl, trivial⟩ hf_ hs_ ⟨(), rfl, hs_.pulls [] rfl⟩
                · refine TW.skip ?_
                  refine TE.next ?_
                  refine TW.seq ?_
                  refine TW.region ?_
                  refine TO.y (Y.assign rfl) rfl rfl rfl ?_
                  refine TO.nil ?_
                  refine TE.next ?_
                  refine TW.seq ?_
                  refine TW.region ?_
                  refine TO.y (Y.load_box (v := .agg #[Y22]) 2 kk29 rfl rfl rfl) rfl rfl rfl ?_
                  refine TO.y (Y.move rfl) rfl rfl rfl ?_
                  refine TO.bind fun R55 H56 => ?_
                  refine TO.ef (Ef.call (rest := [.box B1 26 [V_aS0], .box B16 29 [Y15], .box B23 29 [Y22], .own Y15 (lc 3 R13.1.Owner)]) [4, 0, 0, 0, 0] (laws_markSpace_con R20.1 (1 : Int) Y22 R55 H56) kc30 rfl rfl trivial) rfl rfl rfl (fun _ => ?_)
                  refine TO.y (Y.assign rfl) rfl rfl rfl ?_
                  refine TO.nil ?_
                  refine TE.next ?_
                  refine TW.seq ?_
                  refine TW.region ?_
                  refine TO.y (Y.assign rfl) rfl rfl rfl ?_
                  refine TO.nil ?_
                  refine TE.next ?_
                  refine TW.seq ?_
                  refine TW.region ?_
                  refine TO.y (Y.load_box (v := .agg #[Y22]) 3 kk29 rfl rfl rfl) rfl rfl rfl ?_
                  refine TO.y (Y.move rfl) rfl rfl rfl ?_
                  refine TO.bind fun R58 H59 => ?_
                  refine TO.ef (Ef.call (rest := [.own Y22 (lc 3 R55.2), .box B1 26 [V_aS0], .box B16 29 [Y15], .box B23 29 [Y22], .own Y15 (lc 3 R13.1.Owner)]) [0, 0, 0, 0, 0] (laws_heldSpace_con ({ Owner := R55.2 : Space }) (1 : Int) Y22 R58 H59) kc32 rfl rfl ⟨(Can.own 0 rfl), trivial⟩) rfl rfl rfl (fun _ => ?_)
                  refine TO.y (Y.assign rfl) rfl rfl rfl ?_
                  refine TO.nil ?_
                  refine TE.next ?_
                  refine TW.seq ?_
                  refine TW.seq ?_
                  refine TW.region ?_
                  refine TO.y (Y.move rfl) rfl rfl rfl ?_
                  refine TO.y (Y.lss rfl rfl) rfl rfl rfl ?_
                  refine TO.nil ?_
                  refine TE.next ?_
                  refine TW.cond rfl (fun H61 => ?_) (fun H61 => ?_)
                  · refine TW.seq ?_
                    refine TW.region ?_
                    refine TO.y (Y.assign rfl) rfl rfl rfl ?_
                    refine TO.nil ?_
                    refine TE.next ?_
                    refine TW.ret ?_
                    refine TE.then_ret ?_
                    exact TE.leaf fun _ _ hf_ hs_ => ret_any (rs := [.tmp 6]) (vs := [.bool false]) (.inl rfl) rfl ⟨rfl, trivial⟩ hf_ hs_ ⟨(), rfl, hs_.pulls [] rfl⟩
                  · refine TW.skip ?_
                    refine TE.next ?_
                    refine TW.seq ?_
                    refine TW.seq ?_
                    refine TW.region ?_
                    refine TO.y (Y.move rfl) rfl rfl rfl ?_
                    refine TO.y (Y.move rfl) rfl rfl rfl ?_
                    refine TO.y (Y.neq rfl rfl) rfl rfl rfl ?_
                    refine TO.nil ?_
                    refine TE.next ?_
                    refine TW.cond rfl (fun H62 => ?_) (fun H62 => ?_)
                    · refine TW.seq ?_
                      refine TW.region ?_
                      refine TO.y (Y.assign rfl) rfl rfl rfl ?_
                      refine TO.nil ?_
                      refine TE.next ?_
                      refine TW.ret ?_
                      refine TE.then_ret ?_
                      exact TE.leaf fun _ _ hf_ hs_ => ret_any (rs := [.tmp 6]) (vs := [.bool false]) (.inl rfl) rfl ⟨rfl, trivial⟩ hf_ hs_ ⟨(), rfl, hs_.pulls [] rfl⟩
                    · refine TW.skip ?_
                      refine TE.next ?_
                      refine TW.seq ?_
                      refine TW.region ?_
                      refine TO.y (Y.load_box (v := .agg #[V_aS0]) 1 kk26 rfl rfl rfl) rfl rfl rfl ?_
                      refine TO.ef (Ef.call (rest := [.own Y22 (lc 3 R55.2), .box B1 26 [V_aS0], .box B16 29 [Y15], .box B23 29 [Y22], .own Y15 (lc 3 R13.1.Owner)]) [0, 0, 0, 0, 0] (laws_toSpace_con aS V_aS0 R7 H8) kc13 rfl rfl ⟨(Base.can HB_V_aS0), trivial⟩) rfl rfl rfl (fun Y63 => ?_)
                      refine TO.y (Y.move rfl) rfl rfl rfl ?_
                      refine TO.y (Y.move rfl) rfl rfl rfl ?_
                      refine TO.ef (Ef.call (rest := [.own Y63 (lc 3 R7.Owner), .own Y22 (lc 3 R55.2), .box B1 26 [V_aS0], .box B16 29 [Y15], .box B23 29 [Y22], .own Y15 (lc 3 R13.1.Owner)]) [0, 0, 0, 0, 0, 0] (laws_toIntS_con aBlocks V_aBlocks0 R10 H11) kc27 rfl rfl ⟨(Base.can HB_V_aBlocks0), trivial⟩) rfl rfl rfl (fun Y64 => ?_)
                      refine TO.ef (Ef.call (rest := [.own Y64 (lc 3 R10), .own Y63 (lc 3 R7.Owner), .own Y22 (lc 3 R55.2), .box B1 26 [V_aS0], .box B16 29 [Y15], .box B23 29 [Y22], .own Y15 (lc 3 R13.1.Owner)]) [0, 0, 0, 0, 0, 0, 0] (impl_SpaceGive_con R7 aWho R10 Y63 Y64 R20 H21) kc28 rfl rfl ⟨(Can.own 1 rfl), (Can.own 0 rfl), trivial⟩) rfl rfl rfl (fun Y65 => ?_)
                      refine TO.y (Y.move rfl) rfl rfl rfl ?_
                      refine TO.y (Y.extract rfl rfl) rfl rfl rfl ?_
                      refine TO.y (Y.extract rfl rfl) rfl rfl rfl ?_
                      refine TO.ef (Ef.alloc kz29 rfl) rfl rfl rfl (fun B66 => ?_)
                      refine TO.ef0 (Ef.store_box (us := [Y65]) (vs' := [Y65]) (is' := [.box B66 29 [Y65], .own Y65 (lc 3 R20.1.Owner), .own Y64 (lc 3 R10), .own Y63 (lc 3 R7.Owner), .own Y22 (lc 3 R55.2), .box B1 26 [V_aS0], .box B16 29 [Y15], .box B23 29 [Y22], .own Y15 (lc 3 R13.1.Owner)]) 0 kk29 rfl rfl rfl (Cel.agg ⟨(One.can (Can.own 1 rfl)), trivial⟩) rfl rfl rfl rfl) rfl rfl (fun _ => ?_)
                      refine TO.y (Y.assign rfl) rfl rfl rfl ?_
                      refine TO.nil ?_
                      refine TE.next ?_
                      refine TW.seq ?_
                      refine TW.seq ?_
                      refine TW.joinBX (τ := Bool) (X := Unit) (fun T _ => [(12, .pointer (some ⟨B23, 0, none⟩)), (15, .int .i64 R55.1), (113, .bool T)]) (fun _ _ => [.box B23 29 [Y22], .own Y22 (lc 3 R55.2)]) ?_ (fun T67 X68 => ?_)
                      · refine TW.region ?_
                        refine TO.y (Y.load_box (v := .agg #[Y65]) 0 kk29 rfl rfl rfl) rfl rfl rfl ?_
                        refine TO.y (Y.load_box (v := .agg #[Y15]) 6 kk29 rfl rfl rfl) rfl rfl rfl ?_
                        refine TO.bind fun R69 H70 => ?_
                        refine TO.ef (Ef.call (rest := [.box B66 29 [Y65], .own Y65 (lc 3 R20.1.Owner), .own Y64 (lc 3 R10), .own Y63 (lc 3 R7.Owner), .own Y22 (lc 3 R55.2), .box B1 26 [V_aS0], .box B16 29 [Y15], .box B23 29 [Y22], .own Y15 (lc 3 R13.1.Owner)]) [0, 0, 0, 0, 0, 0, 0, 0, 0] (laws_eqSpace_con R20.1 R13.1 Y65 Y15 R69 H70) kc15 rfl rfl ⟨(Can.own 1 rfl), (Can.own 8 rfl), trivial⟩) rfl rfl rfl (fun _ => ?_)
                        refine TO.y (Y.not rfl) rfl rfl rfl ?_
                        refine TO.y (Y.move rfl) rfl rfl rfl ?_
                        refine TO.ite (b := !R69) (fun H72 => ?_) (fun H72 => ?_)
                        · refine TO.off (Gd.at 4 false 109 (!R69) rfl rfl rfl (beq_tf H72)) rfl rfl ?_
                          refine TO.off (Gd.at 4 false 109 (!R69) rfl rfl rfl (beq_tf H72)) rfl rfl ?_
                          refine TO.off (Gd.at 4 false 109 (!R69) rfl rfl rfl (beq_tf H72)) rfl rfl ?_
                          refine TO.y (Y.pick_t H72 rfl rfl) rfl rfl rfl ?_
                          refine TO.nil ?_
                          exact TE.jb_go () [7, 4] ⟨rfl, rfl, rfl, trivial⟩ rfl
                        · refine TO.y (Y.move rfl) (Gd.at 4 false 109 (!R69) rfl rfl rfl (beq_ff H72)) rfl rfl ?_
                          refine TO.y (Y.move rfl) (Gd.at 4 false 109 (!R69) rfl rfl rfl (beq_ff H72)) rfl rfl ?_
                          refine TO.y (Y.neb kb4 rfl rfl) (Gd.at 4 false 109 (!R69) rfl rfl rfl (beq_ff H72)) rfl rfl ?_
                          refine TO.y (Y.pick_f H72 rfl rfl) rfl rfl rfl ?_
                          refine TO.nil ?_
                          exact TE.jb_go () [7, 4] ⟨rfl, rfl, rfl, trivial⟩ rfl
                      · refine TE.next ?_
                        refine TW.cond rfl (fun H73 => ?_) (fun H73 => ?_)
                        · refine TW.seq ?_
                          refine TW.region ?_
                          refine TO.y (Y.assign rfl) rfl rfl rfl ?_
                          refine TO.nil ?_
                          refine TE.next ?_
                          refine TW.ret ?_
                          refine TE.then_ret ?_
                          exact TE.leaf fun _ _ hf_ hs_ => ret_any (rs := [.tmp 6]) (vs := [.bool false]) (.inl rfl) rfl ⟨rfl, trivial⟩ hf_ hs_ ⟨(), rfl, hs_.pulls [] rfl⟩
                        · refine TW.skip ?_
                          refine TE.next ?_
                          refine TW.seq ?_
                          refine TW.region ?_
                          refine TO.y (Y.assign rfl) rfl rfl rfl ?_
                          refine TO.nil ?_
                          refine TE.next ?_
                          refine TW.seq ?_
                          refine TW.region ?_
                          refine TO.y (Y.load_box (v := .agg #[Y22]) 0 kk29 rfl rfl rfl) rfl rfl rfl ?_
                          refine TO.y (Y.move rfl) rfl rfl rfl ?_
                          refine TO.ef (Ef.call (rest := [.box B23 29 [Y22], .own Y22 (lc 3 R55.2)]) [0, 0] (laws_heldSpace_con ({ Owner := R55.2 : Space }) (1 : Int) Y22 R58 H59) kc32 rfl rfl ⟨(Can.own 1 rfl), trivial⟩) rfl rfl rfl (fun _ => ?_)
                          refine TO.y (Y.assign rfl) rfl rfl rfl ?_
                          refine TO.nil ?_
                          refine TE.next ?_
                          refine TW.seq ?_
                          refine TW.seq ?_
                          refine TW.region ?_
                          refine TO.y (Y.move rfl) rfl rfl rfl ?_
                          refine TO.y (Y.lss rfl rfl) rfl rfl rfl ?_
                          refine TO.nil ?_
                          refine TE.next ?_
                          refine TW.cond rfl (fun H75 => ?_) (fun H75 => ?_)
                          · refine TW.seq ?_
                            refine TW.region ?_
                            refine TO.y (Y.assign rfl) rfl rfl rfl ?_
                            refine TO.nil ?_
                            refine TE.next ?_
                            refine TW.ret ?_
                            refine TE.then_ret ?_
                            exact TE.leaf fun _ _ hf_ hs_ => ret_any (rs := [.tmp 6]) (vs := [.bool false]) (.inl rfl) rfl ⟨rfl, trivial⟩ hf_ hs_ ⟨(), rfl, hs_.pulls [] rfl⟩
                          · refine TW.skip ?_
                            refine TE.next ?_
                            refine TW.seq ?_
                            refine TW.seq ?_
                            refine TW.region ?_
                            refine TO.y (Y.move rfl) rfl rfl rfl ?_
                            refine TO.y (Y.move rfl) rfl rfl rfl ?_
                            refine TO.y (Y.neq rfl rfl) rfl rfl rfl ?_
                            refine TO.nil ?_
                            refine TE.next ?_
                            refine TW.cond rfl (fun H76 => ?_) (fun H76 => ?_)
                            · refine TW.seq ?_
                              refine TW.region ?_
                              refine TO.y (Y.assign rfl) rfl rfl rfl ?_
                              refine TO.nil ?_
                              refine TE.next ?_
                              refine TW.ret ?_
                              refine TE.then_ret ?_
                              exact TE.leaf fun _ _ hf_ hs_ => ret_any (rs := [.tmp 6]) (vs := [.bool false]) (.inl rfl) rfl ⟨rfl, trivial⟩ hf_ hs_ ⟨(), rfl, hs_.pulls [] rfl⟩
                            · refine TW.skip ?_
                              refine TE.next ?_
                              refine TW.seq ?_
                              refine TW.region ?_
                              refine TO.y (Y.assign rfl) rfl rfl rfl ?_
                              refine TO.nil ?_
                              refine TE.next ?_
                              refine TW.ret ?_
                              exact TE.leaf fun _ _ hf_ hs_ => ret_any (rs := [.tmp 6]) (vs := [.bool true]) (.inl rfl) rfl ⟨rfl, trivial⟩ hf_ hs_ ⟨(), rfl, hs_.pulls [] rfl⟩

/-- loop.example/g00950/laws.szLogRow -/
noncomputable def laws_szLogRow (a : LogRow) (left : Int) : Option Int :=
  if (decide (IntKind.i64.wrap (left - ((a.Text.length : Nat) : Int)) < (0 : Int))) = true then (some (-1 : Int))
  else (some (IntKind.i64.wrap (left - ((a.Text.length : Nat) : Int))))

theorem laws_szLogRow_con (a : LogRow) (left : Int)  (r : Int) (hm : laws_szLogRow a left = some r) :
    Con Try.prog 40 [.agg #[.int .i64 a.Tenant, .int .i64 a.Boot, .int .i64 a.Seq, strV a.Text, .bool a.Synced], .int .i64 left] [] [] (fun _ : Unit => .int .i64 r) (fun _ => []) := by
  refine Con.intro (args := [.agg #[.int .i64 a.Tenant, .int .i64 a.Boot, .int .i64 a.Seq, strV a.Text, .bool a.Synced], .int .i64 left]) (n := 13) (val := fun r (_ : Unit) => .int .i64 r) (post := fun _ _ => []) (m := laws_szLogRow a left) Try.func40 rfl rfl rfl hm ?_
  intro w S _
  unfold laws_szLogRow
  refine TW.seq ?_
  refine TW.region ?_
  refine TO.ef (Ef.box rfl (Cel.plain rfl rfl)) rfl rfl rfl (fun B1 => ?_)
  refine TO.y (Y.assign rfl) rfl rfl rfl ?_
  refine TO.nil ?_
  refine TE.next ?_
  refine TW.seq ?_
  refine TW.region ?_
  refine TO.y (Y.move rfl) rfl rfl rfl ?_
  refine TO.y (Y.field_box kf64_3 rfl rfl) rfl rfl rfl ?_
  refine TO.y (Y.load_box (v := strV a.Text) 0 kk9 rfl rfl rfl) rfl rfl rfl ?_
  refine TO.y (Y.slen ks9 rfl) rfl rfl rfl ?_
  refine TO.y (Y.sub rfl rfl) rfl rfl rfl ?_
  refine TO.y (Y.assign rfl) rfl rfl rfl ?_
  refine TO.nil ?_
  refine TE.next ?_
  refine TW.seq ?_
  refine TW.seq ?_
  refine TW.region ?_
  refine TO.y (Y.move rfl) rfl rfl rfl ?_
  refine TO.y (Y.lss rfl rfl) rfl rfl rfl ?_
  refine TO.nil ?_
  refine TE.next ?_
  refine TW.cond rfl (fun H2 => ?_) (fun H2 => ?_)
  · refine TW.seq ?_
    refine TW.region ?_
    refine TO.y (Y.assign rfl) rfl rfl rfl ?_
    refine TO.nil ?_
    refine TE.next ?_
    refine TW.ret ?_
    refine TE.then_ret ?_
    exact TE.leaf fun _ _ hf_ hs_ => ret_any (rs := [.tmp 4]) (vs := [.int .i64 (-1 : Int)]) (.inl rfl) rfl ⟨rfl, trivial⟩ hf_ hs_ ⟨(), rfl, hs_.pulls [] rfl⟩
  · refine TW.skip ?_
    refine TE.next ?_
    refine TW.seq ?_
    refine TW.region ?_
    refine TO.y (Y.move rfl) rfl rfl rfl ?_
    refine TO.y (Y.assign rfl) rfl rfl rfl ?_
    refine TO.nil ?_
    refine TE.next ?_
    refine TW.ret ?_
    exact TE.leaf fun _ _ hf_ hs_ => ret_any (rs := [.tmp 4]) (vs := [.int .i64 (IntKind.i64.wrap (left - ((a.Text.length : Nat) : Int)))]) (.inl rfl) rfl ⟨rfl, trivial⟩ hf_ hs_ ⟨(), rfl, hs_.pulls [] rfl⟩

/-- loop.example/g00950/laws.szLogRowS -/
noncomputable def laws_szLogRowS (a : List LogRow) (left : Int) : Option Int :=
  if (decide (IntKind.i64.wrap (left - ((a.length : Nat) : Int)) < (0 : Int))) = true then (some (-1 : Int))
  else (bindC (loopO (fun (S2 : Int × Int) => if (decide (S2.2 < ((a.length : Nat) : Int))) = true then ((idx a S2.2).bind fun E7 =>
  (laws_szLogRow E7 S2.1).bind fun R9 =>
  if (decide (R9 < (0 : Int))) = true then (some (.done (.done (-1 : Int))))
  else (some (.go (R9, IntKind.i64.wrap (S2.2 + (1 : Int))))))
  else (some (.done (.go S2.1))))
  (IntKind.i64.wrap (left - ((a.length : Nat) : Int)), (0 : Int)))
  (fun (T4 : Int) => some T4))

theorem laws_szLogRowS_con (a : List LogRow) (left : Int) (V_a0 : Value) (r : Int) (hm : laws_szLogRowS a left = some r) :
    Con Try.prog 16 [V_a0, .int .i64 left] [] [(V_a0, lc 64 a)] (fun _ : Unit => .int .i64 r) (fun _ => []) := by
  refine Con.intro (args := [V_a0, .int .i64 left]) (n := 27) (val := fun r (_ : Unit) => .int .i64 r) (post := fun _ _ => []) (m := laws_szLogRowS a left) Try.func16 rfl rfl rfl hm ?_
  intro w S hrd
  have HB_V_a0 := hrd _ (.head _)
  clear hrd
  unfold laws_szLogRowS
  refine TW.seq ?_
  refine TW.region ?_
  refine TO.y (Y.assign rfl) rfl rfl rfl ?_
  refine TO.nil ?_
  refine TE.next ?_
  refine TW.seq ?_
  refine TW.region ?_
  refine TO.y (Y.move rfl) rfl rfl rfl ?_
  refine TO.y (Y.move rfl) rfl rfl rfl ?_
  refine TO.y (Y.len (l := a) ke33 (Base.can HB_V_a0) rfl) rfl rfl rfl ?_
  refine TO.y (Y.sub rfl rfl) rfl rfl rfl ?_
  refine TO.y (Y.assign rfl) rfl rfl rfl ?_
  refine TO.nil ?_
  refine TE.next ?_
  refine TW.seq ?_
  refine TW.seq ?_
  refine TW.region ?_
  refine TO.y (Y.move rfl) rfl rfl rfl ?_
  refine TO.y (Y.lss rfl rfl) rfl rfl rfl ?_
  refine TO.nil ?_
  refine TE.next ?_
  refine TW.cond rfl (fun H1 => ?_) (fun H1 => ?_)
  · refine TW.seq ?_
    refine TW.region ?_
    refine TO.y (Y.assign rfl) rfl rfl rfl ?_
    refine TO.nil ?_
    refine TE.next ?_
    refine TW.ret ?_
    refine TE.then_ret ?_
    exact TE.leaf fun _ _ hf_ hs_ => ret_any (rs := [.tmp 4]) (vs := [.int .i64 (-1 : Int)]) (.inl rfl) rfl ⟨rfl, trivial⟩ hf_ hs_ ⟨(), rfl, hs_.pulls [] rfl⟩
  · refine TW.skip ?_
    refine TE.next ?_
    refine TW.seq ?_
    refine TW.seq ?_
    refine TW.region ?_
    refine TO.y (Y.assign rfl) rfl rfl rfl ?_
    refine TO.nil ?_
    refine TE.next ?_
    refine TW.joinX (τ := Int) (X := Unit) (fun T _ => [(1, .int .i64 T)]) (fun _ _ => []) ?_ (fun T4 X5 => ?_)
    · refine TW.block ?_
      refine TW.loopX (σ := Int × Int) (X := Unit) (fun T _ => [(0, V_a0), (1, .int .i64 T.1), (5, .int .i64 T.2)]) (fun _ _ => []) () [] ⟨rfl, rfl, rfl, trivial⟩ rfl (fun S2 X3 => ?_)
      refine TW.seq ?_
      refine TW.seq ?_
      refine TW.region ?_
      refine TO.y (Y.move rfl) rfl rfl rfl ?_
      refine TO.y (Y.move rfl) rfl rfl rfl ?_
      refine TO.y (Y.len (l := a) ke33 (Base.can HB_V_a0) rfl) rfl rfl rfl ?_
      refine TO.y (Y.lss rfl rfl) rfl rfl rfl ?_
      refine TO.nil ?_
      refine TE.next ?_
      refine TW.cond rfl (fun H6 => ?_) (fun H6 => ?_)
      · refine TW.skip ?_
        refine TE.next ?_
        refine TW.seq ?_
        refine TW.block ?_
        refine TW.seq ?_
        refine TW.region ?_
        refine TO.y (Y.move rfl) rfl rfl rfl ?_
        refine TO.y (Y.move rfl) rfl rfl rfl ?_
        refine TO.bind fun E7 H8 => ?_
        refine TO.y (Y.index ke33 (Base.can HB_V_a0) H8 rfl rfl) rfl rfl rfl ?_
        refine TO.y (Y.load_el (us := [.int .i64 E7.Tenant, .int .i64 E7.Boot, .int .i64 E7.Seq, strV E7.Text, .bool E7.Synced]) (u := .agg #[.int .i64 E7.Tenant, .int .i64 E7.Boot, .int .i64 E7.Seq, strV E7.Text, .bool E7.Synced]) kk64 rfl (Base.can HB_V_a0) (idx_get H8).2.2 rfl rfl rfl rfl rfl) rfl rfl rfl ?_
        refine TO.y (Y.move rfl) rfl rfl rfl ?_
        refine TO.bind fun R9 H10 => ?_
        refine TO.ef (Ef.call (rest := []) [] (laws_szLogRow_con E7 S2.1  R9 H10) kc40 rfl rfl trivial) rfl rfl rfl (fun _ => ?_)
        refine TO.y (Y.assign rfl) rfl rfl rfl ?_
        refine TO.nil ?_
        refine TE.next ?_
        refine TW.seq ?_
        refine TW.region ?_
        refine TO.y (Y.move rfl) rfl rfl rfl ?_
        refine TO.y (Y.lss rfl rfl) rfl rfl rfl ?_
        refine TO.nil ?_
        refine TE.next ?_
        refine TW.cond rfl (fun H12 => ?_) (fun H12 => ?_)
        · refine TW.seq ?_
          refine TW.region ?_
          refine TO.y (Y.assign rfl) rfl rfl rfl ?_
          refine TO.nil ?_
          refine TE.next ?_
          refine TW.ret ?_
          refine TE.block_ret ?_
          refine TE.then_ret ?_
          refine TE.lp_ret ?_
          refine TE.block_ret ?_
          refine TE.jn_done ?_
          refine TE.then_ret ?_
          exact TE.leaf fun _ _ hf_ hs_ => ret_any (rs := [.tmp 4]) (vs := [.int .i64 (-1 : Int)]) (.inl rfl) rfl ⟨rfl, trivial⟩ hf_ hs_ ⟨(), rfl, hs_.pulls [] rfl⟩
        · refine TW.skip ?_
          refine TE.block_normal ?_
          refine TE.next ?_
          refine TW.region ?_
          refine TO.y (Y.move rfl) rfl rfl rfl ?_
          refine TO.y (Y.add rfl rfl) rfl rfl rfl ?_
          refine TO.y (Y.assign rfl) rfl rfl rfl ?_
          refine TO.nil ?_
          exact TE.lp_go () [] ⟨rfl, rfl, rfl, trivial⟩ rfl
      · refine TW.exit ?_
        refine TE.then_exit ?_
        refine TE.lp_exit ?_
        refine TE.block_exit ?_
        exact TE.jn_go () [] ⟨rfl, trivial⟩ rfl
    · refine TE.next ?_
      refine TW.seq ?_
      refine TW.region ?_
      refine TO.y (Y.move rfl) rfl rfl rfl ?_
      refine TO.y (Y.assign rfl) rfl rfl rfl ?_
      refine TO.nil ?_
      refine TE.next ?_
      refine TW.ret ?_
      exact TE.leaf fun _ _ hf_ hs_ => ret_any (rs := [.tmp 4]) (vs := [.int .i64 T4]) (.inl rfl) rfl ⟨rfl, trivial⟩ hf_ hs_ ⟨(), rfl, hs_.pulls [] rfl⟩

/-- loop.example/g00950/laws.toLogRow -/
noncomputable def laws_toLogRow (a : LogRow) : Option LogRow :=
  some a

theorem laws_toLogRow_con (a : LogRow)  (r : LogRow) (hm : laws_toLogRow a = some r) :
    Con Try.prog 41 [.agg #[.int .i64 a.Tenant, .int .i64 a.Boot, .int .i64 a.Seq, strV a.Text, .bool a.Synced]] [] [] (fun _ : Unit => .agg #[.int .i64 r.Tenant, .int .i64 r.Boot, .int .i64 r.Seq, strV r.Text, .bool r.Synced]) (fun _ => []) := by
  refine Con.intro (args := [.agg #[.int .i64 a.Tenant, .int .i64 a.Boot, .int .i64 a.Seq, strV a.Text, .bool a.Synced]]) (n := 20) (val := fun r (_ : Unit) => .agg #[.int .i64 r.Tenant, .int .i64 r.Boot, .int .i64 r.Seq, strV r.Text, .bool r.Synced]) (post := fun _ _ => []) (m := laws_toLogRow a) Try.func41 rfl rfl rfl hm ?_
  intro w S _
  unfold laws_toLogRow
  refine TW.seq ?_
  refine TW.region ?_
  refine TO.ef (Ef.box rfl (Cel.plain rfl rfl)) rfl rfl rfl (fun B1 => ?_)
  refine TO.ef (Ef.alloc kz65 rfl) rfl rfl rfl (fun B2 => ?_)
  refine TO.nil ?_
  refine TE.next ?_
  refine TW.seq ?_
  refine TW.region ?_
  refine TO.ef (Ef.alloc kz65 rfl) rfl rfl rfl (fun B3 => ?_)
  refine TO.nil ?_
  refine TE.next ?_
  refine TW.seq ?_
  refine TW.region ?_
  refine TO.y (Y.field_box kf64_0 rfl rfl) rfl rfl rfl ?_
  refine TO.y (Y.load_box (v := .int .i64 a.Tenant) 2 kk3 rfl rfl rfl) rfl rfl rfl ?_
  refine TO.y (Y.field_box kf65_0 rfl rfl) rfl rfl rfl ?_
  refine TO.ef0 (Ef.store_box (us := [.int .i64 a.Tenant]) (vs' := [.int .i64 a.Tenant, .int .i64 (0 : Int), .int .i64 (0 : Int), strV ([]), .bool false]) (is' := [.box B3 65 [.int .i64 a.Tenant, .int .i64 (0 : Int), .int .i64 (0 : Int), strV ([]), .bool false], .box B2 65 [.int .i64 (0 : Int), .int .i64 (0 : Int), .int .i64 (0 : Int), strV ([]), .bool false], .box B1 64 [.int .i64 a.Tenant, .int .i64 a.Boot, .int .i64 a.Seq, strV a.Text, .bool a.Synced]]) 0 kk3 rfl rfl rfl (Cel.plain rfl rfl) rfl rfl rfl rfl) rfl rfl (fun _ => ?_)
  refine TO.nil ?_
  refine TE.next ?_
  refine TW.seq ?_
  refine TW.region ?_
  refine TO.y (Y.field_box kf64_1 rfl rfl) rfl rfl rfl ?_
  refine TO.y (Y.load_box (v := .int .i64 a.Boot) 2 kk3 rfl rfl rfl) rfl rfl rfl ?_
  refine TO.y (Y.field_box kf65_1 rfl rfl) rfl rfl rfl ?_
  refine TO.ef0 (Ef.store_box (us := [.int .i64 a.Boot]) (vs' := [.int .i64 a.Tenant, .int .i64 a.Boot, .int .i64 (0 : Int), strV ([]), .bool false]) (is' := [.box B3 65 [.int .i64 a.Tenant, .int .i64 a.Boot, .int .i64 (0 : Int), strV ([]), .bool false], .box B2 65 [.int .i64 (0 : Int), .int .i64 (0 : Int), .int .i64 (0 : Int), strV ([]), .bool false], .box B1 64 [.int .i64 a.Tenant, .int .i64 a.Boot, .int .i64 a.Seq, strV a.Text, .bool a.Synced]]) 0 kk3 rfl rfl rfl (Cel.plain rfl rfl) rfl rfl rfl rfl) rfl rfl (fun _ => ?_)
  refine TO.nil ?_
  refine TE.next ?_
  refine TW.seq ?_
  refine TW.region ?_
  refine TO.y (Y.field_box kf64_2 rfl rfl) rfl rfl rfl ?_
  refine TO.y (Y.load_box (v := .int .i64 a.Seq) 2 kk3 rfl rfl rfl) rfl rfl rfl ?_
  refine TO.y (Y.field_box kf65_2 rfl rfl) rfl rfl rfl ?_
  refine TO.ef0 (Ef.store_box (us := [.int .i64 a.Seq]) (vs' := [.int .i64 a.Tenant, .int .i64 a.Boot, .int .i64 a.Seq, strV ([]), .bool false]) (is' := [.box B3 65 [.int .i64 a.Tenant, .int .i64 a.Boot, .int .i64 a.Seq, strV ([]), .bool false], .box B2 65 [.int .i64 (0 : Int), .int .i64 (0 : Int), .int .i64 (0 : Int), strV ([]), .bool false], .box B1 64 [.int .i64 a.Tenant, .int .i64 a.Boot, .int .i64 a.Seq, strV a.Text, .bool a.Synced]]) 0 kk3 rfl rfl rfl (Cel.plain rfl rfl) rfl rfl rfl rfl) rfl rfl (fun _ => ?_)
  refine TO.nil ?_
  refine TE.next ?_
  refine TW.seq ?_
  refine TW.region ?_
  refine TO.y (Y.field_box kf64_3 rfl rfl) rfl rfl rfl ?_
  refine TO.y (Y.load_box (v := strV a.Text) 2 kk9 rfl rfl rfl) rfl rfl rfl ?_
  refine TO.y (Y.field_box kf65_3 rfl rfl) rfl rfl rfl ?_
  refine TO.ef0 (Ef.store_box (us := [strV a.Text]) (vs' := [.int .i64 a.Tenant, .int .i64 a.Boot, .int .i64 a.Seq, strV a.Text, .bool false]) (is' := [.box B3 65 [.int .i64 a.Tenant, .int .i64 a.Boot, .int .i64 a.Seq, strV a.Text, .bool false], .box B2 65 [.int .i64 (0 : Int), .int .i64 (0 : Int), .int .i64 (0 : Int), strV ([]), .bool false], .box B1 64 [.int .i64 a.Tenant, .int .i64 a.Boot, .int .i64 a.Seq, strV a.Text, .bool a.Synced]]) 0 kk9 rfl rfl rfl (Cel.plain rfl rfl) rfl rfl rfl rfl) rfl rfl (fun _ => ?_)
  refine TO.nil ?_
  refine TE.next ?_
  refine TW.seq ?_
  refine TW.region ?_
  refine TO.y (Y.field_box kf64_4 rfl rfl) rfl rfl rfl ?_
  refine TO.y (Y.load_box (v := .bool a.Synced) 2 kk4 rfl rfl rfl) rfl rfl rfl ?_
  refine TO.y (Y.field_box kf65_4 rfl rfl) rfl rfl rfl ?_
  refine TO.ef0 (Ef.store_box (us := [.bool a.Synced]) (vs' := [.int .i64 a.Tenant, .int .i64 a.Boot, .int .i64 a.Seq, strV a.Text, .bool a.Synced]) (is' := [.box B3 65 [.int .i64 a.Tenant, .int .i64 a.Boot, .int .i64 a.Seq, strV a.Text, .bool a.Synced], .box B2 65 [.int .i64 (0 : Int), .int .i64 (0 : Int), .int .i64 (0 : Int), strV ([]), .bool false], .box B1 64 [.int .i64 a.Tenant, .int .i64 a.Boot, .int .i64 a.Seq, strV a.Text, .bool a.Synced]]) 0 kk4 rfl rfl rfl (Cel.plain rfl rfl) rfl rfl rfl rfl) rfl rfl (fun _ => ?_)
  refine TO.nil ?_
  refine TE.next ?_
  refine TW.seq ?_
  refine TW.region ?_
  refine TO.y (Y.load_box (v := .agg #[.int .i64 a.Tenant, .int .i64 a.Boot, .int .i64 a.Seq, strV a.Text, .bool a.Synced]) 0 kk65 rfl rfl rfl) rfl rfl rfl ?_
  refine TO.ef0 (Ef.store_box (us := [.int .i64 a.Tenant, .int .i64 a.Boot, .int .i64 a.Seq, strV a.Text, .bool a.Synced]) (vs' := [.int .i64 a.Tenant, .int .i64 a.Boot, .int .i64 a.Seq, strV a.Text, .bool a.Synced]) (is' := [.box B3 65 [.int .i64 a.Tenant, .int .i64 a.Boot, .int .i64 a.Seq, strV a.Text, .bool a.Synced], .box B2 65 [.int .i64 a.Tenant, .int .i64 a.Boot, .int .i64 a.Seq, strV a.Text, .bool a.Synced], .box B1 64 [.int .i64 a.Tenant, .int .i64 a.Boot, .int .i64 a.Seq, strV a.Text, .bool a.Synced]]) 1 kk65 rfl rfl rfl (Cel.plain rfl rfl) rfl rfl rfl rfl) rfl rfl (fun _ => ?_)
  refine TO.nil ?_
  refine TE.next ?_
  refine TW.ret ?_
  exact TE.leaf fun _ _ hf_ hs_ => ret_any (rs := [.cell 2 65]) (vs := [.agg #[.int .i64 a.Tenant, .int .i64 a.Boot, .int .i64 a.Seq, strV a.Text, .bool a.Synced]]) (.inl rfl) rfl (RV.cell 1 rfl rfl kk65 rfl trivial) hf_ hs_ ⟨(), rfl, hs_.pulls [] rfl⟩

/-- loop.example/g00950/laws.toLogRowS -/
noncomputable def laws_toLogRowS (a : List LogRow) : Option (List LogRow) :=
  (mkLen 48 ((a.length : Nat) : Int)).bind fun E2 =>
  bindC (loopO (fun (S4 : Int × List LogRow) => if (decide (S4.1 < ((a.length : Nat) : Int))) = true then ((idx a S4.1).bind fun E9 =>
  (laws_toLogRow E9).bind fun R11 =>
  (idx S4.2 S4.1).bind fun E14 =>
  some (.go (IntKind.i64.wrap (S4.1 + (1 : Int)), (S4.2.set S4.1.toNat R11))))
  else (some (.done (.go S4.2))))
  ((0 : Int), (List.replicate E2 ({ Tenant := (0 : Int), Boot := (0 : Int), Seq := (0 : Int), Text := [], Synced := false : LogRow } : LogRow))))
  (fun (T6 : List LogRow) => some T6)

theorem laws_toLogRowS_con (a : List LogRow) (V_a0 : Value) (r : List LogRow) (hm : laws_toLogRowS a = some r) :
    Con Try.prog 18 [V_a0] [] [(V_a0, lc 64 a)] (fun X : Value => X) (fun X => [.own X (lc 65 r)]) := by
  refine Con.intro (args := [V_a0]) (n := 23) (val := fun _ (X : Value) => X) (post := fun r X => [.own X (lc 65 r)]) (m := laws_toLogRowS a) Try.func18 rfl rfl rfl hm ?_
  intro w S hrd
  have HB_V_a0 := hrd _ (.head _)
  clear hrd
  unfold laws_toLogRowS
  refine TW.seq ?_
  refine TW.region ?_
  refine TO.y (Y.assign rfl) rfl rfl rfl ?_
  refine TO.nil ?_
  refine TE.next ?_
  refine TW.seq ?_
  refine TW.region ?_
  refine TO.y (Y.move rfl) rfl rfl rfl ?_
  refine TO.y (Y.len (l := a) ke33 (Base.can HB_V_a0) rfl) rfl rfl rfl ?_
  refine TO.bind fun E2 H3 => ?_
  refine TO.ef (Ef.make (α := LogRow) (z := ({ Tenant := (0 : Int), Boot := (0 : Int), Seq := (0 : Int), Text := [], Synced := false : LogRow } : LogRow)) H3 ke36 kz65 rfl rfl rfl rfl) rfl rfl rfl (fun V1 => ?_)
  refine TO.y (Y.assign rfl) rfl rfl rfl ?_
  refine TO.nil ?_
  refine TE.next ?_
  refine TW.seq ?_
  refine TW.seq ?_
  refine TW.region ?_
  refine TO.y (Y.assign rfl) rfl rfl rfl ?_
  refine TO.nil ?_
  refine TE.next ?_
  refine TW.joinX (τ := List LogRow) (X := Unit) (fun _ _ => [(3, V1)]) (fun T _ => [.own V1 (lc 65 T)]) ?_ (fun T6 X7 => ?_)
  · refine TW.block ?_
    refine TW.loopX (σ := Int × List LogRow) (X := Unit) (fun T _ => [(0, V_a0), (3, V1), (4, .int .i64 T.1)]) (fun T _ => [.own V1 (lc 65 T.2)]) () [0] ⟨rfl, rfl, rfl, trivial⟩ rfl (fun S4 X5 => ?_)
    refine TW.seq ?_
    refine TW.seq ?_
    refine TW.region ?_
    refine TO.y (Y.move rfl) rfl rfl rfl ?_
    refine TO.y (Y.move rfl) rfl rfl rfl ?_
    refine TO.y (Y.len (l := a) ke33 (Base.can HB_V_a0) rfl) rfl rfl rfl ?_
    refine TO.y (Y.lss rfl rfl) rfl rfl rfl ?_
    refine TO.nil ?_
    refine TE.next ?_
    refine TW.cond rfl (fun H8 => ?_) (fun H8 => ?_)
    · refine TW.skip ?_
      refine TE.next ?_
      refine TW.seq ?_
      refine TW.block ?_
      refine TW.region ?_
      refine TO.y (Y.move rfl) rfl rfl rfl ?_
      refine TO.y (Y.move rfl) rfl rfl rfl ?_
      refine TO.y (Y.move rfl) rfl rfl rfl ?_
      refine TO.y (Y.move rfl) rfl rfl rfl ?_
      refine TO.bind fun E9 H10 => ?_
      refine TO.y (Y.index ke33 (Base.can HB_V_a0) H10 rfl rfl) rfl rfl rfl ?_
      refine TO.y (Y.load_el (us := [.int .i64 E9.Tenant, .int .i64 E9.Boot, .int .i64 E9.Seq, strV E9.Text, .bool E9.Synced]) (u := .agg #[.int .i64 E9.Tenant, .int .i64 E9.Boot, .int .i64 E9.Seq, strV E9.Text, .bool E9.Synced]) kk64 rfl (Base.can HB_V_a0) (idx_get H10).2.2 rfl rfl rfl rfl rfl) rfl rfl rfl ?_
      refine TO.bind fun R11 H12 => ?_
      refine TO.ef (Ef.call (rest := [.own V1 (lc 65 S4.2)]) [0] (laws_toLogRow_con E9  R11 H12) kc41 rfl rfl trivial) rfl rfl rfl (fun _ => ?_)
      refine TO.bind fun E14 H15 => ?_
      refine TO.y (Y.index ke36 (Can.own 0 rfl) H15 rfl rfl) rfl rfl rfl ?_
      refine TO.ef0 (Ef.store_el (us := [.int .i64 R11.Tenant, .int .i64 R11.Boot, .int .i64 R11.Seq, strV R11.Text, .bool R11.Synced]) (is' := [.own V1 (lc 65 (S4.2.set S4.1.toNat R11))]) R11 0 kk65 rfl rfl (idx_get H15).2.2 rfl rfl (Cel.plain rfl rfl) rfl rfl rfl rfl) rfl rfl (fun _ => ?_)
      refine TO.nil ?_
      refine TE.block_normal ?_
      refine TE.next ?_
      refine TW.region ?_
      refine TO.y (Y.move rfl) rfl rfl rfl ?_
      refine TO.y (Y.add rfl rfl) rfl rfl rfl ?_
      refine TO.y (Y.assign rfl) rfl rfl rfl ?_
      refine TO.nil ?_
      exact TE.lp_go () [0] ⟨rfl, rfl, rfl, trivial⟩ rfl
    · refine TW.exit ?_
      refine TE.then_exit ?_
      refine TE.lp_exit ?_
      refine TE.block_exit ?_
      exact TE.jn_go () [0] ⟨rfl, trivial⟩ rfl
  · refine TE.next ?_
    refine TW.seq ?_
    refine TW.region ?_
    refine TO.y (Y.move rfl) rfl rfl rfl ?_
    refine TO.y (Y.assign rfl) rfl rfl rfl ?_
    refine TO.nil ?_
    refine TE.next ?_
    refine TW.ret ?_
    exact TE.leaf fun _ _ hf_ hs_ => ret_any (rs := [.tmp 2]) (vs := [V1]) (.inl rfl) rfl ⟨rfl, trivial⟩ hf_ hs_ ⟨V1, rfl, hs_.pulls [0] rfl⟩

/-- loop.example/g00950/spec.Lens -/
noncomputable def spec_Lens (l : List LogRow) (tenant : Int) : Option (List Int) :=
  bindC (loopO (fun (S2 : Int × List Int) => if (decide (S2.1 < ((l.length : Nat) : Int))) = true then ((idx l S2.1).bind fun E7 =>
  bindC (if (decide (E7.Tenant = tenant)) = true then ((app 8 S2.2 ([((E7.Text.length : Nat) : Int)])).bind fun E14 =>
  some (.go E14))
  else (some (.go S2.2)))
  (fun (T9 : List Int) => some (.go (IntKind.i64.wrap (S2.1 + (1 : Int)), T9))))
  else (some (.done (.go S2.2))))
  ((0 : Int), ([] : List Int)))
  (fun (T4 : List Int) => some T4)

theorem spec_Lens_con (l : List LogRow) (tenant : Int) (V_l0 : Value) (r : List Int) (hm : spec_Lens l tenant = some r) :
    Con Try.prog 33 [V_l0, .int .i64 tenant] [] [(V_l0, lc 65 l)] (fun X : Value => X) (fun X => [.own X (lc 3 r)]) := by
  refine Con.intro (args := [V_l0, .int .i64 tenant]) (n := 31) (val := fun _ (X : Value) => X) (post := fun r X => [.own X (lc 3 r)]) (m := spec_Lens l tenant) Try.func33 rfl rfl rfl hm ?_
  intro w S hrd
  have HB_V_l0 := hrd _ (.head _)
  clear hrd
  unfold spec_Lens
  refine TW.seq ?_
  refine TW.region ?_
  refine TO.y (Y.assign rfl) rfl rfl rfl ?_
  refine TO.nil ?_
  refine TE.next ?_
  refine TW.seq ?_
  refine TW.region ?_
  refine TO.ef (Ef.buildSlice (α := Int) (Vs := []) ([] : List Int) ke24 kz3 rfl rfl rfl rfl rfl) rfl rfl rfl (fun B1 => ?_)
  refine TO.y (Y.assign rfl) rfl rfl rfl ?_
  refine TO.nil ?_
  refine TE.next ?_
  refine TW.seq ?_
  refine TW.seq ?_
  refine TW.region ?_
  refine TO.y (Y.assign rfl) rfl rfl rfl ?_
  refine TO.nil ?_
  refine TE.next ?_
  refine TW.joinX (τ := List Int) (X := Value) (fun _ X => [(5, X)]) (fun T X => [.own X (lc 3 T)]) ?_ (fun T4 X5 => ?_)
  · refine TW.block ?_
    refine TW.loopX (σ := Int × List Int) (X := Value) (fun T X => [(0, V_l0), (1, .int .i64 tenant), (5, X), (6, .int .i64 T.1)]) (fun T X => [.own X (lc 3 T.2)]) (.slice (some ⟨B1, 0, none⟩) 0 0) [0] ⟨rfl, rfl, rfl, rfl, trivial⟩ rfl (fun S2 X3 => ?_)
    refine TW.seq ?_
    refine TW.seq ?_
    refine TW.region ?_
    refine TO.y (Y.move rfl) rfl rfl rfl ?_
    refine TO.y (Y.move rfl) rfl rfl rfl ?_
    refine TO.y (Y.len (l := l) ke36 (Base.can HB_V_l0) rfl) rfl rfl rfl ?_
    refine TO.y (Y.lss rfl rfl) rfl rfl rfl ?_
    refine TO.nil ?_
    refine TE.next ?_
    refine TW.cond rfl (fun H6 => ?_) (fun H6 => ?_)
    · refine TW.skip ?_
      refine TE.next ?_
      refine TW.seq ?_
      refine TW.block ?_
      refine TW.seq ?_
      refine TW.region ?_
      refine TO.y (Y.move rfl) rfl rfl rfl ?_
      refine TO.y (Y.move rfl) rfl rfl rfl ?_
      refine TO.bind fun E7 H8 => ?_
      refine TO.y (Y.index ke36 (Base.can HB_V_l0) H8 rfl rfl) rfl rfl rfl ?_
      refine TO.y (Y.field_el kf65_0 (Base.can HB_V_l0) (idx_get H8).2.2 rfl rfl) rfl rfl rfl ?_
      refine TO.y (Y.load_el (us := [.int .i64 E7.Tenant]) (u := .int .i64 E7.Tenant) kk3 rfl (Base.can HB_V_l0) (idx_get H8).2.2 rfl rfl rfl rfl rfl) rfl rfl rfl ?_
      refine TO.y (Y.move rfl) rfl rfl rfl ?_
      refine TO.y (Y.eql rfl rfl) rfl rfl rfl ?_
      refine TO.nil ?_
      refine TE.next ?_
      refine TW.joinX (τ := List Int) (X := Value) (fun _ X => [(0, V_l0), (1, .int .i64 tenant), (5, X), (6, .int .i64 S2.1)]) (fun T X => [.own X (lc 3 T)]) ?_ (fun T9 X10 => ?_)
      · refine TW.cond rfl (fun H11 => ?_) (fun H11 => ?_)
        · refine TW.region ?_
          refine TO.y (Y.move rfl) rfl rfl rfl ?_
          refine TO.y (Y.move rfl) rfl rfl rfl ?_
          refine TO.y (Y.move rfl) rfl rfl rfl ?_
          refine TO.y (Y.index ke36 (Base.can HB_V_l0) H8 rfl rfl) rfl rfl rfl ?_
          refine TO.y (Y.field_el kf65_3 (Base.can HB_V_l0) (idx_get H8).2.2 rfl rfl) rfl rfl rfl ?_
          refine TO.y (Y.load_el (us := [strV E7.Text]) (u := strV E7.Text) kk9 rfl (Base.can HB_V_l0) (idx_get H8).2.2 rfl rfl rfl rfl rfl) rfl rfl rfl ?_
          refine TO.y (Y.slen ks9 rfl) rfl rfl rfl ?_
          refine TO.ef (Ef.buildSlice (α := Int) (Vs := [.int .i64 ((E7.Text.length : Nat) : Int)]) [((E7.Text.length : Nat) : Int)] ke24 kz3 rfl rfl rfl rfl rfl) rfl rfl rfl (fun B12 => ?_)
          refine TO.bind fun E14 H15 => ?_
          refine TO.ef (Ef.append (α := Int) (is' := [.own (.slice (some ⟨B12, 0, none⟩) 1 1) (lc 3 ([((E7.Text.length : Nat) : Int)]))]) [1, 0] H15 ke24 kz3 rfl rfl rfl rfl rfl (Can.own 0 rfl)) rfl rfl rfl (fun V13 => ?_)
          refine TO.y (Y.assign rfl) rfl rfl rfl ?_
          refine TO.nil ?_
          exact TE.jn_go V13 [0] ⟨rfl, rfl, rfl, rfl, trivial⟩ rfl
        · refine TW.skip ?_
          exact TE.jn_go X3 [0] ⟨rfl, rfl, rfl, rfl, trivial⟩ rfl
      · refine TE.block_normal ?_
        refine TE.next ?_
        refine TW.region ?_
        refine TO.y (Y.move rfl) rfl rfl rfl ?_
        refine TO.y (Y.add rfl rfl) rfl rfl rfl ?_
        refine TO.y (Y.assign rfl) rfl rfl rfl ?_
        refine TO.nil ?_
        exact TE.lp_go X10 [0] ⟨rfl, rfl, rfl, rfl, trivial⟩ rfl
    · refine TW.exit ?_
      refine TE.then_exit ?_
      refine TE.lp_exit ?_
      refine TE.block_exit ?_
      exact TE.jn_go X3 [0] ⟨rfl, trivial⟩ rfl
  · refine TE.next ?_
    refine TW.seq ?_
    refine TW.region ?_
    refine TO.y (Y.move rfl) rfl rfl rfl ?_
    refine TO.y (Y.assign rfl) rfl rfl rfl ?_
    refine TO.nil ?_
    refine TE.next ?_
    refine TW.ret ?_
    exact TE.leaf fun _ _ hf_ hs_ => ret_any (rs := [.tmp 4]) (vs := [X5]) (.inl rfl) rfl ⟨rfl, trivial⟩ hf_ hs_ ⟨X5, rfl, hs_.pulls [0] rfl⟩

/-- loop.example/g00950/impl.Lens -/
noncomputable def impl_Lens (l : List LogRow) (tenant : Int) : Option (List Int) :=
  bindC (loopO (fun (S1 : Int × List Int) => if (decide (S1.1 < ((l.length : Nat) : Int))) = true then ((idx l S1.1).bind fun E6 =>
  bindC (if (decide (E6.Tenant = tenant)) = true then ((app 8 S1.2 ([((E6.Text.length : Nat) : Int)])).bind fun E14 =>
  some (.go E14))
  else (some (.go S1.2)))
  (fun (T9 : List Int) => some (.go (IntKind.i64.wrap (S1.1 + (1 : Int)), T9))))
  else (some (.done (.go S1.2))))
  ((0 : Int), ([] : List Int)))
  (fun (T3 : List Int) => some T3)

theorem impl_Lens_con (l : List LogRow) (tenant : Int) (V_l0 : Value) (r : List Int) (hm : impl_Lens l tenant = some r) :
    Con Try.prog 34 [V_l0, .int .i64 tenant] [] [(V_l0, lc 65 l)] (fun X : Value => X) (fun X => [.own X (lc 3 r)]) := by
  refine Con.intro (args := [V_l0, .int .i64 tenant]) (n := 26) (val := fun _ (X : Value) => X) (post := fun r X => [.own X (lc 3 r)]) (m := impl_Lens l tenant) Try.func34 rfl rfl rfl hm ?_
  intro w S hrd
  have HB_V_l0 := hrd _ (.head _)
  clear hrd
  unfold impl_Lens
  refine TW.seq ?_
  refine TW.region ?_
  refine TO.y (Y.assign rfl) rfl rfl rfl ?_
  refine TO.nil ?_
  refine TE.next ?_
  refine TW.seq ?_
  refine TW.region ?_
  refine TO.y (Y.assign rfl) rfl rfl rfl ?_
  refine TO.nil ?_
  refine TE.next ?_
  refine TW.seq ?_
  refine TW.seq ?_
  refine TW.region ?_
  refine TO.y (Y.move rfl) rfl rfl rfl ?_
  refine TO.y (Y.len (l := l) ke36 (Base.can HB_V_l0) rfl) rfl rfl rfl ?_
  refine TO.y (Y.move rfl) rfl rfl rfl ?_
  refine TO.nil ?_
  refine TE.next ?_
  refine TW.joinX (τ := List Int) (X := Value) (fun _ X => [(5, X)]) (fun T X => [.own X (lc 3 T)]) ?_ (fun T3 X4 => ?_)
  · refine TW.block ?_
    refine TW.nilItem 3 1 ?_
    refine TW.loopX (σ := Int × List Int) (X := Value) (fun T X => [(1, .int .i64 tenant), (5, X), (8, V_l0), (9, .int .i64 ((l.length : Nat) : Int)), (10, .int .i64 T.1)]) (fun T X => [.own X (lc 3 T.2)]) (.slice none 0 0) [0] ⟨rfl, rfl, rfl, rfl, rfl, trivial⟩ rfl (fun S1 X2 => ?_)
    refine TW.seq ?_
    refine TW.region ?_
    refine TO.y (Y.lss rfl rfl) rfl rfl rfl ?_
    refine TO.nil ?_
    refine TE.next ?_
    refine TW.seq ?_
    refine TW.cond rfl (fun H5 => ?_) (fun H5 => ?_)
    · refine TW.skip ?_
      refine TE.next ?_
      refine TW.seq ?_
      refine TW.block ?_
      refine TW.seq ?_
      refine TW.region ?_
      refine TO.bind fun E6 H7 => ?_
      refine TO.y (Y.index ke36 (Base.can HB_V_l0) H7 rfl rfl) rfl rfl rfl ?_
      refine TO.y (Y.load_el (us := [.int .i64 E6.Tenant, .int .i64 E6.Boot, .int .i64 E6.Seq, strV E6.Text, .bool E6.Synced]) (u := .agg #[.int .i64 E6.Tenant, .int .i64 E6.Boot, .int .i64 E6.Seq, strV E6.Text, .bool E6.Synced]) kk65 rfl (Base.can HB_V_l0) (idx_get H7).2.2 rfl rfl rfl rfl rfl) rfl rfl rfl ?_
      refine TO.ef (Ef.alloc kz65 rfl) rfl rfl rfl (fun B8 => ?_)
      refine TO.ef0 (Ef.store_box (us := [.int .i64 E6.Tenant, .int .i64 E6.Boot, .int .i64 E6.Seq, strV E6.Text, .bool E6.Synced]) (vs' := [.int .i64 E6.Tenant, .int .i64 E6.Boot, .int .i64 E6.Seq, strV E6.Text, .bool E6.Synced]) (is' := [.box B8 65 [.int .i64 E6.Tenant, .int .i64 E6.Boot, .int .i64 E6.Seq, strV E6.Text, .bool E6.Synced], .own X2 (lc 3 S1.2)]) 0 kk65 rfl rfl rfl (Cel.plain rfl rfl) rfl rfl rfl rfl) rfl rfl (fun _ => ?_)
      refine TO.nil ?_
      refine TE.next ?_
      refine TW.seq ?_
      refine TW.region ?_
      refine TO.y (Y.field_box kf65_0 rfl rfl) rfl rfl rfl ?_
      refine TO.y (Y.load_box (v := .int .i64 E6.Tenant) 0 kk3 rfl rfl rfl) rfl rfl rfl ?_
      refine TO.y (Y.move rfl) rfl rfl rfl ?_
      refine TO.y (Y.eql rfl rfl) rfl rfl rfl ?_
      refine TO.nil ?_
      refine TE.next ?_
      refine TW.joinX (τ := List Int) (X := Value) (fun _ X => [(1, .int .i64 tenant), (5, X), (8, V_l0), (9, .int .i64 ((l.length : Nat) : Int)), (10, .int .i64 S1.1)]) (fun T X => [.own X (lc 3 T)]) ?_ (fun T9 X10 => ?_)
      · refine TW.cond rfl (fun H11 => ?_) (fun H11 => ?_)
        · refine TW.region ?_
          refine TO.y (Y.move rfl) rfl rfl rfl ?_
          refine TO.y (Y.field_box kf65_3 rfl rfl) rfl rfl rfl ?_
          refine TO.y (Y.load_box (v := strV E6.Text) 0 kk9 rfl rfl rfl) rfl rfl rfl ?_
          refine TO.y (Y.slen ks9 rfl) rfl rfl rfl ?_
          refine TO.ef (Ef.buildSlice (α := Int) (Vs := [.int .i64 ((E6.Text.length : Nat) : Int)]) [((E6.Text.length : Nat) : Int)] ke24 kz3 rfl rfl rfl rfl rfl) rfl rfl rfl (fun B12 => ?_)
          refine TO.bind fun E14 H15 => ?_
          refine TO.ef (Ef.append (α := Int) (is' := [.own (.slice (some ⟨B12, 0, none⟩) 1 1) (lc 3 ([((E6.Text.length : Nat) : Int)])), .box B8 65 [.int .i64 E6.Tenant, .int .i64 E6.Boot, .int .i64 E6.Seq, strV E6.Text, .bool E6.Synced]]) [2, 0, 0] H15 ke24 kz3 rfl rfl rfl rfl rfl (Can.own 0 rfl)) rfl rfl rfl (fun V13 => ?_)
          refine TO.y (Y.assign rfl) rfl rfl rfl ?_
          refine TO.nil ?_
          exact TE.jn_go V13 [0] ⟨rfl, rfl, rfl, rfl, rfl, trivial⟩ rfl
        · refine TW.skip ?_
          exact TE.jn_go X2 [1] ⟨rfl, rfl, rfl, rfl, rfl, trivial⟩ rfl
      · refine TE.block_normal ?_
        refine TE.next ?_
        refine TW.region ?_
        refine TO.y (Y.add rfl rfl) rfl rfl rfl ?_
        refine TO.y (Y.move rfl) rfl rfl rfl ?_
        refine TO.nil ?_
        exact TE.lp_go X10 [0] ⟨rfl, rfl, rfl, rfl, rfl, trivial⟩ rfl
    · refine TW.exit ?_
      refine TE.then_exit ?_
      refine TE.lp_exit ?_
      refine TE.block_exit ?_
      exact TE.jn_go X2 [0] ⟨rfl, trivial⟩ rfl
  · refine TE.next ?_
    refine TW.seq ?_
    refine TW.region ?_
    refine TO.y (Y.move rfl) rfl rfl rfl ?_
    refine TO.y (Y.assign rfl) rfl rfl rfl ?_
    refine TO.nil ?_
    refine TE.next ?_
    refine TW.ret ?_
    exact TE.leaf fun _ _ hf_ hs_ => ret_any (rs := [.tmp 4]) (vs := [X4]) (.inl rfl) rfl ⟨rfl, trivial⟩ hf_ hs_ ⟨X4, rfl, hs_.pulls [0] rfl⟩

/-- loop.example/g00950/laws.eqLogRow -/
noncomputable def laws_eqLogRow (a : LogRow) (b : LogRow) : Option Bool :=
  if (!(decide (a.Tenant = b.Tenant))) = true then (some false)
  else (if (!(decide (a.Boot = b.Boot))) = true then (some false)
  else (if (!(decide (a.Seq = b.Seq))) = true then (some false)
  else (if (!(decide (a.Text = b.Text))) = true then (some false)
  else (if (!(decide (a.Synced = b.Synced))) = true then (some false)
  else (some true)))))

theorem laws_eqLogRow_con (a : LogRow) (b : LogRow)  (r : Bool) (hm : laws_eqLogRow a b = some r) :
    Con Try.prog 42 [.agg #[.int .i64 a.Tenant, .int .i64 a.Boot, .int .i64 a.Seq, strV a.Text, .bool a.Synced], .agg #[.int .i64 b.Tenant, .int .i64 b.Boot, .int .i64 b.Seq, strV b.Text, .bool b.Synced]] [] [] (fun _ : Unit => .bool r) (fun _ => []) := by
  refine Con.intro (args := [.agg #[.int .i64 a.Tenant, .int .i64 a.Boot, .int .i64 a.Seq, strV a.Text, .bool a.Synced], .agg #[.int .i64 b.Tenant, .int .i64 b.Boot, .int .i64 b.Seq, strV b.Text, .bool b.Synced]]) (n := 30) (val := fun r (_ : Unit) => .bool r) (post := fun _ _ => []) (m := laws_eqLogRow a b) Try.func42 rfl rfl rfl hm ?_
  intro w S _
  unfold laws_eqLogRow
  refine TW.seq ?_
  refine TW.region ?_
  refine TO.ef (Ef.box rfl (Cel.plain rfl rfl)) rfl rfl rfl (fun B1 => ?_)
  refine TO.ef (Ef.box rfl (Cel.plain rfl rfl)) rfl rfl rfl (fun B2 => ?_)
  refine TO.y (Y.assign rfl) rfl rfl rfl ?_
  refine TO.nil ?_
  refine TE.next ?_
  refine TW.seq ?_
  refine TW.seq ?_
  refine TW.region ?_
  refine TO.y (Y.field_box kf65_0 rfl rfl) rfl rfl rfl ?_
  refine TO.y (Y.load_box (v := .int .i64 a.Tenant) 1 kk3 rfl rfl rfl) rfl rfl rfl ?_
  refine TO.y (Y.field_box kf65_0 rfl rfl) rfl rfl rfl ?_
  refine TO.y (Y.load_box (v := .int .i64 b.Tenant) 0 kk3 rfl rfl rfl) rfl rfl rfl ?_
  refine TO.y (Y.neq rfl rfl) rfl rfl rfl ?_
  refine TO.nil ?_
  refine TE.next ?_
  refine TW.cond rfl (fun H3 => ?_) (fun H3 => ?_)
  · refine TW.seq ?_
    refine TW.region ?_
    refine TO.y (Y.assign rfl) rfl rfl rfl ?_
    refine TO.nil ?_
    refine TE.next ?_
    refine TW.ret ?_
    refine TE.then_ret ?_
    exact TE.leaf fun _ _ hf_ hs_ => ret_any (rs := [.tmp 4]) (vs := [.bool false]) (.inl rfl) rfl ⟨rfl, trivial⟩ hf_ hs_ ⟨(), rfl, hs_.pulls [] rfl⟩
  · refine TW.skip ?_
    refine TE.next ?_
    refine TW.seq ?_
    refine TW.seq ?_
    refine TW.region ?_
    refine TO.y (Y.field_box kf65_1 rfl rfl) rfl rfl rfl ?_
    refine TO.y (Y.load_box (v := .int .i64 a.Boot) 1 kk3 rfl rfl rfl) rfl rfl rfl ?_
    refine TO.y (Y.field_box kf65_1 rfl rfl) rfl rfl rfl ?_
    refine TO.y (Y.load_box (v := .int .i64 b.Boot) 0 kk3 rfl rfl rfl) rfl rfl rfl ?_
    refine TO.y (Y.neq rfl rfl) rfl rfl rfl ?_
    refine TO.nil ?_
    refine TE.next ?_
    refine TW.cond rfl (fun H4 => ?_) (fun H4 => ?_)
    · refine TW.seq ?_
      refine TW.region ?_
      refine TO.y (Y.assign rfl) rfl rfl rfl ?_
      refine TO.nil ?_
      refine TE.next ?_
      refine TW.ret ?_
      refine TE.then_ret ?_
      exact TE.leaf fun _ _ hf_ hs_ => ret_any (rs := [.tmp 4]) (vs := [.bool false]) (.inl rfl) rfl ⟨rfl, trivial⟩ hf_ hs_ ⟨(), rfl, hs_.pulls [] rfl⟩
    · refine TW.skip ?_
      refine TE.next ?_
      refine TW.seq ?_
      refine TW.seq ?_
      refine TW.region ?_
      refine TO.y (Y.field_box kf65_2 rfl rfl) rfl rfl rfl ?_
      refine TO.y (Y.load_box (v := .int .i64 a.Seq) 1 kk3 rfl rfl rfl) rfl rfl rfl ?_
      refine TO.y (Y.field_box kf65_2 rfl rfl) rfl rfl rfl ?_
      refine TO.y (Y.load_box (v := .int .i64 b.Seq) 0 kk3 rfl rfl rfl) rfl rfl rfl ?_
      refine TO.y (Y.neq rfl rfl) rfl rfl rfl ?_
      refine TO.nil ?_
      refine TE.next ?_
      refine TW.cond rfl (fun H5 => ?_) (fun H5 => ?_)
      · refine TW.seq ?_
        refine TW.region ?_
        refine TO.y (Y.assign rfl) rfl rfl rfl ?_
        refine TO.nil ?_
        refine TE.next ?_
        refine TW.ret ?_
        refine TE.then_ret ?_
        exact TE.leaf fun _ _ hf_ hs_ => ret_any (rs := [.tmp 4]) (vs := [.bool false]) (.inl rfl) rfl ⟨rfl, trivial⟩ hf_ hs_ ⟨(), rfl, hs_.pulls [] rfl⟩
      · refine TW.skip ?_
        refine TE.next ?_
        refine TW.seq ?_
        refine TW.seq ?_
        refine TW.region ?_
        refine TO.y (Y.field_box kf65_3 rfl rfl) rfl rfl rfl ?_
        refine TO.y (Y.load_box (v := strV a.Text) 1 kk9 rfl rfl rfl) rfl rfl rfl ?_
        refine TO.y (Y.field_box kf65_3 rfl rfl) rfl rfl rfl ?_
        refine TO.y (Y.load_box (v := strV b.Text) 0 kk9 rfl rfl rfl) rfl rfl rfl ?_
        refine TO.y (Y.sneq rfl rfl) rfl rfl rfl ?_
        refine TO.nil ?_
        refine TE.next ?_
        refine TW.cond rfl (fun H6 => ?_) (fun H6 => ?_)
        · refine TW.seq ?_
          refine TW.region ?_
          refine TO.y (Y.assign rfl) rfl rfl rfl ?_
          refine TO.nil ?_
          refine TE.next ?_
          refine TW.ret ?_
          refine TE.then_ret ?_
          exact TE.leaf fun _ _ hf_ hs_ => ret_any (rs := [.tmp 4]) (vs := [.bool false]) (.inl rfl) rfl ⟨rfl, trivial⟩ hf_ hs_ ⟨(), rfl, hs_.pulls [] rfl⟩
        · refine TW.skip ?_
          refine TE.next ?_
          refine TW.seq ?_
          refine TW.seq ?_
          refine TW.region ?_
          refine TO.y (Y.field_box kf65_4 rfl rfl) rfl rfl rfl ?_
          refine TO.y (Y.load_box (v := .bool a.Synced) 1 kk4 rfl rfl rfl) rfl rfl rfl ?_
          refine TO.y (Y.field_box kf65_4 rfl rfl) rfl rfl rfl ?_
          refine TO.y (Y.load_box (v := .bool b.Synced) 0 kk4 rfl rfl rfl) rfl rfl rfl ?_
          refine TO.y (Y.neb kb4 rfl rfl) rfl rfl rfl ?_
          refine TO.nil ?_
          refine TE.next ?_
          refine TW.cond rfl (fun H7 => ?_) (fun H7 => ?_)
          · refine TW.seq ?_
            refine TW.region ?_
            refine TO.y (Y.assign rfl) rfl rfl rfl ?_
            refine TO.nil ?_
            refine TE.next ?_
            refine TW.ret ?_
            refine TE.then_ret ?_
            exact TE.leaf fun _ _ hf_ hs_ => ret_any (rs := [.tmp 4]) (vs := [.bool false]) (.inl rfl) rfl ⟨rfl, trivial⟩ hf_ hs_ ⟨(), rfl, hs_.pulls [] rfl⟩
          · refine TW.skip ?_
            refine TE.next ?_
            refine TW.seq ?_
            refine TW.region ?_
            refine TO.y (Y.assign rfl) rfl rfl rfl ?_
            refine TO.nil ?_
            refine TE.next ?_
            refine TW.ret ?_
            exact TE.leaf fun _ _ hf_ hs_ => ret_any (rs := [.tmp 4]) (vs := [.bool true]) (.inl rfl) rfl ⟨rfl, trivial⟩ hf_ hs_ ⟨(), rfl, hs_.pulls [] rfl⟩

/-- loop.example/g00950/laws.eqLogRowS -/
noncomputable def laws_eqLogRowS (a : List LogRow) (b : List LogRow) : Option Bool :=
  if (!(decide (((a.length : Nat) : Int) = ((b.length : Nat) : Int)))) = true then (some false)
  else (bindC (loopO (fun (S2 : Int) => if (decide (S2 < ((a.length : Nat) : Int))) = true then ((idx a S2).bind fun E7 =>
  (idx b S2).bind fun E9 =>
  (laws_eqLogRow E7 E9).bind fun R11 =>
  if (!R11) = true then (some (.done (.done false)))
  else (some (.go (IntKind.i64.wrap (S2 + (1 : Int))))))
  else (some (.done (.go ()))))
  (0 : Int))
  (fun (T4 : Unit) => some true))

theorem laws_eqLogRowS_con (a : List LogRow) (b : List LogRow) (V_a0 : Value) (V_b0 : Value) (r : Bool) (hm : laws_eqLogRowS a b = some r) :
    Con Try.prog 20 [V_a0, V_b0] [] [(V_a0, lc 65 a), (V_b0, lc 65 b)] (fun _ : Unit => .bool r) (fun _ => []) := by
  refine Con.intro (args := [V_a0, V_b0]) (n := 27) (val := fun r (_ : Unit) => .bool r) (post := fun _ _ => []) (m := laws_eqLogRowS a b) Try.func20 rfl rfl rfl hm ?_
  intro w S hrd
  have HB_V_a0 := hrd _ (.head _)
  have HB_V_b0 := hrd _ (.tail _ (.head _))
  clear hrd
  unfold laws_eqLogRowS
  refine TW.seq ?_
  refine TW.region ?_
  refine TO.y (Y.assign rfl) rfl rfl rfl ?_
  refine TO.nil ?_
  refine TE.next ?_
  refine TW.seq ?_
  refine TW.seq ?_
  refine TW.region ?_
  refine TO.y (Y.move rfl) rfl rfl rfl ?_
  refine TO.y (Y.len (l := a) ke36 (Base.can HB_V_a0) rfl) rfl rfl rfl ?_
  refine TO.y (Y.move rfl) rfl rfl rfl ?_
  refine TO.y (Y.len (l := b) ke36 (Base.can HB_V_b0) rfl) rfl rfl rfl ?_
  refine TO.y (Y.neq rfl rfl) rfl rfl rfl ?_
  refine TO.nil ?_
  refine TE.next ?_
  refine TW.cond rfl (fun H1 => ?_) (fun H1 => ?_)
  · refine TW.seq ?_
    refine TW.region ?_
    refine TO.y (Y.assign rfl) rfl rfl rfl ?_
    refine TO.nil ?_
    refine TE.next ?_
    refine TW.ret ?_
    refine TE.then_ret ?_
    exact TE.leaf fun _ _ hf_ hs_ => ret_any (rs := [.tmp 4]) (vs := [.bool false]) (.inl rfl) rfl ⟨rfl, trivial⟩ hf_ hs_ ⟨(), rfl, hs_.pulls [] rfl⟩
  · refine TW.skip ?_
    refine TE.next ?_
    refine TW.seq ?_
    refine TW.seq ?_
    refine TW.region ?_
    refine TO.y (Y.assign rfl) rfl rfl rfl ?_
    refine TO.nil ?_
    refine TE.next ?_
    refine TW.joinX (τ := Unit) (X := Unit) (fun _ _ => []) (fun _ _ => []) ?_ (fun T4 X5 => ?_)
    · refine TW.block ?_
      refine TW.loopX (σ := Int) (X := Unit) (fun T _ => [(0, V_a0), (1, V_b0), (5, .int .i64 T)]) (fun _ _ => []) () [] ⟨rfl, rfl, rfl, trivial⟩ rfl (fun S2 X3 => ?_)
      refine TW.seq ?_
      refine TW.seq ?_
      refine TW.region ?_
      refine TO.y (Y.move rfl) rfl rfl rfl ?_
      refine TO.y (Y.move rfl) rfl rfl rfl ?_
      refine TO.y (Y.len (l := a) ke36 (Base.can HB_V_a0) rfl) rfl rfl rfl ?_
      refine TO.y (Y.lss rfl rfl) rfl rfl rfl ?_
      refine TO.nil ?_
      refine TE.next ?_
      refine TW.cond rfl (fun H6 => ?_) (fun H6 => ?_)
      · refine TW.skip ?_
        refine TE.next ?_
        refine TW.seq ?_
        refine TW.block ?_
        refine TW.seq ?_
        refine TW.draw (isH := []) hMix ?_
        refine TA.y (listed' := #[true, false, false, false, false, false, false, false, false, false]) 0 [] rfl (Y.move rfl) rfl rfl rfl (by kernel_rfl) (by kernel_rfl) (by kernel_rfl) rfl rfl ?_
        refine TA.y (listed' := #[true, true, false, false, false, false, false, false, false, false]) 1 [] rfl (Y.move rfl) rfl rfl rfl (by kernel_rfl) (by kernel_rfl) (by kernel_rfl) rfl rfl ?_
        refine TA.bind fun E7 H8 => ?_
        refine TA.y (listed' := #[true, true, true, false, false, false, false, false, false, false]) 2 [] rfl (Y.index ke36 (Base.can HB_V_a0) H8 rfl rfl) rfl rfl rfl (by kernel_rfl) (by kernel_rfl) (by kernel_rfl) rfl rfl ?_
        refine TA.y (listed' := #[true, true, true, true, false, false, false, false, false, false]) 3 [] rfl (Y.load_el (us := [.int .i64 E7.Tenant, .int .i64 E7.Boot, .int .i64 E7.Seq, strV E7.Text, .bool E7.Synced]) (u := .agg #[.int .i64 E7.Tenant, .int .i64 E7.Boot, .int .i64 E7.Seq, strV E7.Text, .bool E7.Synced]) kk65 rfl (Base.can HB_V_a0) (idx_get H8).2.2 rfl rfl rfl rfl rfl) rfl rfl rfl (by kernel_rfl) (by kernel_rfl) (by kernel_rfl) rfl rfl ?_
        refine TA.y (listed' := #[true, true, true, true, true, false, false, false, false, false]) 4 [] rfl (Y.move rfl) rfl rfl rfl (by kernel_rfl) (by kernel_rfl) (by kernel_rfl) rfl rfl ?_
        refine TA.y (listed' := #[true, true, true, true, true, true, false, false, false, false]) 5 [] rfl (Y.move rfl) rfl rfl rfl (by kernel_rfl) (by kernel_rfl) (by kernel_rfl) rfl rfl ?_
        refine TA.bind fun E9 H10 => ?_
        refine TA.y (listed' := #[true, true, true, true, true, true, true, false, false, false]) 6 [] rfl (Y.index ke36 (Base.can HB_V_b0) H10 rfl rfl) rfl rfl rfl (by kernel_rfl) (by kernel_rfl) (by kernel_rfl) rfl rfl ?_
        refine TA.y (listed' := #[true, true, true, true, true, true, true, true, false, false]) 7 [] rfl (Y.load_el (us := [.int .i64 E9.Tenant, .int .i64 E9.Boot, .int .i64 E9.Seq, strV E9.Text, .bool E9.Synced]) (u := .agg #[.int .i64 E9.Tenant, .int .i64 E9.Boot, .int .i64 E9.Seq, strV E9.Text, .bool E9.Synced]) kk65 rfl (Base.can HB_V_b0) (idx_get H10).2.2 rfl rfl rfl rfl rfl) rfl rfl rfl (by kernel_rfl) (by kernel_rfl) (by kernel_rfl) rfl rfl ?_
        refine TA.bind fun R11 H12 => ?_
        refine TA.one 8 (by kernel_rfl) ?_
        refine TX.ef (listed' := #[true, true, true, true, true, true, true, true, true, false]) [] rfl (Ef.call (rest := []) [] (laws_eqLogRow_con E7 E9  R11 H12) kc42 rfl rfl trivial) rfl rfl rfl rfl (fun _ => rfl) (fun _ => ?_)
        refine TA.y (listed' := #[true, true, true, true, true, true, true, true, true, true]) 9 [] rfl (Y.not rfl) rfl rfl rfl (by kernel_rfl) (by kernel_rfl) (by kernel_rfl) rfl rfl ?_
        refine TA.nil (by kernel_rfl) ?_
        refine TE.next ?_
        refine TW.cond rfl (fun H14 => ?_) (fun H14 => ?_)
        · refine TW.seq ?_
          refine TW.region ?_
          refine TO.y (Y.assign rfl) rfl rfl rfl ?_
          refine TO.nil ?_
          refine TE.next ?_
          refine TW.ret ?_
          refine TE.block_ret ?_
          refine TE.then_ret ?_
          refine TE.lp_ret ?_
          refine TE.block_ret ?_
          refine TE.jn_done ?_
          refine TE.then_ret ?_
          exact TE.leaf fun _ _ hf_ hs_ => ret_any (rs := [.tmp 4]) (vs := [.bool false]) (.inl rfl) rfl ⟨rfl, trivial⟩ hf_ hs_ ⟨(), rfl, hs_.pulls [] rfl⟩
        · refine TW.skip ?_
          refine TE.block_normal ?_
          refine TE.next ?_
          refine TW.region ?_
          refine TO.y (Y.move rfl) rfl rfl rfl ?_
          refine TO.y (Y.add rfl rfl) rfl rfl rfl ?_
          refine TO.y (Y.assign rfl) rfl rfl rfl ?_
          refine TO.nil ?_
          exact TE.lp_go () [] ⟨rfl, rfl, rfl, trivial⟩ rfl
      · refine TW.exit ?_
        refine TE.then_exit ?_
        refine TE.lp_exit ?_
        refine TE.block_exit ?_
        exact TE.jn_go () [] trivial rfl
    · refine TE.next ?_
      refine TW.seq ?_
      refine TW.region ?_
      refine TO.y (Y.assign rfl) rfl rfl rfl ?_
      refine TO.nil ?_
      refine TE.next ?_
      refine TW.ret ?_
      exact TE.leaf fun _ _ hf_ hs_ => ret_any (rs := [.tmp 4]) (vs := [.bool true]) (.inl rfl) rfl ⟨rfl, trivial⟩ hf_ hs_ ⟨(), rfl, hs_.pulls [] rfl⟩

/-- loop.example/g00950/laws.markText -/
noncomputable def laws_markText (k : Int) : Option (List UInt8) :=
  if (decide (k ≤ (0 : Int))) = true then (some ([109, 48]))
  else (bindC (loopO (fun (S2 : Int × List UInt8) => if (decide (S2.1 > (0 : Int))) = true then ((cat ([toU8 (IntKind.i64.wrap ((48 : Int) + (Int.tmod S2.1 (10 : Int))))]) S2.2).bind fun E8 =>
  some (.go (IntKind.i64.wrap (Int.tdiv S2.1 (10 : Int)), E8)))
  else (some (.done (.go S2.2))))
  (k, []))
  (fun (T4 : List UInt8) => (cat ([109]) T4).bind fun E10 =>
  some E10))

theorem laws_markText_con (k : Int)  (r : List UInt8) (hm : laws_markText k = some r) :
    Con Try.prog 51 [.int .i64 k] [] [] (fun _ : Unit => strV r) (fun _ => []) := by
  refine Con.intro (args := [.int .i64 k]) (n := 20) (val := fun r (_ : Unit) => strV r) (post := fun _ _ => []) (m := laws_markText k) Try.func51 rfl rfl rfl hm ?_
  intro w S _
  unfold laws_markText
  refine TW.seq ?_
  refine TW.region ?_
  refine TO.y (Y.assign rfl) rfl rfl rfl ?_
  refine TO.nil ?_
  refine TE.next ?_
  refine TW.seq ?_
  refine TW.seq ?_
  refine TW.region ?_
  refine TO.y (Y.move rfl) rfl rfl rfl ?_
  refine TO.y (Y.leq rfl rfl) rfl rfl rfl ?_
  refine TO.nil ?_
  refine TE.next ?_
  refine TW.cond rfl (fun H1 => ?_) (fun H1 => ?_)
  · refine TW.seq ?_
    refine TW.region ?_
    refine TO.y (Y.assign rfl) rfl rfl rfl ?_
    refine TO.nil ?_
    refine TE.next ?_
    refine TW.ret ?_
    refine TE.then_ret ?_
    exact TE.leaf fun _ _ hf_ hs_ => ret_any (rs := [.tmp 2]) (vs := [strV ([109, 48])]) (.inl rfl) rfl ⟨rfl, trivial⟩ hf_ hs_ ⟨(), rfl, hs_.pulls [] rfl⟩
  · refine TW.skip ?_
    refine TE.next ?_
    refine TW.seq ?_
    refine TW.region ?_
    refine TO.y (Y.assign rfl) rfl rfl rfl ?_
    refine TO.nil ?_
    refine TE.next ?_
    refine TW.seq ?_
    refine TW.joinX (τ := List UInt8) (X := Unit) (fun T _ => [(3, strV T)]) (fun _ _ => []) ?_ (fun T4 X5 => ?_)
    · refine TW.block ?_
      refine TW.loopX (σ := Int × List UInt8) (X := Unit) (fun T _ => [(0, .int .i64 T.1), (3, strV T.2)]) (fun _ _ => []) () [] ⟨rfl, rfl, trivial⟩ rfl (fun S2 X3 => ?_)
      refine TW.seq ?_
      refine TW.seq ?_
      refine TW.region ?_
      refine TO.y (Y.move rfl) rfl rfl rfl ?_
      refine TO.y (Y.gtr rfl rfl) rfl rfl rfl ?_
      refine TO.nil ?_
      refine TE.next ?_
      refine TW.cond rfl (fun H6 => ?_) (fun H6 => ?_)
      · refine TW.skip ?_
        refine TE.next ?_
        refine TW.block ?_
        refine TW.seq ?_
        refine TW.region ?_
        refine TO.y (Y.move rfl) rfl rfl rfl ?_
        refine TO.y (Y.rem (by decide) rfl rfl) rfl rfl rfl ?_
        refine TO.y (Y.add rfl rfl) rfl rfl rfl ?_
        refine TO.y (Y.conv8 ki3 ki5 rfl) rfl rfl rfl ?_
        refine TO.ef (Ef.buildSlice (α := UInt8) (Vs := [.int .u8 (((toU8 (IntKind.i64.wrap ((48 : Int) + (Int.tmod S2.1 (10 : Int))))).toNat : Nat) : Int)]) [toU8 (IntKind.i64.wrap ((48 : Int) + (Int.tmod S2.1 (10 : Int))))] ke83 kz5 rfl rfl rfl rfl rfl) rfl rfl rfl (fun B7 => ?_)
        refine TO.y (Y.toStr ke83 ki5 ks9 (Can.own 0 rfl) rfl) rfl rfl rfl ?_
        refine TO.y (Y.move rfl) rfl rfl rfl ?_
        refine TO.bind fun E8 H9 => ?_
        refine TO.y (Y.cat H9 rfl rfl) rfl rfl rfl ?_
        refine TO.y (Y.assign rfl) rfl rfl rfl ?_
        refine TO.nil ?_
        refine TE.next ?_
        refine TW.region ?_
        refine TO.y (Y.move rfl) rfl rfl rfl ?_
        refine TO.y (Y.quo (by decide) rfl rfl) rfl rfl rfl ?_
        refine TO.y (Y.assign rfl) rfl rfl rfl ?_
        refine TO.nil ?_
        refine TE.block_normal ?_
        exact TE.lp_go () [] ⟨rfl, rfl, trivial⟩ rfl
      · refine TW.exit ?_
        refine TE.then_exit ?_
        refine TE.lp_exit ?_
        refine TE.block_exit ?_
        exact TE.jn_go () [] ⟨rfl, trivial⟩ rfl
    · refine TE.next ?_
      refine TW.seq ?_
      refine TW.region ?_
      refine TO.y (Y.move rfl) rfl rfl rfl ?_
      refine TO.bind fun E10 H11 => ?_
      refine TO.y (Y.cat H11 rfl rfl) rfl rfl rfl ?_
      refine TO.y (Y.assign rfl) rfl rfl rfl ?_
      refine TO.nil ?_
      refine TE.next ?_
      refine TW.ret ?_
      exact TE.leaf fun _ _ hf_ hs_ => ret_any (rs := [.tmp 2]) (vs := [strV E10]) (.inl rfl) rfl ⟨rfl, trivial⟩ hf_ hs_ ⟨(), rfl, hs_.pulls [] rfl⟩

/-- loop.example/g00950/laws.markLogRowS -/
noncomputable def laws_markLogRowS (a : List LogRow) (k : Int) : Option (Int × List LogRow) :=
  bindC (loopO (fun (S1 : Int × Int × List LogRow) => if (decide (S1.2.1 < ((S1.2.2.length : Nat) : Int))) = true then ((idx S1.2.2 S1.2.1).bind fun E6 =>
  (laws_markText (IntKind.i64.wrap (IntKind.i64.wrap (IntKind.i64.wrap (S1.1 + (1 : Int)) + (1 : Int)) + (1 : Int)))).bind fun R8 =>
  some (.go (IntKind.i64.wrap (IntKind.i64.wrap (IntKind.i64.wrap (IntKind.i64.wrap (IntKind.i64.wrap (S1.1 + (1 : Int)) + (1 : Int)) + (1 : Int)) + (1 : Int)) + (1 : Int)), IntKind.i64.wrap (S1.2.1 + (1 : Int)), (S1.2.2.set S1.2.1.toNat ({ Tenant := S1.1, Boot := (IntKind.i64.wrap (S1.1 + (1 : Int))), Seq := (IntKind.i64.wrap (IntKind.i64.wrap (S1.1 + (1 : Int)) + (1 : Int))), Text := R8, Synced := decide (Int.tmod (IntKind.i64.wrap (IntKind.i64.wrap (IntKind.i64.wrap (IntKind.i64.wrap (S1.1 + (1 : Int)) + (1 : Int)) + (1 : Int)) + (1 : Int))) (3 : Int) = (0 : Int)) : LogRow })))))
  else (some (.done (.go (S1.1, S1.2.2)))))
  (k, (0 : Int), a))
  (fun (T3 : Int × List LogRow) => some (T3.1, T3.2))

theorem laws_markLogRowS_con (a : List LogRow) (k : Int) (V_a0 : Value) (r : Int × List LogRow) (hm : laws_markLogRowS a k = some r) :
    Con Try.prog 35 [V_a0, .int .i64 k] [.own V_a0 (lc 65 a)] [] (fun _ : Unit => .int .i64 r.1) (fun _ => [.own V_a0 (lc 65 r.2)]) := by
  refine Con.intro (args := [V_a0, .int .i64 k]) (n := 51) (val := fun r (_ : Unit) => .int .i64 r.1) (post := fun r _ => [.own V_a0 (lc 65 r.2)]) (m := laws_markLogRowS a k) Try.func35 rfl rfl rfl hm ?_
  intro w S _
  unfold laws_markLogRowS
  refine TW.seq ?_
  refine TW.region ?_
  refine TO.y (Y.assign rfl) rfl rfl rfl ?_
  refine TO.nil ?_
  refine TE.next ?_
  refine TW.seq ?_
  refine TW.seq ?_
  refine TW.region ?_
  refine TO.y (Y.assign rfl) rfl rfl rfl ?_
  refine TO.nil ?_
  refine TE.next ?_
  refine TW.joinX (τ := Int × List LogRow) (X := Unit) (fun T _ => [(1, .int .i64 T.1)]) (fun T _ => [.own V_a0 (lc 65 T.2)]) ?_ (fun T3 X4 => ?_)
  · refine TW.block ?_
    refine TW.loopX (σ := Int × Int × List LogRow) (X := Unit) (fun T _ => [(0, V_a0), (1, .int .i64 T.1), (5, .int .i64 T.2.1)]) (fun T _ => [.own V_a0 (lc 65 T.2.2)]) () [0] ⟨rfl, rfl, rfl, trivial⟩ rfl (fun S1 X2 => ?_)
    refine TW.seq ?_
    refine TW.seq ?_
    refine TW.region ?_
    refine TO.y (Y.move rfl) rfl rfl rfl ?_
    refine TO.y (Y.move rfl) rfl rfl rfl ?_
    refine TO.y (Y.len (l := S1.2.2) ke36 (Can.own 0 rfl) rfl) rfl rfl rfl ?_
    refine TO.y (Y.lss rfl rfl) rfl rfl rfl ?_
    refine TO.nil ?_
    refine TE.next ?_
    refine TW.cond rfl (fun H5 => ?_) (fun H5 => ?_)
    · refine TW.skip ?_
      refine TE.next ?_
      refine TW.seq ?_
      refine TW.block ?_
      refine TW.seq ?_
      refine TW.region ?_
      refine TO.y (Y.move rfl) rfl rfl rfl ?_
      refine TO.y (Y.move rfl) rfl rfl rfl ?_
      refine TO.y (Y.move rfl) rfl rfl rfl ?_
      refine TO.bind fun E6 H7 => ?_
      refine TO.y (Y.index ke36 (Can.own 0 rfl) H7 rfl rfl) rfl rfl rfl ?_
      refine TO.y (Y.field_el kf65_0 (Can.own 0 rfl) (idx_get H7).2.2 rfl rfl) rfl rfl rfl ?_
      refine TO.ef0 (Ef.store_el (us := [.int .i64 S1.1]) (is' := [.own V_a0 (lc 65 (S1.2.2.set S1.2.1.toNat ({ Tenant := S1.1, Boot := E6.Boot, Seq := E6.Seq, Text := E6.Text, Synced := E6.Synced : LogRow })))]) ({ Tenant := S1.1, Boot := E6.Boot, Seq := E6.Seq, Text := E6.Text, Synced := E6.Synced : LogRow }) 0 kk3 rfl rfl (idx_get H7).2.2 rfl rfl (Cel.plain rfl rfl) rfl rfl rfl rfl) rfl rfl (fun _ => ?_)
      refine TO.nil ?_
      refine TE.next ?_
      refine TW.seq ?_
      refine TW.region ?_
      refine TO.y (Y.move rfl) rfl rfl rfl ?_
      refine TO.y (Y.add rfl rfl) rfl rfl rfl ?_
      refine TO.y (Y.assign rfl) rfl rfl rfl ?_
      refine TO.nil ?_
      refine TE.next ?_
      refine TW.seq ?_
      refine TW.region ?_
      refine TO.y (Y.move rfl) rfl rfl rfl ?_
      refine TO.y (Y.move rfl) rfl rfl rfl ?_
      refine TO.y (Y.move rfl) rfl rfl rfl ?_
      refine TO.y (Y.index ke36 (Can.own 0 rfl) (idx_set H7) rfl rfl) rfl rfl rfl ?_
      refine TO.y (Y.field_el kf65_1 (Can.own 0 rfl) (idx_get (idx_set H7)).2.2 rfl rfl) rfl rfl rfl ?_
      refine TO.ef0 (Ef.store_el (us := [.int .i64 (IntKind.i64.wrap (S1.1 + (1 : Int)))]) (is' := [.own V_a0 (lc 65 (S1.2.2.set S1.2.1.toNat ({ Tenant := S1.1, Boot := IntKind.i64.wrap (S1.1 + (1 : Int)), Seq := E6.Seq, Text := E6.Text, Synced := E6.Synced : LogRow })))]) ({ Tenant := S1.1, Boot := IntKind.i64.wrap (S1.1 + (1 : Int)), Seq := E6.Seq, Text := E6.Text, Synced := E6.Synced : LogRow }) 0 kk3 rfl rfl (idx_get (idx_set H7)).2.2 rfl rfl (Cel.plain rfl rfl) rfl rfl rfl (by rw [List.set_set]; rfl)) rfl rfl (fun _ => ?_)
      refine TO.nil ?_
      refine TE.next ?_
      refine TW.seq ?_
      refine TW.region ?_
      refine TO.y (Y.move rfl) rfl rfl rfl ?_
      refine TO.y (Y.add rfl rfl) rfl rfl rfl ?_
      refine TO.y (Y.assign rfl) rfl rfl rfl ?_
      refine TO.nil ?_
      refine TE.next ?_
      refine TW.seq ?_
      refine TW.region ?_
      refine TO.y (Y.move rfl) rfl rfl rfl ?_
      refine TO.y (Y.move rfl) rfl rfl rfl ?_
      refine TO.y (Y.move rfl) rfl rfl rfl ?_
      refine TO.y (Y.index ke36 (Can.own 0 rfl) (idx_set H7) rfl rfl) rfl rfl rfl ?_
      refine TO.y (Y.field_el kf65_2 (Can.own 0 rfl) (idx_get (idx_set H7)).2.2 rfl rfl) rfl rfl rfl ?_
      refine TO.ef0 (Ef.store_el (us := [.int .i64 (IntKind.i64.wrap (IntKind.i64.wrap (S1.1 + (1 : Int)) + (1 : Int)))]) (is' := [.own V_a0 (lc 65 (S1.2.2.set S1.2.1.toNat ({ Tenant := S1.1, Boot := (IntKind.i64.wrap (S1.1 + (1 : Int))), Seq := IntKind.i64.wrap (IntKind.i64.wrap (S1.1 + (1 : Int)) + (1 : Int)), Text := E6.Text, Synced := E6.Synced : LogRow })))]) ({ Tenant := S1.1, Boot := (IntKind.i64.wrap (S1.1 + (1 : Int))), Seq := IntKind.i64.wrap (IntKind.i64.wrap (S1.1 + (1 : Int)) + (1 : Int)), Text := E6.Text, Synced := E6.Synced : LogRow }) 0 kk3 rfl rfl (idx_get (idx_set H7)).2.2 rfl rfl (Cel.plain rfl rfl) rfl rfl rfl (by rw [List.set_set]; rfl)) rfl rfl (fun _ => ?_)
      refine TO.nil ?_
      refine TE.next ?_
      refine TW.seq ?_
      refine TW.region ?_
      refine TO.y (Y.move rfl) rfl rfl rfl ?_
      refine TO.y (Y.add rfl rfl) rfl rfl rfl ?_
      refine TO.y (Y.assign rfl) rfl rfl rfl ?_
      refine TO.nil ?_
      refine TE.next ?_
      refine TW.seq ?_
      refine TW.region ?_
      refine TO.y (Y.move rfl) rfl rfl rfl ?_
      refine TO.y (Y.move rfl) rfl rfl rfl ?_
      refine TO.y (Y.move rfl) rfl rfl rfl ?_
      refine TO.bind fun R8 H9 => ?_
      refine TO.ef (Ef.call (rest := [.own V_a0 (lc 65 (S1.2.2.set S1.2.1.toNat ({ Tenant := S1.1, Boot := (IntKind.i64.wrap (S1.1 + (1 : Int))), Seq := IntKind.i64.wrap (IntKind.i64.wrap (S1.1 + (1 : Int)) + (1 : Int)), Text := E6.Text, Synced := E6.Synced : LogRow })))]) [0] (laws_markText_con (IntKind.i64.wrap (IntKind.i64.wrap (IntKind.i64.wrap (S1.1 + (1 : Int)) + (1 : Int)) + (1 : Int)))  R8 H9) kc51 rfl rfl trivial) rfl rfl rfl (fun _ => ?_)
      refine TO.y (Y.index ke36 (Can.own 0 rfl) (idx_set H7) rfl rfl) rfl rfl rfl ?_
      refine TO.y (Y.field_el kf65_3 (Can.own 0 rfl) (idx_get (idx_set H7)).2.2 rfl rfl) rfl rfl rfl ?_
      refine TO.ef0 (Ef.store_el (us := [strV R8]) (is' := [.own V_a0 (lc 65 (S1.2.2.set S1.2.1.toNat ({ Tenant := S1.1, Boot := (IntKind.i64.wrap (S1.1 + (1 : Int))), Seq := (IntKind.i64.wrap (IntKind.i64.wrap (S1.1 + (1 : Int)) + (1 : Int))), Text := R8, Synced := E6.Synced : LogRow })))]) ({ Tenant := S1.1, Boot := (IntKind.i64.wrap (S1.1 + (1 : Int))), Seq := (IntKind.i64.wrap (IntKind.i64.wrap (S1.1 + (1 : Int)) + (1 : Int))), Text := R8, Synced := E6.Synced : LogRow }) 0 kk9 rfl rfl (idx_get (idx_set H7)).2.2 rfl rfl (Cel.plain rfl rfl) rfl rfl rfl (by rw [List.set_set]; rfl)) rfl rfl (fun _ => ?_)
      refine TO.nil ?_
      refine TE.next ?_
      refine TW.seq ?_
      refine TW.region ?_
      refine TO.y (Y.move rfl) rfl rfl rfl ?_
      refine TO.y (Y.add rfl rfl) rfl rfl rfl ?_
      refine TO.y (Y.assign rfl) rfl rfl rfl ?_
      refine TO.nil ?_
      refine TE.next ?_
      refine TW.seq ?_
      refine TW.region ?_
      refine TO.y (Y.move rfl) rfl rfl rfl ?_
      refine TO.y (Y.move rfl) rfl rfl rfl ?_
      refine TO.y (Y.move rfl) rfl rfl rfl ?_
      refine TO.y (Y.rem (by decide) rfl rfl) rfl rfl rfl ?_
      refine TO.y (Y.eql rfl rfl) rfl rfl rfl ?_
      refine TO.y (Y.index ke36 (Can.own 0 rfl) (idx_set H7) rfl rfl) rfl rfl rfl ?_
      refine TO.y (Y.field_el kf65_4 (Can.own 0 rfl) (idx_get (idx_set H7)).2.2 rfl rfl) rfl rfl rfl ?_
      refine TO.ef0 (Ef.store_el (us := [.bool (decide (Int.tmod (IntKind.i64.wrap (IntKind.i64.wrap (IntKind.i64.wrap (IntKind.i64.wrap (S1.1 + (1 : Int)) + (1 : Int)) + (1 : Int)) + (1 : Int))) (3 : Int) = (0 : Int)))]) (is' := [.own V_a0 (lc 65 (S1.2.2.set S1.2.1.toNat ({ Tenant := S1.1, Boot := (IntKind.i64.wrap (S1.1 + (1 : Int))), Seq := (IntKind.i64.wrap (IntKind.i64.wrap (S1.1 + (1 : Int)) + (1 : Int))), Text := R8, Synced := decide (Int.tmod (IntKind.i64.wrap (IntKind.i64.wrap (IntKind.i64.wrap (IntKind.i64.wrap (S1.1 + (1 : Int)) + (1 : Int)) + (1 : Int)) + (1 : Int))) (3 : Int) = (0 : Int)) : LogRow })))]) ({ Tenant := S1.1, Boot := (IntKind.i64.wrap (S1.1 + (1 : Int))), Seq := (IntKind.i64.wrap (IntKind.i64.wrap (S1.1 + (1 : Int)) + (1 : Int))), Text := R8, Synced := decide (Int.tmod (IntKind.i64.wrap (IntKind.i64.wrap (IntKind.i64.wrap (IntKind.i64.wrap (S1.1 + (1 : Int)) + (1 : Int)) + (1 : Int)) + (1 : Int))) (3 : Int) = (0 : Int)) : LogRow }) 0 kk4 rfl rfl (idx_get (idx_set H7)).2.2 rfl rfl (Cel.plain rfl rfl) rfl rfl rfl (by rw [List.set_set]; rfl)) rfl rfl (fun _ => ?_)
      refine TO.nil ?_
      refine TE.next ?_
      refine TW.region ?_
      refine TO.y (Y.move rfl) rfl rfl rfl ?_
      refine TO.y (Y.add rfl rfl) rfl rfl rfl ?_
      refine TO.y (Y.assign rfl) rfl rfl rfl ?_
      refine TO.nil ?_
      refine TE.block_normal ?_
      refine TE.next ?_
      refine TW.region ?_
      refine TO.y (Y.move rfl) rfl rfl rfl ?_
      refine TO.y (Y.add rfl rfl) rfl rfl rfl ?_
      refine TO.y (Y.assign rfl) rfl rfl rfl ?_
      refine TO.nil ?_
      exact TE.lp_go () [0] ⟨rfl, rfl, rfl, trivial⟩ rfl
    · refine TW.exit ?_
      refine TE.then_exit ?_
      refine TE.lp_exit ?_
      refine TE.block_exit ?_
      exact TE.jn_go () [0] ⟨rfl, trivial⟩ rfl
  · refine TE.next ?_
    refine TW.seq ?_
    refine TW.region ?_
    refine TO.y (Y.move rfl) rfl rfl rfl ?_
    refine TO.y (Y.assign rfl) rfl rfl rfl ?_
    refine TO.nil ?_
    refine TE.next ?_
    refine TW.ret ?_
    exact TE.leaf fun _ _ hf_ hs_ => ret_any (rs := [.tmp 4]) (vs := [.int .i64 T3.1]) (.inl rfl) rfl ⟨rfl, trivial⟩ hf_ hs_ ⟨(), rfl, hs_.pulls [0] rfl⟩

/-- loop.example/g00950/laws.FnExactLens -/
noncomputable def laws_FnExactLens (aL : List LogRow) (aTenant : Int) : Option Bool :=
  (laws_szLogRowS aL (1048576 : Int)).bind fun R1 =>
  if (decide (R1 < (0 : Int))) = true then (some true)
  else ((laws_toLogRowS aL).bind fun R5 =>
  (spec_Lens R5 aTenant).bind fun R8 =>
  (impl_Lens R5 aTenant).bind fun R12 =>
  (laws_eqIntS R12 R8).bind fun R15 =>
  if (!R15) = true then (some false)
  else ((laws_eqLogRowS R5 R5).bind fun R20 =>
  if (!R20) = true then (some false)
  else ((laws_markLogRowS R5 (1 : Int)).bind fun R24 =>
  (if (decide (R24.1 < (0 : Int))) = true then (some true)
  else (some (!R15))).bind (fun (T27 : Bool) =>
  if T27 = true then (some false)
  else ((laws_markIntS R12 (1 : Int)).bind fun R32 =>
  (laws_heldIntS R32.2 (1 : Int)).bind fun R35 =>
  if (decide (R35 < (0 : Int))) = true then (some false)
  else (if (!(decide (R35 = R32.1))) = true then (some false)
  else (if (!R15) = true then (some false)
  else (if (decide (R35 < (0 : Int))) = true then (some false)
  else (if (!(decide (R35 = R32.1))) = true then (some false)
  else (some true))))))))))

theorem laws_FnExactLens_con (aL : List LogRow) (aTenant : Int) (V_aL0 : Value) (r : Bool) (hm : laws_FnExactLens aL aTenant = some r) :
    Con Try.prog 8 [V_aL0, .int .i64 aTenant] [] [(V_aL0, lc 64 aL)] (fun _ : Unit => .bool r) (fun _ => []) := by
  refine Con.intro (args := [V_aL0, .int .i64 aTenant]) (n := 74) (val := fun r (_ : Unit) => .bool r) (post := fun _ _ => []) (m := laws_FnExactLens aL aTenant) Try.func8 rfl rfl rfl hm ?_
  intro w S hrd
  have HB_V_aL0 := hrd _ (.head _)
  clear hrd
  unfold laws_FnExactLens
  refine TW.seq ?_
  refine TW.region ?_
  refine TO.y (Y.assign rfl) rfl rfl rfl ?_
  refine TO.nil ?_
  refine TE.next ?_
  refine TW.seq ?_
  refine TW.region ?_
  refine TO.y (Y.assign rfl) rfl rfl rfl ?_
  refine TO.nil ?_
  refine TE.next ?_
  refine TW.seq ?_
  refine TW.region ?_
  refine TO.y (Y.move rfl) rfl rfl rfl ?_
  refine TO.y (Y.move rfl) rfl rfl rfl ?_
  refine TO.bind fun R1 H2 => ?_
  refine TO.ef (Ef.call (rest := []) [] (laws_szLogRowS_con aL (1048576 : Int) V_aL0 R1 H2) kc16 rfl rfl ⟨(Base.can HB_V_aL0), trivial⟩) rfl rfl rfl (fun _ => ?_)
  refine TO.y (Y.assign rfl) rfl rfl rfl ?_
  refine TO.nil ?_
  refine TE.next ?_
  refine TW.seq ?_
  refine TW.seq ?_
  refine TW.region ?_
  refine TO.y (Y.move rfl) rfl rfl rfl ?_
  refine TO.y (Y.lss rfl rfl) rfl rfl rfl ?_
  refine TO.nil ?_
  refine TE.next ?_
  refine TW.cond rfl (fun H4 => ?_) (fun H4 => ?_)
  · refine TW.seq ?_
    refine TW.region ?_
    refine TO.y (Y.assign rfl) rfl rfl rfl ?_
    refine TO.nil ?_
    refine TE.next ?_
    refine TW.ret ?_
    refine TE.then_ret ?_
    exact TE.leaf fun _ _ hf_ hs_ => ret_any (rs := [.tmp 4]) (vs := [.bool true]) (.inl rfl) rfl ⟨rfl, trivial⟩ hf_ hs_ ⟨(), rfl, hs_.pulls [] rfl⟩
  · refine TW.skip ?_
    refine TE.next ?_
    refine TW.seq ?_
    refine TW.region ?_
    refine TO.y (Y.move rfl) rfl rfl rfl ?_
    refine TO.bind fun R5 H6 => ?_
    refine TO.ef (Ef.call (rest := []) [] (laws_toLogRowS_con aL V_aL0 R5 H6) kc18 rfl rfl ⟨(Base.can HB_V_aL0), trivial⟩) rfl rfl rfl (fun Y7 => ?_)
    refine TO.y (Y.move rfl) rfl rfl rfl ?_
    refine TO.bind fun R8 H9 => ?_
    refine TO.ef (Ef.call (rest := [.own Y7 (lc 65 R5)]) [0] (spec_Lens_con R5 aTenant Y7 R8 H9) kc33 rfl rfl ⟨(Can.own 0 rfl), trivial⟩) rfl rfl rfl (fun Y10 => ?_)
    refine TO.y (Y.assign rfl) rfl rfl rfl ?_
    refine TO.nil ?_
    refine TE.next ?_
    refine TW.seq ?_
    refine TW.region ?_
    refine TO.y (Y.move rfl) rfl rfl rfl ?_
    refine TO.ef (Ef.call (rest := [.own Y10 (lc 3 R8), .own Y7 (lc 65 R5)]) [0, 0] (laws_toLogRowS_con aL V_aL0 R5 H6) kc18 rfl rfl ⟨(Base.can HB_V_aL0), trivial⟩) rfl rfl rfl (fun Y11 => ?_)
    refine TO.y (Y.assign rfl) rfl rfl rfl ?_
    refine TO.nil ?_
    refine TE.next ?_
    refine TW.seq ?_
    refine TW.region ?_
    refine TO.y (Y.move rfl) rfl rfl rfl ?_
    refine TO.y (Y.move rfl) rfl rfl rfl ?_
    refine TO.bind fun R12 H13 => ?_
    refine TO.ef (Ef.call (rest := [.own Y11 (lc 65 R5), .own Y10 (lc 3 R8), .own Y7 (lc 65 R5)]) [0, 0, 0] (impl_Lens_con R5 aTenant Y11 R12 H13) kc34 rfl rfl ⟨(Can.own 0 rfl), trivial⟩) rfl rfl rfl (fun Y14 => ?_)
    refine TO.y (Y.assign rfl) rfl rfl rfl ?_
    refine TO.nil ?_
    refine TE.next ?_
    refine TW.seq ?_
    refine TW.seq ?_
    refine TW.region ?_
    refine TO.y (Y.move rfl) rfl rfl rfl ?_
    refine TO.y (Y.move rfl) rfl rfl rfl ?_
    refine TO.bind fun R15 H16 => ?_
    refine TO.ef (Ef.call (rest := [.own Y14 (lc 3 R12), .own Y11 (lc 65 R5), .own Y10 (lc 3 R8), .own Y7 (lc 65 R5)]) [0, 0, 0, 0] (laws_eqIntS_con R12 R8 Y14 Y10 R15 H16) kc29 rfl rfl ⟨(Can.own 0 rfl), (Can.own 2 rfl), trivial⟩) rfl rfl rfl (fun _ => ?_)
    refine TO.y (Y.not rfl) rfl rfl rfl ?_
    refine TO.nil ?_
    refine TE.next ?_
    refine TW.cond rfl (fun H18 => ?_) (fun H18 => ?_)
    · refine TW.seq ?_
      refine TW.region ?_
      refine TO.y (Y.assign rfl) rfl rfl rfl ?_
      refine TO.nil ?_
      refine TE.next ?_
      refine TW.ret ?_
      refine TE.then_ret ?_
      exact TE.leaf fun _ _ hf_ hs_ => ret_any (rs := [.tmp 4]) (vs := [.bool false]) (.inl rfl) rfl ⟨rfl, trivial⟩ hf_ hs_ ⟨(), rfl, hs_.pulls [] rfl⟩
    · refine TW.skip ?_
      refine TE.next ?_
      refine TW.seq ?_
      refine TW.seq ?_
      refine TW.region ?_
      refine TO.y (Y.move rfl) rfl rfl rfl ?_
      refine TO.y (Y.move rfl) rfl rfl rfl ?_
      refine TO.ef (Ef.call (rest := [.own Y14 (lc 3 R12), .own Y11 (lc 65 R5), .own Y10 (lc 3 R8), .own Y7 (lc 65 R5)]) [0, 0, 0, 0] (laws_toLogRowS_con aL V_aL0 R5 H6) kc18 rfl rfl ⟨(Base.can HB_V_aL0), trivial⟩) rfl rfl rfl (fun Y19 => ?_)
      refine TO.bind fun R20 H21 => ?_
      refine TO.ef (Ef.call (rest := [.own Y19 (lc 65 R5), .own Y14 (lc 3 R12), .own Y11 (lc 65 R5), .own Y10 (lc 3 R8), .own Y7 (lc 65 R5)]) [0, 0, 0, 0, 0] (laws_eqLogRowS_con R5 R5 Y11 Y19 R20 H21) kc20 rfl rfl ⟨(Can.own 2 rfl), (Can.own 0 rfl), trivial⟩) rfl rfl rfl (fun _ => ?_)
      refine TO.y (Y.not rfl) rfl rfl rfl ?_
      refine TO.nil ?_
      refine TE.next ?_
      refine TW.cond rfl (fun H23 => ?_) (fun H23 => ?_)
      · refine TW.seq ?_
        refine TW.region ?_
        refine TO.y (Y.assign rfl) rfl rfl rfl ?_
        refine TO.nil ?_
        refine TE.next ?_
        refine TW.ret ?_
        refine TE.then_ret ?_
        exact TE.leaf fun _ _ hf_ hs_ => ret_any (rs := [.tmp 4]) (vs := [.bool false]) (.inl rfl) rfl ⟨rfl, trivial⟩ hf_ hs_ ⟨(), rfl, hs_.pulls [] rfl⟩
      · refine TW.skip ?_
        refine TE.next ?_
        refine TW.seq ?_
        refine TW.region ?_
        refine TO.y (Y.assign rfl) rfl rfl rfl ?_
        refine TO.nil ?_
        refine TE.next ?_
        refine TW.seq ?_
        refine TW.region ?_
        refine TO.y (Y.move rfl) rfl rfl rfl ?_
        refine TO.y (Y.move rfl) rfl rfl rfl ?_
        refine TO.bind fun R24 H25 => ?_
        refine TO.ef (Ef.call (rest := [.own Y19 (lc 65 R5), .own Y14 (lc 3 R12), .own Y10 (lc 3 R8), .own Y7 (lc 65 R5)]) [2, 0, 0, 0, 0] (laws_markLogRowS_con R5 (1 : Int) Y11 R24 H25) kc35 rfl rfl trivial) rfl rfl rfl (fun _ => ?_)
        refine TO.y (Y.assign rfl) rfl rfl rfl ?_
        refine TO.nil ?_
        refine TE.next ?_
        refine TW.seq ?_
        refine TW.seq ?_
        refine TW.joinBX (τ := Bool) (X := Unit) (fun T _ => [(0, V_aL0), (1, .int .i64 aTenant), (6, Y10), (8, Y14), (46, .bool T)]) (fun _ _ => [.own Y10 (lc 3 R8), .own Y14 (lc 3 R12)]) ?_ (fun T27 X28 => ?_)
        · refine TW.region ?_
          refine TO.y (Y.move rfl) rfl rfl rfl ?_
          refine TO.y (Y.lss rfl rfl) rfl rfl rfl ?_
          refine TO.y (Y.move rfl) rfl rfl rfl ?_
          refine TO.ite (b := decide (R24.1 < (0 : Int))) (fun H29 => ?_) (fun H29 => ?_)
          · refine TO.off (Gd.at 2 false 41 (decide (R24.1 < (0 : Int))) rfl rfl rfl (beq_tf H29)) rfl rfl ?_
            refine TO.off (Gd.at 2 false 41 (decide (R24.1 < (0 : Int))) rfl rfl rfl (beq_tf H29)) rfl rfl ?_
            refine TO.off (Gd.at 2 false 41 (decide (R24.1 < (0 : Int))) rfl rfl rfl (beq_tf H29)) rfl rfl ?_
            refine TO.off (Gd.at 2 false 41 (decide (R24.1 < (0 : Int))) rfl rfl rfl (beq_tf H29)) rfl rfl ?_
            refine TO.y (Y.pick_t H29 rfl rfl) rfl rfl rfl ?_
            refine TO.nil ?_
            exact TE.jb_go () [3, 2] ⟨rfl, rfl, rfl, rfl, rfl, trivial⟩ rfl
          · refine TO.y (Y.move rfl) (Gd.at 2 false 41 (decide (R24.1 < (0 : Int))) rfl rfl rfl (beq_ff H29)) rfl rfl ?_
            refine TO.y (Y.move rfl) (Gd.at 2 false 41 (decide (R24.1 < (0 : Int))) rfl rfl rfl (beq_ff H29)) rfl rfl ?_
            refine TO.ef (Ef.call (rest := [.own Y11 (lc 65 R24.2), .own Y19 (lc 65 R5), .own Y14 (lc 3 R12), .own Y10 (lc 3 R8), .own Y7 (lc 65 R5)]) [0, 0, 0, 0, 0] (laws_eqIntS_con R12 R8 Y14 Y10 R15 H16) kc29 rfl rfl ⟨(Can.own 2 rfl), (Can.own 3 rfl), trivial⟩) (Gd.at 2 false 41 (decide (R24.1 < (0 : Int))) rfl rfl rfl (beq_ff H29)) rfl rfl (fun _ => ?_)
            refine TO.y (Y.not rfl) (Gd.at 2 false 41 (decide (R24.1 < (0 : Int))) rfl rfl rfl (beq_ff H29)) rfl rfl ?_
            refine TO.y (Y.pick_f H29 rfl rfl) rfl rfl rfl ?_
            refine TO.nil ?_
            exact TE.jb_go () [3, 2] ⟨rfl, rfl, rfl, rfl, rfl, trivial⟩ rfl
        · refine TE.next ?_
          refine TW.cond rfl (fun H31 => ?_) (fun H31 => ?_)
          · refine TW.seq ?_
            refine TW.region ?_
            refine TO.y (Y.assign rfl) rfl rfl rfl ?_
            refine TO.nil ?_
            refine TE.next ?_
            refine TW.ret ?_
            refine TE.then_ret ?_
            exact TE.leaf fun _ _ hf_ hs_ => ret_any (rs := [.tmp 4]) (vs := [.bool false]) (.inl rfl) rfl ⟨rfl, trivial⟩ hf_ hs_ ⟨(), rfl, hs_.pulls [] rfl⟩
          · refine TW.skip ?_
            refine TE.next ?_
            refine TW.seq ?_
            refine TW.region ?_
            refine TO.y (Y.assign rfl) rfl rfl rfl ?_
            refine TO.nil ?_
            refine TE.next ?_
            refine TW.seq ?_
            refine TW.region ?_
            refine TO.y (Y.move rfl) rfl rfl rfl ?_
            refine TO.y (Y.move rfl) rfl rfl rfl ?_
            refine TO.bind fun R32 H33 => ?_
            refine TO.ef (Ef.call (rest := [.own Y10 (lc 3 R8)]) [1, 0] (laws_markIntS_con R12 (1 : Int) Y14 R32 H33) kc31 rfl rfl trivial) rfl rfl rfl (fun _ => ?_)
            refine TO.y (Y.assign rfl) rfl rfl rfl ?_
            refine TO.nil ?_
            refine TE.next ?_
            refine TW.seq ?_
            refine TW.region ?_
            refine TO.y (Y.assign rfl) rfl rfl rfl ?_
            refine TO.nil ?_
            refine TE.next ?_
            refine TW.seq ?_
            refine TW.region ?_
            refine TO.y (Y.move rfl) rfl rfl rfl ?_
            refine TO.y (Y.move rfl) rfl rfl rfl ?_
            refine TO.bind fun R35 H36 => ?_
            refine TO.ef (Ef.call (rest := [.own Y14 (lc 3 R32.2), .own Y10 (lc 3 R8)]) [0, 0] (laws_heldIntS_con R32.2 (1 : Int) Y14 R35 H36) kc36 rfl rfl ⟨(Can.own 0 rfl), trivial⟩) rfl rfl rfl (fun _ => ?_)
            refine TO.y (Y.assign rfl) rfl rfl rfl ?_
            refine TO.nil ?_
            refine TE.next ?_
            refine TW.seq ?_
            refine TW.seq ?_
            refine TW.region ?_
            refine TO.y (Y.move rfl) rfl rfl rfl ?_
            refine TO.y (Y.lss rfl rfl) rfl rfl rfl ?_
            refine TO.nil ?_
            refine TE.next ?_
            refine TW.cond rfl (fun H38 => ?_) (fun H38 => ?_)
            · refine TW.seq ?_
              refine TW.region ?_
              refine TO.y (Y.assign rfl) rfl rfl rfl ?_
              refine TO.nil ?_
              refine TE.next ?_
              refine TW.ret ?_
              refine TE.then_ret ?_
              exact TE.leaf fun _ _ hf_ hs_ => ret_any (rs := [.tmp 4]) (vs := [.bool false]) (.inl rfl) rfl ⟨rfl, trivial⟩ hf_ hs_ ⟨(), rfl, hs_.pulls [] rfl⟩
            · refine TW.skip ?_
              refine TE.next ?_
              refine TW.seq ?_
              refine TW.seq ?_
              refine TW.region ?_
              refine TO.y (Y.move rfl) rfl rfl rfl ?_
              refine TO.y (Y.move rfl) rfl rfl rfl ?_
              refine TO.y (Y.neq rfl rfl) rfl rfl rfl ?_
              refine TO.nil ?_
              refine TE.next ?_
              refine TW.cond rfl (fun H39 => ?_) (fun H39 => ?_)
              · refine TW.seq ?_
                refine TW.region ?_
                refine TO.y (Y.assign rfl) rfl rfl rfl ?_
                refine TO.nil ?_
                refine TE.next ?_
                refine TW.ret ?_
                refine TE.then_ret ?_
                exact TE.leaf fun _ _ hf_ hs_ => ret_any (rs := [.tmp 4]) (vs := [.bool false]) (.inl rfl) rfl ⟨rfl, trivial⟩ hf_ hs_ ⟨(), rfl, hs_.pulls [] rfl⟩
              · refine TW.skip ?_
                refine TE.next ?_
                refine TW.seq ?_
                refine TW.region ?_
                refine TO.y (Y.move rfl) rfl rfl rfl ?_
                refine TO.ef (Ef.call (rest := [.own Y14 (lc 3 R32.2), .own Y10 (lc 3 R8)]) [0, 0] (laws_toLogRowS_con aL V_aL0 R5 H6) kc18 rfl rfl ⟨(Base.can HB_V_aL0), trivial⟩) rfl rfl rfl (fun Y40 => ?_)
                refine TO.y (Y.move rfl) rfl rfl rfl ?_
                refine TO.ef (Ef.call (rest := [.own Y40 (lc 65 R5), .own Y14 (lc 3 R32.2), .own Y10 (lc 3 R8)]) [0, 0, 0] (impl_Lens_con R5 aTenant Y40 R12 H13) kc34 rfl rfl ⟨(Can.own 0 rfl), trivial⟩) rfl rfl rfl (fun Y41 => ?_)
                refine TO.y (Y.assign rfl) rfl rfl rfl ?_
                refine TO.nil ?_
                refine TE.next ?_
                refine TW.seq ?_
                refine TW.seq ?_
                refine TW.region ?_
                refine TO.y (Y.move rfl) rfl rfl rfl ?_
                refine TO.y (Y.move rfl) rfl rfl rfl ?_
                refine TO.ef (Ef.call (rest := [.own Y41 (lc 3 R12), .own Y40 (lc 65 R5), .own Y14 (lc 3 R32.2), .own Y10 (lc 3 R8)]) [0, 0, 0, 0] (laws_eqIntS_con R12 R8 Y41 Y10 R15 H16) kc29 rfl rfl ⟨(Can.own 0 rfl), (Can.own 3 rfl), trivial⟩) rfl rfl rfl (fun _ => ?_)
                refine TO.y (Y.not rfl) rfl rfl rfl ?_
                refine TO.nil ?_
                refine TE.next ?_
                refine TW.cond rfl (fun H43 => ?_) (fun H43 => ?_)
                · refine TW.seq ?_
                  refine TW.region ?_
                  refine TO.y (Y.assign rfl) rfl rfl rfl ?_
                  refine TO.nil ?_
                  refine TE.next ?_
                  refine TW.ret ?_
                  refine TE.then_ret ?_
                  exact TE.leaf fun _ _ hf_ hs_ => ret_any (rs := [.tmp 4]) (vs := [.bool false]) (.inl rfl) rfl ⟨rfl, trivial⟩ hf_ hs_ ⟨(), rfl, hs_.pulls [] rfl⟩
                · refine TW.skip ?_
                  refine TE.next ?_
                  refine TW.seq ?_
                  refine TW.region ?_
                  refine TO.y (Y.assign rfl) rfl rfl rfl ?_
                  refine TO.nil ?_
                  refine TE.next ?_
                  refine TW.seq ?_
                  refine TW.region ?_
                  refine TO.y (Y.move rfl) rfl rfl rfl ?_
                  refine TO.y (Y.move rfl) rfl rfl rfl ?_
                  refine TO.ef (Ef.call (rest := [.own Y41 (lc 3 R12), .own Y40 (lc 65 R5), .own Y14 (lc 3 R32.2), .own Y10 (lc 3 R8)]) [0, 0, 0, 0] (laws_heldIntS_con R32.2 (1 : Int) Y14 R35 H36) kc36 rfl rfl ⟨(Can.own 2 rfl), trivial⟩) rfl rfl rfl (fun _ => ?_)
                  refine TO.y (Y.assign rfl) rfl rfl rfl ?_
                  refine TO.nil ?_
                  refine TE.next ?_
                  refine TW.seq ?_
                  refine TW.seq ?_
                  refine TW.region ?_
                  refine TO.y (Y.move rfl) rfl rfl rfl ?_
                  refine TO.y (Y.lss rfl rfl) rfl rfl rfl ?_
                  refine TO.nil ?_
                  refine TE.next ?_
                  refine TW.cond rfl (fun H45 => ?_) (fun H45 => ?_)
                  · refine TW.seq ?_
                    refine TW.region ?_
                    refine TO.y (Y.assign rfl) rfl rfl rfl ?_
                    refine TO.nil ?_
                    refine TE.next ?_
                    refine TW.ret ?_
                    refine TE.then_ret ?_
                    exact TE.leaf fun _ _ hf_ hs_ => ret_any (rs := [.tmp 4]) (vs := [.bool false]) (.inl rfl) rfl ⟨rfl, trivial⟩ hf_ hs_ ⟨(), rfl, hs_.pulls [] rfl⟩
                  · refine TW.skip ?_
                    refine TE.next ?_
                    refine TW.seq ?_
                    refine TW.seq ?_
                    refine TW.region ?_
                    refine TO.y (Y.move rfl) rfl rfl rfl ?_
                    refine TO.y (Y.move rfl) rfl rfl rfl ?_
                    refine TO.y (Y.neq rfl rfl) rfl rfl rfl ?_
                    refine TO.nil ?_
                    refine TE.next ?_
                    refine TW.cond rfl (fun H46 => ?_) (fun H46 => ?_)
                    · refine TW.seq ?_
                      refine TW.region ?_
                      refine TO.y (Y.assign rfl) rfl rfl rfl ?_
                      refine TO.nil ?_
                      refine TE.next ?_
                      refine TW.ret ?_
                      refine TE.then_ret ?_
                      exact TE.leaf fun _ _ hf_ hs_ => ret_any (rs := [.tmp 4]) (vs := [.bool false]) (.inl rfl) rfl ⟨rfl, trivial⟩ hf_ hs_ ⟨(), rfl, hs_.pulls [] rfl⟩
                    · refine TW.skip ?_
                      refine TE.next ?_
                      refine TW.seq ?_
                      refine TW.region ?_
                      refine TO.y (Y.assign rfl) rfl rfl rfl ?_
                      refine TO.nil ?_
                      refine TE.next ?_
                      refine TW.ret ?_
                      exact TE.leaf fun _ _ hf_ hs_ => ret_any (rs := [.tmp 4]) (vs := [.bool true]) (.inl rfl) rfl ⟨rfl, trivial⟩ hf_ hs_ ⟨(), rfl, hs_.pulls [] rfl⟩

end Go.Proofs.Ytjmimdhpghecpaa
