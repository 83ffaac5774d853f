/-
  The functions that a law reaches, each as a pure function, with the proof that the program computes it, and the step from a pure law to the given statement. Conditions: none.
-/
import Derived.Test.YtammomfkamhhdaaS1
set_option linter.unusedVariables false
set_option maxRecDepth 100000
set_option maxHeartbeats 4000000
namespace Go.Proofs.Ytammomfkamhhdaa
open Go Sl

/-- loop.example/g00950/impl.SpaceWipe -/
noncomputable def impl_SpaceWipe (s : Space) (who : Int) : Option (Space × Int) :=
  (impl_SpaceOk s).bind fun R3 =>
  if (!R3) = true then (some ({ Owner := ([] : List Int) : Space }, (0 : Int)))
  else ((impl_copySpace s).bind fun R8 =>
  (impl_isTenant who).bind fun R12 =>
  if (!R12) = true then (some (R8, (0 : Int)))
  else (bindC (loopO (fun (S16 : Int × Int × List Int) => if (decide (S16.2.1 < ((s.Owner.length : Nat) : Int))) = true then ((idx s.Owner S16.2.1).bind fun E21 =>
  bindC (if (decide (E21 = who)) = true then ((idx S16.2.2 S16.2.1).bind fun E26 =>
  some (.go (IntKind.i64.wrap (S16.1 + (1 : Int)), (S16.2.2.set S16.2.1.toNat (0 : Int)))))
  else (some (.go (S16.1, S16.2.2))))
  (fun (T23 : Int × List Int) => some (.go (T23.1, IntKind.i64.wrap (S16.2.1 + (1 : Int)), T23.2))))
  else (some (.done (.go (S16.1, S16.2.2)))))
  ((0 : Int), (0 : Int), R8.Owner))
  (fun (T18 : Int × List Int) => some ({ Owner := T18.2 : Space }, T18.1))))

theorem impl_SpaceWipe_con (s : Space) (who : Int) (V_s0 : Value) (r : Space × Int) (hm : impl_SpaceWipe s who = some r) :
    Con Try.prog 14 [.agg #[V_s0], .int .i64 who] [] [(V_s0, lc s.Owner)] (fun X : Value => .tuple #[.agg #[X], .int .i64 r.2]) (fun X => [.own X (lc r.1.Owner)]) := by
  refine Con.intro (args := [.agg #[V_s0], .int .i64 who]) (n := 40) (val := fun r (X : Value) => .tuple #[.agg #[X], .int .i64 r.2]) (post := fun r X => [.own X (lc r.1.Owner)]) (m := impl_SpaceWipe s who) Try.func14 rfl rfl rfl hm ?_
  intro w S hrd
  have HB_V_s0 := hrd _ (.head _)
  clear hrd
  unfold impl_SpaceWipe
  refine TW.seq ?_
  refine TW.region ?_
  refine TO.ef (Ef.box rfl (Cel.agg ⟨(One.can (Base.can HB_V_s0)), trivial⟩)) rfl rfl rfl (fun B1 => ?_)
  refine TO.ef (Ef.alloc kz26 rfl) rfl rfl rfl (fun B2 => ?_)
  refine TO.y (Y.assign rfl) rfl rfl rfl ?_
  refine TO.nil ?_
  refine TE.next ?_
  refine TW.seq ?_
  refine TW.seq ?_
  refine TW.region ?_
  refine TO.y (Y.load_box (v := .agg #[V_s0]) 1 kk26 rfl rfl rfl) rfl rfl rfl ?_
  refine TO.bind fun R3 H4 => ?_
  refine TO.ef (Ef.call (rest := [.box B2 26 [.slice none 0 0], .box B1 26 [V_s0]]) [0, 0] (impl_SpaceOk_con s V_s0 R3 H4) kc27 rfl rfl ⟨(Base.can HB_V_s0), trivial⟩) rfl rfl rfl (fun _ => ?_)
  refine TO.y (Y.not rfl) rfl rfl rfl ?_
  refine TO.nil ?_
  refine TE.next ?_
  refine TW.cond rfl (fun H6 => ?_) (fun H6 => ?_)
  · refine TW.seq ?_
    refine TW.region ?_
    refine TO.y (Y.build (cells := [.slice none 0 0]) [] kp26 kz26 trivial rfl) rfl rfl rfl ?_
    refine TO.ef0 (Ef.store_box (us := [.slice none 0 0]) (vs' := [.slice none 0 0]) (is' := [.box B2 26 [.slice none 0 0], .box B1 26 [V_s0]]) 0 kk26 rfl rfl rfl (Cel.plain rfl rfl) rfl rfl rfl rfl) rfl rfl (fun _ => ?_)
    refine TO.y (Y.assign rfl) rfl rfl rfl ?_
    refine TO.nil ?_
    refine TE.next ?_
    refine TW.ret ?_
    refine TE.then_ret ?_
    exact TE.leaf fun _ _ hf_ hs_ => ret_any (rs := [.cell 4 26, .tmp 5]) (vs := [.agg #[.slice none 0 0], .int .i64 (0 : Int)]) (.inl rfl) rfl (RV.cell 0 rfl rfl kk26 rfl ⟨rfl, trivial⟩) hf_ hs_ ⟨(.slice none 0 0), rfl, (hs_.nilItem 1).pulls [0] rfl⟩
  · refine TW.skip ?_
    refine TE.next ?_
    refine TW.seq ?_
    refine TW.region ?_
    refine TO.y (Y.load_box (v := .agg #[V_s0]) 1 kk26 rfl rfl rfl) rfl rfl rfl ?_
    refine TO.bind fun R8 H9 => ?_
    refine TO.ef (Ef.call (rest := [.box B2 26 [.slice none 0 0], .box B1 26 [V_s0]]) [0, 0] (impl_copySpace_con s V_s0 R8 H9) kc28 rfl rfl ⟨(Base.can HB_V_s0), trivial⟩) rfl rfl rfl (fun Y10 => ?_)
    refine TO.ef (Ef.alloc kz26 rfl) rfl rfl rfl (fun B11 => ?_)
    refine TO.ef0 (Ef.store_box (us := [Y10]) (vs' := [Y10]) (is' := [.box B11 26 [Y10], .own Y10 (lc R8.Owner), .box B2 26 [.slice none 0 0], .box B1 26 [V_s0]]) 0 kk26 rfl rfl rfl (Cel.agg ⟨(One.can (Can.own 1 rfl)), trivial⟩) rfl rfl rfl rfl) rfl rfl (fun _ => ?_)
    refine TO.nil ?_
    refine TE.next ?_
    refine TW.seq ?_
    refine TW.seq ?_
    refine TW.region ?_
    refine TO.y (Y.move rfl) rfl rfl rfl ?_
    refine TO.bind fun R12 H13 => ?_
    refine TO.ef (Ef.call (rest := [.box B11 26 [Y10], .own Y10 (lc R8.Owner), .box B2 26 [.slice none 0 0], .box B1 26 [V_s0]]) [0, 0, 0, 0] (impl_isTenant_con who  R12 H13) kc29 rfl rfl trivial) rfl rfl rfl (fun _ => ?_)
    refine TO.y (Y.not rfl) rfl rfl rfl ?_
    refine TO.nil ?_
    refine TE.next ?_
    refine TW.cond rfl (fun H15 => ?_) (fun H15 => ?_)
    · refine TW.seq ?_
      refine TW.region ?_
      refine TO.y (Y.load_box (v := .agg #[Y10]) 0 kk26 rfl rfl rfl) rfl rfl rfl ?_
      refine TO.ef0 (Ef.store_box (us := [Y10]) (vs' := [Y10]) (is' := [.box B11 26 [Y10], .own Y10 (lc R8.Owner), .box B2 26 [Y10], .box B1 26 [V_s0]]) 2 kk26 rfl rfl rfl (Cel.agg ⟨(One.can (Can.own 1 rfl)), trivial⟩) rfl rfl rfl rfl) rfl rfl (fun _ => ?_)
      refine TO.y (Y.assign rfl) rfl rfl rfl ?_
      refine TO.nil ?_
      refine TE.next ?_
      refine TW.ret ?_
      refine TE.then_ret ?_
      exact TE.leaf fun _ _ hf_ hs_ => ret_any (rs := [.cell 4 26, .tmp 5]) (vs := [.agg #[Y10], .int .i64 (0 : Int)]) (.inl rfl) rfl (RV.cell 2 rfl rfl kk26 rfl ⟨rfl, trivial⟩) hf_ hs_ ⟨Y10, rfl, hs_.pulls [1] rfl⟩
    · refine TW.skip ?_
      refine TE.next ?_
      refine TW.seq ?_
      refine TW.region ?_
      refine TO.y (Y.assign rfl) rfl rfl rfl ?_
      refine TO.nil ?_
      refine TE.next ?_
      refine TW.seq ?_
      refine TW.seq ?_
      refine TW.region ?_
      refine TO.y (Y.field_box kf26_0 rfl rfl) rfl rfl rfl ?_
      refine TO.y (Y.load_box (v := V_s0) 3 kk24 rfl rfl rfl) rfl rfl rfl ?_
      refine TO.y (Y.len (l := s.Owner) ke24 (Base.can HB_V_s0) rfl) rfl rfl rfl ?_
      refine TO.y (Y.move rfl) rfl rfl rfl ?_
      refine TO.nil ?_
      refine TE.next ?_
      refine TW.joinX (τ := Int × List Int) (X := Unit) (fun T _ => [(4, .pointer (some ⟨B2, 0, none⟩)), (6, .pointer (some ⟨B11, 0, none⟩)), (7, .int .i64 T.1)]) (fun T _ => [.box B2 26 [.slice none 0 0], .box B11 26 [Y10], .own Y10 (lc T.2)]) ?_ (fun T18 X19 => ?_)
      · refine TW.block ?_
        refine TW.loopX (σ := Int × Int × List Int) (X := Unit) (fun T _ => [(1, .int .i64 who), (4, .pointer (some ⟨B2, 0, none⟩)), (6, .pointer (some ⟨B11, 0, none⟩)), (7, .int .i64 T.1), (21, V_s0), (22, .int .i64 ((s.Owner.length : Nat) : Int)), (23, .int .i64 T.2.1)]) (fun T _ => [.box B2 26 [.slice none 0 0], .box B11 26 [Y10], .own Y10 (lc T.2.2)]) () [2, 0, 0] ⟨rfl, rfl, rfl, rfl, rfl, rfl, rfl, trivial⟩ rfl (fun S16 X17 => ?_)
        refine TW.seq ?_
        refine TW.region ?_
        refine TO.y (Y.lss rfl rfl) rfl rfl rfl ?_
        refine TO.nil ?_
        refine TE.next ?_
        refine TW.seq ?_
        refine TW.cond rfl (fun H20 => ?_) (fun H20 => ?_)
        · refine TW.skip ?_
          refine TE.next ?_
          refine TW.seq ?_
          refine TW.block ?_
          refine TW.seq ?_
          refine TW.region ?_
          refine TO.y (Y.move rfl) rfl rfl rfl ?_
          refine TO.bind fun E21 H22 => ?_
          refine TO.y (Y.index ke24 (Base.can HB_V_s0) H22 rfl rfl) rfl rfl rfl ?_
          refine TO.y (Y.load_el (us := [.int .i64 E21]) (u := .int .i64 E21) kk3 rfl (Base.can HB_V_s0) (idx_get H22).2.2 rfl rfl rfl rfl rfl) rfl rfl rfl ?_
          refine TO.y (Y.assign rfl) rfl rfl rfl ?_
          refine TO.y (Y.assign rfl) rfl rfl rfl ?_
          refine TO.nil ?_
          refine TE.next ?_
          refine TW.seq ?_
          refine TW.region ?_
          refine TO.y (Y.move rfl) rfl rfl rfl ?_
          refine TO.y (Y.move rfl) rfl rfl rfl ?_
          refine TO.y (Y.eql rfl rfl) rfl rfl rfl ?_
          refine TO.nil ?_
          refine TE.next ?_
          refine TW.joinX (τ := Int × List Int) (X := Unit) (fun T _ => [(1, .int .i64 who), (4, .pointer (some ⟨B2, 0, none⟩)), (6, .pointer (some ⟨B11, 0, none⟩)), (7, .int .i64 T.1), (21, V_s0), (22, .int .i64 ((s.Owner.length : Nat) : Int)), (23, .int .i64 S16.2.1)]) (fun T _ => [.box B2 26 [.slice none 0 0], .box B11 26 [Y10], .own Y10 (lc T.2)]) ?_ (fun T23 X24 => ?_)
          · refine TW.cond rfl (fun H25 => ?_) (fun H25 => ?_)
            · refine TW.seq ?_
              refine TW.region ?_
              refine TO.y (Y.field_box kf26_0 rfl rfl) rfl rfl rfl ?_
              refine TO.y (Y.load_box (v := Y10) 1 kk24 rfl rfl rfl) rfl rfl rfl ?_
              refine TO.y (Y.move rfl) rfl rfl rfl ?_
              refine TO.bind fun E26 H27 => ?_
              refine TO.y (Y.index ke24 (Can.own 2 rfl) H27 rfl rfl) rfl rfl rfl ?_
              refine TO.ef0 (Ef.store_el (us := [.int .i64 (0 : Int)]) (is' := [.box B2 26 [.slice none 0 0], .box B11 26 [Y10], .own Y10 (lc (S16.2.2.set S16.2.1.toNat (0 : Int)))]) (0 : Int) 2 kk3 rfl rfl (idx_get H27).2.2 rfl rfl (Cel.plain rfl rfl) rfl rfl rfl rfl) rfl rfl (fun _ => ?_)
              refine TO.nil ?_
              refine TE.next ?_
              refine TW.region ?_
              refine TO.y (Y.move rfl) rfl rfl rfl ?_
              refine TO.y (Y.add rfl rfl) rfl rfl rfl ?_
              refine TO.y (Y.assign rfl) rfl rfl rfl ?_
              refine TO.nil ?_
              exact TE.jn_go () [0, 0, 0] ⟨rfl, rfl, rfl, rfl, rfl, rfl, rfl, trivial⟩ rfl
            · refine TW.skip ?_
              exact TE.jn_go () [0, 0, 0] ⟨rfl, rfl, rfl, rfl, rfl, rfl, rfl, trivial⟩ rfl
          · refine TE.block_normal ?_
            refine TE.next ?_
            refine TW.region ?_
            refine TO.y (Y.add rfl rfl) rfl rfl rfl ?_
            refine TO.y (Y.move rfl) rfl rfl rfl ?_
            refine TO.nil ?_
            exact TE.lp_go () [0, 0, 0] ⟨rfl, rfl, rfl, rfl, rfl, rfl, rfl, trivial⟩ rfl
        · refine TW.exit ?_
          refine TE.then_exit ?_
          refine TE.lp_exit ?_
          refine TE.block_exit ?_
          exact TE.jn_go () [0, 0, 0] ⟨rfl, rfl, rfl, trivial⟩ rfl
      · refine TE.next ?_
        refine TW.seq ?_
        refine TW.region ?_
        refine TO.y (Y.load_box (v := .agg #[Y10]) 1 kk26 rfl rfl rfl) rfl rfl rfl ?_
        refine TO.y (Y.move rfl) rfl rfl rfl ?_
        refine TO.ef0 (Ef.store_box (us := [Y10]) (vs' := [Y10]) (is' := [.box B2 26 [Y10], .box B11 26 [Y10], .own Y10 (lc T18.2)]) 0 kk26 rfl rfl rfl (Cel.agg ⟨(One.can (Can.own 2 rfl)), trivial⟩) rfl rfl rfl rfl) rfl rfl (fun _ => ?_)
        refine TO.y (Y.assign rfl) rfl rfl rfl ?_
        refine TO.nil ?_
        refine TE.next ?_
        refine TW.ret ?_
        exact TE.leaf fun _ _ hf_ hs_ => ret_any (rs := [.cell 4 26, .tmp 5]) (vs := [.agg #[Y10], .int .i64 T18.1]) (.inl rfl) rfl (RV.cell 0 rfl rfl kk26 rfl ⟨rfl, trivial⟩) hf_ hs_ ⟨Y10, rfl, hs_.pulls [2] rfl⟩

/-- loop.example/g00950/spec.DrawSpaceGive -/
noncomputable def spec_DrawSpaceGive (code : List UInt8) : Option (Space × Int × List Int) :=
  (spec_l1New code).bind fun R2 =>
  (spec_l18Some ({ b := code, i := R2.i, h := R2.h : L1Cur })).bind fun R5 =>
  (spec_l1Below ({ b := code, i := R5.2.i, h := R5.2.h : L1Cur }) (3 : Int)).bind fun R9 =>
  bindC (loopO (fun (S13 : Int × Int × Int × List Int) => if (decide (S13.2.2.1 < ((R5.1.Owner.length : Nat) : Int))) = true then (((idx R5.1.Owner S13.2.2.1).bind fun E20 =>
  if (decide (E20 = IntKind.i64.wrap ((1 : Int) + R9.1))) = true then ((spec_l1Once ({ b := code, i := S13.1, h := S13.2.1 : L1Cur }) (2 : Int)).bind fun R23 =>
  some (R23.2.i, R23.2.h, R23.1))
  else (some (S13.1, S13.2.1, false))).bind (fun (T18 : Int × Int × Bool) =>
  bindC (if T18.2.2 = true then ((app 8 S13.2.2.2 ([S13.2.2.1])).bind fun E31 =>
  some (.go E31))
  else (some (.go S13.2.2.2)))
  (fun (T26 : List Int) => some (.go (T18.1, T18.2.1, IntKind.i64.wrap (S13.2.2.1 + (1 : Int)), T26)))))
  else (some (.done (.go (S13.1, S13.2.1, S13.2.2.2)))))
  (R9.2.i, R9.2.h, (0 : Int), ([] : List Int)))
  (fun (T15 : Int × Int × List Int) => (spec_l1Once ({ b := code, i := T15.1, h := T15.2.1 : L1Cur }) (5 : Int)).bind fun R33 =>
  bindC (if R33.1 = true then ((spec_l1Below ({ b := code, i := R33.2.i, h := R33.2.h : L1Cur }) (14 : Int)).bind fun R39 =>
  (app 8 T15.2.2 ([IntKind.i64.wrap (R39.1 - (1 : Int))])).bind fun E44 =>
  some (.go E44))
  else (some (.go T15.2.2)))
  (fun (T36 : List Int) => some (R5.1, IntKind.i64.wrap ((1 : Int) + R9.1), T36)))

theorem spec_DrawSpaceGive_con (code : List UInt8) (V_code0 : Value) (r : Space × Int × List Int) (hm : spec_DrawSpaceGive code = some r) :
    Con Try.prog 15 [V_code0] [] [(V_code0, lc code)] (fun X : Value × Value => .tuple #[.agg #[X.1], .int .i64 r.2.1, X.2]) (fun X => [.own X.1 (lc r.1.Owner), .own X.2 (lc r.2.2)]) := by
  refine Con.intro (args := [V_code0]) (n := 51) (val := fun r (X : Value × Value) => .tuple #[.agg #[X.1], .int .i64 r.2.1, X.2]) (post := fun r X => [.own X.1 (lc r.1.Owner), .own X.2 (lc r.2.2)]) (m := spec_DrawSpaceGive code) Try.func15 rfl rfl rfl hm ?_
  intro w S hrd
  have HB_V_code0 := hrd _ (.head _)
  clear hrd
  unfold spec_DrawSpaceGive
  refine TW.seq ?_
  refine TW.region ?_
  refine TO.ef (Ef.alloc kz26 rfl) rfl rfl rfl (fun B1 => ?_)
  refine TO.y (Y.assign rfl) rfl rfl rfl ?_
  refine TO.y (Y.assign rfl) rfl rfl rfl ?_
  refine TO.nil ?_
  refine TE.next ?_
  refine TW.seq ?_
  refine TW.region ?_
  refine TO.y (Y.move rfl) rfl rfl rfl ?_
  refine TO.bind fun R2 H3 => ?_
  refine TO.ef (Ef.call (rest := [.box B1 26 [.slice none 0 0]]) [0] (spec_l1New_con code V_code0 R2 H3) kc24 rfl rfl ⟨(Base.can HB_V_code0), trivial⟩) rfl rfl rfl (fun Y4 => ?_)
  refine TO.y (Y.assign rfl) rfl rfl rfl ?_
  refine TO.nil ?_
  refine TE.next ?_
  refine TW.seq ?_
  refine TW.region ?_
  refine TO.y (Y.move rfl) rfl rfl rfl ?_
  refine TO.bind fun R5 H6 => ?_
  refine TO.ef (Ef.call (rest := [.box B1 26 [.slice none 0 0]]) [0, 0] (spec_l18Some_con ({ b := code, i := R2.i, h := R2.h : L1Cur }) V_code0 Y4 R5 H6) kc25 rfl rfl ⟨(Base.can HB_V_code0), trivial⟩) rfl rfl rfl (fun Y7 => ?_)
  refine TO.ef (Ef.alloc kz26 rfl) rfl rfl rfl (fun B8 => ?_)
  refine TO.ef0 (Ef.store_box (us := [Y7]) (vs' := [Y7]) (is' := [.box B8 26 [Y7], .box Y4 69 [V_code0, .int .i64 R5.2.i, .int .i64 R5.2.h], .own Y7 (lc R5.1.Owner), .box B1 26 [.slice none 0 0]]) 0 kk26 rfl rfl rfl (Cel.agg ⟨(One.can (Can.own 2 rfl)), trivial⟩) rfl rfl rfl rfl) rfl rfl (fun _ => ?_)
  refine TO.nil ?_
  refine TE.next ?_
  refine TW.seq ?_
  refine TW.region ?_
  refine TO.y (Y.move rfl) rfl rfl rfl ?_
  refine TO.bind fun R9 H10 => ?_
  refine TO.ef (Ef.call (rest := [.box B8 26 [Y7], .own Y7 (lc R5.1.Owner), .box B1 26 [.slice none 0 0]]) [1, 0, 0, 0] (spec_l1Below_con ({ b := code, i := R5.2.i, h := R5.2.h : L1Cur }) (3 : Int) V_code0 Y4 R9 H10) kc33 rfl rfl ⟨(Base.can HB_V_code0), trivial⟩) rfl rfl rfl (fun _ => ?_)
  refine TO.y (Y.add rfl rfl) rfl rfl rfl ?_
  refine TO.y (Y.assign rfl) rfl rfl rfl ?_
  refine TO.nil ?_
  refine TE.next ?_
  refine TW.seq ?_
  refine TW.region ?_
  refine TO.ef (Ef.buildSlice (α := Int) (Vs := []) ([] : List Int) ke24 kz3 rfl rfl rfl rfl rfl) rfl rfl rfl (fun B12 => ?_)
  refine TO.y (Y.assign rfl) rfl rfl rfl ?_
  refine TO.nil ?_
  refine TE.next ?_
  refine TW.seq ?_
  refine TW.seq ?_
  refine TW.region ?_
  refine TO.y (Y.assign rfl) rfl rfl rfl ?_
  refine TO.nil ?_
  refine TE.next ?_
  refine TW.joinX (τ := Int × Int × List Int) (X := Value) (fun _ X => [(2, .pointer (some ⟨B1, 0, none⟩)), (5, .pointer (some ⟨Y4, 0, none⟩)), (6, .pointer (some ⟨B8, 0, none⟩)), (7, .int .i64 (IntKind.i64.wrap ((1 : Int) + R9.1))), (8, X)]) (fun T X => [.box B1 26 [.slice none 0 0], .box Y4 69 [V_code0, .int .i64 T.1, .int .i64 T.2.1], .box B8 26 [Y7], .own Y7 (lc R5.1.Owner), .own X (lc T.2.2)]) ?_ (fun T15 X16 => ?_)
  · refine TW.block ?_
    refine TW.loopX (σ := Int × Int × Int × List Int) (X := Value) (fun T X => [(2, .pointer (some ⟨B1, 0, none⟩)), (5, .pointer (some ⟨Y4, 0, none⟩)), (6, .pointer (some ⟨B8, 0, none⟩)), (7, .int .i64 (IntKind.i64.wrap ((1 : Int) + R9.1))), (8, X), (9, .int .i64 T.2.2.1)]) (fun T X => [.box B1 26 [.slice none 0 0], .box Y4 69 [V_code0, .int .i64 T.1, .int .i64 T.2.1], .box B8 26 [Y7], .own Y7 (lc R5.1.Owner), .own X (lc T.2.2.2)]) (.slice (some ⟨B12, 0, none⟩) 0 0) [4, 1, 1, 1, 0] ⟨rfl, rfl, rfl, rfl, rfl, rfl, trivial⟩ rfl (fun S13 X14 => ?_)
    refine TW.seq ?_
    refine TW.seq ?_
    refine TW.region ?_
    refine TO.y (Y.move rfl) rfl rfl rfl ?_
    refine TO.y (Y.field_box kf26_0 rfl rfl) rfl rfl rfl ?_
    refine TO.y (Y.load_box (v := Y7) 2 kk24 rfl rfl rfl) rfl rfl rfl ?_
    refine TO.y (Y.len (l := R5.1.Owner) ke24 (Can.own 3 rfl) rfl) rfl rfl rfl ?_
    refine TO.y (Y.lss rfl rfl) rfl rfl rfl ?_
    refine TO.nil ?_
    refine TE.next ?_
    refine TW.cond rfl (fun H17 => ?_) (fun H17 => ?_)
    · refine TW.skip ?_
      refine TE.next ?_
      refine TW.seq ?_
      refine TW.block ?_
      refine TW.seq ?_
      refine TW.joinBX (τ := Int × Int × Bool) (X := Unit) (fun T _ => [(2, .pointer (some ⟨B1, 0, none⟩)), (5, .pointer (some ⟨Y4, 0, none⟩)), (6, .pointer (some ⟨B8, 0, none⟩)), (7, .int .i64 (IntKind.i64.wrap ((1 : Int) + R9.1))), (8, X14), (9, .int .i64 S13.2.2.1), (35, .bool T.2.2)]) (fun T _ => [.box B1 26 [.slice none 0 0], .box Y4 69 [V_code0, .int .i64 T.1, .int .i64 T.2.1], .box B8 26 [Y7], .own Y7 (lc R5.1.Owner), .own X14 (lc S13.2.2.2)]) ?_ (fun T18 X19 => ?_)
      · refine TW.region ?_
        refine TO.y (Y.field_box kf26_0 rfl rfl) rfl rfl rfl ?_
        refine TO.y (Y.load_box (v := Y7) 2 kk24 rfl rfl rfl) rfl rfl rfl ?_
        refine TO.y (Y.move rfl) rfl rfl rfl ?_
        refine TO.bind fun E20 H21 => ?_
        refine TO.y (Y.index ke24 (Can.own 3 rfl) H21 rfl rfl) rfl rfl rfl ?_
        refine TO.y (Y.load_el (us := [.int .i64 E20]) (u := .int .i64 E20) kk3 rfl (Can.own 3 rfl) (idx_get H21).2.2 rfl rfl rfl rfl rfl) rfl rfl rfl ?_
        refine TO.y (Y.move rfl) rfl rfl rfl ?_
        refine TO.y (Y.eql rfl rfl) rfl rfl rfl ?_
        refine TO.y (Y.move rfl) rfl rfl rfl ?_
        refine TO.ite (b := decide (E20 = IntKind.i64.wrap ((1 : Int) + R9.1))) (fun H22 => ?_) (fun H22 => ?_)
        · refine TO.y (Y.move rfl) (Gd.at 7 true 32 (decide (E20 = IntKind.i64.wrap ((1 : Int) + R9.1))) rfl rfl rfl (beq_tt H22)) rfl rfl ?_
          refine TO.bind fun R23 H24 => ?_
          refine TO.ef (Ef.call (rest := [.box B1 26 [.slice none 0 0], .box B8 26 [Y7], .own Y7 (lc R5.1.Owner), .own X14 (lc S13.2.2.2)]) [1, 0, 0, 0, 0] (spec_l1Once_con ({ b := code, i := S13.1, h := S13.2.1 : L1Cur }) (2 : Int) V_code0 Y4 R23 H24) kc34 rfl rfl ⟨(Base.can HB_V_code0), trivial⟩) (Gd.at 7 true 32 (decide (E20 = IntKind.i64.wrap ((1 : Int) + R9.1))) rfl rfl rfl (beq_tt H22)) rfl rfl (fun _ => ?_)
          refine TO.y (Y.pick_t H22 rfl rfl) rfl rfl rfl ?_
          refine TO.nil ?_
          exact TE.jb_go () [1, 0, 0, 0, 0] ⟨rfl, rfl, rfl, rfl, rfl, rfl, rfl, trivial⟩ rfl
        · refine TO.off (Gd.at 7 true 32 (decide (E20 = IntKind.i64.wrap ((1 : Int) + R9.1))) rfl rfl rfl (beq_ft H22)) rfl rfl ?_
          refine TO.off (Gd.at 7 true 32 (decide (E20 = IntKind.i64.wrap ((1 : Int) + R9.1))) rfl rfl rfl (beq_ft H22)) rfl rfl ?_
          refine TO.y (Y.pick_f H22 rfl rfl) rfl rfl rfl ?_
          refine TO.nil ?_
          exact TE.jb_go () [0, 0, 0, 0, 0] ⟨rfl, rfl, rfl, rfl, rfl, rfl, rfl, trivial⟩ rfl
      · refine TE.next ?_
        refine TW.joinX (τ := List Int) (X := Value) (fun _ X => [(2, .pointer (some ⟨B1, 0, none⟩)), (5, .pointer (some ⟨Y4, 0, none⟩)), (6, .pointer (some ⟨B8, 0, none⟩)), (7, .int .i64 (IntKind.i64.wrap ((1 : Int) + R9.1))), (8, X), (9, .int .i64 S13.2.2.1)]) (fun T X => [.box B1 26 [.slice none 0 0], .box Y4 69 [V_code0, .int .i64 T18.1, .int .i64 T18.2.1], .box B8 26 [Y7], .own Y7 (lc R5.1.Owner), .own X (lc T)]) ?_ (fun T26 X27 => ?_)
        · refine TW.cond rfl (fun H28 => ?_) (fun H28 => ?_)
          · refine TW.region ?_
            refine TO.y (Y.move rfl) rfl rfl rfl ?_
            refine TO.y (Y.move rfl) rfl rfl rfl ?_
            refine TO.ef (Ef.buildSlice (α := Int) (Vs := [.int .i64 S13.2.2.1]) [S13.2.2.1] ke24 kz3 rfl rfl rfl rfl rfl) rfl rfl rfl (fun B29 => ?_)
            refine TO.bind fun E31 H32 => ?_
            refine TO.ef (Ef.append (α := Int) (is' := [.own (.slice (some ⟨B29, 0, none⟩) 1 1) (lc ([S13.2.2.1])), .box B1 26 [.slice none 0 0], .box Y4 69 [V_code0, .int .i64 T18.1, .int .i64 T18.2.1], .box B8 26 [Y7], .own Y7 (lc R5.1.Owner)]) [5, 0, 0, 0, 0, 0] H32 ke24 kz3 rfl rfl rfl rfl rfl (Can.own 0 rfl)) rfl rfl rfl (fun V30 => ?_)
            refine TO.y (Y.assign rfl) rfl rfl rfl ?_
            refine TO.nil ?_
            exact TE.jn_go V30 [2, 2, 2, 2, 0] ⟨rfl, rfl, rfl, rfl, rfl, rfl, trivial⟩ rfl
          · refine TW.skip ?_
            exact TE.jn_go X14 [0, 0, 0, 0, 0] ⟨rfl, rfl, rfl, rfl, rfl, rfl, trivial⟩ rfl
        · refine TE.block_normal ?_
          refine TE.next ?_
          refine TW.region ?_
          refine TO.y (Y.move rfl) rfl rfl rfl ?_
          refine TO.y (Y.add rfl rfl) rfl rfl rfl ?_
          refine TO.y (Y.assign rfl) rfl rfl rfl ?_
          refine TO.nil ?_
          exact TE.lp_go X27 [0, 0, 0, 0, 0] ⟨rfl, rfl, rfl, rfl, rfl, rfl, trivial⟩ rfl
    · refine TW.exit ?_
      refine TE.then_exit ?_
      refine TE.lp_exit ?_
      refine TE.block_exit ?_
      exact TE.jn_go X14 [0, 0, 0, 0, 0] ⟨rfl, rfl, rfl, rfl, rfl, trivial⟩ rfl
  · refine TE.next ?_
    refine TW.seq ?_
    refine TW.seq ?_
    refine TW.region ?_
    refine TO.y (Y.move rfl) rfl rfl rfl ?_
    refine TO.bind fun R33 H34 => ?_
    refine TO.ef (Ef.call (rest := [.box B1 26 [.slice none 0 0], .box B8 26 [Y7], .own Y7 (lc R5.1.Owner), .own X16 (lc T15.2.2)]) [1, 0, 0, 0, 0] (spec_l1Once_con ({ b := code, i := T15.1, h := T15.2.1 : L1Cur }) (5 : Int) V_code0 Y4 R33 H34) kc34 rfl rfl ⟨(Base.can HB_V_code0), trivial⟩) rfl rfl rfl (fun _ => ?_)
    refine TO.nil ?_
    refine TE.next ?_
    refine TW.joinX (τ := List Int) (X := Value) (fun _ X => [(2, .pointer (some ⟨B1, 0, none⟩)), (6, .pointer (some ⟨B8, 0, none⟩)), (7, .int .i64 (IntKind.i64.wrap ((1 : Int) + R9.1))), (8, X)]) (fun T X => [.box B1 26 [.slice none 0 0], .box B8 26 [Y7], .own Y7 (lc R5.1.Owner), .own X (lc T)]) ?_ (fun T36 X37 => ?_)
    · refine TW.cond rfl (fun H38 => ?_) (fun H38 => ?_)
      · refine TW.region ?_
        refine TO.y (Y.move rfl) rfl rfl rfl ?_
        refine TO.y (Y.move rfl) rfl rfl rfl ?_
        refine TO.bind fun R39 H40 => ?_
        refine TO.ef (Ef.call (rest := [.box B1 26 [.slice none 0 0], .box B8 26 [Y7], .own Y7 (lc R5.1.Owner), .own X16 (lc T15.2.2)]) [0, 0, 0, 0, 0] (spec_l1Below_con ({ b := code, i := R33.2.i, h := R33.2.h : L1Cur }) (14 : Int) V_code0 Y4 R39 H40) kc33 rfl rfl ⟨(Base.can HB_V_code0), trivial⟩) rfl rfl rfl (fun _ => ?_)
        refine TO.y (Y.sub rfl rfl) rfl rfl rfl ?_
        refine TO.ef (Ef.buildSlice (α := Int) (Vs := [.int .i64 (IntKind.i64.wrap (R39.1 - (1 : Int)))]) [IntKind.i64.wrap (R39.1 - (1 : Int))] ke24 kz3 rfl rfl rfl rfl rfl) rfl rfl rfl (fun B42 => ?_)
        refine TO.bind fun E44 H45 => ?_
        refine TO.ef (Ef.append (α := Int) (is' := [.own (.slice (some ⟨B42, 0, none⟩) 1 1) (lc ([IntKind.i64.wrap (R39.1 - (1 : Int))])), .box Y4 69 [V_code0, .int .i64 R39.2.i, .int .i64 R39.2.h], .box B1 26 [.slice none 0 0], .box B8 26 [Y7], .own Y7 (lc R5.1.Owner)]) [5, 0, 0, 0, 0, 0] H45 ke24 kz3 rfl rfl rfl rfl rfl (Can.own 0 rfl)) rfl rfl rfl (fun V43 => ?_)
        refine TO.y (Y.assign rfl) rfl rfl rfl ?_
        refine TO.nil ?_
        exact TE.jn_go V43 [3, 3, 3, 0] ⟨rfl, rfl, rfl, rfl, trivial⟩ rfl
      · refine TW.skip ?_
        exact TE.jn_go X16 [1, 1, 1, 1] ⟨rfl, rfl, rfl, rfl, trivial⟩ rfl
    · refine TE.next ?_
      refine TW.seq ?_
      refine TW.region ?_
      refine TO.y (Y.load_box (v := .agg #[Y7]) 1 kk26 rfl rfl rfl) rfl rfl rfl ?_
      refine TO.y (Y.move rfl) rfl rfl rfl ?_
      refine TO.y (Y.move rfl) rfl rfl rfl ?_
      refine TO.ef0 (Ef.store_box (us := [Y7]) (vs' := [Y7]) (is' := [.box B1 26 [Y7], .box B8 26 [Y7], .own Y7 (lc R5.1.Owner), .own X37 (lc T36)]) 0 kk26 rfl rfl rfl (Cel.agg ⟨(One.can (Can.own 2 rfl)), trivial⟩) rfl rfl rfl rfl) rfl rfl (fun _ => ?_)
      refine TO.y (Y.assign rfl) rfl rfl rfl ?_
      refine TO.y (Y.assign rfl) rfl rfl rfl ?_
      refine TO.nil ?_
      refine TE.next ?_
      refine TW.ret ?_
      exact TE.leaf fun _ _ hf_ hs_ => ret_any (rs := [.cell 2 26, .tmp 3, .tmp 4]) (vs := [.agg #[Y7], .int .i64 (IntKind.i64.wrap ((1 : Int) + R9.1)), X37]) (.inl rfl) rfl (RV.cell 0 rfl rfl kk26 rfl ⟨rfl, ⟨rfl, trivial⟩⟩) hf_ hs_ ⟨(Y7, X37), rfl, hs_.pulls [2, 2] rfl⟩

/-- loop.example/g00950/spec.SpaceGive -/
noncomputable def spec_SpaceGive (s : Space) (who : Int) (blocks : List Int) : Option (Space × Bool) :=
  (spec_SpaceOk s).bind fun R3 =>
  if (!R3) = true then (some ({ Owner := ([] : List Int) : Space }, false))
  else ((spec_l18Copy s).bind fun R8 =>
  bindC (loopO (fun (S12 : Int × List Int) => if (decide (S12.1 < ((blocks.length : Nat) : Int))) = true then ((idx blocks S12.1).bind fun E17 =>
  (if (decide (E17 < (0 : Int))) = true then (some true)
  else (if (decide (E17 ≥ ((S12.2.length : Nat) : Int))) = true then (some true)
  else ((idx S12.2 E17).bind fun E23 =>
  if (!(decide (E23 = who))) = true then (some true)
  else (some (decide (who < (1 : Int))))))).bind (fun (T19 : Bool) =>
  if T19 = true then (some (.done (.done (R8, false))))
  else ((idx S12.2 E17).bind fun E28 =>
  some (.go (IntKind.i64.wrap (S12.1 + (1 : Int)), (S12.2.set E17.toNat (0 : Int)))))))
  else (some (.done (.go S12.2))))
  ((0 : Int), R8.Owner))
  (fun (T14 : List Int) => some ({ Owner := T14 : Space }, true)))

theorem spec_SpaceGive_con (s : Space) (who : Int) (blocks : List Int) (V_s0 : Value) (V_blocks0 : Value) (r : Space × Bool) (hm : spec_SpaceGive s who blocks = some r) :
    Con Try.prog 16 [.agg #[V_s0], .int .i64 who, V_blocks0] [] [(V_s0, lc s.Owner), (V_blocks0, lc blocks)] (fun X : Value => .tuple #[.agg #[X], .bool r.2]) (fun X => [.own X (lc r.1.Owner)]) := by
  refine Con.intro (args := [.agg #[V_s0], .int .i64 who, V_blocks0]) (n := 56) (val := fun r (X : Value) => .tuple #[.agg #[X], .bool r.2]) (post := fun r X => [.own X (lc r.1.Owner)]) (m := spec_SpaceGive s who blocks) Try.func16 rfl rfl rfl hm ?_
  intro w S hrd
  have HB_V_s0 := hrd _ (.head _)
  have HB_V_blocks0 := hrd _ (.tail _ (.head _))
  clear hrd
  unfold spec_SpaceGive
  refine TW.seq ?_
  refine TW.region ?_
  refine TO.ef (Ef.box rfl (Cel.agg ⟨(One.can (Base.can HB_V_s0)), trivial⟩)) rfl rfl rfl (fun B1 => ?_)
  refine TO.ef (Ef.alloc kz26 rfl) rfl rfl rfl (fun B2 => ?_)
  refine TO.y (Y.assign rfl) rfl rfl rfl ?_
  refine TO.nil ?_
  refine TE.next ?_
  refine TW.seq ?_
  refine TW.seq ?_
  refine TW.region ?_
  refine TO.y (Y.load_box (v := .agg #[V_s0]) 1 kk26 rfl rfl rfl) rfl rfl rfl ?_
  refine TO.bind fun R3 H4 => ?_
  refine TO.ef (Ef.call (rest := [.box B2 26 [.slice none 0 0], .box B1 26 [V_s0]]) [0, 0] (spec_SpaceOk_con s V_s0 R3 H4) kc10 rfl rfl ⟨(Base.can HB_V_s0), trivial⟩) rfl rfl rfl (fun _ => ?_)
  refine TO.y (Y.not rfl) rfl rfl rfl ?_
  refine TO.nil ?_
  refine TE.next ?_
  refine TW.cond rfl (fun H6 => ?_) (fun H6 => ?_)
  · refine TW.seq ?_
    refine TW.region ?_
    refine TO.y (Y.build (cells := [.slice none 0 0]) [] kp26 kz26 trivial rfl) rfl rfl rfl ?_
    refine TO.ef0 (Ef.store_box (us := [.slice none 0 0]) (vs' := [.slice none 0 0]) (is' := [.box B2 26 [.slice none 0 0], .box B1 26 [V_s0]]) 0 kk26 rfl rfl rfl (Cel.plain rfl rfl) rfl rfl rfl rfl) rfl rfl (fun _ => ?_)
    refine TO.y (Y.assign rfl) rfl rfl rfl ?_
    refine TO.nil ?_
    refine TE.next ?_
    refine TW.ret ?_
    refine TE.then_ret ?_
    exact TE.leaf fun _ _ hf_ hs_ => ret_any (rs := [.cell 6 26, .tmp 7]) (vs := [.agg #[.slice none 0 0], .bool false]) (.inl rfl) rfl (RV.cell 0 rfl rfl kk26 rfl ⟨rfl, trivial⟩) hf_ hs_ ⟨(.slice none 0 0), rfl, (hs_.nilItem 1).pulls [0] rfl⟩
  · refine TW.skip ?_
    refine TE.next ?_
    refine TW.seq ?_
    refine TW.region ?_
    refine TO.y (Y.load_box (v := .agg #[V_s0]) 1 kk26 rfl rfl rfl) rfl rfl rfl ?_
    refine TO.bind fun R8 H9 => ?_
    refine TO.ef (Ef.call (rest := [.box B2 26 [.slice none 0 0], .box B1 26 [V_s0]]) [0, 0] (spec_l18Copy_con s V_s0 R8 H9) kc30 rfl rfl ⟨(Base.can HB_V_s0), trivial⟩) rfl rfl rfl (fun Y10 => ?_)
    refine TO.ef (Ef.alloc kz26 rfl) rfl rfl rfl (fun B11 => ?_)
    refine TO.ef0 (Ef.store_box (us := [Y10]) (vs' := [Y10]) (is' := [.box B11 26 [Y10], .own Y10 (lc R8.Owner), .box B2 26 [.slice none 0 0], .box B1 26 [V_s0]]) 0 kk26 rfl rfl rfl (Cel.agg ⟨(One.can (Can.own 1 rfl)), trivial⟩) rfl rfl rfl rfl) rfl rfl (fun _ => ?_)
    refine TO.nil ?_
    refine TE.next ?_
    refine TW.seq ?_
    refine TW.seq ?_
    refine TW.region ?_
    refine TO.y (Y.assign rfl) rfl rfl rfl ?_
    refine TO.nil ?_
    refine TE.next ?_
    refine TW.joinX (τ := List Int) (X := Unit) (fun _ _ => [(6, .pointer (some ⟨B2, 0, none⟩)), (8, .pointer (some ⟨B11, 0, none⟩))]) (fun T _ => [.box B2 26 [.slice none 0 0], .box B11 26 [Y10], .own Y10 (lc T)]) ?_ (fun T14 X15 => ?_)
    · refine TW.block ?_
      refine TW.loopX (σ := Int × List Int) (X := Unit) (fun T _ => [(1, .int .i64 who), (2, V_blocks0), (3, .pointer (some ⟨B1, 0, none⟩)), (6, .pointer (some ⟨B2, 0, none⟩)), (8, .pointer (some ⟨B11, 0, none⟩)), (9, .int .i64 T.1)]) (fun T _ => [.box B1 26 [V_s0], .box B2 26 [.slice none 0 0], .box B11 26 [Y10], .own Y10 (lc T.2)]) () [3, 2, 0, 0] ⟨rfl, rfl, rfl, rfl, rfl, rfl, trivial⟩ rfl (fun S12 X13 => ?_)
      refine TW.seq ?_
      refine TW.seq ?_
      refine TW.region ?_
      refine TO.y (Y.move rfl) rfl rfl rfl ?_
      refine TO.y (Y.move rfl) rfl rfl rfl ?_
      refine TO.y (Y.len (l := blocks) ke24 (Base.can HB_V_blocks0) rfl) rfl rfl rfl ?_
      refine TO.y (Y.lss rfl rfl) rfl rfl rfl ?_
      refine TO.nil ?_
      refine TE.next ?_
      refine TW.cond rfl (fun H16 => ?_) (fun H16 => ?_)
      · refine TW.skip ?_
        refine TE.next ?_
        refine TW.seq ?_
        refine TW.block ?_
        refine TW.seq ?_
        refine TW.region ?_
        refine TO.y (Y.move rfl) rfl rfl rfl ?_
        refine TO.y (Y.move rfl) rfl rfl rfl ?_
        refine TO.bind fun E17 H18 => ?_
        refine TO.y (Y.index ke24 (Base.can HB_V_blocks0) H18 rfl rfl) rfl rfl rfl ?_
        refine TO.y (Y.load_el (us := [.int .i64 E17]) (u := .int .i64 E17) kk3 rfl (Base.can HB_V_blocks0) (idx_get H18).2.2 rfl rfl rfl rfl rfl) rfl rfl rfl ?_
        refine TO.y (Y.assign rfl) rfl rfl rfl ?_
        refine TO.nil ?_
        refine TE.next ?_
        refine TW.seq ?_
        refine TW.seq ?_
        refine TW.joinBX (τ := Bool) (X := Unit) (fun T _ => [(1, .int .i64 who), (2, V_blocks0), (3, .pointer (some ⟨B1, 0, none⟩)), (6, .pointer (some ⟨B2, 0, none⟩)), (8, .pointer (some ⟨B11, 0, none⟩)), (9, .int .i64 S12.1), (10, .int .i64 E17), (48, .bool T)]) (fun _ _ => [.box B1 26 [V_s0], .box B2 26 [.slice none 0 0], .box B11 26 [Y10], .own Y10 (lc S12.2)]) ?_ (fun T19 X20 => ?_)
        · refine TW.region ?_
          refine TO.y (Y.move rfl) rfl rfl rfl ?_
          refine TO.y (Y.lss rfl rfl) rfl rfl rfl ?_
          refine TO.y (Y.move rfl) rfl rfl rfl ?_
          refine TO.ite (b := decide (E17 < (0 : Int))) (fun H21 => ?_) (fun H21 => ?_)
          · refine TO.off (Gd.at 2 false 29 (decide (E17 < (0 : Int))) rfl rfl rfl (beq_tf H21)) rfl rfl ?_
            refine TO.off (Gd.at 2 false 29 (decide (E17 < (0 : Int))) rfl rfl rfl (beq_tf H21)) rfl rfl ?_
            refine TO.off (Gd.at 2 false 29 (decide (E17 < (0 : Int))) rfl rfl rfl (beq_tf H21)) rfl rfl ?_
            refine TO.off (Gd.at 2 false 29 (decide (E17 < (0 : Int))) rfl rfl rfl (beq_tf H21)) rfl rfl ?_
            refine TO.off (Gd.at 2 false 29 (decide (E17 < (0 : Int))) rfl rfl rfl (beq_tf H21)) rfl rfl ?_
            refine TO.y (Y.pick_t H21 rfl rfl) rfl rfl rfl ?_
            refine TO.y (Y.move rfl) rfl rfl rfl ?_
            refine TO.off (Gd.at 9 false 36 true rfl rfl rfl rfl) rfl rfl ?_
            refine TO.off (Gd.at 9 false 36 true rfl rfl rfl rfl) rfl rfl ?_
            refine TO.off (Gd.at 9 false 36 true rfl rfl rfl rfl) rfl rfl ?_
            refine TO.off (Gd.at 9 false 36 true rfl rfl rfl rfl) rfl rfl ?_
            refine TO.off (Gd.at 9 false 36 true rfl rfl rfl rfl) rfl rfl ?_
            refine TO.off (Gd.at 9 false 36 true rfl rfl rfl rfl) rfl rfl ?_
            refine TO.off (Gd.at 9 false 36 true rfl rfl rfl rfl) rfl rfl ?_
            refine TO.y (Y.pick_t rfl rfl rfl) rfl rfl rfl ?_
            refine TO.y (Y.move rfl) rfl rfl rfl ?_
            refine TO.off (Gd.at 18 false 45 true rfl rfl rfl rfl) rfl rfl ?_
            refine TO.off (Gd.at 18 false 45 true rfl rfl rfl rfl) rfl rfl ?_
            refine TO.y (Y.pick_t rfl rfl rfl) rfl rfl rfl ?_
            refine TO.nil ?_
            exact TE.jb_go () [0, 0, 0, 0] ⟨rfl, rfl, rfl, rfl, rfl, rfl, rfl, rfl, trivial⟩ rfl
          · refine TO.y (Y.move rfl) (Gd.at 2 false 29 (decide (E17 < (0 : Int))) rfl rfl rfl (beq_ff H21)) rfl rfl ?_
            refine TO.y (Y.field_box kf26_0 rfl rfl) (Gd.at 2 false 29 (decide (E17 < (0 : Int))) rfl rfl rfl (beq_ff H21)) rfl rfl ?_
            refine TO.y (Y.load_box (v := Y10) 2 kk24 rfl rfl rfl) (Gd.at 2 false 29 (decide (E17 < (0 : Int))) rfl rfl rfl (beq_ff H21)) rfl rfl ?_
            refine TO.y (Y.len (l := S12.2) ke24 (Can.own 3 rfl) rfl) (Gd.at 2 false 29 (decide (E17 < (0 : Int))) rfl rfl rfl (beq_ff H21)) rfl rfl ?_
            refine TO.y (Y.geq rfl rfl) (Gd.at 2 false 29 (decide (E17 < (0 : Int))) rfl rfl rfl (beq_ff H21)) rfl rfl ?_
            refine TO.y (Y.pick_f H21 rfl rfl) rfl rfl rfl ?_
            refine TO.y (Y.move rfl) rfl rfl rfl ?_
            refine TO.ite (b := decide (E17 ≥ ((S12.2.length : Nat) : Int))) (fun H22 => ?_) (fun H22 => ?_)
            · refine TO.off (Gd.at 9 false 36 (decide (E17 ≥ ((S12.2.length : Nat) : Int))) rfl rfl rfl (beq_tf H22)) rfl rfl ?_
              refine TO.off (Gd.at 9 false 36 (decide (E17 ≥ ((S12.2.length : Nat) : Int))) rfl rfl rfl (beq_tf H22)) rfl rfl ?_
              refine TO.off (Gd.at 9 false 36 (decide (E17 ≥ ((S12.2.length : Nat) : Int))) rfl rfl rfl (beq_tf H22)) rfl rfl ?_
              refine TO.off (Gd.at 9 false 36 (decide (E17 ≥ ((S12.2.length : Nat) : Int))) rfl rfl rfl (beq_tf H22)) rfl rfl ?_
              refine TO.off (Gd.at 9 false 36 (decide (E17 ≥ ((S12.2.length : Nat) : Int))) rfl rfl rfl (beq_tf H22)) rfl rfl ?_
              refine TO.off (Gd.at 9 false 36 (decide (E17 ≥ ((S12.2.length : Nat) : Int))) rfl rfl rfl (beq_tf H22)) rfl rfl ?_
              refine TO.off (Gd.at 9 false 36 (decide (E17 ≥ ((S12.2.length : Nat) : Int))) rfl rfl rfl (beq_tf H22)) rfl rfl ?_
              refine TO.y (Y.pick_t H22 rfl rfl) rfl rfl rfl ?_
              refine TO.y (Y.move rfl) rfl rfl rfl ?_
              refine TO.off (Gd.at 18 false 45 true rfl rfl rfl rfl) rfl rfl ?_
              refine TO.off (Gd.at 18 false 45 true rfl rfl rfl rfl) rfl rfl ?_
              refine TO.y (Y.pick_t rfl rfl rfl) rfl rfl rfl ?_
              refine TO.nil ?_
              exact TE.jb_go () [0, 0, 0, 0] ⟨rfl, rfl, rfl, rfl, rfl, rfl, rfl, rfl, trivial⟩ rfl
            · refine TO.y (Y.field_box kf26_0 rfl rfl) (Gd.at 9 false 36 (decide (E17 ≥ ((S12.2.length : Nat) : Int))) rfl rfl rfl (beq_ff H22)) rfl rfl ?_
              refine TO.y (Y.load_box (v := Y10) 2 kk24 rfl rfl rfl) (Gd.at 9 false 36 (decide (E17 ≥ ((S12.2.length : Nat) : Int))) rfl rfl rfl (beq_ff H22)) rfl rfl ?_
              refine TO.y (Y.move rfl) (Gd.at 9 false 36 (decide (E17 ≥ ((S12.2.length : Nat) : Int))) rfl rfl rfl (beq_ff H22)) rfl rfl ?_
              refine TO.bind fun E23 H24 => ?_
              refine TO.y (Y.index ke24 (Can.own 3 rfl) H24 rfl rfl) (Gd.at 9 false 36 (decide (E17 ≥ ((S12.2.length : Nat) : Int))) rfl rfl rfl (beq_ff H22)) rfl rfl ?_
              refine TO.y (Y.load_el (us := [.int .i64 E23]) (u := .int .i64 E23) kk3 rfl (Can.own 3 rfl) (idx_get H24).2.2 rfl rfl rfl rfl rfl) (Gd.at 9 false 36 (decide (E17 ≥ ((S12.2.length : Nat) : Int))) rfl rfl rfl (beq_ff H22)) rfl rfl ?_
              refine TO.y (Y.move rfl) (Gd.at 9 false 36 (decide (E17 ≥ ((S12.2.length : Nat) : Int))) rfl rfl rfl (beq_ff H22)) rfl rfl ?_
              refine TO.y (Y.neq rfl rfl) (Gd.at 9 false 36 (decide (E17 ≥ ((S12.2.length : Nat) : Int))) rfl rfl rfl (beq_ff H22)) rfl rfl ?_
              refine TO.y (Y.pick_f H22 rfl rfl) rfl rfl rfl ?_
              refine TO.y (Y.move rfl) rfl rfl rfl ?_
              refine TO.ite (b := !(decide (E23 = who))) (fun H25 => ?_) (fun H25 => ?_)
              · refine TO.off (Gd.at 18 false 45 (!(decide (E23 = who))) rfl rfl rfl (beq_tf H25)) rfl rfl ?_
                refine TO.off (Gd.at 18 false 45 (!(decide (E23 = who))) rfl rfl rfl (beq_tf H25)) rfl rfl ?_
                refine TO.y (Y.pick_t H25 rfl rfl) rfl rfl rfl ?_
                refine TO.nil ?_
                exact TE.jb_go () [0, 0, 0, 0] ⟨rfl, rfl, rfl, rfl, rfl, rfl, rfl, rfl, trivial⟩ rfl
              · refine TO.y (Y.move rfl) (Gd.at 18 false 45 (!(decide (E23 = who))) rfl rfl rfl (beq_ff H25)) rfl rfl ?_
                refine TO.y (Y.lss rfl rfl) (Gd.at 18 false 45 (!(decide (E23 = who))) rfl rfl rfl (beq_ff H25)) rfl rfl ?_
                refine TO.y (Y.pick_f H25 rfl rfl) rfl rfl rfl ?_
                refine TO.nil ?_
                exact TE.jb_go () [0, 0, 0, 0] ⟨rfl, rfl, rfl, rfl, rfl, rfl, rfl, rfl, trivial⟩ rfl
        · refine TE.next ?_
          refine TW.cond rfl (fun H26 => ?_) (fun H26 => ?_)
          · refine TW.seq ?_
            refine TW.region ?_
            refine TO.y (Y.load_box (v := .agg #[V_s0]) 0 kk26 rfl rfl rfl) rfl rfl rfl ?_
            refine TO.ef (Ef.call (rest := [.box B1 26 [V_s0], .box B2 26 [.slice none 0 0], .box B11 26 [Y10], .own Y10 (lc S12.2)]) [0, 0, 0, 0] (spec_l18Copy_con s V_s0 R8 H9) kc30 rfl rfl ⟨(Base.can HB_V_s0), trivial⟩) rfl rfl rfl (fun Y27 => ?_)
            refine TO.ef0 (Ef.store_box (us := [Y27]) (vs' := [Y27]) (is' := [.own Y27 (lc R8.Owner), .box B1 26 [V_s0], .box B2 26 [Y27], .box B11 26 [Y10], .own Y10 (lc S12.2)]) 2 kk26 rfl rfl rfl (Cel.agg ⟨(One.can (Can.own 0 rfl)), trivial⟩) rfl rfl rfl rfl) rfl rfl (fun _ => ?_)
            refine TO.y (Y.assign rfl) rfl rfl rfl ?_
            refine TO.nil ?_
            refine TE.next ?_
            refine TW.ret ?_
            refine TE.then_ret ?_
            refine TE.block_ret ?_
            refine TE.then_ret ?_
            refine TE.lp_ret ?_
            refine TE.block_ret ?_
            refine TE.jn_done ?_
            refine TE.then_ret ?_
            exact TE.leaf fun _ _ hf_ hs_ => ret_any (rs := [.cell 6 26, .tmp 7]) (vs := [.agg #[Y27], .bool false]) (.inl rfl) rfl (RV.cell 2 rfl rfl kk26 rfl ⟨rfl, trivial⟩) hf_ hs_ ⟨Y27, rfl, hs_.pulls [0] rfl⟩
          · refine TW.skip ?_
            refine TE.next ?_
            refine TW.region ?_
            refine TO.y (Y.field_box kf26_0 rfl rfl) rfl rfl rfl ?_
            refine TO.y (Y.load_box (v := Y10) 2 kk24 rfl rfl rfl) rfl rfl rfl ?_
            refine TO.y (Y.move rfl) rfl rfl rfl ?_
            refine TO.bind fun E28 H29 => ?_
            refine TO.y (Y.index ke24 (Can.own 3 rfl) H29 rfl rfl) rfl rfl rfl ?_
            refine TO.ef0 (Ef.store_el (us := [.int .i64 (0 : Int)]) (is' := [.box B1 26 [V_s0], .box B2 26 [.slice none 0 0], .box B11 26 [Y10], .own Y10 (lc (S12.2.set E17.toNat (0 : Int)))]) (0 : Int) 3 kk3 rfl rfl (idx_get H29).2.2 rfl rfl (Cel.plain rfl rfl) rfl rfl rfl rfl) rfl rfl (fun _ => ?_)
            refine TO.nil ?_
            refine TE.block_normal ?_
            refine TE.next ?_
            refine TW.region ?_
            refine TO.y (Y.move rfl) rfl rfl rfl ?_
            refine TO.y (Y.add rfl rfl) rfl rfl rfl ?_
            refine TO.y (Y.assign rfl) rfl rfl rfl ?_
            refine TO.nil ?_
            exact TE.lp_go () [0, 0, 0, 0] ⟨rfl, rfl, rfl, rfl, rfl, rfl, trivial⟩ rfl
      · refine TW.exit ?_
        refine TE.then_exit ?_
        refine TE.lp_exit ?_
        refine TE.block_exit ?_
        exact TE.jn_go () [1, 1, 1] ⟨rfl, rfl, trivial⟩ rfl
    · refine TE.next ?_
      refine TW.seq ?_
      refine TW.region ?_
      refine TO.y (Y.load_box (v := .agg #[Y10]) 1 kk26 rfl rfl rfl) rfl rfl rfl ?_
      refine TO.ef0 (Ef.store_box (us := [Y10]) (vs' := [Y10]) (is' := [.box B2 26 [Y10], .box B11 26 [Y10], .own Y10 (lc T14)]) 0 kk26 rfl rfl rfl (Cel.agg ⟨(One.can (Can.own 2 rfl)), trivial⟩) rfl rfl rfl rfl) rfl rfl (fun _ => ?_)
      refine TO.y (Y.assign rfl) rfl rfl rfl ?_
      refine TO.nil ?_
      refine TE.next ?_
      refine TW.ret ?_
      exact TE.leaf fun _ _ hf_ hs_ => ret_any (rs := [.cell 6 26, .tmp 7]) (vs := [.agg #[Y10], .bool true]) (.inl rfl) rfl (RV.cell 0 rfl rfl kk26 rfl ⟨rfl, trivial⟩) hf_ hs_ ⟨Y10, rfl, hs_.pulls [2] rfl⟩

/-- loop.example/g00950/laws.FnSpace -/
noncomputable def laws_FnSpace (code : List UInt8) : Option Bool :=
  (laws_big code).bind fun R1 =>
  if R1 = true then (some true)
  else ((spec_DrawSpaceTake code).bind fun R5 =>
  (impl_SpaceTake R5.1 R5.2.1 R5.2.2).bind fun R9 =>
  (spec_SpaceTake R5.1 R5.2.1 R5.2.2).bind fun R13 =>
  (if (!(decide (R9.2.2 = R13.2.2))) = true then (some true)
  else ((laws_sameInts R9.2.1 R13.2.1).bind fun R20 =>
  some (!R20))).bind (fun (T17 : Bool) =>
  if T17 = true then (some false)
  else ((spec_SpaceOk R5.1).bind fun R24 =>
  if (!R24) = true then (some (decide (((R9.1.Owner.length : Nat) : Int) = (0 : Int))))
  else (bindC (if R9.2.2 = true then (bindC (loopO (fun (S31 : Int) => if (decide (S31 < ((R9.2.1.length : Nat) : Int))) = true then (((idx R9.2.1 S31).bind fun E38 =>
  (idx R5.1.Owner E38).bind fun E40 =>
  if (!(decide (E40 = (0 : Int)))) = true then (some true)
  else ((idx R9.1.Owner E38).bind fun E43 =>
  some (!(decide (E43 = R5.2.1))))).bind (fun (T36 : Bool) =>
  if T36 = true then (some (.done (.done (.done false))))
  else (some (.go (IntKind.i64.wrap (S31 + (1 : Int)))))))
  else (some (.done (.go ()))))
  (0 : Int))
  (fun (T33 : Unit) => (impl_SpaceGive R9.1 R5.2.1 R9.2.1).bind fun R46 =>
  (if (!R46.2) = true then (some true)
  else ((laws_sameInts R46.1.Owner R5.1.Owner).bind fun R53 =>
  if (!R53) = true then (some true)
  else ((impl_SpaceOf R9.1 R5.2.1).bind fun R57 =>
  (spec_SpaceOf R5.1 R5.2.1).bind fun R60 =>
  some (!(decide (R57 = IntKind.i64.wrap (R60 + R5.2.2))))))).bind (fun (T50 : Bool) =>
  if T50 = true then (some (.done false))
  else (some (.go ())))))
  else ((laws_sameInts R9.1.Owner R5.1.Owner).bind fun R64 =>
  if (!R64) = true then (some (.done false))
  else (some (.go ()))))
  (fun (T28 : Unit) => (impl_SpaceWipe R9.1 (1 : Int)).bind fun R68 =>
  (spec_DrawSpaceGive code).bind fun R72 =>
  (impl_SpaceGive R72.1 R72.2.1 R72.2.2).bind fun R76 =>
  (spec_SpaceGive R72.1 R72.2.1 R72.2.2).bind fun R80 =>
  ((spec_SpaceOf R9.1 (1 : Int)).bind fun R86 =>
  if (decide (R68.2 = R86)) = true then ((impl_SpaceOf R68.1 (1 : Int)).bind fun R90 =>
  if (decide (R90 = (0 : Int))) = true then (some (decide (R76.2 = R80.2)))
  else (some false))
  else (some false)).bind (fun (T84 : Bool) =>
  some T84))))))

theorem laws_FnSpace_con (code : List UInt8) (V_code0 : Value) (r : Bool) (hm : laws_FnSpace code = some r) :
    Con Try.prog 3 [V_code0] [] [(V_code0, lc code)] (fun _ : Unit => .bool r) (fun _ => []) := by
  refine Con.intro (args := [V_code0]) (n := 165) (val := fun r (_ : Unit) => .bool r) (post := fun _ _ => []) (m := laws_FnSpace code) Try.func3 rfl rfl rfl hm ?_
  intro w S hrd
  have HB_V_code0 := hrd _ (.head _)
  clear hrd
  unfold laws_FnSpace
  refine TW.seq ?_
  refine TW.region ?_
  refine TO.y (Y.assign rfl) rfl rfl rfl ?_
  refine TO.nil ?_
  refine TE.next ?_
  refine TW.seq ?_
  refine TW.seq ?_
  refine TW.region ?_
  refine TO.y (Y.move rfl) rfl rfl rfl ?_
  refine TO.bind fun R1 H2 => ?_
  refine TO.ef (Ef.call (rest := []) [] (laws_big_con code V_code0 R1 H2) kc5 rfl rfl ⟨(Base.can HB_V_code0), trivial⟩) rfl rfl rfl (fun _ => ?_)
  refine TO.nil ?_
  refine TE.next ?_
  refine TW.cond rfl (fun H4 => ?_) (fun H4 => ?_)
  · refine TW.seq ?_
    refine TW.region ?_
    refine TO.y (Y.assign rfl) rfl rfl rfl ?_
    refine TO.nil ?_
    refine TE.next ?_
    refine TW.ret ?_
    refine TE.then_ret ?_
    exact TE.leaf fun _ _ hf_ hs_ => ret_any (rs := [.tmp 2]) (vs := [.bool true]) (.inl rfl) rfl ⟨rfl, trivial⟩ hf_ hs_ ⟨(), rfl, hs_.pulls [] rfl⟩
  · refine TW.skip ?_
    refine TE.next ?_
    refine TW.seq ?_
    refine TW.region ?_
    refine TO.y (Y.move rfl) rfl rfl rfl ?_
    refine TO.bind fun R5 H6 => ?_
    refine TO.ef (Ef.call (rest := []) [] (spec_DrawSpaceTake_con code V_code0 R5 H6) kc6 rfl rfl ⟨(Base.can HB_V_code0), trivial⟩) rfl rfl rfl (fun Y7 => ?_)
    refine TO.y (Y.move rfl) rfl rfl rfl ?_
    refine TO.y (Y.extract rfl rfl) rfl rfl rfl ?_
    refine TO.y (Y.extract rfl rfl) rfl rfl rfl ?_
    refine TO.y (Y.extract rfl rfl) rfl rfl rfl ?_
    refine TO.ef (Ef.alloc kz26 rfl) rfl rfl rfl (fun B8 => ?_)
    refine TO.ef0 (Ef.store_box (us := [Y7]) (vs' := [Y7]) (is' := [.box B8 26 [Y7], .own Y7 (lc R5.1.Owner)]) 0 kk26 rfl rfl rfl (Cel.agg ⟨(One.can (Can.own 1 rfl)), trivial⟩) rfl rfl rfl rfl) rfl rfl (fun _ => ?_)
    refine TO.y (Y.assign rfl) rfl rfl rfl ?_
    refine TO.y (Y.assign rfl) rfl rfl rfl ?_
    refine TO.nil ?_
    refine TE.next ?_
    refine TW.seq ?_
    refine TW.region ?_
    refine TO.y (Y.load_box (v := .agg #[Y7]) 0 kk26 rfl rfl rfl) rfl rfl rfl ?_
    refine TO.y (Y.move rfl) rfl rfl rfl ?_
    refine TO.y (Y.move rfl) rfl rfl rfl ?_
    refine TO.bind fun R9 H10 => ?_
    refine TO.ef (Ef.call (rest := [.box B8 26 [Y7], .own Y7 (lc R5.1.Owner)]) [0, 0] (impl_SpaceTake_con R5.1 R5.2.1 R5.2.2 Y7 R9 H10) kc7 rfl rfl ⟨(Can.own 1 rfl), trivial⟩) rfl rfl rfl (fun Y11 => ?_)
    refine TO.y (Y.move rfl) rfl rfl rfl ?_
    refine TO.y (Y.extract rfl rfl) rfl rfl rfl ?_
    refine TO.y (Y.extract rfl rfl) rfl rfl rfl ?_
    refine TO.y (Y.extract rfl rfl) rfl rfl rfl ?_
    refine TO.ef (Ef.alloc kz26 rfl) rfl rfl rfl (fun B12 => ?_)
    refine TO.ef0 (Ef.store_box (us := [Y11.1]) (vs' := [Y11.1]) (is' := [.box B12 26 [Y11.1], .own Y11.1 (lc R9.1.Owner), .own Y11.2 (lc R9.2.1), .box B8 26 [Y7], .own Y7 (lc R5.1.Owner)]) 0 kk26 rfl rfl rfl (Cel.agg ⟨(One.can (Can.own 1 rfl)), trivial⟩) rfl rfl rfl rfl) rfl rfl (fun _ => ?_)
    refine TO.y (Y.assign rfl) rfl rfl rfl ?_
    refine TO.y (Y.assign rfl) rfl rfl rfl ?_
    refine TO.nil ?_
    refine TE.next ?_
    refine TW.seq ?_
    refine TW.region ?_
    refine TO.y (Y.load_box (v := .agg #[Y7]) 3 kk26 rfl rfl rfl) rfl rfl rfl ?_
    refine TO.y (Y.move rfl) rfl rfl rfl ?_
    refine TO.y (Y.move rfl) rfl rfl rfl ?_
    refine TO.bind fun R13 H14 => ?_
    refine TO.ef (Ef.call (rest := [.box B12 26 [Y11.1], .own Y11.1 (lc R9.1.Owner), .own Y11.2 (lc R9.2.1), .box B8 26 [Y7], .own Y7 (lc R5.1.Owner)]) [0, 0, 0, 0, 0] (spec_SpaceTake_con R5.1 R5.2.1 R5.2.2 Y7 R13 H14) kc8 rfl rfl ⟨(Can.own 4 rfl), trivial⟩) rfl rfl rfl (fun Y15 => ?_)
    refine TO.y (Y.move rfl) rfl rfl rfl ?_
    refine TO.y (Y.extract rfl rfl) rfl rfl rfl ?_
    refine TO.y (Y.extract rfl rfl) rfl rfl rfl ?_
    refine TO.y (Y.extract rfl rfl) rfl rfl rfl ?_
    refine TO.ef (Ef.alloc kz26 rfl) rfl rfl rfl (fun B16 => ?_)
    refine TO.ef0 (Ef.store_box (us := [Y15.1]) (vs' := [Y15.1]) (is' := [.box B16 26 [Y15.1], .own Y15.1 (lc R13.1.Owner), .own Y15.2 (lc R13.2.1), .box B12 26 [Y11.1], .own Y11.1 (lc R9.1.Owner), .own Y11.2 (lc R9.2.1), .box B8 26 [Y7], .own Y7 (lc R5.1.Owner)]) 0 kk26 rfl rfl rfl (Cel.agg ⟨(One.can (Can.own 1 rfl)), trivial⟩) rfl rfl rfl rfl) rfl rfl (fun _ => ?_)
    refine TO.y (Y.assign rfl) rfl rfl rfl ?_
    refine TO.y (Y.assign rfl) rfl rfl rfl ?_
    refine TO.nil ?_
    refine TE.next ?_
    refine TW.seq ?_
    refine TW.seq ?_
    refine TW.joinBX (τ := Bool) (X := Unit) (fun T _ => [(0, V_code0), (3, .pointer (some ⟨B8, 0, none⟩)), (4, .int .i64 R5.2.1), (5, .int .i64 R5.2.2), (6, .pointer (some ⟨B12, 0, none⟩)), (7, Y11.2), (8, .bool R9.2.2), (56, .bool T)]) (fun _ _ => [.box B8 26 [Y7], .box B12 26 [Y11.1], .own Y7 (lc R5.1.Owner), .own Y11.1 (lc R9.1.Owner), .own Y11.2 (lc R9.2.1)]) ?_ (fun T17 X18 => ?_)
    · refine TW.region ?_
      refine TO.y (Y.move rfl) rfl rfl rfl ?_
      refine TO.y (Y.move rfl) rfl rfl rfl ?_
      refine TO.y (Y.neb kb4 rfl rfl) rfl rfl rfl ?_
      refine TO.y (Y.move rfl) rfl rfl rfl ?_
      refine TO.ite (b := !(decide (R9.2.2 = R13.2.2))) (fun H19 => ?_) (fun H19 => ?_)
      · refine TO.off (Gd.at 3 false 51 (!(decide (R9.2.2 = R13.2.2))) rfl rfl rfl (beq_tf H19)) rfl rfl ?_
        refine TO.off (Gd.at 3 false 51 (!(decide (R9.2.2 = R13.2.2))) rfl rfl rfl (beq_tf H19)) rfl rfl ?_
        refine TO.off (Gd.at 3 false 51 (!(decide (R9.2.2 = R13.2.2))) rfl rfl rfl (beq_tf H19)) rfl rfl ?_
        refine TO.off (Gd.at 3 false 51 (!(decide (R9.2.2 = R13.2.2))) rfl rfl rfl (beq_tf H19)) rfl rfl ?_
        refine TO.y (Y.pick_t H19 rfl rfl) rfl rfl rfl ?_
        refine TO.nil ?_
        exact TE.jb_go () [6, 3, 5, 3, 3] ⟨rfl, rfl, rfl, rfl, rfl, rfl, rfl, rfl, trivial⟩ rfl
      · refine TO.y (Y.move rfl) (Gd.at 3 false 51 (!(decide (R9.2.2 = R13.2.2))) rfl rfl rfl (beq_ff H19)) rfl rfl ?_
        refine TO.y (Y.move rfl) (Gd.at 3 false 51 (!(decide (R9.2.2 = R13.2.2))) rfl rfl rfl (beq_ff H19)) rfl rfl ?_
        refine TO.bind fun R20 H21 => ?_
        refine TO.ef (Ef.call (rest := [.box B16 26 [Y15.1], .own Y15.1 (lc R13.1.Owner), .own Y15.2 (lc R13.2.1), .box B12 26 [Y11.1], .own Y11.1 (lc R9.1.Owner), .own Y11.2 (lc R9.2.1), .box B8 26 [Y7], .own Y7 (lc R5.1.Owner)]) [0, 0, 0, 0, 0, 0, 0, 0] (laws_sameInts_con R9.2.1 R13.2.1 Y11.2 Y15.2 R20 H21) kc9 rfl rfl ⟨(Can.own 5 rfl), (Can.own 2 rfl), trivial⟩) (Gd.at 3 false 51 (!(decide (R9.2.2 = R13.2.2))) rfl rfl rfl (beq_ff H19)) rfl rfl (fun _ => ?_)
        refine TO.y (Y.not rfl) (Gd.at 3 false 51 (!(decide (R9.2.2 = R13.2.2))) rfl rfl rfl (beq_ff H19)) rfl rfl ?_
        refine TO.y (Y.pick_f H19 rfl rfl) rfl rfl rfl ?_
        refine TO.nil ?_
        exact TE.jb_go () [6, 3, 5, 3, 3] ⟨rfl, rfl, rfl, rfl, rfl, rfl, rfl, rfl, trivial⟩ rfl
    · refine TE.next ?_
      refine TW.cond rfl (fun H23 => ?_) (fun H23 => ?_)
      · refine TW.seq ?_
        refine TW.region ?_
        refine TO.y (Y.assign rfl) rfl rfl rfl ?_
        refine TO.nil ?_
        refine TE.next ?_
        refine TW.ret ?_
        refine TE.then_ret ?_
        exact TE.leaf fun _ _ hf_ hs_ => ret_any (rs := [.tmp 2]) (vs := [.bool false]) (.inl rfl) rfl ⟨rfl, trivial⟩ hf_ hs_ ⟨(), rfl, hs_.pulls [] rfl⟩
      · refine TW.skip ?_
        refine TE.next ?_
        refine TW.seq ?_
        refine TW.seq ?_
        refine TW.region ?_
        refine TO.y (Y.load_box (v := .agg #[Y7]) 0 kk26 rfl rfl rfl) rfl rfl rfl ?_
        refine TO.bind fun R24 H25 => ?_
        refine TO.ef (Ef.call (rest := [.box B8 26 [Y7], .box B12 26 [Y11.1], .own Y7 (lc R5.1.Owner), .own Y11.1 (lc R9.1.Owner), .own Y11.2 (lc R9.2.1)]) [0, 0, 0, 0, 0] (spec_SpaceOk_con R5.1 Y7 R24 H25) kc10 rfl rfl ⟨(Can.own 2 rfl), trivial⟩) rfl rfl rfl (fun _ => ?_)
        refine TO.y (Y.not rfl) rfl rfl rfl ?_
        refine TO.nil ?_
        refine TE.next ?_
        refine TW.cond rfl (fun H27 => ?_) (fun H27 => ?_)
        · refine TW.seq ?_
          refine TW.region ?_
          refine TO.y (Y.field_box kf26_0 rfl rfl) rfl rfl rfl ?_
          refine TO.y (Y.load_box (v := Y11.1) 1 kk24 rfl rfl rfl) rfl rfl rfl ?_
          refine TO.y (Y.len (l := R9.1.Owner) ke24 (Can.own 3 rfl) rfl) rfl rfl rfl ?_
          refine TO.y (Y.eql rfl rfl) rfl rfl rfl ?_
          refine TO.y (Y.assign rfl) rfl rfl rfl ?_
          refine TO.nil ?_
          refine TE.next ?_
          refine TW.ret ?_
          refine TE.then_ret ?_
          exact TE.leaf fun _ _ hf_ hs_ => ret_any (rs := [.tmp 2]) (vs := [.bool (decide (((R9.1.Owner.length : Nat) : Int) = (0 : Int)))]) (.inl rfl) rfl ⟨rfl, trivial⟩ hf_ hs_ ⟨(), rfl, hs_.pulls [] rfl⟩
        · refine TW.skip ?_
          refine TE.next ?_
          refine TW.seq ?_
          refine TW.seq ?_
          refine TW.region ?_
          refine TO.y (Y.move rfl) rfl rfl rfl ?_
          refine TO.nil ?_
          refine TE.next ?_
          refine TW.joinX (τ := Unit) (X := Unit) (fun _ _ => [(0, V_code0), (6, .pointer (some ⟨B12, 0, none⟩))]) (fun _ _ => [.box B12 26 [Y11.1], .own Y11.1 (lc R9.1.Owner)]) ?_ (fun T28 X29 => ?_)
          · refine TW.cond rfl (fun H30 => ?_) (fun H30 => ?_)
            · refine TW.seq ?_
              refine TW.seq ?_
              refine TW.region ?_
              refine TO.y (Y.assign rfl) rfl rfl rfl ?_
              refine TO.nil ?_
              refine TE.next ?_
              refine TW.joinX (τ := Unit) (X := Unit) (fun _ _ => [(0, V_code0), (3, .pointer (some ⟨B8, 0, none⟩)), (4, .int .i64 R5.2.1), (5, .int .i64 R5.2.2), (6, .pointer (some ⟨B12, 0, none⟩)), (7, Y11.2)]) (fun _ _ => [.box B8 26 [Y7], .box B12 26 [Y11.1], .own Y7 (lc R5.1.Owner), .own Y11.1 (lc R9.1.Owner), .own Y11.2 (lc R9.2.1)]) ?_ (fun T33 X34 => ?_)
              · refine TW.block ?_
                refine TW.loopX (σ := Int) (X := Unit) (fun T _ => [(0, V_code0), (3, .pointer (some ⟨B8, 0, none⟩)), (4, .int .i64 R5.2.1), (5, .int .i64 R5.2.2), (6, .pointer (some ⟨B12, 0, none⟩)), (7, Y11.2), (12, .int .i64 T)]) (fun _ _ => [.box B8 26 [Y7], .box B12 26 [Y11.1], .own Y7 (lc R5.1.Owner), .own Y11.1 (lc R9.1.Owner), .own Y11.2 (lc R9.2.1)]) () [0, 0, 0, 0, 0] ⟨rfl, rfl, rfl, rfl, rfl, rfl, rfl, trivial⟩ rfl (fun S31 X32 => ?_)
                refine TW.seq ?_
                refine TW.seq ?_
                refine TW.region ?_
                refine TO.y (Y.move rfl) rfl rfl rfl ?_
                refine TO.y (Y.move rfl) rfl rfl rfl ?_
                refine TO.y (Y.len (l := R9.2.1) ke24 (Can.own 4 rfl) rfl) rfl rfl rfl ?_
                refine TO.y (Y.lss rfl rfl) rfl rfl rfl ?_
                refine TO.nil ?_
                refine TE.next ?_
                refine TW.cond rfl (fun H35 => ?_) (fun H35 => ?_)
                · refine TW.skip ?_
                  refine TE.next ?_
                  refine TW.seq ?_
                  refine TW.block ?_
                  refine TW.seq ?_
                  refine TW.joinBX (τ := Bool) (X := Unit) (fun T _ => [(0, V_code0), (3, .pointer (some ⟨B8, 0, none⟩)), (4, .int .i64 R5.2.1), (5, .int .i64 R5.2.2), (6, .pointer (some ⟨B12, 0, none⟩)), (7, Y11.2), (12, .int .i64 S31), (91, .bool T)]) (fun _ _ => [.box B8 26 [Y7], .box B12 26 [Y11.1], .own Y7 (lc R5.1.Owner), .own Y11.1 (lc R9.1.Owner), .own Y11.2 (lc R9.2.1)]) ?_ (fun T36 X37 => ?_)
                  · refine TW.draw (isH := [.box B8 26 [Y7], .box B12 26 [Y11.1], .own Y7 (lc R5.1.Owner), .own Y11.1 (lc R9.1.Owner), .own Y11.2 (lc R9.2.1)]) hMix ?_
                    refine TA.y (listed' := #[true, false, false, false, false, false, false, false, false, false, false, false, false, false, false, false, false, false, false, false, false]) 0 [0, 0, 0, 0, 0] rfl (Y.field_box kf26_0 rfl rfl) rfl rfl rfl (by kernel_rfl) (by kernel_rfl) (by kernel_rfl) rfl rfl ?_
                    refine TA.y (listed' := #[true, true, false, false, false, false, false, false, false, false, false, false, false, false, false, false, false, false, false, false, false]) 1 [0, 0, 0, 0, 0] rfl (Y.load_box (v := Y7) 0 kk24 rfl rfl rfl) rfl rfl rfl (by kernel_rfl) (by kernel_rfl) (by kernel_rfl) rfl rfl ?_
                    refine TA.y (listed' := #[true, true, true, false, false, false, false, false, false, false, false, false, false, false, false, false, false, false, false, false, false]) 2 [0, 0, 0, 0, 0] rfl (Y.move rfl) rfl rfl rfl (by kernel_rfl) (by kernel_rfl) (by kernel_rfl) rfl rfl ?_
                    refine TA.y (listed' := #[true, true, true, true, false, false, false, false, false, false, false, false, false, false, false, false, false, false, false, false, false]) 3 [0, 0, 0, 0, 0] rfl (Y.move rfl) rfl rfl rfl (by kernel_rfl) (by kernel_rfl) (by kernel_rfl) rfl rfl ?_
                    refine TA.bind fun E38 H39 => ?_
                    refine TA.y (listed' := #[true, true, true, true, true, false, false, false, false, false, false, false, false, false, false, false, false, false, false, false, false]) 4 [0, 0, 0, 0, 0] rfl (Y.index ke24 (Can.own 4 rfl) H39 rfl rfl) rfl rfl rfl (by kernel_rfl) (by kernel_rfl) (by kernel_rfl) rfl rfl ?_
                    refine TA.y (listed' := #[true, true, true, true, true, true, false, false, false, false, false, false, false, false, false, false, false, false, false, false, false]) 5 [0, 0, 0, 0, 0] rfl (Y.load_el (us := [.int .i64 E38]) (u := .int .i64 E38) kk3 rfl (Can.own 4 rfl) (idx_get H39).2.2 rfl rfl rfl rfl rfl) rfl rfl rfl (by kernel_rfl) (by kernel_rfl) (by kernel_rfl) rfl rfl ?_
                    refine TA.bind fun E40 H41 => ?_
                    refine TA.y (listed' := #[true, true, true, true, true, true, true, false, false, false, false, false, false, false, false, false, false, false, false, false, false]) 6 [0, 0, 0, 0, 0] rfl (Y.index ke24 (Can.own 2 rfl) H41 rfl rfl) rfl rfl rfl (by kernel_rfl) (by kernel_rfl) (by kernel_rfl) rfl rfl ?_
                    refine TA.y (listed' := #[true, true, true, true, true, true, true, true, false, false, false, false, false, false, false, false, false, false, false, false, false]) 7 [0, 0, 0, 0, 0] rfl (Y.load_el (us := [.int .i64 E40]) (u := .int .i64 E40) kk3 rfl (Can.own 2 rfl) (idx_get H41).2.2 rfl rfl rfl rfl rfl) rfl rfl rfl (by kernel_rfl) (by kernel_rfl) (by kernel_rfl) rfl rfl ?_
                    refine TA.y (listed' := #[true, true, true, true, true, true, true, true, true, false, false, false, false, false, false, false, false, false, false, false, false]) 8 [0, 0, 0, 0, 0] rfl (Y.neq rfl rfl) rfl rfl rfl (by kernel_rfl) (by kernel_rfl) (by kernel_rfl) rfl rfl ?_
                    refine TA.y (listed' := #[true, true, true, true, true, true, true, true, true, true, false, false, false, false, false, false, false, false, false, false, false]) 9 [0, 0, 0, 0, 0] rfl (Y.move rfl) rfl rfl rfl (by kernel_rfl) (by kernel_rfl) (by kernel_rfl) rfl rfl ?_
                    refine TA.ite (b := !(decide (E40 = (0 : Int)))) (fun H42 => ?_) (fun H42 => ?_)
                    · refine TA.off (listed' := #[true, true, true, true, true, true, true, true, true, true, true, false, false, false, false, false, false, false, false, false, false]) 10 [0, 0, 0, 0, 0] rfl (Gd.at 9 false 80 (!(decide (E40 = (0 : Int)))) rfl rfl rfl (beq_tf H42)) rfl rfl (by kernel_rfl) (by kernel_rfl) (by kernel_rfl) rfl rfl ?_
                      refine TA.off (listed' := #[true, true, true, true, true, true, true, true, true, true, true, true, false, false, false, false, false, false, false, false, false]) 11 [0, 0, 0, 0, 0] rfl (Gd.at 9 false 80 (!(decide (E40 = (0 : Int)))) rfl rfl rfl (beq_tf H42)) rfl rfl (by kernel_rfl) (by kernel_rfl) (by kernel_rfl) rfl rfl ?_
                      refine TA.off (listed' := #[true, true, true, true, true, true, true, true, true, true, true, true, true, false, false, false, false, false, false, false, false]) 12 [0, 0, 0, 0, 0] rfl (Gd.at 9 false 80 (!(decide (E40 = (0 : Int)))) rfl rfl rfl (beq_tf H42)) rfl rfl (by kernel_rfl) (by kernel_rfl) (by kernel_rfl) rfl rfl ?_
                      refine TA.off (listed' := #[true, true, true, true, true, true, true, true, true, true, true, true, true, true, false, false, false, false, false, false, false]) 13 [0, 0, 0, 0, 0] rfl (Gd.at 9 false 80 (!(decide (E40 = (0 : Int)))) rfl rfl rfl (beq_tf H42)) rfl rfl (by kernel_rfl) (by kernel_rfl) (by kernel_rfl) rfl rfl ?_
                      refine TA.off (listed' := #[true, true, true, true, true, true, true, true, true, true, true, true, true, true, true, false, false, false, false, false, false]) 14 [0, 0, 0, 0, 0] rfl (Gd.at 9 false 80 (!(decide (E40 = (0 : Int)))) rfl rfl rfl (beq_tf H42)) rfl rfl (by kernel_rfl) (by kernel_rfl) (by kernel_rfl) rfl rfl ?_
                      refine TA.off (listed' := #[true, true, true, true, true, true, true, true, true, true, true, true, true, true, true, true, false, false, false, false, false]) 15 [0, 0, 0, 0, 0] rfl (Gd.at 9 false 80 (!(decide (E40 = (0 : Int)))) rfl rfl rfl (beq_tf H42)) rfl rfl (by kernel_rfl) (by kernel_rfl) (by kernel_rfl) rfl rfl ?_
                      refine TA.off (listed' := #[true, true, true, true, true, true, true, true, true, true, true, true, true, true, true, true, true, false, false, false, false]) 16 [0, 0, 0, 0, 0] rfl (Gd.at 9 false 80 (!(decide (E40 = (0 : Int)))) rfl rfl rfl (beq_tf H42)) rfl rfl (by kernel_rfl) (by kernel_rfl) (by kernel_rfl) rfl rfl ?_
                      refine TA.off (listed' := #[true, true, true, true, true, true, true, true, true, true, true, true, true, true, true, true, true, true, false, false, false]) 17 [0, 0, 0, 0, 0] rfl (Gd.at 9 false 80 (!(decide (E40 = (0 : Int)))) rfl rfl rfl (beq_tf H42)) rfl rfl (by kernel_rfl) (by kernel_rfl) (by kernel_rfl) rfl rfl ?_
                      refine TA.off (listed' := #[true, true, true, true, true, true, true, true, true, true, true, true, true, true, true, true, true, true, true, false, false]) 18 [0, 0, 0, 0, 0] rfl (Gd.at 9 false 80 (!(decide (E40 = (0 : Int)))) rfl rfl rfl (beq_tf H42)) rfl rfl (by kernel_rfl) (by kernel_rfl) (by kernel_rfl) rfl rfl ?_
                      refine TA.off (listed' := #[true, true, true, true, true, true, true, true, true, true, true, true, true, true, true, true, true, true, true, true, false]) 19 [0, 0, 0, 0, 0] rfl (Gd.at 9 false 80 (!(decide (E40 = (0 : Int)))) rfl rfl rfl (beq_tf H42)) rfl rfl (by kernel_rfl) (by kernel_rfl) (by kernel_rfl) rfl rfl ?_
                      refine TA.y (listed' := #[true, true, true, true, true, true, true, true, true, true, true, true, true, true, true, true, true, true, true, true, true]) 20 [0, 0, 0, 0, 0] rfl (Y.pick_t H42 rfl rfl) rfl rfl rfl (by kernel_rfl) (by kernel_rfl) (by kernel_rfl) rfl rfl ?_
                      refine TA.nil (by kernel_rfl) ?_
                      exact TE.jb_go () [0, 0, 0, 0, 0] ⟨rfl, rfl, rfl, rfl, rfl, rfl, rfl, rfl, trivial⟩ rfl
                    · refine TA.y (listed' := #[true, true, true, true, true, true, true, true, true, true, true, false, false, false, false, false, false, false, false, false, false]) 10 [0, 0, 0, 0, 0] rfl (Y.field_box kf26_0 rfl rfl) (Gd.at 9 false 80 (!(decide (E40 = (0 : Int)))) rfl rfl rfl (beq_ff H42)) rfl rfl (by kernel_rfl) (by kernel_rfl) (by kernel_rfl) rfl rfl ?_
                      refine TA.y (listed' := #[true, true, true, true, true, true, true, true, true, true, true, true, false, false, false, false, false, false, false, false, false]) 11 [0, 0, 0, 0, 0] rfl (Y.load_box (v := Y11.1) 1 kk24 rfl rfl rfl) (Gd.at 9 false 80 (!(decide (E40 = (0 : Int)))) rfl rfl rfl (beq_ff H42)) rfl rfl (by kernel_rfl) (by kernel_rfl) (by kernel_rfl) rfl rfl ?_
                      refine TA.y (listed' := #[true, true, true, true, true, true, true, true, true, true, true, true, true, false, false, false, false, false, false, false, false]) 12 [0, 0, 0, 0, 0] rfl (Y.move rfl) (Gd.at 9 false 80 (!(decide (E40 = (0 : Int)))) rfl rfl rfl (beq_ff H42)) rfl rfl (by kernel_rfl) (by kernel_rfl) (by kernel_rfl) rfl rfl ?_
                      refine TA.y (listed' := #[true, true, true, true, true, true, true, true, true, true, true, true, true, true, false, false, false, false, false, false, false]) 13 [0, 0, 0, 0, 0] rfl (Y.move rfl) (Gd.at 9 false 80 (!(decide (E40 = (0 : Int)))) rfl rfl rfl (beq_ff H42)) rfl rfl (by kernel_rfl) (by kernel_rfl) (by kernel_rfl) rfl rfl ?_
                      refine TA.y (listed' := #[true, true, true, true, true, true, true, true, true, true, true, true, true, true, true, false, false, false, false, false, false]) 14 [0, 0, 0, 0, 0] rfl (Y.index ke24 (Can.own 4 rfl) H39 rfl rfl) (Gd.at 9 false 80 (!(decide (E40 = (0 : Int)))) rfl rfl rfl (beq_ff H42)) rfl rfl (by kernel_rfl) (by kernel_rfl) (by kernel_rfl) rfl rfl ?_
                      refine TA.y (listed' := #[true, true, true, true, true, true, true, true, true, true, true, true, true, true, true, true, false, false, false, false, false]) 15 [0, 0, 0, 0, 0] rfl (Y.load_el (us := [.int .i64 E38]) (u := .int .i64 E38) kk3 rfl (Can.own 4 rfl) (idx_get H39).2.2 rfl rfl rfl rfl rfl) (Gd.at 9 false 80 (!(decide (E40 = (0 : Int)))) rfl rfl rfl (beq_ff H42)) rfl rfl (by kernel_rfl) (by kernel_rfl) (by kernel_rfl) rfl rfl ?_
                      refine TA.bind fun E43 H44 => ?_
                      refine TA.y (listed' := #[true, true, true, true, true, true, true, true, true, true, true, true, true, true, true, true, true, false, false, false, false]) 16 [0, 0, 0, 0, 0] rfl (Y.index ke24 (Can.own 3 rfl) H44 rfl rfl) (Gd.at 9 false 80 (!(decide (E40 = (0 : Int)))) rfl rfl rfl (beq_ff H42)) rfl rfl (by kernel_rfl) (by kernel_rfl) (by kernel_rfl) rfl rfl ?_
                      refine TA.y (listed' := #[true, true, true, true, true, true, true, true, true, true, true, true, true, true, true, true, true, true, false, false, false]) 17 [0, 0, 0, 0, 0] rfl (Y.load_el (us := [.int .i64 E43]) (u := .int .i64 E43) kk3 rfl (Can.own 3 rfl) (idx_get H44).2.2 rfl rfl rfl rfl rfl) (Gd.at 9 false 80 (!(decide (E40 = (0 : Int)))) rfl rfl rfl (beq_ff H42)) rfl rfl (by kernel_rfl) (by kernel_rfl) (by kernel_rfl) rfl rfl ?_
                      refine TA.y (listed' := #[true, true, true, true, true, true, true, true, true, true, true, true, true, true, true, true, true, true, true, false, false]) 18 [0, 0, 0, 0, 0] rfl (Y.move rfl) (Gd.at 9 false 80 (!(decide (E40 = (0 : Int)))) rfl rfl rfl (beq_ff H42)) rfl rfl (by kernel_rfl) (by kernel_rfl) (by kernel_rfl) rfl rfl ?_
                      refine TA.y (listed' := #[true, true, true, true, true, true, true, true, true, true, true, true, true, true, true, true, true, true, true, true, false]) 19 [0, 0, 0, 0, 0] rfl (Y.neq rfl rfl) (Gd.at 9 false 80 (!(decide (E40 = (0 : Int)))) rfl rfl rfl (beq_ff H42)) rfl rfl (by kernel_rfl) (by kernel_rfl) (by kernel_rfl) rfl rfl ?_
                      refine TA.y (listed' := #[true, true, true, true, true, true, true, true, true, true, true, true, true, true, true, true, true, true, true, true, true]) 20 [0, 0, 0, 0, 0] rfl (Y.pick_f H42 rfl rfl) rfl rfl rfl (by kernel_rfl) (by kernel_rfl) (by kernel_rfl) rfl rfl ?_
                      refine TA.nil (by kernel_rfl) ?_
                      exact TE.jb_go () [0, 0, 0, 0, 0] ⟨rfl, rfl, rfl, rfl, rfl, rfl, rfl, rfl, trivial⟩ rfl
                  · refine TE.next ?_
                    refine TW.cond rfl (fun H45 => ?_) (fun H45 => ?_)
                    · refine TW.seq ?_
                      refine TW.region ?_
                      refine TO.y (Y.assign rfl) rfl rfl rfl ?_
                      refine TO.nil ?_
                      refine TE.next ?_
                      refine TW.ret ?_
                      refine TE.block_ret ?_
                      refine TE.then_ret ?_
                      refine TE.lp_ret ?_
                      refine TE.block_ret ?_
                      refine TE.jn_done ?_
                      refine TE.then_ret ?_
                      refine TE.jn_done ?_
                      refine TE.then_ret ?_
                      exact TE.leaf fun _ _ hf_ hs_ => ret_any (rs := [.tmp 2]) (vs := [.bool false]) (.inl rfl) rfl ⟨rfl, trivial⟩ hf_ hs_ ⟨(), rfl, hs_.pulls [] rfl⟩
                    · refine TW.skip ?_
                      refine TE.block_normal ?_
                      refine TE.next ?_
                      refine TW.region ?_
                      refine TO.y (Y.move rfl) rfl rfl rfl ?_
                      refine TO.y (Y.add rfl rfl) rfl rfl rfl ?_
                      refine TO.y (Y.assign rfl) rfl rfl rfl ?_
                      refine TO.nil ?_
                      exact TE.lp_go () [0, 0, 0, 0, 0] ⟨rfl, rfl, rfl, rfl, rfl, rfl, rfl, trivial⟩ rfl
                · refine TW.exit ?_
                  refine TE.then_exit ?_
                  refine TE.lp_exit ?_
                  refine TE.block_exit ?_
                  exact TE.jn_go () [0, 0, 0, 0, 0] ⟨rfl, rfl, rfl, rfl, rfl, rfl, trivial⟩ rfl
              · refine TE.next ?_
                refine TW.seq ?_
                refine TW.region ?_
                refine TO.y (Y.load_box (v := .agg #[Y11.1]) 1 kk26 rfl rfl rfl) rfl rfl rfl ?_
                refine TO.y (Y.move rfl) rfl rfl rfl ?_
                refine TO.y (Y.move rfl) rfl rfl rfl ?_
                refine TO.bind fun R46 H47 => ?_
                refine TO.ef (Ef.call (rest := [.box B8 26 [Y7], .box B12 26 [Y11.1], .own Y7 (lc R5.1.Owner), .own Y11.1 (lc R9.1.Owner), .own Y11.2 (lc R9.2.1)]) [0, 0, 0, 0, 0] (impl_SpaceGive_con R9.1 R5.2.1 R9.2.1 Y11.1 Y11.2 R46 H47) kc11 rfl rfl ⟨(Can.own 3 rfl), (Can.own 4 rfl), trivial⟩) rfl rfl rfl (fun Y48 => ?_)
                refine TO.y (Y.move rfl) rfl rfl rfl ?_
                refine TO.y (Y.extract rfl rfl) rfl rfl rfl ?_
                refine TO.y (Y.extract rfl rfl) rfl rfl rfl ?_
                refine TO.ef (Ef.alloc kz26 rfl) rfl rfl rfl (fun B49 => ?_)
                refine TO.ef0 (Ef.store_box (us := [Y48]) (vs' := [Y48]) (is' := [.box B49 26 [Y48], .own Y48 (lc R46.1.Owner), .box B8 26 [Y7], .box B12 26 [Y11.1], .own Y7 (lc R5.1.Owner), .own Y11.1 (lc R9.1.Owner), .own Y11.2 (lc R9.2.1)]) 0 kk26 rfl rfl rfl (Cel.agg ⟨(One.can (Can.own 1 rfl)), trivial⟩) rfl rfl rfl rfl) rfl rfl (fun _ => ?_)
                refine TO.y (Y.assign rfl) rfl rfl rfl ?_
                refine TO.nil ?_
                refine TE.next ?_
                refine TW.seq ?_
                refine TW.joinBX (τ := Bool) (X := Unit) (fun T _ => [(0, V_code0), (6, .pointer (some ⟨B12, 0, none⟩)), (119, .bool T)]) (fun _ _ => [.box B12 26 [Y11.1], .own Y11.1 (lc R9.1.Owner)]) ?_ (fun T50 X51 => ?_)
                · refine TW.draw (isH := [.box B49 26 [Y48], .own Y48 (lc R46.1.Owner), .box B8 26 [Y7], .box B12 26 [Y11.1], .own Y7 (lc R5.1.Owner), .own Y11.1 (lc R9.1.Owner), .own Y11.2 (lc R9.2.1)]) hMix ?_
                  refine TA.y (listed' := #[true, false, false, false, false, false, false, false, false, false, false, false, false, false, false, false, false, false, false, false, false]) 0 [0, 0, 0, 0, 0, 0, 0] rfl (Y.move rfl) rfl rfl rfl (by kernel_rfl) (by kernel_rfl) (by kernel_rfl) rfl rfl ?_
                  refine TA.y (listed' := #[true, true, false, false, false, false, false, false, false, false, false, false, false, false, false, false, false, false, false, false, false]) 1 [0, 0, 0, 0, 0, 0, 0] rfl (Y.not rfl) rfl rfl rfl (by kernel_rfl) (by kernel_rfl) (by kernel_rfl) rfl rfl ?_
                  refine TA.y (listed' := #[true, true, true, false, false, false, false, false, false, false, false, false, false, false, false, false, false, false, false, false, false]) 2 [0, 0, 0, 0, 0, 0, 0] rfl (Y.move rfl) rfl rfl rfl (by kernel_rfl) (by kernel_rfl) (by kernel_rfl) rfl rfl ?_
                  refine TA.ite (b := !R46.2) (fun H52 => ?_) (fun H52 => ?_)
                  · refine TA.off (listed' := #[true, true, true, true, false, false, false, false, false, false, false, false, false, false, false, false, false, false, false, false, false]) 3 [0, 0, 0, 0, 0, 0, 0] rfl (Gd.at 2 false 101 (!R46.2) rfl rfl rfl (beq_tf H52)) rfl rfl (by kernel_rfl) (by kernel_rfl) (by kernel_rfl) rfl rfl ?_
                    refine TA.off (listed' := #[true, true, true, true, true, false, false, false, false, false, false, false, false, false, false, false, false, false, false, false, false]) 4 [0, 0, 0, 0, 0, 0, 0] rfl (Gd.at 2 false 101 (!R46.2) rfl rfl rfl (beq_tf H52)) rfl rfl (by kernel_rfl) (by kernel_rfl) (by kernel_rfl) rfl rfl ?_
                    refine TA.off (listed' := #[true, true, true, true, true, true, false, false, false, false, false, false, false, false, false, false, false, false, false, false, false]) 5 [0, 0, 0, 0, 0, 0, 0] rfl (Gd.at 2 false 101 (!R46.2) rfl rfl rfl (beq_tf H52)) rfl rfl (by kernel_rfl) (by kernel_rfl) (by kernel_rfl) rfl rfl ?_
                    refine TA.off (listed' := #[true, true, true, true, true, true, true, false, false, false, false, false, false, false, false, false, false, false, false, false, false]) 6 [0, 0, 0, 0, 0, 0, 0] rfl (Gd.at 2 false 101 (!R46.2) rfl rfl rfl (beq_tf H52)) rfl rfl (by kernel_rfl) (by kernel_rfl) (by kernel_rfl) rfl rfl ?_
                    refine TA.off (listed' := #[true, true, true, true, true, true, true, true, false, false, false, false, false, false, false, false, false, false, false, false, false]) 7 [0, 0, 0, 0, 0, 0, 0] rfl (Gd.at 2 false 101 (!R46.2) rfl rfl rfl (beq_tf H52)) rfl rfl (by kernel_rfl) (by kernel_rfl) (by kernel_rfl) rfl rfl ?_
                    refine TA.off (listed' := #[true, true, true, true, true, true, true, true, true, false, false, false, false, false, false, false, false, false, false, false, false]) 8 [0, 0, 0, 0, 0, 0, 0] rfl (Gd.at 2 false 101 (!R46.2) rfl rfl rfl (beq_tf H52)) rfl rfl (by kernel_rfl) (by kernel_rfl) (by kernel_rfl) rfl rfl ?_
                    refine TA.y (listed' := #[true, true, true, true, true, true, true, true, true, true, false, false, false, false, false, false, false, false, false, false, false]) 9 [0, 0, 0, 0, 0, 0, 0] rfl (Y.pick_t H52 rfl rfl) rfl rfl rfl (by kernel_rfl) (by kernel_rfl) (by kernel_rfl) rfl rfl ?_
                    refine TA.y (listed' := #[true, true, true, true, true, true, true, true, true, true, true, false, false, false, false, false, false, false, false, false, false]) 10 [0, 0, 0, 0, 0, 0, 0] rfl (Y.move rfl) rfl rfl rfl (by kernel_rfl) (by kernel_rfl) (by kernel_rfl) rfl rfl ?_
                    refine TA.off (listed' := #[true, true, true, true, true, true, true, true, true, true, true, true, false, false, false, false, false, false, false, false, false]) 11 [0, 0, 0, 0, 0, 0, 0] rfl (Gd.at 10 false 109 true rfl rfl rfl rfl) rfl rfl (by kernel_rfl) (by kernel_rfl) (by kernel_rfl) rfl rfl ?_
                    refine TA.off (listed' := #[true, true, true, true, true, true, true, true, true, true, true, true, true, false, false, false, false, false, false, false, false]) 12 [0, 0, 0, 0, 0, 0, 0] rfl (Gd.at 10 false 109 true rfl rfl rfl rfl) rfl rfl (by kernel_rfl) (by kernel_rfl) (by kernel_rfl) rfl rfl ?_
                    refine TA.off (listed' := #[true, true, true, true, true, true, true, true, true, true, true, true, true, true, false, false, false, false, false, false, false]) 13 [0, 0, 0, 0, 0, 0, 0] rfl (Gd.at 10 false 109 true rfl rfl rfl rfl) rfl rfl (by kernel_rfl) (by kernel_rfl) (by kernel_rfl) rfl rfl ?_
                    refine TA.off (listed' := #[true, true, true, true, true, true, true, true, true, true, true, true, true, true, true, false, false, false, false, false, false]) 14 [0, 0, 0, 0, 0, 0, 0] rfl (Gd.at 10 false 109 true rfl rfl rfl rfl) rfl rfl (by kernel_rfl) (by kernel_rfl) (by kernel_rfl) rfl rfl ?_
                    refine TA.off (listed' := #[true, true, true, true, true, true, true, true, true, true, true, true, true, true, true, true, false, false, false, false, false]) 15 [0, 0, 0, 0, 0, 0, 0] rfl (Gd.at 10 false 109 true rfl rfl rfl rfl) rfl rfl (by kernel_rfl) (by kernel_rfl) (by kernel_rfl) rfl rfl ?_
                    refine TA.off (listed' := #[true, true, true, true, true, true, true, true, true, true, true, true, true, true, true, true, true, false, false, false, false]) 16 [0, 0, 0, 0, 0, 0, 0] rfl (Gd.at 10 false 109 true rfl rfl rfl rfl) rfl rfl (by kernel_rfl) (by kernel_rfl) (by kernel_rfl) rfl rfl ?_
                    refine TA.off (listed' := #[true, true, true, true, true, true, true, true, true, true, true, true, true, true, true, true, true, true, false, false, false]) 17 [0, 0, 0, 0, 0, 0, 0] rfl (Gd.at 10 false 109 true rfl rfl rfl rfl) rfl rfl (by kernel_rfl) (by kernel_rfl) (by kernel_rfl) rfl rfl ?_
                    refine TA.off (listed' := #[true, true, true, true, true, true, true, true, true, true, true, true, true, true, true, true, true, true, true, false, false]) 18 [0, 0, 0, 0, 0, 0, 0] rfl (Gd.at 10 false 109 true rfl rfl rfl rfl) rfl rfl (by kernel_rfl) (by kernel_rfl) (by kernel_rfl) rfl rfl ?_
                    refine TA.off (listed' := #[true, true, true, true, true, true, true, true, true, true, true, true, true, true, true, true, true, true, true, true, false]) 19 [0, 0, 0, 0, 0, 0, 0] rfl (Gd.at 10 false 109 true rfl rfl rfl rfl) rfl rfl (by kernel_rfl) (by kernel_rfl) (by kernel_rfl) rfl rfl ?_
                    refine TA.y (listed' := #[true, true, true, true, true, true, true, true, true, true, true, true, true, true, true, true, true, true, true, true, true]) 20 [0, 0, 0, 0, 0, 0, 0] rfl (Y.pick_t rfl rfl rfl) rfl rfl rfl (by kernel_rfl) (by kernel_rfl) (by kernel_rfl) rfl rfl ?_
                    refine TA.nil (by kernel_rfl) ?_
                    exact TE.jb_go () [3, 4] ⟨rfl, rfl, rfl, trivial⟩ rfl
                  · refine TA.y (listed' := #[true, true, true, true, false, false, false, false, false, false, false, false, false, false, false, false, false, false, false, false, false]) 3 [0, 0, 0, 0, 0, 0, 0] rfl (Y.field_box kf26_0 rfl rfl) (Gd.at 2 false 101 (!R46.2) rfl rfl rfl (beq_ff H52)) rfl rfl (by kernel_rfl) (by kernel_rfl) (by kernel_rfl) rfl rfl ?_
                    refine TA.y (listed' := #[true, true, true, true, true, false, false, false, false, false, false, false, false, false, false, false, false, false, false, false, false]) 4 [0, 0, 0, 0, 0, 0, 0] rfl (Y.load_box (v := Y48) 0 kk24 rfl rfl rfl) (Gd.at 2 false 101 (!R46.2) rfl rfl rfl (beq_ff H52)) rfl rfl (by kernel_rfl) (by kernel_rfl) (by kernel_rfl) rfl rfl ?_
                    refine TA.y (listed' := #[true, true, true, true, true, true, false, false, false, false, false, false, false, false, false, false, false, false, false, false, false]) 5 [0, 0, 0, 0, 0, 0, 0] rfl (Y.field_box kf26_0 rfl rfl) (Gd.at 2 false 101 (!R46.2) rfl rfl rfl (beq_ff H52)) rfl rfl (by kernel_rfl) (by kernel_rfl) (by kernel_rfl) rfl rfl ?_
                    refine TA.y (listed' := #[true, true, true, true, true, true, true, false, false, false, false, false, false, false, false, false, false, false, false, false, false]) 6 [0, 0, 0, 0, 0, 0, 0] rfl (Y.load_box (v := Y7) 2 kk24 rfl rfl rfl) (Gd.at 2 false 101 (!R46.2) rfl rfl rfl (beq_ff H52)) rfl rfl (by kernel_rfl) (by kernel_rfl) (by kernel_rfl) rfl rfl ?_
                    refine TA.bind fun R53 H54 => ?_
                    refine TA.one 7 (by kernel_rfl) ?_
                    refine TX.ef (listed' := #[true, true, true, true, true, true, true, true, false, false, false, false, false, false, false, false, false, false, false, false, false]) [0, 0, 0, 0, 0, 0, 0] rfl (Ef.call (rest := [.box B49 26 [Y48], .own Y48 (lc R46.1.Owner), .box B8 26 [Y7], .box B12 26 [Y11.1], .own Y7 (lc R5.1.Owner), .own Y11.1 (lc R9.1.Owner), .own Y11.2 (lc R9.2.1)]) [0, 0, 0, 0, 0, 0, 0] (laws_sameInts_con R46.1.Owner R5.1.Owner Y48 Y7 R53 H54) kc9 rfl rfl ⟨(Can.own 1 rfl), (Can.own 4 rfl), trivial⟩) (Gd.at 2 false 101 (!R46.2) rfl rfl rfl (beq_ff H52)) rfl rfl rfl (fun _ => rfl) (fun _ => ?_)
                    refine TA.y (listed' := #[true, true, true, true, true, true, true, true, true, false, false, false, false, false, false, false, false, false, false, false, false]) 8 [0, 0, 0, 0, 0, 0, 0] rfl (Y.not rfl) (Gd.at 2 false 101 (!R46.2) rfl rfl rfl (beq_ff H52)) rfl rfl (by kernel_rfl) (by kernel_rfl) (by kernel_rfl) rfl rfl ?_
                    refine TA.y (listed' := #[true, true, true, true, true, true, true, true, true, true, false, false, false, false, false, false, false, false, false, false, false]) 9 [0, 0, 0, 0, 0, 0, 0] rfl (Y.pick_f H52 rfl rfl) rfl rfl rfl (by kernel_rfl) (by kernel_rfl) (by kernel_rfl) rfl rfl ?_
                    refine TA.y (listed' := #[true, true, true, true, true, true, true, true, true, true, true, false, false, false, false, false, false, false, false, false, false]) 10 [0, 0, 0, 0, 0, 0, 0] rfl (Y.move rfl) rfl rfl rfl (by kernel_rfl) (by kernel_rfl) (by kernel_rfl) rfl rfl ?_
                    refine TA.ite (b := !R53) (fun H56 => ?_) (fun H56 => ?_)
                    · refine TA.off (listed' := #[true, true, true, true, true, true, true, true, true, true, true, true, false, false, false, false, false, false, false, false, false]) 11 [0, 0, 0, 0, 0, 0, 0] rfl (Gd.at 10 false 109 (!R53) rfl rfl rfl (beq_tf H56)) rfl rfl (by kernel_rfl) (by kernel_rfl) (by kernel_rfl) rfl rfl ?_
                      refine TA.off (listed' := #[true, true, true, true, true, true, true, true, true, true, true, true, true, false, false, false, false, false, false, false, false]) 12 [0, 0, 0, 0, 0, 0, 0] rfl (Gd.at 10 false 109 (!R53) rfl rfl rfl (beq_tf H56)) rfl rfl (by kernel_rfl) (by kernel_rfl) (by kernel_rfl) rfl rfl ?_
                      refine TA.off (listed' := #[true, true, true, true, true, true, true, true, true, true, true, true, true, true, false, false, false, false, false, false, false]) 13 [0, 0, 0, 0, 0, 0, 0] rfl (Gd.at 10 false 109 (!R53) rfl rfl rfl (beq_tf H56)) rfl rfl (by kernel_rfl) (by kernel_rfl) (by kernel_rfl) rfl rfl ?_
                      refine TA.off (listed' := #[true, true, true, true, true, true, true, true, true, true, true, true, true, true, true, false, false, false, false, false, false]) 14 [0, 0, 0, 0, 0, 0, 0] rfl (Gd.at 10 false 109 (!R53) rfl rfl rfl (beq_tf H56)) rfl rfl (by kernel_rfl) (by kernel_rfl) (by kernel_rfl) rfl rfl ?_
                      refine TA.off (listed' := #[true, true, true, true, true, true, true, true, true, true, true, true, true, true, true, true, false, false, false, false, false]) 15 [0, 0, 0, 0, 0, 0, 0] rfl (Gd.at 10 false 109 (!R53) rfl rfl rfl (beq_tf H56)) rfl rfl (by kernel_rfl) (by kernel_rfl) (by kernel_rfl) rfl rfl ?_
                      refine TA.off (listed' := #[true, true, true, true, true, true, true, true, true, true, true, true, true, true, true, true, true, false, false, false, false]) 16 [0, 0, 0, 0, 0, 0, 0] rfl (Gd.at 10 false 109 (!R53) rfl rfl rfl (beq_tf H56)) rfl rfl (by kernel_rfl) (by kernel_rfl) (by kernel_rfl) rfl rfl ?_
                      refine TA.off (listed' := #[true, true, true, true, true, true, true, true, true, true, true, true, true, true, true, true, true, true, false, false, false]) 17 [0, 0, 0, 0, 0, 0, 0] rfl (Gd.at 10 false 109 (!R53) rfl rfl rfl (beq_tf H56)) rfl rfl (by kernel_rfl) (by kernel_rfl) (by kernel_rfl) rfl rfl ?_
                      refine TA.off (listed' := #[true, true, true, true, true, true, true, true, true, true, true, true, true, true, true, true, true, true, true, false, false]) 18 [0, 0, 0, 0, 0, 0, 0] rfl (Gd.at 10 false 109 (!R53) rfl rfl rfl (beq_tf H56)) rfl rfl (by kernel_rfl) (by kernel_rfl) (by kernel_rfl) rfl rfl ?_
                      refine TA.off (listed' := #[true, true, true, true, true, true, true, true, true, true, true, true, true, true, true, true, true, true, true, true, false]) 19 [0, 0, 0, 0, 0, 0, 0] rfl (Gd.at 10 false 109 (!R53) rfl rfl rfl (beq_tf H56)) rfl rfl (by kernel_rfl) (by kernel_rfl) (by kernel_rfl) rfl rfl ?_
                      refine TA.y (listed' := #[true, true, true, true, true, true, true, true, true, true, true, true, true, true, true, true, true, true, true, true, true]) 20 [0, 0, 0, 0, 0, 0, 0] rfl (Y.pick_t H56 rfl rfl) rfl rfl rfl (by kernel_rfl) (by kernel_rfl) (by kernel_rfl) rfl rfl ?_
                      refine TA.nil (by kernel_rfl) ?_
                      exact TE.jb_go () [3, 4] ⟨rfl, rfl, rfl, trivial⟩ rfl
                    · refine TA.y (listed' := #[true, true, true, true, true, true, true, true, true, true, true, true, false, false, false, false, false, false, false, false, false]) 11 [0, 0, 0, 0, 0, 0, 0] rfl (Y.load_box (v := .agg #[Y11.1]) 3 kk26 rfl rfl rfl) (Gd.at 10 false 109 (!R53) rfl rfl rfl (beq_ff H56)) rfl rfl (by kernel_rfl) (by kernel_rfl) (by kernel_rfl) rfl rfl ?_
                      refine TA.y (listed' := #[true, true, true, true, true, true, true, true, true, true, true, true, true, false, false, false, false, false, false, false, false]) 12 [0, 0, 0, 0, 0, 0, 0] rfl (Y.move rfl) (Gd.at 10 false 109 (!R53) rfl rfl rfl (beq_ff H56)) rfl rfl (by kernel_rfl) (by kernel_rfl) (by kernel_rfl) rfl rfl ?_
                      refine TA.y (listed' := #[true, true, true, true, true, true, true, true, true, true, true, true, true, false, true, false, false, false, false, false, false]) 14 [0, 0, 0, 0, 0, 0, 0] rfl (Y.load_box (v := .agg #[Y7]) 2 kk26 rfl rfl rfl) (Gd.at 10 false 109 (!R53) rfl rfl rfl (beq_ff H56)) rfl rfl (by kernel_rfl) (by kernel_rfl) (by kernel_rfl) rfl rfl ?_
                      refine TA.y (listed' := #[true, true, true, true, true, true, true, true, true, true, true, true, true, false, true, true, false, false, false, false, false]) 15 [0, 0, 0, 0, 0, 0, 0] rfl (Y.move rfl) (Gd.at 10 false 109 (!R53) rfl rfl rfl (beq_ff H56)) rfl rfl (by kernel_rfl) (by kernel_rfl) (by kernel_rfl) rfl rfl ?_
                      refine TA.y (listed' := #[true, true, true, true, true, true, true, true, true, true, true, true, true, false, true, true, false, true, false, false, false]) 17 [0, 0, 0, 0, 0, 0, 0] rfl (Y.move rfl) (Gd.at 10 false 109 (!R53) rfl rfl rfl (beq_ff H56)) rfl rfl (by kernel_rfl) (by kernel_rfl) (by kernel_rfl) rfl rfl ?_
                      refine TA.bind fun R57 H58 => ?_
                      refine TA.one 13 (by kernel_rfl) ?_
                      refine TX.ef (listed' := #[true, true, true, true, true, true, true, true, true, true, true, true, true, true, true, true, false, true, false, false, false]) [0, 0, 0, 0, 0, 0, 0] rfl (Ef.call (rest := [.box B49 26 [Y48], .own Y48 (lc R46.1.Owner), .box B8 26 [Y7], .box B12 26 [Y11.1], .own Y7 (lc R5.1.Owner), .own Y11.1 (lc R9.1.Owner), .own Y11.2 (lc R9.2.1)]) [0, 0, 0, 0, 0, 0, 0] (impl_SpaceOf_con R9.1 R5.2.1 Y11.1 R57 H58) kc12 rfl rfl ⟨(Can.own 5 rfl), trivial⟩) (Gd.at 10 false 109 (!R53) rfl rfl rfl (beq_ff H56)) rfl rfl rfl (fun _ => rfl) (fun _ => ?_)
                      refine TA.bind fun R60 H61 => ?_
                      refine TA.one 16 (by kernel_rfl) ?_
                      refine TX.ef (listed' := #[true, true, true, true, true, true, true, true, true, true, true, true, true, true, true, true, true, true, false, false, false]) [0, 0, 0, 0, 0, 0, 0] rfl (Ef.call (rest := [.box B49 26 [Y48], .own Y48 (lc R46.1.Owner), .box B8 26 [Y7], .box B12 26 [Y11.1], .own Y7 (lc R5.1.Owner), .own Y11.1 (lc R9.1.Owner), .own Y11.2 (lc R9.2.1)]) [0, 0, 0, 0, 0, 0, 0] (spec_SpaceOf_con R5.1 R5.2.1 Y7 R60 H61) kc13 rfl rfl ⟨(Can.own 4 rfl), trivial⟩) (Gd.at 10 false 109 (!R53) rfl rfl rfl (beq_ff H56)) rfl rfl rfl (fun _ => rfl) (fun _ => ?_)
                      refine TA.y (listed' := #[true, true, true, true, true, true, true, true, true, true, true, true, true, true, true, true, true, true, true, false, false]) 18 [0, 0, 0, 0, 0, 0, 0] rfl (Y.add rfl rfl) (Gd.at 10 false 109 (!R53) rfl rfl rfl (beq_ff H56)) rfl rfl (by kernel_rfl) (by kernel_rfl) (by kernel_rfl) rfl rfl ?_
                      refine TA.y (listed' := #[true, true, true, true, true, true, true, true, true, true, true, true, true, true, true, true, true, true, true, true, false]) 19 [0, 0, 0, 0, 0, 0, 0] rfl (Y.neq rfl rfl) (Gd.at 10 false 109 (!R53) rfl rfl rfl (beq_ff H56)) rfl rfl (by kernel_rfl) (by kernel_rfl) (by kernel_rfl) rfl rfl ?_
                      refine TA.y (listed' := #[true, true, true, true, true, true, true, true, true, true, true, true, true, true, true, true, true, true, true, true, true]) 20 [0, 0, 0, 0, 0, 0, 0] rfl (Y.pick_f H56 rfl rfl) rfl rfl rfl (by kernel_rfl) (by kernel_rfl) (by kernel_rfl) rfl rfl ?_
                      refine TA.nil (by kernel_rfl) ?_
                      exact TE.jb_go () [3, 4] ⟨rfl, rfl, rfl, trivial⟩ rfl
                · refine TE.next ?_
                  refine TW.cond rfl (fun H63 => ?_) (fun H63 => ?_)
                  · refine TW.seq ?_
                    refine TW.region ?_
                    refine TO.y (Y.assign rfl) rfl rfl rfl ?_
                    refine TO.nil ?_
                    refine TE.next ?_
                    refine TW.ret ?_
                    refine TE.jn_done ?_
                    refine TE.then_ret ?_
                    exact TE.leaf fun _ _ hf_ hs_ => ret_any (rs := [.tmp 2]) (vs := [.bool false]) (.inl rfl) rfl ⟨rfl, trivial⟩ hf_ hs_ ⟨(), rfl, hs_.pulls [] rfl⟩
                  · refine TW.skip ?_
                    exact TE.jn_go () [0, 0] ⟨rfl, rfl, trivial⟩ rfl
            · refine TW.seq ?_
              refine TW.region ?_
              refine TO.y (Y.field_box kf26_0 rfl rfl) rfl rfl rfl ?_
              refine TO.y (Y.load_box (v := Y11.1) 1 kk24 rfl rfl rfl) rfl rfl rfl ?_
              refine TO.y (Y.field_box kf26_0 rfl rfl) rfl rfl rfl ?_
              refine TO.y (Y.load_box (v := Y7) 0 kk24 rfl rfl rfl) rfl rfl rfl ?_
              refine TO.bind fun R64 H65 => ?_
              refine TO.ef (Ef.call (rest := [.box B8 26 [Y7], .box B12 26 [Y11.1], .own Y7 (lc R5.1.Owner), .own Y11.1 (lc R9.1.Owner), .own Y11.2 (lc R9.2.1)]) [0, 0, 0, 0, 0] (laws_sameInts_con R9.1.Owner R5.1.Owner Y11.1 Y7 R64 H65) kc9 rfl rfl ⟨(Can.own 3 rfl), (Can.own 2 rfl), trivial⟩) rfl rfl rfl (fun _ => ?_)
              refine TO.y (Y.not rfl) rfl rfl rfl ?_
              refine TO.nil ?_
              refine TE.next ?_
              refine TW.cond rfl (fun H67 => ?_) (fun H67 => ?_)
              · refine TW.seq ?_
                refine TW.region ?_
                refine TO.y (Y.assign rfl) rfl rfl rfl ?_
                refine TO.nil ?_
                refine TE.next ?_
                refine TW.ret ?_
                refine TE.jn_done ?_
                refine TE.then_ret ?_
                exact TE.leaf fun _ _ hf_ hs_ => ret_any (rs := [.tmp 2]) (vs := [.bool false]) (.inl rfl) rfl ⟨rfl, trivial⟩ hf_ hs_ ⟨(), rfl, hs_.pulls [] rfl⟩
              · refine TW.skip ?_
                exact TE.jn_go () [1, 2] ⟨rfl, rfl, trivial⟩ rfl
          · refine TE.next ?_
            refine TW.seq ?_
            refine TW.region ?_
            refine TO.y (Y.load_box (v := .agg #[Y11.1]) 0 kk26 rfl rfl rfl) rfl rfl rfl ?_
            refine TO.bind fun R68 H69 => ?_
            refine TO.ef (Ef.call (rest := [.box B12 26 [Y11.1], .own Y11.1 (lc R9.1.Owner)]) [0, 0] (impl_SpaceWipe_con R9.1 (1 : Int) Y11.1 R68 H69) kc14 rfl rfl ⟨(Can.own 1 rfl), trivial⟩) rfl rfl rfl (fun Y70 => ?_)
            refine TO.y (Y.move rfl) rfl rfl rfl ?_
            refine TO.y (Y.extract rfl rfl) rfl rfl rfl ?_
            refine TO.y (Y.extract rfl rfl) rfl rfl rfl ?_
            refine TO.ef (Ef.alloc kz26 rfl) rfl rfl rfl (fun B71 => ?_)
            refine TO.ef0 (Ef.store_box (us := [Y70]) (vs' := [Y70]) (is' := [.box B71 26 [Y70], .own Y70 (lc R68.1.Owner), .box B12 26 [Y11.1], .own Y11.1 (lc R9.1.Owner)]) 0 kk26 rfl rfl rfl (Cel.agg ⟨(One.can (Can.own 1 rfl)), trivial⟩) rfl rfl rfl rfl) rfl rfl (fun _ => ?_)
            refine TO.y (Y.assign rfl) rfl rfl rfl ?_
            refine TO.nil ?_
            refine TE.next ?_
            refine TW.seq ?_
            refine TW.region ?_
            refine TO.y (Y.move rfl) rfl rfl rfl ?_
            refine TO.bind fun R72 H73 => ?_
            refine TO.ef (Ef.call (rest := [.box B71 26 [Y70], .own Y70 (lc R68.1.Owner), .box B12 26 [Y11.1], .own Y11.1 (lc R9.1.Owner)]) [0, 0, 0, 0] (spec_DrawSpaceGive_con code V_code0 R72 H73) kc15 rfl rfl ⟨(Base.can HB_V_code0), trivial⟩) rfl rfl rfl (fun Y74 => ?_)
            refine TO.y (Y.move rfl) rfl rfl rfl ?_
            refine TO.y (Y.extract rfl rfl) rfl rfl rfl ?_
            refine TO.y (Y.extract rfl rfl) rfl rfl rfl ?_
            refine TO.y (Y.extract rfl rfl) rfl rfl rfl ?_
            refine TO.ef (Ef.alloc kz26 rfl) rfl rfl rfl (fun B75 => ?_)
            refine TO.ef0 (Ef.store_box (us := [Y74.1]) (vs' := [Y74.1]) (is' := [.box B75 26 [Y74.1], .own Y74.1 (lc R72.1.Owner), .own Y74.2 (lc R72.2.2), .box B71 26 [Y70], .own Y70 (lc R68.1.Owner), .box B12 26 [Y11.1], .own Y11.1 (lc R9.1.Owner)]) 0 kk26 rfl rfl rfl (Cel.agg ⟨(One.can (Can.own 1 rfl)), trivial⟩) rfl rfl rfl rfl) rfl rfl (fun _ => ?_)
            refine TO.y (Y.assign rfl) rfl rfl rfl ?_
            refine TO.y (Y.assign rfl) rfl rfl rfl ?_
            refine TO.nil ?_
            refine TE.next ?_
            refine TW.seq ?_
            refine TW.region ?_
            refine TO.y (Y.load_box (v := .agg #[Y74.1]) 0 kk26 rfl rfl rfl) rfl rfl rfl ?_
            refine TO.y (Y.move rfl) rfl rfl rfl ?_
            refine TO.y (Y.move rfl) rfl rfl rfl ?_
            refine TO.bind fun R76 H77 => ?_
            refine TO.ef (Ef.call (rest := [.box B75 26 [Y74.1], .own Y74.1 (lc R72.1.Owner), .own Y74.2 (lc R72.2.2), .box B71 26 [Y70], .own Y70 (lc R68.1.Owner), .box B12 26 [Y11.1], .own Y11.1 (lc R9.1.Owner)]) [0, 0, 0, 0, 0, 0, 0] (impl_SpaceGive_con R72.1 R72.2.1 R72.2.2 Y74.1 Y74.2 R76 H77) kc11 rfl rfl ⟨(Can.own 1 rfl), (Can.own 2 rfl), trivial⟩) rfl rfl rfl (fun Y78 => ?_)
            refine TO.y (Y.move rfl) rfl rfl rfl ?_
            refine TO.y (Y.extract rfl rfl) rfl rfl rfl ?_
            refine TO.y (Y.extract rfl rfl) rfl rfl rfl ?_
            refine TO.ef (Ef.alloc kz26 rfl) rfl rfl rfl (fun B79 => ?_)
            refine TO.ef0 (Ef.store_box (us := [Y78]) (vs' := [Y78]) (is' := [.box B79 26 [Y78], .own Y78 (lc R76.1.Owner), .box B75 26 [Y74.1], .own Y74.1 (lc R72.1.Owner), .own Y74.2 (lc R72.2.2), .box B71 26 [Y70], .own Y70 (lc R68.1.Owner), .box B12 26 [Y11.1], .own Y11.1 (lc R9.1.Owner)]) 0 kk26 rfl rfl rfl (Cel.agg ⟨(One.can (Can.own 1 rfl)), trivial⟩) rfl rfl rfl rfl) rfl rfl (fun _ => ?_)
            refine TO.y (Y.assign rfl) rfl rfl rfl ?_
            refine TO.nil ?_
            refine TE.next ?_
            refine TW.seq ?_
            refine TW.region ?_
            refine TO.y (Y.load_box (v := .agg #[Y74.1]) 2 kk26 rfl rfl rfl) rfl rfl rfl ?_
            refine TO.y (Y.move rfl) rfl rfl rfl ?_
            refine TO.y (Y.move rfl) rfl rfl rfl ?_
            refine TO.bind fun R80 H81 => ?_
            refine TO.ef (Ef.call (rest := [.box B79 26 [Y78], .own Y78 (lc R76.1.Owner), .box B75 26 [Y74.1], .own Y74.1 (lc R72.1.Owner), .own Y74.2 (lc R72.2.2), .box B71 26 [Y70], .own Y70 (lc R68.1.Owner), .box B12 26 [Y11.1], .own Y11.1 (lc R9.1.Owner)]) [0, 0, 0, 0, 0, 0, 0, 0, 0] (spec_SpaceGive_con R72.1 R72.2.1 R72.2.2 Y74.1 Y74.2 R80 H81) kc16 rfl rfl ⟨(Can.own 3 rfl), (Can.own 4 rfl), trivial⟩) rfl rfl rfl (fun Y82 => ?_)
            refine TO.y (Y.move rfl) rfl rfl rfl ?_
            refine TO.y (Y.extract rfl rfl) rfl rfl rfl ?_
            refine TO.y (Y.extract rfl rfl) rfl rfl rfl ?_
            refine TO.ef (Ef.alloc kz26 rfl) rfl rfl rfl (fun B83 => ?_)
            refine TO.ef0 (Ef.store_box (us := [Y82]) (vs' := [Y82]) (is' := [.box B83 26 [Y82], .own Y82 (lc R80.1.Owner), .box B79 26 [Y78], .own Y78 (lc R76.1.Owner), .box B75 26 [Y74.1], .own Y74.1 (lc R72.1.Owner), .own Y74.2 (lc R72.2.2), .box B71 26 [Y70], .own Y70 (lc R68.1.Owner), .box B12 26 [Y11.1], .own Y11.1 (lc R9.1.Owner)]) 0 kk26 rfl rfl rfl (Cel.agg ⟨(One.can (Can.own 1 rfl)), trivial⟩) rfl rfl rfl rfl) rfl rfl (fun _ => ?_)
            refine TO.y (Y.assign rfl) rfl rfl rfl ?_
            refine TO.nil ?_
            refine TE.next ?_
            refine TW.seq ?_
            refine TW.joinBX (τ := Bool) (X := Unit) (fun T _ => [(2, .bool T)]) (fun _ _ => []) ?_ (fun T84 X85 => ?_)
            · refine TW.region ?_
              refine TO.y (Y.move rfl) rfl rfl rfl ?_
              refine TO.y (Y.load_box (v := .agg #[Y11.1]) 9 kk26 rfl rfl rfl) rfl rfl rfl ?_
              refine TO.bind fun R86 H87 => ?_
              refine TO.ef (Ef.call (rest := [.box B83 26 [Y82], .own Y82 (lc R80.1.Owner), .box B79 26 [Y78], .own Y78 (lc R76.1.Owner), .box B75 26 [Y74.1], .own Y74.1 (lc R72.1.Owner), .own Y74.2 (lc R72.2.2), .box B71 26 [Y70], .own Y70 (lc R68.1.Owner), .box B12 26 [Y11.1], .own Y11.1 (lc R9.1.Owner)]) [0, 0, 0, 0, 0, 0, 0, 0, 0, 0, 0] (spec_SpaceOf_con R9.1 (1 : Int) Y11.1 R86 H87) kc13 rfl rfl ⟨(Can.own 10 rfl), trivial⟩) rfl rfl rfl (fun _ => ?_)
              refine TO.y (Y.eql rfl rfl) rfl rfl rfl ?_
              refine TO.y (Y.move rfl) rfl rfl rfl ?_
              refine TO.ite (b := decide (R68.2 = R86)) (fun H89 => ?_) (fun H89 => ?_)
              · refine TO.y (Y.load_box (v := .agg #[Y70]) 7 kk26 rfl rfl rfl) (Gd.at 4 true 155 (decide (R68.2 = R86)) rfl rfl rfl (beq_tt H89)) rfl rfl ?_
                refine TO.bind fun R90 H91 => ?_
                refine TO.ef (Ef.call (rest := [.box B83 26 [Y82], .own Y82 (lc R80.1.Owner), .box B79 26 [Y78], .own Y78 (lc R76.1.Owner), .box B75 26 [Y74.1], .own Y74.1 (lc R72.1.Owner), .own Y74.2 (lc R72.2.2), .box B71 26 [Y70], .own Y70 (lc R68.1.Owner), .box B12 26 [Y11.1], .own Y11.1 (lc R9.1.Owner)]) [0, 0, 0, 0, 0, 0, 0, 0, 0, 0, 0] (impl_SpaceOf_con R68.1 (1 : Int) Y70 R90 H91) kc12 rfl rfl ⟨(Can.own 8 rfl), trivial⟩) (Gd.at 4 true 155 (decide (R68.2 = R86)) rfl rfl rfl (beq_tt H89)) rfl rfl (fun _ => ?_)
                refine TO.y (Y.eql rfl rfl) (Gd.at 4 true 155 (decide (R68.2 = R86)) rfl rfl rfl (beq_tt H89)) rfl rfl ?_
                refine TO.y (Y.pick_t H89 rfl rfl) rfl rfl rfl ?_
                refine TO.y (Y.move rfl) rfl rfl rfl ?_
                refine TO.ite (b := decide (R90 = (0 : Int))) (fun H93 => ?_) (fun H93 => ?_)
                · refine TO.y (Y.move rfl) (Gd.at 9 true 160 (decide (R90 = (0 : Int))) rfl rfl rfl (beq_tt H93)) rfl rfl ?_
                  refine TO.y (Y.move rfl) (Gd.at 9 true 160 (decide (R90 = (0 : Int))) rfl rfl rfl (beq_tt H93)) rfl rfl ?_
                  refine TO.y (Y.eqb kb4 rfl rfl) (Gd.at 9 true 160 (decide (R90 = (0 : Int))) rfl rfl rfl (beq_tt H93)) rfl rfl ?_
                  refine TO.y (Y.pick_t H93 rfl rfl) rfl rfl rfl ?_
                  refine TO.y (Y.assign rfl) rfl rfl rfl ?_
                  refine TO.nil ?_
                  exact TE.jb_go () [] ⟨rfl, trivial⟩ rfl
                · refine TO.off (Gd.at 9 true 160 (decide (R90 = (0 : Int))) rfl rfl rfl (beq_ft H93)) rfl rfl ?_
                  refine TO.off (Gd.at 9 true 160 (decide (R90 = (0 : Int))) rfl rfl rfl (beq_ft H93)) rfl rfl ?_
                  refine TO.off (Gd.at 9 true 160 (decide (R90 = (0 : Int))) rfl rfl rfl (beq_ft H93)) rfl rfl ?_
                  refine TO.y (Y.pick_f H93 rfl rfl) rfl rfl rfl ?_
                  refine TO.y (Y.assign rfl) rfl rfl rfl ?_
                  refine TO.nil ?_
                  exact TE.jb_go () [] ⟨rfl, trivial⟩ rfl
              · refine TO.off (Gd.at 4 true 155 (decide (R68.2 = R86)) rfl rfl rfl (beq_ft H89)) rfl rfl ?_
                refine TO.off (Gd.at 4 true 155 (decide (R68.2 = R86)) rfl rfl rfl (beq_ft H89)) rfl rfl ?_
                refine TO.off (Gd.at 4 true 155 (decide (R68.2 = R86)) rfl rfl rfl (beq_ft H89)) rfl rfl ?_
                refine TO.y (Y.pick_f H89 rfl rfl) rfl rfl rfl ?_
                refine TO.y (Y.move rfl) rfl rfl rfl ?_
                refine TO.off (Gd.at 9 true 160 false rfl rfl rfl rfl) rfl rfl ?_
                refine TO.off (Gd.at 9 true 160 false rfl rfl rfl rfl) rfl rfl ?_
                refine TO.off (Gd.at 9 true 160 false rfl rfl rfl rfl) rfl rfl ?_
                refine TO.y (Y.pick_f rfl rfl rfl) rfl rfl rfl ?_
                refine TO.y (Y.assign rfl) rfl rfl rfl ?_
                refine TO.nil ?_
                exact TE.jb_go () [] ⟨rfl, trivial⟩ rfl
            · refine TE.next ?_
              refine TW.ret ?_
              exact TE.leaf fun _ _ hf_ hs_ => ret_any (rs := [.tmp 2]) (vs := [.bool T84]) (.inl rfl) rfl ⟨rfl, trivial⟩ hf_ hs_ ⟨(), rfl, hs_.pulls [] rfl⟩

end Go.Proofs.Ytammomfkamhhdaa
