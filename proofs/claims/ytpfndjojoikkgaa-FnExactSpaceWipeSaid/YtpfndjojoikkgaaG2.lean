/-
  The functions that a law reaches, each as a pure function, with the proof that the program computes it, and the step from a pure law to the given statement. Conditions: none.
-/
import Derived.Test.YtpfndjojoikkgaaG1
set_option linter.unusedVariables false
set_option maxRecDepth 100000
namespace Go.Proofs.Ytpfndjojoikkgaa
open Go Sl

/-- loop.example/g00950/impl.SpaceWipe -/
noncomputable def impl_SpaceWipe (s : Space) (who : Int) : Option (Space × Int) :=
  (impl_SpaceOk s).bind fun R3 =>
  if (!R3) = true then (some ({ Owner := ([] : List Int) : Space }, (0 : Int)))
  else ((impl_copySpace s).bind fun R8 =>
  (impl_isTenant who).bind fun R12 =>
  if (!R12) = true then (some (R8, (0 : Int)))
  else (bindC (loopO (fun (S16 : Int × Int × List Int) => if (decide (S16.2.1 < ((s.Owner.length : Nat) : Int))) = true then ((idx s.Owner S16.2.1).bind fun E21 =>
  bindC (if (decide (E21 = who)) = true then ((idx S16.2.2 S16.2.1).bind fun E26 =>
  some (.go (IntKind.i64.wrap (S16.1 + (1 : Int)), (S16.2.2.set S16.2.1.toNat (0 : Int)))))
  else (some (.go (S16.1, S16.2.2))))
  (fun (T23 : Int × List Int) => some (.go (T23.1, IntKind.i64.wrap (S16.2.1 + (1 : Int)), T23.2))))
  else (some (.done (.go (S16.1, S16.2.2)))))
  ((0 : Int), (0 : Int), R8.Owner))
  (fun (T18 : Int × List Int) => some ({ Owner := T18.2 : Space }, T18.1))))

theorem impl_SpaceWipe_con (s : Space) (who : Int) (V_s0 : Value) (r : Space × Int) (hm : impl_SpaceWipe s who = some r) :
    Con Try.prog 17 [.agg #[V_s0], .int .i64 who] [] [(V_s0, lc 3 s.Owner)] (fun X : Value => .tuple #[.agg #[X], .int .i64 r.2]) (fun X => [.own X (lc 3 r.1.Owner)]) := by
  refine Con.intro (args := [.agg #[V_s0], .int .i64 who]) (n := 40) (val := fun r (X : Value) => .tuple #[.agg #[X], .int .i64 r.2]) (post := fun r X => [.own X (lc 3 r.1.Owner)]) (m := impl_SpaceWipe s who) Try.func17 rfl rfl rfl hm ?_
  intro w S hrd
  have HB_V_s0 := hrd _ (.head _)
  clear hrd
  unfold impl_SpaceWipe
  refine TW.seq ?_
  refine TW.region ?_
  refine TO.ef (Ef.box rfl (Cel.agg ⟨(One.can (Base.can HB_V_s0)), trivial⟩)) rfl rfl rfl (fun B1 => ?_)
  refine TO.ef (Ef.alloc kz37 rfl) rfl rfl rfl (fun B2 => ?_)
  refine TO.y (Y.assign rfl) rfl rfl rfl ?_
  refine TO.nil ?_
  refine TE.next ?_
  refine TW.seq ?_
  refine TW.seq ?_
  refine TW.region ?_
  refine TO.y (Y.load_box (v := .agg #[V_s0]) 1 kk37 rfl rfl rfl) rfl rfl rfl ?_
  refine TO.bind fun R3 H4 => ?_
  refine TO.ef (Ef.call (rest := [.box B2 37 [.slice none 0 0], .box B1 37 [V_s0]]) [0, 0] (impl_SpaceOk_con s V_s0 R3 H4) kc52 rfl rfl ⟨(Base.can HB_V_s0), trivial⟩) rfl rfl rfl (fun _ => ?_)
  refine TO.y (Y.not rfl) rfl rfl rfl ?_
  refine TO.nil ?_
  refine TE.next ?_
  refine TW.cond rfl (fun H6 => ?_) (fun H6 => ?_)
  · refine TW.seq ?_
    refine TW.region ?_
    refine TO.y (Y.build (cells := [.slice none 0 0]) [] kp37 kz37 trivial rfl) rfl rfl rfl ?_
    refine TO.ef0 (Ef.store_box (us := [.slice none 0 0]) (vs' := [.slice none 0 0]) (is' := [.box B2 37 [.slice none 0 0], .box B1 37 [V_s0]]) 0 kk37 rfl rfl rfl (Cel.plain rfl rfl) rfl rfl rfl rfl) rfl rfl (fun _ => ?_)
    refine TO.y (Y.assign rfl) rfl rfl rfl ?_
    refine TO.nil ?_
    refine TE.next ?_
    refine TW.ret ?_
    refine TE.then_ret ?_
    exact TE.leaf fun _ _ hf_ hs_ => ret_any (rs := [.cell 4 37, .tmp 5]) (vs := [.agg #[.slice none 0 0], .int .i64 (0 : Int)]) (.inl rfl) rfl (RV.cell 0 rfl rfl kk37 rfl ⟨rfl, trivial⟩) hf_ hs_ ⟨(.slice none 0 0), rfl, (hs_.nilItem 3 1).pulls [0] rfl⟩
  · refine TW.skip ?_
    refine TE.next ?_
    refine TW.seq ?_
    refine TW.region ?_
    refine TO.y (Y.load_box (v := .agg #[V_s0]) 1 kk37 rfl rfl rfl) rfl rfl rfl ?_
    refine TO.bind fun R8 H9 => ?_
    refine TO.ef (Ef.call (rest := [.box B2 37 [.slice none 0 0], .box B1 37 [V_s0]]) [0, 0] (impl_copySpace_con s V_s0 R8 H9) kc53 rfl rfl ⟨(Base.can HB_V_s0), trivial⟩) rfl rfl rfl (fun Y10 => ?_)
    refine TO.ef (Ef.alloc kz37 rfl) rfl rfl rfl (fun B11 => ?_)
    refine TO.ef0 (Ef.store_box (us := [Y10]) (vs' := [Y10]) (is' := [.box B11 37 [Y10], .own Y10 (lc 3 R8.Owner), .box B2 37 [.slice none 0 0], .box B1 37 [V_s0]]) 0 kk37 rfl rfl rfl (Cel.agg ⟨(One.can (Can.own 1 rfl)), trivial⟩) rfl rfl rfl rfl) rfl rfl (fun _ => ?_)
    refine TO.nil ?_
    refine TE.next ?_
    refine TW.seq ?_
    refine TW.seq ?_
    refine TW.region ?_
    refine TO.y (Y.move rfl) rfl rfl rfl ?_
    refine TO.bind fun R12 H13 => ?_
    refine TO.ef (Ef.call (rest := [.box B11 37 [Y10], .own Y10 (lc 3 R8.Owner), .box B2 37 [.slice none 0 0], .box B1 37 [V_s0]]) [0, 0, 0, 0] (impl_isTenant_con who  R12 H13) kc54 rfl rfl trivial) rfl rfl rfl (fun _ => ?_)
    refine TO.y (Y.not rfl) rfl rfl rfl ?_
    refine TO.nil ?_
    refine TE.next ?_
    refine TW.cond rfl (fun H15 => ?_) (fun H15 => ?_)
    · refine TW.seq ?_
      refine TW.region ?_
      refine TO.y (Y.load_box (v := .agg #[Y10]) 0 kk37 rfl rfl rfl) rfl rfl rfl ?_
      refine TO.ef0 (Ef.store_box (us := [Y10]) (vs' := [Y10]) (is' := [.box B11 37 [Y10], .own Y10 (lc 3 R8.Owner), .box B2 37 [Y10], .box B1 37 [V_s0]]) 2 kk37 rfl rfl rfl (Cel.agg ⟨(One.can (Can.own 1 rfl)), trivial⟩) rfl rfl rfl rfl) rfl rfl (fun _ => ?_)
      refine TO.y (Y.assign rfl) rfl rfl rfl ?_
      refine TO.nil ?_
      refine TE.next ?_
      refine TW.ret ?_
      refine TE.then_ret ?_
      exact TE.leaf fun _ _ hf_ hs_ => ret_any (rs := [.cell 4 37, .tmp 5]) (vs := [.agg #[Y10], .int .i64 (0 : Int)]) (.inl rfl) rfl (RV.cell 2 rfl rfl kk37 rfl ⟨rfl, trivial⟩) hf_ hs_ ⟨Y10, rfl, hs_.pulls [1] rfl⟩
    · refine TW.skip ?_
      refine TE.next ?_
      refine TW.seq ?_
      refine TW.region ?_
      refine TO.y (Y.assign rfl) rfl rfl rfl ?_
      refine TO.nil ?_
      refine TE.next ?_
      refine TW.seq ?_
      refine TW.seq ?_
      refine TW.region ?_
      refine TO.y (Y.field_box kf37_0 rfl rfl) rfl rfl rfl ?_
      refine TO.y (Y.load_box (v := V_s0) 3 kk33 rfl rfl rfl) rfl rfl rfl ?_
      refine TO.y (Y.len (l := s.Owner) ke33 (Base.can HB_V_s0) rfl) rfl rfl rfl ?_
      refine TO.y (Y.move rfl) rfl rfl rfl ?_
      refine TO.nil ?_
      refine TE.next ?_
      refine TW.joinX (τ := Int × List Int) (X := Unit) (fun T _ => [(4, .pointer (some ⟨B2, 0, none⟩)), (6, .pointer (some ⟨B11, 0, none⟩)), (7, .int .i64 T.1)]) (fun T _ => [.box B2 37 [.slice none 0 0], .box B11 37 [Y10], .own Y10 (lc 3 T.2)]) ?_ (fun T18 X19 => ?_)
      · refine TW.block ?_
        refine TW.loopX (σ := Int × Int × List Int) (X := Unit) (fun T _ => [(1, .int .i64 who), (4, .pointer (some ⟨B2, 0, none⟩)), (6, .pointer (some ⟨B11, 0, none⟩)), (7, .int .i64 T.1), (21, V_s0), (22, .int .i64 ((s.Owner.length : Nat) : Int)), (23, .int .i64 T.2.1)]) (fun T _ => [.box B2 37 [.slice none 0 0], .box B11 37 [Y10], .own Y10 (lc 3 T.2.2)]) () [2, 0, 0] ⟨rfl, rfl, rfl, rfl, rfl, rfl, rfl, trivial⟩ rfl (fun S16 X17 => ?_)
        refine TW.seq ?_
        refine TW.region ?_
        refine TO.y (Y.lss rfl rfl) rfl rfl rfl ?_
        refine TO.nil ?_
        refine TE.next ?_
        refine TW.seq ?_
        refine TW.cond rfl (fun H20 => ?_) (fun H20 => ?_)
        · refine TW.skip ?_
          refine TE.next ?_
          refine TW.seq ?_
          refine TW.block ?_
          refine TW.seq ?_
          refine TW.region ?_
          refine TO.y (Y.move rfl) rfl rfl rfl ?_
          refine TO.bind fun E21 H22 => ?_
          refine TO.y (Y.index ke33 (Base.can HB_V_s0) H22 rfl rfl) rfl rfl rfl ?_
          refine TO.y (Y.load_el (us := [.int .i64 E21]) (u := .int .i64 E21) kk3 rfl (Base.can HB_V_s0) (idx_get H22).2.2 rfl rfl rfl rfl rfl) rfl rfl rfl ?_
          refine TO.y (Y.assign rfl) rfl rfl rfl ?_
          refine TO.y (Y.assign rfl) rfl rfl rfl ?_
          refine TO.nil ?_
          refine TE.next ?_
          refine TW.seq ?_
          refine TW.region ?_
          refine TO.y (Y.move rfl) rfl rfl rfl ?_
          refine TO.y (Y.move rfl) rfl rfl rfl ?_
          refine TO.y (Y.eql rfl rfl) rfl rfl rfl ?_
          refine TO.nil ?_
          refine TE.next ?_
          refine TW.joinX (τ := Int × List Int) (X := Unit) (fun T _ => [(1, .int .i64 who), (4, .pointer (some ⟨B2, 0, none⟩)), (6, .pointer (some ⟨B11, 0, none⟩)), (7, .int .i64 T.1), (21, V_s0), (22, .int .i64 ((s.Owner.length : Nat) : Int)), (23, .int .i64 S16.2.1)]) (fun T _ => [.box B2 37 [.slice none 0 0], .box B11 37 [Y10], .own Y10 (lc 3 T.2)]) ?_ (fun T23 X24 => ?_)
          · refine TW.cond rfl (fun H25 => ?_) (fun H25 => ?_)
            · refine TW.seq ?_
              refine TW.region ?_
              refine TO.y (Y.field_box kf37_0 rfl rfl) rfl rfl rfl ?_
              refine TO.y (Y.load_box (v := Y10) 1 kk33 rfl rfl rfl) rfl rfl rfl ?_
              refine TO.y (Y.move rfl) rfl rfl rfl ?_
              refine TO.bind fun E26 H27 => ?_
              refine TO.y (Y.index ke33 (Can.own 2 rfl) H27 rfl rfl) rfl rfl rfl ?_
              refine TO.ef0 (Ef.store_el (us := [.int .i64 (0 : Int)]) (is' := [.box B2 37 [.slice none 0 0], .box B11 37 [Y10], .own Y10 (lc 3 (S16.2.2.set S16.2.1.toNat (0 : Int)))]) (0 : Int) 2 kk3 rfl rfl (idx_get H27).2.2 rfl rfl (Cel.plain rfl rfl) rfl rfl rfl rfl) rfl rfl (fun _ => ?_)
              refine TO.nil ?_
              refine TE.next ?_
              refine TW.region ?_
              refine TO.y (Y.move rfl) rfl rfl rfl ?_
              refine TO.y (Y.add rfl rfl) rfl rfl rfl ?_
              refine TO.y (Y.assign rfl) rfl rfl rfl ?_
              refine TO.nil ?_
              exact TE.jn_go () [0, 0, 0] ⟨rfl, rfl, rfl, rfl, rfl, rfl, rfl, trivial⟩ rfl
            · refine TW.skip ?_
              exact TE.jn_go () [0, 0, 0] ⟨rfl, rfl, rfl, rfl, rfl, rfl, rfl, trivial⟩ rfl
          · refine TE.block_normal ?_
            refine TE.next ?_
            refine TW.region ?_
            refine TO.y (Y.add rfl rfl) rfl rfl rfl ?_
            refine TO.y (Y.move rfl) rfl rfl rfl ?_
            refine TO.nil ?_
            exact TE.lp_go () [0, 0, 0] ⟨rfl, rfl, rfl, rfl, rfl, rfl, rfl, trivial⟩ rfl
        · refine TW.exit ?_
          refine TE.then_exit ?_
          refine TE.lp_exit ?_
          refine TE.block_exit ?_
          exact TE.jn_go () [0, 0, 0] ⟨rfl, rfl, rfl, trivial⟩ rfl
      · refine TE.next ?_
        refine TW.seq ?_
        refine TW.region ?_
        refine TO.y (Y.load_box (v := .agg #[Y10]) 1 kk37 rfl rfl rfl) rfl rfl rfl ?_
        refine TO.y (Y.move rfl) rfl rfl rfl ?_
        refine TO.ef0 (Ef.store_box (us := [Y10]) (vs' := [Y10]) (is' := [.box B2 37 [Y10], .box B11 37 [Y10], .own Y10 (lc 3 T18.2)]) 0 kk37 rfl rfl rfl (Cel.agg ⟨(One.can (Can.own 2 rfl)), trivial⟩) rfl rfl rfl rfl) rfl rfl (fun _ => ?_)
        refine TO.y (Y.assign rfl) rfl rfl rfl ?_
        refine TO.nil ?_
        refine TE.next ?_
        refine TW.ret ?_
        exact TE.leaf fun _ _ hf_ hs_ => ret_any (rs := [.cell 4 37, .tmp 5]) (vs := [.agg #[Y10], .int .i64 T18.1]) (.inl rfl) rfl (RV.cell 0 rfl rfl kk37 rfl ⟨rfl, trivial⟩) hf_ hs_ ⟨Y10, rfl, hs_.pulls [2] rfl⟩

/-- loop.example/g00950/laws.eqIntS -/
noncomputable def laws_eqIntS (a : List Int) (b : List Int) : Option Bool :=
  if (!(decide (((a.length : Nat) : Int) = ((b.length : Nat) : Int)))) = true then (some false)
  else (bindC (loopO (fun (S2 : Int) => if (decide (S2 < ((a.length : Nat) : Int))) = true then ((idx a S2).bind fun E7 =>
  (idx b S2).bind fun E9 =>
  if (!(decide (E7 = E9))) = true then (some (.done (.done false)))
  else (some (.go (IntKind.i64.wrap (S2 + (1 : Int))))))
  else (some (.done (.go ()))))
  (0 : Int))
  (fun (T4 : Unit) => some true))

theorem laws_eqIntS_con (a : List Int) (b : List Int) (V_a0 : Value) (V_b0 : Value) (r : Bool) (hm : laws_eqIntS a b = some r) :
    Con Try.prog 23 [V_a0, V_b0] [] [(V_a0, lc 3 a), (V_b0, lc 3 b)] (fun _ : Unit => .bool r) (fun _ => []) := by
  refine Con.intro (args := [V_a0, V_b0]) (n := 26) (val := fun r (_ : Unit) => .bool r) (post := fun _ _ => []) (m := laws_eqIntS a b) Try.func23 rfl rfl rfl hm ?_
  intro w S hrd
  have HB_V_a0 := hrd _ (.head _)
  have HB_V_b0 := hrd _ (.tail _ (.head _))
  clear hrd
  unfold laws_eqIntS
  refine TW.seq ?_
  refine TW.region ?_
  refine TO.y (Y.assign rfl) rfl rfl rfl ?_
  refine TO.nil ?_
  refine TE.next ?_
  refine TW.seq ?_
  refine TW.seq ?_
  refine TW.region ?_
  refine TO.y (Y.move rfl) rfl rfl rfl ?_
  refine TO.y (Y.len (l := a) ke33 (Base.can HB_V_a0) rfl) rfl rfl rfl ?_
  refine TO.y (Y.move rfl) rfl rfl rfl ?_
  refine TO.y (Y.len (l := b) ke33 (Base.can HB_V_b0) rfl) rfl rfl rfl ?_
  refine TO.y (Y.neq rfl rfl) rfl rfl rfl ?_
  refine TO.nil ?_
  refine TE.next ?_
  refine TW.cond rfl (fun H1 => ?_) (fun H1 => ?_)
  · refine TW.seq ?_
    refine TW.region ?_
    refine TO.y (Y.assign rfl) rfl rfl rfl ?_
    refine TO.nil ?_
    refine TE.next ?_
    refine TW.ret ?_
    refine TE.then_ret ?_
    exact TE.leaf fun _ _ hf_ hs_ => ret_any (rs := [.tmp 4]) (vs := [.bool false]) (.inl rfl) rfl ⟨rfl, trivial⟩ hf_ hs_ ⟨(), rfl, hs_.pulls [] rfl⟩
  · refine TW.skip ?_
    refine TE.next ?_
    refine TW.seq ?_
    refine TW.seq ?_
    refine TW.region ?_
    refine TO.y (Y.assign rfl) rfl rfl rfl ?_
    refine TO.nil ?_
    refine TE.next ?_
    refine TW.joinX (τ := Unit) (X := Unit) (fun _ _ => []) (fun _ _ => []) ?_ (fun T4 X5 => ?_)
    · refine TW.block ?_
      refine TW.loopX (σ := Int) (X := Unit) (fun T _ => [(0, V_a0), (1, V_b0), (5, .int .i64 T)]) (fun _ _ => []) () [] ⟨rfl, rfl, rfl, trivial⟩ rfl (fun S2 X3 => ?_)
      refine TW.seq ?_
      refine TW.seq ?_
      refine TW.region ?_
      refine TO.y (Y.move rfl) rfl rfl rfl ?_
      refine TO.y (Y.move rfl) rfl rfl rfl ?_
      refine TO.y (Y.len (l := a) ke33 (Base.can HB_V_a0) rfl) rfl rfl rfl ?_
      refine TO.y (Y.lss rfl rfl) rfl rfl rfl ?_
      refine TO.nil ?_
      refine TE.next ?_
      refine TW.cond rfl (fun H6 => ?_) (fun H6 => ?_)
      · refine TW.skip ?_
        refine TE.next ?_
        refine TW.seq ?_
        refine TW.block ?_
        refine TW.seq ?_
        refine TW.draw (isH := []) hMix ?_
        refine TA.y (listed' := #[true, false, false, false, false, false, false, false, false]) 0 [] rfl (Y.move rfl) rfl rfl rfl (by kernel_rfl) (by kernel_rfl) (by kernel_rfl) rfl rfl ?_
        refine TA.y (listed' := #[true, true, false, false, false, false, false, false, false]) 1 [] rfl (Y.move rfl) rfl rfl rfl (by kernel_rfl) (by kernel_rfl) (by kernel_rfl) rfl rfl ?_
        refine TA.bind fun E7 H8 => ?_
        refine TA.y (listed' := #[true, true, true, false, false, false, false, false, false]) 2 [] rfl (Y.index ke33 (Base.can HB_V_a0) H8 rfl rfl) rfl rfl rfl (by kernel_rfl) (by kernel_rfl) (by kernel_rfl) rfl rfl ?_
        refine TA.y (listed' := #[true, true, true, true, false, false, false, false, false]) 3 [] rfl (Y.load_el (us := [.int .i64 E7]) (u := .int .i64 E7) kk3 rfl (Base.can HB_V_a0) (idx_get H8).2.2 rfl rfl rfl rfl rfl) rfl rfl rfl (by kernel_rfl) (by kernel_rfl) (by kernel_rfl) rfl rfl ?_
        refine TA.y (listed' := #[true, true, true, true, true, false, false, false, false]) 4 [] rfl (Y.move rfl) rfl rfl rfl (by kernel_rfl) (by kernel_rfl) (by kernel_rfl) rfl rfl ?_
        refine TA.y (listed' := #[true, true, true, true, true, true, false, false, false]) 5 [] rfl (Y.move rfl) rfl rfl rfl (by kernel_rfl) (by kernel_rfl) (by kernel_rfl) rfl rfl ?_
        refine TA.bind fun E9 H10 => ?_
        refine TA.y (listed' := #[true, true, true, true, true, true, true, false, false]) 6 [] rfl (Y.index ke33 (Base.can HB_V_b0) H10 rfl rfl) rfl rfl rfl (by kernel_rfl) (by kernel_rfl) (by kernel_rfl) rfl rfl ?_
        refine TA.y (listed' := #[true, true, true, true, true, true, true, true, false]) 7 [] rfl (Y.load_el (us := [.int .i64 E9]) (u := .int .i64 E9) kk3 rfl (Base.can HB_V_b0) (idx_get H10).2.2 rfl rfl rfl rfl rfl) rfl rfl rfl (by kernel_rfl) (by kernel_rfl) (by kernel_rfl) rfl rfl ?_
        refine TA.y (listed' := #[true, true, true, true, true, true, true, true, true]) 8 [] rfl (Y.neq rfl rfl) rfl rfl rfl (by kernel_rfl) (by kernel_rfl) (by kernel_rfl) rfl rfl ?_
        refine TA.nil (by kernel_rfl) ?_
        refine TE.next ?_
        refine TW.cond rfl (fun H11 => ?_) (fun H11 => ?_)
        · refine TW.seq ?_
          refine TW.region ?_
          refine TO.y (Y.assign rfl) rfl rfl rfl ?_
          refine TO.nil ?_
          refine TE.next ?_
          refine TW.ret ?_
          refine TE.block_ret ?_
          refine TE.then_ret ?_
          refine TE.lp_ret ?_
          refine TE.block_ret ?_
          refine TE.jn_done ?_
          refine TE.then_ret ?_
          exact TE.leaf fun _ _ hf_ hs_ => ret_any (rs := [.tmp 4]) (vs := [.bool false]) (.inl rfl) rfl ⟨rfl, trivial⟩ hf_ hs_ ⟨(), rfl, hs_.pulls [] rfl⟩
        · refine TW.skip ?_
          refine TE.block_normal ?_
          refine TE.next ?_
          refine TW.region ?_
          refine TO.y (Y.move rfl) rfl rfl rfl ?_
          refine TO.y (Y.add rfl rfl) rfl rfl rfl ?_
          refine TO.y (Y.assign rfl) rfl rfl rfl ?_
          refine TO.nil ?_
          exact TE.lp_go () [] ⟨rfl, rfl, rfl, trivial⟩ rfl
      · refine TW.exit ?_
        refine TE.then_exit ?_
        refine TE.lp_exit ?_
        refine TE.block_exit ?_
        exact TE.jn_go () [] trivial rfl
    · refine TE.next ?_
      refine TW.seq ?_
      refine TW.region ?_
      refine TO.y (Y.assign rfl) rfl rfl rfl ?_
      refine TO.nil ?_
      refine TE.next ?_
      refine TW.ret ?_
      exact TE.leaf fun _ _ hf_ hs_ => ret_any (rs := [.tmp 4]) (vs := [.bool true]) (.inl rfl) rfl ⟨rfl, trivial⟩ hf_ hs_ ⟨(), rfl, hs_.pulls [] rfl⟩

/-- loop.example/g00950/laws.eqSpace -/
noncomputable def laws_eqSpace (a : Space) (b : Space) : Option Bool :=
  (laws_eqIntS a.Owner b.Owner).bind fun R3 =>
  if (!R3) = true then (some false)
  else (some true)

theorem laws_eqSpace_con (a : Space) (b : Space) (V_a0 : Value) (V_b0 : Value) (r : Bool) (hm : laws_eqSpace a b = some r) :
    Con Try.prog 18 [.agg #[V_a0], .agg #[V_b0]] [] [(V_a0, lc 3 a.Owner), (V_b0, lc 3 b.Owner)] (fun _ : Unit => .bool r) (fun _ => []) := by
  refine Con.intro (args := [.agg #[V_a0], .agg #[V_b0]]) (n := 11) (val := fun r (_ : Unit) => .bool r) (post := fun _ _ => []) (m := laws_eqSpace a b) Try.func18 rfl rfl rfl hm ?_
  intro w S hrd
  have HB_V_a0 := hrd _ (.head _)
  have HB_V_b0 := hrd _ (.tail _ (.head _))
  clear hrd
  unfold laws_eqSpace
  refine TW.seq ?_
  refine TW.region ?_
  refine TO.ef (Ef.box rfl (Cel.agg ⟨(One.can (Base.can HB_V_a0)), trivial⟩)) rfl rfl rfl (fun B1 => ?_)
  refine TO.ef (Ef.box rfl (Cel.agg ⟨(One.can (Base.can HB_V_b0)), trivial⟩)) rfl rfl rfl (fun B2 => ?_)
  refine TO.y (Y.assign rfl) rfl rfl rfl ?_
  refine TO.nil ?_
  refine TE.next ?_
  refine TW.seq ?_
  refine TW.seq ?_
  refine TW.region ?_
  refine TO.y (Y.field_box kf37_0 rfl rfl) rfl rfl rfl ?_
  refine TO.y (Y.load_box (v := V_a0) 1 kk33 rfl rfl rfl) rfl rfl rfl ?_
  refine TO.y (Y.field_box kf37_0 rfl rfl) rfl rfl rfl ?_
  refine TO.y (Y.load_box (v := V_b0) 0 kk33 rfl rfl rfl) rfl rfl rfl ?_
  refine TO.bind fun R3 H4 => ?_
  refine TO.ef (Ef.call (rest := [.box B2 37 [V_b0], .box B1 37 [V_a0]]) [0, 0] (laws_eqIntS_con a.Owner b.Owner V_a0 V_b0 R3 H4) kc23 rfl rfl ⟨(Base.can HB_V_a0), (Base.can HB_V_b0), trivial⟩) rfl rfl rfl (fun _ => ?_)
  refine TO.y (Y.not rfl) rfl rfl rfl ?_
  refine TO.nil ?_
  refine TE.next ?_
  refine TW.cond rfl (fun H6 => ?_) (fun H6 => ?_)
  · refine TW.seq ?_
    refine TW.region ?_
    refine TO.y (Y.assign rfl) rfl rfl rfl ?_
    refine TO.nil ?_
    refine TE.next ?_
    refine TW.ret ?_
    refine TE.then_ret ?_
    exact TE.leaf fun _ _ hf_ hs_ => ret_any (rs := [.tmp 4]) (vs := [.bool false]) (.inl rfl) rfl ⟨rfl, trivial⟩ hf_ hs_ ⟨(), rfl, hs_.pulls [] rfl⟩
  · refine TW.skip ?_
    refine TE.next ?_
    refine TW.seq ?_
    refine TW.region ?_
    refine TO.y (Y.assign rfl) rfl rfl rfl ?_
    refine TO.nil ?_
    refine TE.next ?_
    refine TW.ret ?_
    exact TE.leaf fun _ _ hf_ hs_ => ret_any (rs := [.tmp 4]) (vs := [.bool true]) (.inl rfl) rfl ⟨rfl, trivial⟩ hf_ hs_ ⟨(), rfl, hs_.pulls [] rfl⟩

/-- loop.example/g00950/laws.markIntS -/
noncomputable def laws_markIntS (a : List Int) (k : Int) : Option (Int × List Int) :=
  bindC (loopO (fun (S1 : Int × Int × List Int) => if (decide (S1.2.1 < ((S1.2.2.length : Nat) : Int))) = true then ((idx S1.2.2 S1.2.1).bind fun E6 =>
  some (.go (IntKind.i64.wrap (S1.1 + (1 : Int)), IntKind.i64.wrap (S1.2.1 + (1 : Int)), (S1.2.2.set S1.2.1.toNat S1.1))))
  else (some (.done (.go (S1.1, S1.2.2)))))
  (k, (0 : Int), a))
  (fun (T3 : Int × List Int) => some (T3.1, T3.2))

theorem laws_markIntS_con (a : List Int) (k : Int) (V_a0 : Value) (r : Int × List Int) (hm : laws_markIntS a k = some r) :
    Con Try.prog 24 [V_a0, .int .i64 k] [.own V_a0 (lc 3 a)] [] (fun _ : Unit => .int .i64 r.1) (fun _ => [.own V_a0 (lc 3 r.2)]) := by
  refine Con.intro (args := [V_a0, .int .i64 k]) (n := 19) (val := fun r (_ : Unit) => .int .i64 r.1) (post := fun r _ => [.own V_a0 (lc 3 r.2)]) (m := laws_markIntS a k) Try.func24 rfl rfl rfl hm ?_
  intro w S _
  unfold laws_markIntS
  refine TW.seq ?_
  refine TW.region ?_
  refine TO.y (Y.assign rfl) rfl rfl rfl ?_
  refine TO.nil ?_
  refine TE.next ?_
  refine TW.seq ?_
  refine TW.seq ?_
  refine TW.region ?_
  refine TO.y (Y.assign rfl) rfl rfl rfl ?_
  refine TO.nil ?_
  refine TE.next ?_
  refine TW.joinX (τ := Int × List Int) (X := Unit) (fun T _ => [(1, .int .i64 T.1)]) (fun T _ => [.own V_a0 (lc 3 T.2)]) ?_ (fun T3 X4 => ?_)
  · refine TW.block ?_
    refine TW.loopX (σ := Int × Int × List Int) (X := Unit) (fun T _ => [(0, V_a0), (1, .int .i64 T.1), (5, .int .i64 T.2.1)]) (fun T _ => [.own V_a0 (lc 3 T.2.2)]) () [0] ⟨rfl, rfl, rfl, trivial⟩ rfl (fun S1 X2 => ?_)
    refine TW.seq ?_
    refine TW.seq ?_
    refine TW.region ?_
    refine TO.y (Y.move rfl) rfl rfl rfl ?_
    refine TO.y (Y.move rfl) rfl rfl rfl ?_
    refine TO.y (Y.len (l := S1.2.2) ke33 (Can.own 0 rfl) rfl) rfl rfl rfl ?_
    refine TO.y (Y.lss rfl rfl) rfl rfl rfl ?_
    refine TO.nil ?_
    refine TE.next ?_
    refine TW.cond rfl (fun H5 => ?_) (fun H5 => ?_)
    · refine TW.skip ?_
      refine TE.next ?_
      refine TW.seq ?_
      refine TW.block ?_
      refine TW.seq ?_
      refine TW.region ?_
      refine TO.y (Y.move rfl) rfl rfl rfl ?_
      refine TO.y (Y.move rfl) rfl rfl rfl ?_
      refine TO.y (Y.move rfl) rfl rfl rfl ?_
      refine TO.bind fun E6 H7 => ?_
      refine TO.y (Y.index ke33 (Can.own 0 rfl) H7 rfl rfl) rfl rfl rfl ?_
      refine TO.ef0 (Ef.store_el (us := [.int .i64 S1.1]) (is' := [.own V_a0 (lc 3 (S1.2.2.set S1.2.1.toNat S1.1))]) S1.1 0 kk3 rfl rfl (idx_get H7).2.2 rfl rfl (Cel.plain rfl rfl) rfl rfl rfl rfl) rfl rfl (fun _ => ?_)
      refine TO.nil ?_
      refine TE.next ?_
      refine TW.region ?_
      refine TO.y (Y.move rfl) rfl rfl rfl ?_
      refine TO.y (Y.add rfl rfl) rfl rfl rfl ?_
      refine TO.y (Y.assign rfl) rfl rfl rfl ?_
      refine TO.nil ?_
      refine TE.block_normal ?_
      refine TE.next ?_
      refine TW.region ?_
      refine TO.y (Y.move rfl) rfl rfl rfl ?_
      refine TO.y (Y.add rfl rfl) rfl rfl rfl ?_
      refine TO.y (Y.assign rfl) rfl rfl rfl ?_
      refine TO.nil ?_
      exact TE.lp_go () [0] ⟨rfl, rfl, rfl, trivial⟩ rfl
    · refine TW.exit ?_
      refine TE.then_exit ?_
      refine TE.lp_exit ?_
      refine TE.block_exit ?_
      exact TE.jn_go () [0] ⟨rfl, trivial⟩ rfl
  · refine TE.next ?_
    refine TW.seq ?_
    refine TW.region ?_
    refine TO.y (Y.move rfl) rfl rfl rfl ?_
    refine TO.y (Y.assign rfl) rfl rfl rfl ?_
    refine TO.nil ?_
    refine TE.next ?_
    refine TW.ret ?_
    exact TE.leaf fun _ _ hf_ hs_ => ret_any (rs := [.tmp 4]) (vs := [.int .i64 T3.1]) (.inl rfl) rfl ⟨rfl, trivial⟩ hf_ hs_ ⟨(), rfl, hs_.pulls [0] rfl⟩

/-- loop.example/g00950/laws.markSpace -/
noncomputable def laws_markSpace (a : Space) (k : Int) : Option (Int × List Int) :=
  (laws_markIntS a.Owner k).bind fun R2 =>
  some (R2.1, R2.2)

theorem laws_markSpace_con (a : Space) (k : Int) (V_a0 : Value) (r : Int × List Int) (hm : laws_markSpace a k = some r) :
    Con Try.prog 19 [.agg #[V_a0], .int .i64 k] [.own V_a0 (lc 3 a.Owner)] [] (fun _ : Unit => .int .i64 r.1) (fun _ => [.own V_a0 (lc 3 r.2)]) := by
  refine Con.intro (args := [.agg #[V_a0], .int .i64 k]) (n := 10) (val := fun r (_ : Unit) => .int .i64 r.1) (post := fun r _ => [.own V_a0 (lc 3 r.2)]) (m := laws_markSpace a k) Try.func19 rfl rfl rfl hm ?_
  intro w S _
  unfold laws_markSpace
  refine TW.seq ?_
  refine TW.region ?_
  refine TO.ef (Ef.box rfl (Cel.agg ⟨(One.can (Can.own 0 rfl)), trivial⟩)) rfl rfl rfl (fun B1 => ?_)
  refine TO.y (Y.assign rfl) rfl rfl rfl ?_
  refine TO.nil ?_
  refine TE.next ?_
  refine TW.seq ?_
  refine TW.region ?_
  refine TO.y (Y.field_box kf37_0 rfl rfl) rfl rfl rfl ?_
  refine TO.y (Y.load_box (v := V_a0) 0 kk33 rfl rfl rfl) rfl rfl rfl ?_
  refine TO.y (Y.move rfl) rfl rfl rfl ?_
  refine TO.bind fun R2 H3 => ?_
  refine TO.ef (Ef.call (rest := [.box B1 37 [V_a0]]) [1, 0] (laws_markIntS_con a.Owner k V_a0 R2 H3) kc24 rfl rfl trivial) rfl rfl rfl (fun _ => ?_)
  refine TO.y (Y.assign rfl) rfl rfl rfl ?_
  refine TO.nil ?_
  refine TE.next ?_
  refine TW.seq ?_
  refine TW.region ?_
  refine TO.y (Y.move rfl) rfl rfl rfl ?_
  refine TO.y (Y.assign rfl) rfl rfl rfl ?_
  refine TO.nil ?_
  refine TE.next ?_
  refine TW.ret ?_
  exact TE.leaf fun _ _ hf_ hs_ => ret_any (rs := [.tmp 4]) (vs := [.int .i64 R2.1]) (.inl rfl) rfl ⟨rfl, trivial⟩ hf_ hs_ ⟨(), rfl, hs_.pulls [0] rfl⟩

/-- loop.example/g00950/laws.heldIntS -/
noncomputable def laws_heldIntS (a : List Int) (k : Int) : Option Int :=
  bindC (loopO (fun (S1 : Int × Int) => if (decide (S1.2 < ((a.length : Nat) : Int))) = true then ((idx a S1.2).bind fun E6 =>
  if (!(decide (E6 = S1.1))) = true then (some (.done (.done (-1 : Int))))
  else (some (.go (IntKind.i64.wrap (S1.1 + (1 : Int)), IntKind.i64.wrap (S1.2 + (1 : Int))))))
  else (some (.done (.go S1.1))))
  (k, (0 : Int)))
  (fun (T3 : Int) => some T3)

theorem laws_heldIntS_con (a : List Int) (k : Int) (V_a0 : Value) (r : Int) (hm : laws_heldIntS a k = some r) :
    Con Try.prog 25 [V_a0, .int .i64 k] [] [(V_a0, lc 3 a)] (fun _ : Unit => .int .i64 r) (fun _ => []) := by
  refine Con.intro (args := [V_a0, .int .i64 k]) (n := 21) (val := fun r (_ : Unit) => .int .i64 r) (post := fun _ _ => []) (m := laws_heldIntS a k) Try.func25 rfl rfl rfl hm ?_
  intro w S hrd
  have HB_V_a0 := hrd _ (.head _)
  clear hrd
  unfold laws_heldIntS
  refine TW.seq ?_
  refine TW.region ?_
  refine TO.y (Y.assign rfl) rfl rfl rfl ?_
  refine TO.nil ?_
  refine TE.next ?_
  refine TW.seq ?_
  refine TW.seq ?_
  refine TW.region ?_
  refine TO.y (Y.assign rfl) rfl rfl rfl ?_
  refine TO.nil ?_
  refine TE.next ?_
  refine TW.joinX (τ := Int) (X := Unit) (fun T _ => [(1, .int .i64 T)]) (fun _ _ => []) ?_ (fun T3 X4 => ?_)
  · refine TW.block ?_
    refine TW.loopX (σ := Int × Int) (X := Unit) (fun T _ => [(0, V_a0), (1, .int .i64 T.1), (5, .int .i64 T.2)]) (fun _ _ => []) () [] ⟨rfl, rfl, rfl, trivial⟩ rfl (fun S1 X2 => ?_)
    refine TW.seq ?_
    refine TW.seq ?_
    refine TW.region ?_
    refine TO.y (Y.move rfl) rfl rfl rfl ?_
    refine TO.y (Y.move rfl) rfl rfl rfl ?_
    refine TO.y (Y.len (l := a) ke33 (Base.can HB_V_a0) rfl) rfl rfl rfl ?_
    refine TO.y (Y.lss rfl rfl) rfl rfl rfl ?_
    refine TO.nil ?_
    refine TE.next ?_
    refine TW.cond rfl (fun H5 => ?_) (fun H5 => ?_)
    · refine TW.skip ?_
      refine TE.next ?_
      refine TW.seq ?_
      refine TW.block ?_
      refine TW.seq ?_
      refine TW.seq ?_
      refine TW.region ?_
      refine TO.y (Y.move rfl) rfl rfl rfl ?_
      refine TO.y (Y.move rfl) rfl rfl rfl ?_
      refine TO.bind fun E6 H7 => ?_
      refine TO.y (Y.index ke33 (Base.can HB_V_a0) H7 rfl rfl) rfl rfl rfl ?_
      refine TO.y (Y.load_el (us := [.int .i64 E6]) (u := .int .i64 E6) kk3 rfl (Base.can HB_V_a0) (idx_get H7).2.2 rfl rfl rfl rfl rfl) rfl rfl rfl ?_
      refine TO.y (Y.move rfl) rfl rfl rfl ?_
      refine TO.y (Y.neq rfl rfl) rfl rfl rfl ?_
      refine TO.nil ?_
      refine TE.next ?_
      refine TW.cond rfl (fun H8 => ?_) (fun H8 => ?_)
      · refine TW.seq ?_
        refine TW.region ?_
        refine TO.y (Y.assign rfl) rfl rfl rfl ?_
        refine TO.nil ?_
        refine TE.next ?_
        refine TW.ret ?_
        refine TE.then_ret ?_
        refine TE.block_ret ?_
        refine TE.then_ret ?_
        refine TE.lp_ret ?_
        refine TE.block_ret ?_
        refine TE.jn_done ?_
        refine TE.then_ret ?_
        exact TE.leaf fun _ _ hf_ hs_ => ret_any (rs := [.tmp 4]) (vs := [.int .i64 (-1 : Int)]) (.inl rfl) rfl ⟨rfl, trivial⟩ hf_ hs_ ⟨(), rfl, hs_.pulls [] rfl⟩
      · refine TW.skip ?_
        refine TE.next ?_
        refine TW.region ?_
        refine TO.y (Y.move rfl) rfl rfl rfl ?_
        refine TO.y (Y.add rfl rfl) rfl rfl rfl ?_
        refine TO.y (Y.assign rfl) rfl rfl rfl ?_
        refine TO.nil ?_
        refine TE.block_normal ?_
        refine TE.next ?_
        refine TW.region ?_
        refine TO.y (Y.move rfl) rfl rfl rfl ?_
        refine TO.y (Y.add rfl rfl) rfl rfl rfl ?_
        refine TO.y (Y.assign rfl) rfl rfl rfl ?_
        refine TO.nil ?_
        exact TE.lp_go () [] ⟨rfl, rfl, rfl, trivial⟩ rfl
    · refine TW.exit ?_
      refine TE.then_exit ?_
      refine TE.lp_exit ?_
      refine TE.block_exit ?_
      exact TE.jn_go () [] ⟨rfl, trivial⟩ rfl
  · refine TE.next ?_
    refine TW.seq ?_
    refine TW.region ?_
    refine TO.y (Y.move rfl) rfl rfl rfl ?_
    refine TO.y (Y.assign rfl) rfl rfl rfl ?_
    refine TO.nil ?_
    refine TE.next ?_
    refine TW.ret ?_
    exact TE.leaf fun _ _ hf_ hs_ => ret_any (rs := [.tmp 4]) (vs := [.int .i64 T3]) (.inl rfl) rfl ⟨rfl, trivial⟩ hf_ hs_ ⟨(), rfl, hs_.pulls [] rfl⟩

/-- loop.example/g00950/laws.heldSpace -/
noncomputable def laws_heldSpace (a : Space) (k : Int) : Option Int :=
  (laws_heldIntS a.Owner k).bind fun R2 =>
  if (decide (R2 < (0 : Int))) = true then (some (-1 : Int))
  else (some R2)

theorem laws_heldSpace_con (a : Space) (k : Int) (V_a0 : Value) (r : Int) (hm : laws_heldSpace a k = some r) :
    Con Try.prog 20 [.agg #[V_a0], .int .i64 k] [] [(V_a0, lc 3 a.Owner)] (fun _ : Unit => .int .i64 r) (fun _ => []) := by
  refine Con.intro (args := [.agg #[V_a0], .int .i64 k]) (n := 12) (val := fun r (_ : Unit) => .int .i64 r) (post := fun _ _ => []) (m := laws_heldSpace a k) Try.func20 rfl rfl rfl hm ?_
  intro w S hrd
  have HB_V_a0 := hrd _ (.head _)
  clear hrd
  unfold laws_heldSpace
  refine TW.seq ?_
  refine TW.region ?_
  refine TO.ef (Ef.box rfl (Cel.agg ⟨(One.can (Base.can HB_V_a0)), trivial⟩)) rfl rfl rfl (fun B1 => ?_)
  refine TO.y (Y.assign rfl) rfl rfl rfl ?_
  refine TO.nil ?_
  refine TE.next ?_
  refine TW.seq ?_
  refine TW.region ?_
  refine TO.y (Y.field_box kf37_0 rfl rfl) rfl rfl rfl ?_
  refine TO.y (Y.load_box (v := V_a0) 0 kk33 rfl rfl rfl) rfl rfl rfl ?_
  refine TO.y (Y.move rfl) rfl rfl rfl ?_
  refine TO.bind fun R2 H3 => ?_
  refine TO.ef (Ef.call (rest := [.box B1 37 [V_a0]]) [0] (laws_heldIntS_con a.Owner k V_a0 R2 H3) kc25 rfl rfl ⟨(Base.can HB_V_a0), trivial⟩) rfl rfl rfl (fun _ => ?_)
  refine TO.y (Y.assign rfl) rfl rfl rfl ?_
  refine TO.nil ?_
  refine TE.next ?_
  refine TW.seq ?_
  refine TW.seq ?_
  refine TW.region ?_
  refine TO.y (Y.move rfl) rfl rfl rfl ?_
  refine TO.y (Y.lss rfl rfl) rfl rfl rfl ?_
  refine TO.nil ?_
  refine TE.next ?_
  refine TW.cond rfl (fun H5 => ?_) (fun H5 => ?_)
  · refine TW.seq ?_
    refine TW.region ?_
    refine TO.y (Y.assign rfl) rfl rfl rfl ?_
    refine TO.nil ?_
    refine TE.next ?_
    refine TW.ret ?_
    refine TE.then_ret ?_
    exact TE.leaf fun _ _ hf_ hs_ => ret_any (rs := [.tmp 4]) (vs := [.int .i64 (-1 : Int)]) (.inl rfl) rfl ⟨rfl, trivial⟩ hf_ hs_ ⟨(), rfl, hs_.pulls [] rfl⟩
  · refine TW.skip ?_
    refine TE.next ?_
    refine TW.seq ?_
    refine TW.region ?_
    refine TO.y (Y.move rfl) rfl rfl rfl ?_
    refine TO.y (Y.assign rfl) rfl rfl rfl ?_
    refine TO.nil ?_
    refine TE.next ?_
    refine TW.ret ?_
    exact TE.leaf fun _ _ hf_ hs_ => ret_any (rs := [.tmp 4]) (vs := [.int .i64 R2]) (.inl rfl) rfl ⟨rfl, trivial⟩ hf_ hs_ ⟨(), rfl, hs_.pulls [] rfl⟩

/-- loop.example/g00950/laws.FnExactSpaceWipe -/
noncomputable def laws_FnExactSpaceWipe (aS : Space) (aWho : Int) : Option Bool :=
  (laws_szSpace aS (1048576 : Int)).bind fun R2 =>
  if (decide (R2 < (0 : Int))) = true then (some true)
  else ((laws_toSpace aS).bind fun R6 =>
  (spec_SpaceWipe R6 aWho).bind fun R9 =>
  (impl_SpaceWipe R6 aWho).bind fun R15 =>
  ((laws_eqSpace R15.1 R9.1).bind fun R21 =>
  if (!R21) = true then (some true)
  else (some (!(decide (R15.2 = R9.2))))).bind (fun (T19 : Bool) =>
  if T19 = true then (some false)
  else ((laws_eqSpace R6 R6).bind fun R27 =>
  if (!R27) = true then (some false)
  else ((laws_markSpace R6 (1 : Int)).bind fun R31 =>
  (if (decide (R31.1 < (0 : Int))) = true then (some true)
  else ((laws_eqSpace R15.1 R9.1).bind fun R37 =>
  if (!R37) = true then (some true)
  else (some (!(decide (R15.2 = R9.2)))))).bind (fun (T34 : Bool) =>
  if T34 = true then (some false)
  else ((laws_markSpace R15.1 (1 : Int)).bind fun R42 =>
  (laws_heldSpace ({ Owner := R42.2 : Space }) (1 : Int)).bind fun R45 =>
  if (decide (R45 < (0 : Int))) = true then (some false)
  else (if (!(decide (R45 = R42.1))) = true then (some false)
  else (((laws_eqSpace R15.1 R9.1).bind fun R55 =>
  if (!R55) = true then (some true)
  else (some (!(decide (R15.2 = R9.2))))).bind (fun (T53 : Bool) =>
  if T53 = true then (some false)
  else (if (decide (R45 < (0 : Int))) = true then (some false)
  else (if (!(decide (R45 = R42.1))) = true then (some false)
  else (some true))))))))))))

theorem laws_FnExactSpaceWipe_con (aS : Space) (aWho : Int) (V_aS0 : Value) (r : Bool) (hm : laws_FnExactSpaceWipe aS aWho = some r) :
    Con Try.prog 4 [.agg #[V_aS0], .int .i64 aWho] [] [(V_aS0, lc 3 aS.Owner)] (fun _ : Unit => .bool r) (fun _ => []) := by
  refine Con.intro (args := [.agg #[V_aS0], .int .i64 aWho]) (n := 101) (val := fun r (_ : Unit) => .bool r) (post := fun _ _ => []) (m := laws_FnExactSpaceWipe aS aWho) Try.func4 rfl rfl rfl hm ?_
  intro w S hrd
  have HB_V_aS0 := hrd _ (.head _)
  clear hrd
  unfold laws_FnExactSpaceWipe
  refine TW.seq ?_
  refine TW.region ?_
  refine TO.ef (Ef.box rfl (Cel.agg ⟨(One.can (Base.can HB_V_aS0)), trivial⟩)) rfl rfl rfl (fun B1 => ?_)
  refine TO.y (Y.assign rfl) rfl rfl rfl ?_
  refine TO.nil ?_
  refine TE.next ?_
  refine TW.seq ?_
  refine TW.region ?_
  refine TO.y (Y.assign rfl) rfl rfl rfl ?_
  refine TO.nil ?_
  refine TE.next ?_
  refine TW.seq ?_
  refine TW.region ?_
  refine TO.y (Y.load_box (v := .agg #[V_aS0]) 0 kk35 rfl rfl rfl) rfl rfl rfl ?_
  refine TO.y (Y.move rfl) rfl rfl rfl ?_
  refine TO.bind fun R2 H3 => ?_
  refine TO.ef (Ef.call (rest := [.box B1 35 [V_aS0]]) [0] (laws_szSpace_con aS (1048576 : Int) V_aS0 R2 H3) kc14 rfl rfl ⟨(Base.can HB_V_aS0), trivial⟩) rfl rfl rfl (fun _ => ?_)
  refine TO.y (Y.assign rfl) rfl rfl rfl ?_
  refine TO.nil ?_
  refine TE.next ?_
  refine TW.seq ?_
  refine TW.seq ?_
  refine TW.region ?_
  refine TO.y (Y.move rfl) rfl rfl rfl ?_
  refine TO.y (Y.lss rfl rfl) rfl rfl rfl ?_
  refine TO.nil ?_
  refine TE.next ?_
  refine TW.cond rfl (fun H5 => ?_) (fun H5 => ?_)
  · refine TW.seq ?_
    refine TW.region ?_
    refine TO.y (Y.assign rfl) rfl rfl rfl ?_
    refine TO.nil ?_
    refine TE.next ?_
    refine TW.ret ?_
    refine TE.then_ret ?_
    exact TE.leaf fun _ _ hf_ hs_ => ret_any (rs := [.tmp 4]) (vs := [.bool true]) (.inl rfl) rfl ⟨rfl, trivial⟩ hf_ hs_ ⟨(), rfl, hs_.pulls [] rfl⟩
  · refine TW.skip ?_
    refine TE.next ?_
    refine TW.seq ?_
    refine TW.region ?_
    refine TO.y (Y.load_box (v := .agg #[V_aS0]) 0 kk35 rfl rfl rfl) rfl rfl rfl ?_
    refine TO.bind fun R6 H7 => ?_
    refine TO.ef (Ef.call (rest := [.box B1 35 [V_aS0]]) [0] (laws_toSpace_con aS V_aS0 R6 H7) kc16 rfl rfl ⟨(Base.can HB_V_aS0), trivial⟩) rfl rfl rfl (fun Y8 => ?_)
    refine TO.y (Y.move rfl) rfl rfl rfl ?_
    refine TO.bind fun R9 H10 => ?_
    refine TO.ef (Ef.call (rest := [.own Y8 (lc 3 R6.Owner), .box B1 35 [V_aS0]]) [0, 0] (spec_SpaceWipe_con R6 aWho Y8 R9 H10) kc15 rfl rfl ⟨(Can.own 0 rfl), trivial⟩) rfl rfl rfl (fun Y11 => ?_)
    refine TO.y (Y.move rfl) rfl rfl rfl ?_
    refine TO.y (Y.extract rfl rfl) rfl rfl rfl ?_
    refine TO.y (Y.extract rfl rfl) rfl rfl rfl ?_
    refine TO.ef (Ef.alloc kz37 rfl) rfl rfl rfl (fun B12 => ?_)
    refine TO.ef0 (Ef.store_box (us := [Y11]) (vs' := [Y11]) (is' := [.box B12 37 [Y11], .own Y11 (lc 3 R9.1.Owner), .own Y8 (lc 3 R6.Owner), .box B1 35 [V_aS0]]) 0 kk37 rfl rfl rfl (Cel.agg ⟨(One.can (Can.own 1 rfl)), trivial⟩) rfl rfl rfl rfl) rfl rfl (fun _ => ?_)
    refine TO.y (Y.assign rfl) rfl rfl rfl ?_
    refine TO.nil ?_
    refine TE.next ?_
    refine TW.seq ?_
    refine TW.region ?_
    refine TO.y (Y.load_box (v := .agg #[V_aS0]) 3 kk35 rfl rfl rfl) rfl rfl rfl ?_
    refine TO.ef (Ef.call (rest := [.box B12 37 [Y11], .own Y11 (lc 3 R9.1.Owner), .own Y8 (lc 3 R6.Owner), .box B1 35 [V_aS0]]) [0, 0, 0, 0] (laws_toSpace_con aS V_aS0 R6 H7) kc16 rfl rfl ⟨(Base.can HB_V_aS0), trivial⟩) rfl rfl rfl (fun Y13 => ?_)
    refine TO.ef (Ef.alloc kz37 rfl) rfl rfl rfl (fun B14 => ?_)
    refine TO.ef0 (Ef.store_box (us := [Y13]) (vs' := [Y13]) (is' := [.box B14 37 [Y13], .own Y13 (lc 3 R6.Owner), .box B12 37 [Y11], .own Y11 (lc 3 R9.1.Owner), .own Y8 (lc 3 R6.Owner), .box B1 35 [V_aS0]]) 0 kk37 rfl rfl rfl (Cel.agg ⟨(One.can (Can.own 1 rfl)), trivial⟩) rfl rfl rfl rfl) rfl rfl (fun _ => ?_)
    refine TO.nil ?_
    refine TE.next ?_
    refine TW.seq ?_
    refine TW.region ?_
    refine TO.y (Y.load_box (v := .agg #[Y13]) 0 kk37 rfl rfl rfl) rfl rfl rfl ?_
    refine TO.y (Y.move rfl) rfl rfl rfl ?_
    refine TO.bind fun R15 H16 => ?_
    refine TO.ef (Ef.call (rest := [.box B14 37 [Y13], .own Y13 (lc 3 R6.Owner), .box B12 37 [Y11], .own Y11 (lc 3 R9.1.Owner), .own Y8 (lc 3 R6.Owner), .box B1 35 [V_aS0]]) [0, 0, 0, 0, 0, 0] (impl_SpaceWipe_con R6 aWho Y13 R15 H16) kc17 rfl rfl ⟨(Can.own 1 rfl), trivial⟩) rfl rfl rfl (fun Y17 => ?_)
    refine TO.y (Y.move rfl) rfl rfl rfl ?_
    refine TO.y (Y.extract rfl rfl) rfl rfl rfl ?_
    refine TO.y (Y.extract rfl rfl) rfl rfl rfl ?_
    refine TO.ef (Ef.alloc kz37 rfl) rfl rfl rfl (fun B18 => ?_)
    refine TO.ef0 (Ef.store_box (us := [Y17]) (vs' := [Y17]) (is' := [.box B18 37 [Y17], .own Y17 (lc 3 R15.1.Owner), .box B14 37 [Y13], .own Y13 (lc 3 R6.Owner), .box B12 37 [Y11], .own Y11 (lc 3 R9.1.Owner), .own Y8 (lc 3 R6.Owner), .box B1 35 [V_aS0]]) 0 kk37 rfl rfl rfl (Cel.agg ⟨(One.can (Can.own 1 rfl)), trivial⟩) rfl rfl rfl rfl) rfl rfl (fun _ => ?_)
    refine TO.y (Y.assign rfl) rfl rfl rfl ?_
    refine TO.nil ?_
    refine TE.next ?_
    refine TW.seq ?_
    refine TW.seq ?_
    refine TW.joinBX (τ := Bool) (X := Unit) (fun T _ => [(1, .int .i64 aWho), (2, .pointer (some ⟨B1, 0, none⟩)), (6, .pointer (some ⟨B12, 0, none⟩)), (7, .int .i64 R9.2), (8, .pointer (some ⟨B14, 0, none⟩)), (9, .pointer (some ⟨B18, 0, none⟩)), (10, .int .i64 R15.2), (44, .bool T)]) (fun _ _ => [.box B1 35 [V_aS0], .box B12 37 [Y11], .box B14 37 [Y13], .box B18 37 [Y17], .own Y11 (lc 3 R9.1.Owner), .own Y13 (lc 3 R6.Owner), .own Y17 (lc 3 R15.1.Owner)]) ?_ (fun T19 X20 => ?_)
    · refine TW.region ?_
      refine TO.y (Y.load_box (v := .agg #[Y17]) 0 kk37 rfl rfl rfl) rfl rfl rfl ?_
      refine TO.y (Y.load_box (v := .agg #[Y11]) 4 kk37 rfl rfl rfl) rfl rfl rfl ?_
      refine TO.bind fun R21 H22 => ?_
      refine TO.ef (Ef.call (rest := [.box B18 37 [Y17], .own Y17 (lc 3 R15.1.Owner), .box B14 37 [Y13], .own Y13 (lc 3 R6.Owner), .box B12 37 [Y11], .own Y11 (lc 3 R9.1.Owner), .own Y8 (lc 3 R6.Owner), .box B1 35 [V_aS0]]) [0, 0, 0, 0, 0, 0, 0, 0] (laws_eqSpace_con R15.1 R9.1 Y17 Y11 R21 H22) kc18 rfl rfl ⟨(Can.own 1 rfl), (Can.own 5 rfl), trivial⟩) rfl rfl rfl (fun _ => ?_)
      refine TO.y (Y.not rfl) rfl rfl rfl ?_
      refine TO.y (Y.move rfl) rfl rfl rfl ?_
      refine TO.ite (b := !R21) (fun H24 => ?_) (fun H24 => ?_)
      · refine TO.off (Gd.at 4 false 40 (!R21) rfl rfl rfl (beq_tf H24)) rfl rfl ?_
        refine TO.off (Gd.at 4 false 40 (!R21) rfl rfl rfl (beq_tf H24)) rfl rfl ?_
        refine TO.off (Gd.at 4 false 40 (!R21) rfl rfl rfl (beq_tf H24)) rfl rfl ?_
        refine TO.y (Y.pick_t H24 rfl rfl) rfl rfl rfl ?_
        refine TO.nil ?_
        exact TE.jb_go () [7, 4, 2, 0, 2, 1, 0] ⟨rfl, rfl, rfl, rfl, rfl, rfl, rfl, rfl, trivial⟩ rfl
      · refine TO.y (Y.move rfl) (Gd.at 4 false 40 (!R21) rfl rfl rfl (beq_ff H24)) rfl rfl ?_
        refine TO.y (Y.move rfl) (Gd.at 4 false 40 (!R21) rfl rfl rfl (beq_ff H24)) rfl rfl ?_
        refine TO.y (Y.neq rfl rfl) (Gd.at 4 false 40 (!R21) rfl rfl rfl (beq_ff H24)) rfl rfl ?_
        refine TO.y (Y.pick_f H24 rfl rfl) rfl rfl rfl ?_
        refine TO.nil ?_
        exact TE.jb_go () [7, 4, 2, 0, 2, 1, 0] ⟨rfl, rfl, rfl, rfl, rfl, rfl, rfl, rfl, trivial⟩ rfl
    · refine TE.next ?_
      refine TW.cond rfl (fun H25 => ?_) (fun H25 => ?_)
      · refine TW.seq ?_
        refine TW.region ?_
        refine TO.y (Y.assign rfl) rfl rfl rfl ?_
        refine TO.nil ?_
        refine TE.next ?_
        refine TW.ret ?_
        refine TE.then_ret ?_
        exact TE.leaf fun _ _ hf_ hs_ => ret_any (rs := [.tmp 4]) (vs := [.bool false]) (.inl rfl) rfl ⟨rfl, trivial⟩ hf_ hs_ ⟨(), rfl, hs_.pulls [] rfl⟩
      · refine TW.skip ?_
        refine TE.next ?_
        refine TW.seq ?_
        refine TW.seq ?_
        refine TW.draw (isH := [.box B1 35 [V_aS0], .box B12 37 [Y11], .box B14 37 [Y13], .box B18 37 [Y17], .own Y11 (lc 3 R9.1.Owner), .own Y13 (lc 3 R6.Owner), .own Y17 (lc 3 R15.1.Owner)]) hMix ?_
        refine TA.y (listed' := #[true, false, false, false, false]) 0 [0, 0, 0, 0, 0, 0, 0] rfl (Y.load_box (v := .agg #[Y13]) 2 kk37 rfl rfl rfl) rfl rfl rfl (by kernel_rfl) (by kernel_rfl) (by kernel_rfl) rfl rfl ?_
        refine TA.y (listed' := #[true, true, false, false, false]) 1 [0, 0, 0, 0, 0, 0, 0] rfl (Y.load_box (v := .agg #[V_aS0]) 0 kk35 rfl rfl rfl) rfl rfl rfl (by kernel_rfl) (by kernel_rfl) (by kernel_rfl) rfl rfl ?_
        refine TA.one 2 (by kernel_rfl) ?_
        refine TX.ef (listed' := #[true, true, true, false, false]) [1, 1, 1, 1, 1, 1, 1] rfl (Ef.call (rest := [.box B1 35 [V_aS0], .box B12 37 [Y11], .box B14 37 [Y13], .box B18 37 [Y17], .own Y11 (lc 3 R9.1.Owner), .own Y13 (lc 3 R6.Owner), .own Y17 (lc 3 R15.1.Owner)]) [0, 0, 0, 0, 0, 0, 0] (laws_toSpace_con aS V_aS0 R6 H7) kc16 rfl rfl ⟨(Base.can HB_V_aS0), trivial⟩) rfl rfl rfl rfl (fun _ => rfl) (fun Y26 => ?_)
        refine TA.bind fun R27 H28 => ?_
        refine TA.one 3 (by kernel_rfl) ?_
        refine TX.ef (listed' := #[true, true, true, true, false]) [1, 1, 1, 1, 1, 1, 1] rfl (Ef.call (rest := [.own Y26 (lc 3 R6.Owner), .box B1 35 [V_aS0], .box B12 37 [Y11], .box B14 37 [Y13], .box B18 37 [Y17], .own Y11 (lc 3 R9.1.Owner), .own Y13 (lc 3 R6.Owner), .own Y17 (lc 3 R15.1.Owner)]) [0, 0, 0, 0, 0, 0, 0, 0] (laws_eqSpace_con R6 R6 Y13 Y26 R27 H28) kc18 rfl rfl ⟨(Can.own 6 rfl), (Can.own 0 rfl), trivial⟩) rfl rfl rfl rfl (fun _ => rfl) (fun _ => ?_)
        refine TA.y (listed' := #[true, true, true, true, true]) 4 [1, 1, 1, 1, 1, 1, 1] rfl (Y.not rfl) rfl rfl rfl (by kernel_rfl) (by kernel_rfl) (by kernel_rfl) rfl rfl ?_
        refine TA.nil (by kernel_rfl) ?_
        refine TE.next ?_
        refine TW.cond rfl (fun H30 => ?_) (fun H30 => ?_)
        · refine TW.seq ?_
          refine TW.region ?_
          refine TO.y (Y.assign rfl) rfl rfl rfl ?_
          refine TO.nil ?_
          refine TE.next ?_
          refine TW.ret ?_
          refine TE.then_ret ?_
          exact TE.leaf fun _ _ hf_ hs_ => ret_any (rs := [.tmp 4]) (vs := [.bool false]) (.inl rfl) rfl ⟨rfl, trivial⟩ hf_ hs_ ⟨(), rfl, hs_.pulls [] rfl⟩
        · refine TW.skip ?_
          refine TE.next ?_
          refine TW.seq ?_
          refine TW.region ?_
          refine TO.y (Y.assign rfl) rfl rfl rfl ?_
          refine TO.nil ?_
          refine TE.next ?_
          refine TW.seq ?_
          refine TW.region ?_
          refine TO.y (Y.load_box (v := .agg #[Y13]) 3 kk37 rfl rfl rfl) rfl rfl rfl ?_
          refine TO.y (Y.move rfl) rfl rfl rfl ?_
          refine TO.bind fun R31 H32 => ?_
          refine TO.ef (Ef.call (rest := [.own Y26 (lc 3 R6.Owner), .box B1 35 [V_aS0], .box B12 37 [Y11], .box B14 37 [Y13], .box B18 37 [Y17], .own Y11 (lc 3 R9.1.Owner), .own Y17 (lc 3 R15.1.Owner)]) [6, 0, 0, 0, 0, 0, 0, 0] (laws_markSpace_con R6 (1 : Int) Y13 R31 H32) kc19 rfl rfl trivial) rfl rfl rfl (fun _ => ?_)
          refine TO.y (Y.assign rfl) rfl rfl rfl ?_
          refine TO.nil ?_
          refine TE.next ?_
          refine TW.seq ?_
          refine TW.seq ?_
          refine TW.joinBX (τ := Bool) (X := Unit) (fun T _ => [(1, .int .i64 aWho), (2, .pointer (some ⟨B1, 0, none⟩)), (6, .pointer (some ⟨B12, 0, none⟩)), (7, .int .i64 R9.2), (9, .pointer (some ⟨B18, 0, none⟩)), (65, .bool T)]) (fun _ _ => [.box B1 35 [V_aS0], .box B12 37 [Y11], .box B18 37 [Y17], .own Y11 (lc 3 R9.1.Owner), .own Y17 (lc 3 R15.1.Owner)]) ?_ (fun T34 X35 => ?_)
          · refine TW.region ?_
            refine TO.y (Y.move rfl) rfl rfl rfl ?_
            refine TO.y (Y.lss rfl rfl) rfl rfl rfl ?_
            refine TO.y (Y.move rfl) rfl rfl rfl ?_
            refine TO.ite (b := decide (R31.1 < (0 : Int))) (fun H36 => ?_) (fun H36 => ?_)
            · refine TO.off (Gd.at 2 false 55 (decide (R31.1 < (0 : Int))) rfl rfl rfl (beq_tf H36)) rfl rfl ?_
              refine TO.off (Gd.at 2 false 55 (decide (R31.1 < (0 : Int))) rfl rfl rfl (beq_tf H36)) rfl rfl ?_
              refine TO.off (Gd.at 2 false 55 (decide (R31.1 < (0 : Int))) rfl rfl rfl (beq_tf H36)) rfl rfl ?_
              refine TO.off (Gd.at 2 false 55 (decide (R31.1 < (0 : Int))) rfl rfl rfl (beq_tf H36)) rfl rfl ?_
              refine TO.y (Y.pick_t H36 rfl rfl) rfl rfl rfl ?_
              refine TO.y (Y.move rfl) rfl rfl rfl ?_
              refine TO.off (Gd.at 8 false 61 true rfl rfl rfl rfl) rfl rfl ?_
              refine TO.off (Gd.at 8 false 61 true rfl rfl rfl rfl) rfl rfl ?_
              refine TO.off (Gd.at 8 false 61 true rfl rfl rfl rfl) rfl rfl ?_
              refine TO.y (Y.pick_t rfl rfl rfl) rfl rfl rfl ?_
              refine TO.nil ?_
              exact TE.jb_go () [2, 2, 3, 3, 3] ⟨rfl, rfl, rfl, rfl, rfl, rfl, trivial⟩ rfl
            · refine TO.y (Y.load_box (v := .agg #[Y17]) 5 kk37 rfl rfl rfl) (Gd.at 2 false 55 (decide (R31.1 < (0 : Int))) rfl rfl rfl (beq_ff H36)) rfl rfl ?_
              refine TO.y (Y.load_box (v := .agg #[Y11]) 3 kk37 rfl rfl rfl) (Gd.at 2 false 55 (decide (R31.1 < (0 : Int))) rfl rfl rfl (beq_ff H36)) rfl rfl ?_
              refine TO.bind fun R37 H38 => ?_
              refine TO.ef (Ef.call (rest := [.own Y13 (lc 3 R31.2), .own Y26 (lc 3 R6.Owner), .box B1 35 [V_aS0], .box B12 37 [Y11], .box B14 37 [Y13], .box B18 37 [Y17], .own Y11 (lc 3 R9.1.Owner), .own Y17 (lc 3 R15.1.Owner)]) [0, 0, 0, 0, 0, 0, 0, 0] (laws_eqSpace_con R15.1 R9.1 Y17 Y11 R37 H38) kc18 rfl rfl ⟨(Can.own 7 rfl), (Can.own 6 rfl), trivial⟩) (Gd.at 2 false 55 (decide (R31.1 < (0 : Int))) rfl rfl rfl (beq_ff H36)) rfl rfl (fun _ => ?_)
              refine TO.y (Y.not rfl) (Gd.at 2 false 55 (decide (R31.1 < (0 : Int))) rfl rfl rfl (beq_ff H36)) rfl rfl ?_
              refine TO.y (Y.pick_f H36 rfl rfl) rfl rfl rfl ?_
              refine TO.y (Y.move rfl) rfl rfl rfl ?_
              refine TO.ite (b := !R37) (fun H40 => ?_) (fun H40 => ?_)
              · refine TO.off (Gd.at 8 false 61 (!R37) rfl rfl rfl (beq_tf H40)) rfl rfl ?_
                refine TO.off (Gd.at 8 false 61 (!R37) rfl rfl rfl (beq_tf H40)) rfl rfl ?_
                refine TO.off (Gd.at 8 false 61 (!R37) rfl rfl rfl (beq_tf H40)) rfl rfl ?_
                refine TO.y (Y.pick_t H40 rfl rfl) rfl rfl rfl ?_
                refine TO.nil ?_
                exact TE.jb_go () [2, 2, 3, 3, 3] ⟨rfl, rfl, rfl, rfl, rfl, rfl, trivial⟩ rfl
              · refine TO.y (Y.move rfl) (Gd.at 8 false 61 (!R37) rfl rfl rfl (beq_ff H40)) rfl rfl ?_
                refine TO.y (Y.move rfl) (Gd.at 8 false 61 (!R37) rfl rfl rfl (beq_ff H40)) rfl rfl ?_
                refine TO.y (Y.neq rfl rfl) (Gd.at 8 false 61 (!R37) rfl rfl rfl (beq_ff H40)) rfl rfl ?_
                refine TO.y (Y.pick_f H40 rfl rfl) rfl rfl rfl ?_
                refine TO.nil ?_
                exact TE.jb_go () [2, 2, 3, 3, 3] ⟨rfl, rfl, rfl, rfl, rfl, rfl, trivial⟩ rfl
          · refine TE.next ?_
            refine TW.cond rfl (fun H41 => ?_) (fun H41 => ?_)
            · refine TW.seq ?_
              refine TW.region ?_
              refine TO.y (Y.assign rfl) rfl rfl rfl ?_
              refine TO.nil ?_
              refine TE.next ?_
              refine TW.ret ?_
              refine TE.then_ret ?_
              exact TE.leaf fun _ _ hf_ hs_ => ret_any (rs := [.tmp 4]) (vs := [.bool false]) (.inl rfl) rfl ⟨rfl, trivial⟩ hf_ hs_ ⟨(), rfl, hs_.pulls [] rfl⟩
            · refine TW.skip ?_
              refine TE.next ?_
              refine TW.seq ?_
              refine TW.region ?_
              refine TO.y (Y.assign rfl) rfl rfl rfl ?_
              refine TO.nil ?_
              refine TE.next ?_
              refine TW.seq ?_
              refine TW.region ?_
              refine TO.y (Y.load_box (v := .agg #[Y17]) 2 kk37 rfl rfl rfl) rfl rfl rfl ?_
              refine TO.y (Y.move rfl) rfl rfl rfl ?_
              refine TO.bind fun R42 H43 => ?_
              refine TO.ef (Ef.call (rest := [.box B1 35 [V_aS0], .box B12 37 [Y11], .box B18 37 [Y17], .own Y11 (lc 3 R9.1.Owner)]) [4, 0, 0, 0, 0] (laws_markSpace_con R15.1 (1 : Int) Y17 R42 H43) kc19 rfl rfl trivial) rfl rfl rfl (fun _ => ?_)
              refine TO.y (Y.assign rfl) rfl rfl rfl ?_
              refine TO.nil ?_
              refine TE.next ?_
              refine TW.seq ?_
              refine TW.region ?_
              refine TO.y (Y.assign rfl) rfl rfl rfl ?_
              refine TO.nil ?_
              refine TE.next ?_
              refine TW.seq ?_
              refine TW.region ?_
              refine TO.y (Y.load_box (v := .agg #[Y17]) 3 kk37 rfl rfl rfl) rfl rfl rfl ?_
              refine TO.y (Y.move rfl) rfl rfl rfl ?_
              refine TO.bind fun R45 H46 => ?_
              refine TO.ef (Ef.call (rest := [.own Y17 (lc 3 R42.2), .box B1 35 [V_aS0], .box B12 37 [Y11], .box B18 37 [Y17], .own Y11 (lc 3 R9.1.Owner)]) [0, 0, 0, 0, 0] (laws_heldSpace_con ({ Owner := R42.2 : Space }) (1 : Int) Y17 R45 H46) kc20 rfl rfl ⟨(Can.own 0 rfl), trivial⟩) rfl rfl rfl (fun _ => ?_)
              refine TO.y (Y.assign rfl) rfl rfl rfl ?_
              refine TO.nil ?_
              refine TE.next ?_
              refine TW.seq ?_
              refine TW.seq ?_
              refine TW.region ?_
              refine TO.y (Y.move rfl) rfl rfl rfl ?_
              refine TO.y (Y.lss rfl rfl) rfl rfl rfl ?_
              refine TO.nil ?_
              refine TE.next ?_
              refine TW.cond rfl (fun H48 => ?_) (fun H48 => ?_)
              · refine TW.seq ?_
                refine TW.region ?_
                refine TO.y (Y.assign rfl) rfl rfl rfl ?_
                refine TO.nil ?_
                refine TE.next ?_
                refine TW.ret ?_
                refine TE.then_ret ?_
                exact TE.leaf fun _ _ hf_ hs_ => ret_any (rs := [.tmp 4]) (vs := [.bool false]) (.inl rfl) rfl ⟨rfl, trivial⟩ hf_ hs_ ⟨(), rfl, hs_.pulls [] rfl⟩
              · refine TW.skip ?_
                refine TE.next ?_
                refine TW.seq ?_
                refine TW.seq ?_
                refine TW.region ?_
                refine TO.y (Y.move rfl) rfl rfl rfl ?_
                refine TO.y (Y.move rfl) rfl rfl rfl ?_
                refine TO.y (Y.neq rfl rfl) rfl rfl rfl ?_
                refine TO.nil ?_
                refine TE.next ?_
                refine TW.cond rfl (fun H49 => ?_) (fun H49 => ?_)
                · refine TW.seq ?_
                  refine TW.region ?_
                  refine TO.y (Y.assign rfl) rfl rfl rfl ?_
                  refine TO.nil ?_
                  refine TE.next ?_
                  refine TW.ret ?_
                  refine TE.then_ret ?_
                  exact TE.leaf fun _ _ hf_ hs_ => ret_any (rs := [.tmp 4]) (vs := [.bool false]) (.inl rfl) rfl ⟨rfl, trivial⟩ hf_ hs_ ⟨(), rfl, hs_.pulls [] rfl⟩
                · refine TW.skip ?_
                  refine TE.next ?_
                  refine TW.seq ?_
                  refine TW.region ?_
                  refine TO.y (Y.load_box (v := .agg #[V_aS0]) 1 kk35 rfl rfl rfl) rfl rfl rfl ?_
                  refine TO.ef (Ef.call (rest := [.own Y17 (lc 3 R42.2), .box B1 35 [V_aS0], .box B12 37 [Y11], .box B18 37 [Y17], .own Y11 (lc 3 R9.1.Owner)]) [0, 0, 0, 0, 0] (laws_toSpace_con aS V_aS0 R6 H7) kc16 rfl rfl ⟨(Base.can HB_V_aS0), trivial⟩) rfl rfl rfl (fun Y50 => ?_)
                  refine TO.y (Y.move rfl) rfl rfl rfl ?_
                  refine TO.ef (Ef.call (rest := [.own Y50 (lc 3 R6.Owner), .own Y17 (lc 3 R42.2), .box B1 35 [V_aS0], .box B12 37 [Y11], .box B18 37 [Y17], .own Y11 (lc 3 R9.1.Owner)]) [0, 0, 0, 0, 0, 0] (impl_SpaceWipe_con R6 aWho Y50 R15 H16) kc17 rfl rfl ⟨(Can.own 0 rfl), trivial⟩) rfl rfl rfl (fun Y51 => ?_)
                  refine TO.y (Y.move rfl) rfl rfl rfl ?_
                  refine TO.y (Y.extract rfl rfl) rfl rfl rfl ?_
                  refine TO.y (Y.extract rfl rfl) rfl rfl rfl ?_
                  refine TO.ef (Ef.alloc kz37 rfl) rfl rfl rfl (fun B52 => ?_)
                  refine TO.ef0 (Ef.store_box (us := [Y51]) (vs' := [Y51]) (is' := [.box B52 37 [Y51], .own Y51 (lc 3 R15.1.Owner), .own Y50 (lc 3 R6.Owner), .own Y17 (lc 3 R42.2), .box B1 35 [V_aS0], .box B12 37 [Y11], .box B18 37 [Y17], .own Y11 (lc 3 R9.1.Owner)]) 0 kk37 rfl rfl rfl (Cel.agg ⟨(One.can (Can.own 1 rfl)), trivial⟩) rfl rfl rfl rfl) rfl rfl (fun _ => ?_)
                  refine TO.y (Y.assign rfl) rfl rfl rfl ?_
                  refine TO.nil ?_
                  refine TE.next ?_
                  refine TW.seq ?_
                  refine TW.seq ?_
                  refine TW.joinBX (τ := Bool) (X := Unit) (fun T _ => [(9, .pointer (some ⟨B18, 0, none⟩)), (12, .int .i64 R42.1), (92, .bool T)]) (fun _ _ => [.box B18 37 [Y17], .own Y17 (lc 3 R42.2)]) ?_ (fun T53 X54 => ?_)
                  · refine TW.region ?_
                    refine TO.y (Y.load_box (v := .agg #[Y51]) 0 kk37 rfl rfl rfl) rfl rfl rfl ?_
                    refine TO.y (Y.load_box (v := .agg #[Y11]) 5 kk37 rfl rfl rfl) rfl rfl rfl ?_
                    refine TO.bind fun R55 H56 => ?_
                    refine TO.ef (Ef.call (rest := [.box B52 37 [Y51], .own Y51 (lc 3 R15.1.Owner), .own Y50 (lc 3 R6.Owner), .own Y17 (lc 3 R42.2), .box B1 35 [V_aS0], .box B12 37 [Y11], .box B18 37 [Y17], .own Y11 (lc 3 R9.1.Owner)]) [0, 0, 0, 0, 0, 0, 0, 0] (laws_eqSpace_con R15.1 R9.1 Y51 Y11 R55 H56) kc18 rfl rfl ⟨(Can.own 1 rfl), (Can.own 7 rfl), trivial⟩) rfl rfl rfl (fun _ => ?_)
                    refine TO.y (Y.not rfl) rfl rfl rfl ?_
                    refine TO.y (Y.move rfl) rfl rfl rfl ?_
                    refine TO.ite (b := !R55) (fun H58 => ?_) (fun H58 => ?_)
                    · refine TO.off (Gd.at 4 false 88 (!R55) rfl rfl rfl (beq_tf H58)) rfl rfl ?_
                      refine TO.off (Gd.at 4 false 88 (!R55) rfl rfl rfl (beq_tf H58)) rfl rfl ?_
                      refine TO.off (Gd.at 4 false 88 (!R55) rfl rfl rfl (beq_tf H58)) rfl rfl ?_
                      refine TO.y (Y.pick_t H58 rfl rfl) rfl rfl rfl ?_
                      refine TO.nil ?_
                      exact TE.jb_go () [6, 3] ⟨rfl, rfl, rfl, trivial⟩ rfl
                    · refine TO.y (Y.move rfl) (Gd.at 4 false 88 (!R55) rfl rfl rfl (beq_ff H58)) rfl rfl ?_
                      refine TO.y (Y.move rfl) (Gd.at 4 false 88 (!R55) rfl rfl rfl (beq_ff H58)) rfl rfl ?_
                      refine TO.y (Y.neq rfl rfl) (Gd.at 4 false 88 (!R55) rfl rfl rfl (beq_ff H58)) rfl rfl ?_
                      refine TO.y (Y.pick_f H58 rfl rfl) rfl rfl rfl ?_
                      refine TO.nil ?_
                      exact TE.jb_go () [6, 3] ⟨rfl, rfl, rfl, trivial⟩ rfl
                  · refine TE.next ?_
                    refine TW.cond rfl (fun H59 => ?_) (fun H59 => ?_)
                    · refine TW.seq ?_
                      refine TW.region ?_
                      refine TO.y (Y.assign rfl) rfl rfl rfl ?_
                      refine TO.nil ?_
                      refine TE.next ?_
                      refine TW.ret ?_
                      refine TE.then_ret ?_
                      exact TE.leaf fun _ _ hf_ hs_ => ret_any (rs := [.tmp 4]) (vs := [.bool false]) (.inl rfl) rfl ⟨rfl, trivial⟩ hf_ hs_ ⟨(), rfl, hs_.pulls [] rfl⟩
                    · refine TW.skip ?_
                      refine TE.next ?_
                      refine TW.seq ?_
                      refine TW.region ?_
                      refine TO.y (Y.assign rfl) rfl rfl rfl ?_
                      refine TO.nil ?_
                      refine TE.next ?_
                      refine TW.seq ?_
                      refine TW.region ?_
                      refine TO.y (Y.load_box (v := .agg #[Y17]) 0 kk37 rfl rfl rfl) rfl rfl rfl ?_
                      refine TO.y (Y.move rfl) rfl rfl rfl ?_
                      refine TO.ef (Ef.call (rest := [.box B18 37 [Y17], .own Y17 (lc 3 R42.2)]) [0, 0] (laws_heldSpace_con ({ Owner := R42.2 : Space }) (1 : Int) Y17 R45 H46) kc20 rfl rfl ⟨(Can.own 1 rfl), trivial⟩) rfl rfl rfl (fun _ => ?_)
                      refine TO.y (Y.assign rfl) rfl rfl rfl ?_
                      refine TO.nil ?_
                      refine TE.next ?_
                      refine TW.seq ?_
                      refine TW.seq ?_
                      refine TW.region ?_
                      refine TO.y (Y.move rfl) rfl rfl rfl ?_
                      refine TO.y (Y.lss rfl rfl) rfl rfl rfl ?_
                      refine TO.nil ?_
                      refine TE.next ?_
                      refine TW.cond rfl (fun H61 => ?_) (fun H61 => ?_)
                      · refine TW.seq ?_
                        refine TW.region ?_
                        refine TO.y (Y.assign rfl) rfl rfl rfl ?_
                        refine TO.nil ?_
                        refine TE.next ?_
                        refine TW.ret ?_
                        refine TE.then_ret ?_
                        exact TE.leaf fun _ _ hf_ hs_ => ret_any (rs := [.tmp 4]) (vs := [.bool false]) (.inl rfl) rfl ⟨rfl, trivial⟩ hf_ hs_ ⟨(), rfl, hs_.pulls [] rfl⟩
                      · refine TW.skip ?_
                        refine TE.next ?_
                        refine TW.seq ?_
                        refine TW.seq ?_
                        refine TW.region ?_
                        refine TO.y (Y.move rfl) rfl rfl rfl ?_
                        refine TO.y (Y.move rfl) rfl rfl rfl ?_
                        refine TO.y (Y.neq rfl rfl) rfl rfl rfl ?_
                        refine TO.nil ?_
                        refine TE.next ?_
                        refine TW.cond rfl (fun H62 => ?_) (fun H62 => ?_)
                        · refine TW.seq ?_
                          refine TW.region ?_
                          refine TO.y (Y.assign rfl) rfl rfl rfl ?_
                          refine TO.nil ?_
                          refine TE.next ?_
                          refine TW.ret ?_
                          refine TE.then_ret ?_
                          exact TE.leaf fun _ _ hf_ hs_ => ret_any (rs := [.tmp 4]) (vs := [.bool false]) (.inl rfl) rfl ⟨rfl, trivial⟩ hf_ hs_ ⟨(), rfl, hs_.pulls [] rfl⟩
                        · refine TW.skip ?_
                          refine TE.next ?_
                          refine TW.seq ?_
                          refine TW.region ?_
                          refine TO.y (Y.assign rfl) rfl rfl rfl ?_
                          refine TO.nil ?_
                          refine TE.next ?_
                          refine TW.ret ?_
                          exact TE.leaf fun _ _ hf_ hs_ => ret_any (rs := [.tmp 4]) (vs := [.bool true]) (.inl rfl) rfl ⟨rfl, trivial⟩ hf_ hs_ ⟨(), rfl, hs_.pulls [] rfl⟩

/-- loop.example/g00950/spec.SpaceTake -/
noncomputable def spec_SpaceTake (s : Space) (who : Int) (n : Int) : Option (Space × List Int × Bool) :=
  (spec_SpaceOk s).bind fun R3 =>
  if (!R3) = true then (some ({ Owner := ([] : List Int) : Space }, ([] : List Int), false))
  else ((spec_l18Copy s).bind fun R9 =>
  bindC (loopO (fun (S14 : Int × List Int) => (if (decide (S14.1 < ((s.Owner.length : Nat) : Int))) = true then (some (decide (((S14.2.length : Nat) : Int) < n)))
  else (some false)).bind (fun (T18 : Bool) =>
  if T18 = true then ((idx s.Owner S14.1).bind fun E22 =>
  bindC (if (decide (E22 = (0 : Int))) = true then ((app 8 S14.2 ([S14.1])).bind fun E29 =>
  some (.go E29))
  else (some (.go S14.2)))
  (fun (T24 : List Int) => some (.go (IntKind.i64.wrap (S14.1 + (1 : Int)), T24))))
  else (some (.done (.go S14.2)))))
  ((0 : Int), ([] : List Int)))
  (fun (T16 : List Int) => ((spec_l1In who (1 : Int) (99 : Int)).bind fun R33 =>
  if (!R33) = true then (some true)
  else (if (decide (n < (1 : Int))) = true then (some true)
  else (some (decide (((T16.length : Nat) : Int) < n))))).bind (fun (T31 : Bool) =>
  if T31 = true then (some (R9, ([] : List Int), false))
  else (bindC (loopO (fun (S40 : Int × List Int) => if (decide (S40.1 < ((T16.length : Nat) : Int))) = true then ((idx T16 S40.1).bind fun E45 =>
  (idx S40.2 E45).bind fun E47 =>
  some (.go (IntKind.i64.wrap (S40.1 + (1 : Int)), (S40.2.set E45.toNat who))))
  else (some (.done (.go S40.2))))
  ((0 : Int), R9.Owner))
  (fun (T42 : List Int) => some ({ Owner := T42 : Space }, T16, true))))))

theorem spec_SpaceTake_con (s : Space) (who : Int) (n : Int) (V_s0 : Value) (r : Space × List Int × Bool) (hm : spec_SpaceTake s who n = some r) :
    Con Try.prog 21 [.agg #[V_s0], .int .i64 who, .int .i64 n] [] [(V_s0, lc 3 s.Owner)] (fun X : Value × Value => .tuple #[.agg #[X.1], X.2, .bool r.2.2]) (fun X => [.own X.1 (lc 3 r.1.Owner), .own X.2 (lc 3 r.2.1)]) := by
  refine Con.intro (args := [.agg #[V_s0], .int .i64 who, .int .i64 n]) (n := 75) (val := fun r (X : Value × Value) => .tuple #[.agg #[X.1], X.2, .bool r.2.2]) (post := fun r X => [.own X.1 (lc 3 r.1.Owner), .own X.2 (lc 3 r.2.1)]) (m := spec_SpaceTake s who n) Try.func21 rfl rfl rfl hm ?_
  intro w S hrd
  have HB_V_s0 := hrd _ (.head _)
  clear hrd
  unfold spec_SpaceTake
  refine TW.seq ?_
  refine TW.region ?_
  refine TO.ef (Ef.box rfl (Cel.agg ⟨(One.can (Base.can HB_V_s0)), trivial⟩)) rfl rfl rfl (fun B1 => ?_)
  refine TO.ef (Ef.alloc kz37 rfl) rfl rfl rfl (fun B2 => ?_)
  refine TO.y (Y.assign rfl) rfl rfl rfl ?_
  refine TO.y (Y.assign rfl) rfl rfl rfl ?_
  refine TO.nil ?_
  refine TE.next ?_
  refine TW.seq ?_
  refine TW.seq ?_
  refine TW.region ?_
  refine TO.y (Y.load_box (v := .agg #[V_s0]) 1 kk37 rfl rfl rfl) rfl rfl rfl ?_
  refine TO.bind fun R3 H4 => ?_
  refine TO.ef (Ef.call (rest := [.box B2 37 [.slice none 0 0], .box B1 37 [V_s0]]) [0, 0] (spec_SpaceOk_con s V_s0 R3 H4) kc48 rfl rfl ⟨(Base.can HB_V_s0), trivial⟩) rfl rfl rfl (fun _ => ?_)
  refine TO.y (Y.not rfl) rfl rfl rfl ?_
  refine TO.nil ?_
  refine TE.next ?_
  refine TW.cond rfl (fun H6 => ?_) (fun H6 => ?_)
  · refine TW.seq ?_
    refine TW.region ?_
    refine TO.y (Y.build (cells := [.slice none 0 0]) [] kp37 kz37 trivial rfl) rfl rfl rfl ?_
    refine TO.ef (Ef.buildSlice (α := Int) (Vs := []) ([] : List Int) ke33 kz3 rfl rfl rfl rfl rfl) rfl rfl rfl (fun B7 => ?_)
    refine TO.ef0 (Ef.store_box (us := [.slice none 0 0]) (vs' := [.slice none 0 0]) (is' := [.own (.slice (some ⟨B7, 0, none⟩) 0 0) (lc 3 ([] : List Int)), .box B2 37 [.slice none 0 0], .box B1 37 [V_s0]]) 1 kk37 rfl rfl rfl (Cel.plain rfl rfl) rfl rfl rfl rfl) rfl rfl (fun _ => ?_)
    refine TO.y (Y.assign rfl) rfl rfl rfl ?_
    refine TO.y (Y.assign rfl) rfl rfl rfl ?_
    refine TO.nil ?_
    refine TE.next ?_
    refine TW.ret ?_
    refine TE.then_ret ?_
    exact TE.leaf fun _ _ hf_ hs_ => ret_any (rs := [.cell 6 37, .tmp 7, .tmp 8]) (vs := [.agg #[.slice none 0 0], .slice (some ⟨B7, 0, none⟩) 0 0, .bool false]) (.inl rfl) rfl (RV.cell 1 rfl rfl kk37 rfl ⟨rfl, ⟨rfl, trivial⟩⟩) hf_ hs_ ⟨((.slice none 0 0), (.slice (some ⟨B7, 0, none⟩) 0 0)), rfl, (hs_.nilItem 3 1).pulls [0, 0] rfl⟩
  · refine TW.skip ?_
    refine TE.next ?_
    refine TW.seq ?_
    refine TW.region ?_
    refine TO.y (Y.load_box (v := .agg #[V_s0]) 1 kk37 rfl rfl rfl) rfl rfl rfl ?_
    refine TO.bind fun R9 H10 => ?_
    refine TO.ef (Ef.call (rest := [.box B2 37 [.slice none 0 0], .box B1 37 [V_s0]]) [0, 0] (spec_l18Copy_con s V_s0 R9 H10) kc49 rfl rfl ⟨(Base.can HB_V_s0), trivial⟩) rfl rfl rfl (fun Y11 => ?_)
    refine TO.ef (Ef.alloc kz37 rfl) rfl rfl rfl (fun B12 => ?_)
    refine TO.ef0 (Ef.store_box (us := [Y11]) (vs' := [Y11]) (is' := [.box B12 37 [Y11], .own Y11 (lc 3 R9.Owner), .box B2 37 [.slice none 0 0], .box B1 37 [V_s0]]) 0 kk37 rfl rfl rfl (Cel.agg ⟨(One.can (Can.own 1 rfl)), trivial⟩) rfl rfl rfl rfl) rfl rfl (fun _ => ?_)
    refine TO.nil ?_
    refine TE.next ?_
    refine TW.seq ?_
    refine TW.region ?_
    refine TO.ef (Ef.buildSlice (α := Int) (Vs := []) ([] : List Int) ke33 kz3 rfl rfl rfl rfl rfl) rfl rfl rfl (fun B13 => ?_)
    refine TO.y (Y.assign rfl) rfl rfl rfl ?_
    refine TO.nil ?_
    refine TE.next ?_
    refine TW.seq ?_
    refine TW.seq ?_
    refine TW.region ?_
    refine TO.y (Y.assign rfl) rfl rfl rfl ?_
    refine TO.nil ?_
    refine TE.next ?_
    refine TW.joinX (τ := List Int) (X := Value) (fun _ X => [(1, .int .i64 who), (2, .int .i64 n), (6, .pointer (some ⟨B2, 0, none⟩)), (9, .pointer (some ⟨B12, 0, none⟩)), (10, X)]) (fun T X => [.box B2 37 [.slice none 0 0], .box B12 37 [Y11], .own Y11 (lc 3 R9.Owner), .own X (lc 3 T)]) ?_ (fun T16 X17 => ?_)
    · refine TW.block ?_
      refine TW.loopX (σ := Int × List Int) (X := Value) (fun T X => [(1, .int .i64 who), (2, .int .i64 n), (3, .pointer (some ⟨B1, 0, none⟩)), (6, .pointer (some ⟨B2, 0, none⟩)), (9, .pointer (some ⟨B12, 0, none⟩)), (10, X), (11, .int .i64 T.1)]) (fun T X => [.box B1 37 [V_s0], .box B2 37 [.slice none 0 0], .box B12 37 [Y11], .own Y11 (lc 3 R9.Owner), .own X (lc 3 T.2)]) (.slice (some ⟨B13, 0, none⟩) 0 0) [4, 3, 1, 1, 0] ⟨rfl, rfl, rfl, rfl, rfl, rfl, rfl, trivial⟩ rfl (fun S14 X15 => ?_)
      refine TW.seq ?_
      refine TW.seq ?_
      refine TW.joinBX (τ := Bool) (X := Unit) (fun T _ => [(1, .int .i64 who), (2, .int .i64 n), (3, .pointer (some ⟨B1, 0, none⟩)), (6, .pointer (some ⟨B2, 0, none⟩)), (9, .pointer (some ⟨B12, 0, none⟩)), (10, X15), (11, .int .i64 S14.1), (31, .bool T)]) (fun _ _ => [.box B1 37 [V_s0], .box B2 37 [.slice none 0 0], .box B12 37 [Y11], .own Y11 (lc 3 R9.Owner), .own X15 (lc 3 S14.2)]) ?_ (fun T18 X19 => ?_)
      · refine TW.region ?_
        refine TO.y (Y.move rfl) rfl rfl rfl ?_
        refine TO.y (Y.field_box kf37_0 rfl rfl) rfl rfl rfl ?_
        refine TO.y (Y.load_box (v := V_s0) 0 kk33 rfl rfl rfl) rfl rfl rfl ?_
        refine TO.y (Y.len (l := s.Owner) ke33 (Base.can HB_V_s0) rfl) rfl rfl rfl ?_
        refine TO.y (Y.lss rfl rfl) rfl rfl rfl ?_
        refine TO.y (Y.move rfl) rfl rfl rfl ?_
        refine TO.ite (b := decide (S14.1 < ((s.Owner.length : Nat) : Int))) (fun H20 => ?_) (fun H20 => ?_)
        · refine TO.y (Y.move rfl) (Gd.at 5 true 26 (decide (S14.1 < ((s.Owner.length : Nat) : Int))) rfl rfl rfl (beq_tt H20)) rfl rfl ?_
          refine TO.y (Y.len (l := S14.2) ke33 (Can.own 4 rfl) rfl) (Gd.at 5 true 26 (decide (S14.1 < ((s.Owner.length : Nat) : Int))) rfl rfl rfl (beq_tt H20)) rfl rfl ?_
          refine TO.y (Y.move rfl) (Gd.at 5 true 26 (decide (S14.1 < ((s.Owner.length : Nat) : Int))) rfl rfl rfl (beq_tt H20)) rfl rfl ?_
          refine TO.y (Y.lss rfl rfl) (Gd.at 5 true 26 (decide (S14.1 < ((s.Owner.length : Nat) : Int))) rfl rfl rfl (beq_tt H20)) rfl rfl ?_
          refine TO.y (Y.pick_t H20 rfl rfl) rfl rfl rfl ?_
          refine TO.nil ?_
          exact TE.jb_go () [0, 0, 0, 0, 0] ⟨rfl, rfl, rfl, rfl, rfl, rfl, rfl, rfl, trivial⟩ rfl
        · refine TO.off (Gd.at 5 true 26 (decide (S14.1 < ((s.Owner.length : Nat) : Int))) rfl rfl rfl (beq_ft H20)) rfl rfl ?_
          refine TO.off (Gd.at 5 true 26 (decide (S14.1 < ((s.Owner.length : Nat) : Int))) rfl rfl rfl (beq_ft H20)) rfl rfl ?_
          refine TO.off (Gd.at 5 true 26 (decide (S14.1 < ((s.Owner.length : Nat) : Int))) rfl rfl rfl (beq_ft H20)) rfl rfl ?_
          refine TO.off (Gd.at 5 true 26 (decide (S14.1 < ((s.Owner.length : Nat) : Int))) rfl rfl rfl (beq_ft H20)) rfl rfl ?_
          refine TO.y (Y.pick_f H20 rfl rfl) rfl rfl rfl ?_
          refine TO.nil ?_
          exact TE.jb_go () [0, 0, 0, 0, 0] ⟨rfl, rfl, rfl, rfl, rfl, rfl, rfl, rfl, trivial⟩ rfl
      · refine TE.next ?_
        refine TW.cond rfl (fun H21 => ?_) (fun H21 => ?_)
        · refine TW.skip ?_
          refine TE.next ?_
          refine TW.seq ?_
          refine TW.block ?_
          refine TW.seq ?_
          refine TW.region ?_
          refine TO.y (Y.field_box kf37_0 rfl rfl) rfl rfl rfl ?_
          refine TO.y (Y.load_box (v := V_s0) 0 kk33 rfl rfl rfl) rfl rfl rfl ?_
          refine TO.y (Y.move rfl) rfl rfl rfl ?_
          refine TO.bind fun E22 H23 => ?_
          refine TO.y (Y.index ke33 (Base.can HB_V_s0) H23 rfl rfl) rfl rfl rfl ?_
          refine TO.y (Y.load_el (us := [.int .i64 E22]) (u := .int .i64 E22) kk3 rfl (Base.can HB_V_s0) (idx_get H23).2.2 rfl rfl rfl rfl rfl) rfl rfl rfl ?_
          refine TO.y (Y.eql rfl rfl) rfl rfl rfl ?_
          refine TO.nil ?_
          refine TE.next ?_
          refine TW.joinX (τ := List Int) (X := Value) (fun _ X => [(1, .int .i64 who), (2, .int .i64 n), (3, .pointer (some ⟨B1, 0, none⟩)), (6, .pointer (some ⟨B2, 0, none⟩)), (9, .pointer (some ⟨B12, 0, none⟩)), (10, X), (11, .int .i64 S14.1)]) (fun T X => [.box B1 37 [V_s0], .box B2 37 [.slice none 0 0], .box B12 37 [Y11], .own Y11 (lc 3 R9.Owner), .own X (lc 3 T)]) ?_ (fun T24 X25 => ?_)
          · refine TW.cond rfl (fun H26 => ?_) (fun H26 => ?_)
            · refine TW.region ?_
              refine TO.y (Y.move rfl) rfl rfl rfl ?_
              refine TO.y (Y.move rfl) rfl rfl rfl ?_
              refine TO.ef (Ef.buildSlice (α := Int) (Vs := [.int .i64 S14.1]) [S14.1] ke33 kz3 rfl rfl rfl rfl rfl) rfl rfl rfl (fun B27 => ?_)
              refine TO.bind fun E29 H30 => ?_
              refine TO.ef (Ef.append (α := Int) (is' := [.own (.slice (some ⟨B27, 0, none⟩) 1 1) (lc 3 ([S14.1])), .box B1 37 [V_s0], .box B2 37 [.slice none 0 0], .box B12 37 [Y11], .own Y11 (lc 3 R9.Owner)]) [5, 0, 0, 0, 0, 0] H30 ke33 kz3 rfl rfl rfl rfl rfl (Can.own 0 rfl)) rfl rfl rfl (fun V28 => ?_)
              refine TO.y (Y.assign rfl) rfl rfl rfl ?_
              refine TO.nil ?_
              exact TE.jn_go V28 [2, 2, 2, 2, 0] ⟨rfl, rfl, rfl, rfl, rfl, rfl, rfl, trivial⟩ rfl
            · refine TW.skip ?_
              exact TE.jn_go X15 [0, 0, 0, 0, 0] ⟨rfl, rfl, rfl, rfl, rfl, rfl, rfl, trivial⟩ rfl
          · refine TE.block_normal ?_
            refine TE.next ?_
            refine TW.region ?_
            refine TO.y (Y.move rfl) rfl rfl rfl ?_
            refine TO.y (Y.add rfl rfl) rfl rfl rfl ?_
            refine TO.y (Y.assign rfl) rfl rfl rfl ?_
            refine TO.nil ?_
            exact TE.lp_go X25 [0, 0, 0, 0, 0] ⟨rfl, rfl, rfl, rfl, rfl, rfl, rfl, trivial⟩ rfl
        · refine TW.exit ?_
          refine TE.then_exit ?_
          refine TE.lp_exit ?_
          refine TE.block_exit ?_
          exact TE.jn_go X15 [1, 1, 1, 1] ⟨rfl, rfl, rfl, rfl, rfl, trivial⟩ rfl
    · refine TE.next ?_
      refine TW.seq ?_
      refine TW.seq ?_
      refine TW.joinBX (τ := Bool) (X := Unit) (fun T _ => [(1, .int .i64 who), (6, .pointer (some ⟨B2, 0, none⟩)), (9, .pointer (some ⟨B12, 0, none⟩)), (10, X17), (56, .bool T)]) (fun _ _ => [.box B2 37 [.slice none 0 0], .box B12 37 [Y11], .own Y11 (lc 3 R9.Owner), .own X17 (lc 3 T16)]) ?_ (fun T31 X32 => ?_)
      · refine TW.region ?_
        refine TO.y (Y.move rfl) rfl rfl rfl ?_
        refine TO.bind fun R33 H34 => ?_
        refine TO.ef (Ef.call (rest := [.box B2 37 [.slice none 0 0], .box B12 37 [Y11], .own Y11 (lc 3 R9.Owner), .own X17 (lc 3 T16)]) [0, 0, 0, 0] (spec_l1In_con who (1 : Int) (99 : Int)  R33 H34) kc50 rfl rfl trivial) rfl rfl rfl (fun _ => ?_)
        refine TO.y (Y.not rfl) rfl rfl rfl ?_
        refine TO.y (Y.move rfl) rfl rfl rfl ?_
        refine TO.ite (b := !R33) (fun H36 => ?_) (fun H36 => ?_)
        · refine TO.off (Gd.at 3 false 47 (!R33) rfl rfl rfl (beq_tf H36)) rfl rfl ?_
          refine TO.off (Gd.at 3 false 47 (!R33) rfl rfl rfl (beq_tf H36)) rfl rfl ?_
          refine TO.y (Y.pick_t H36 rfl rfl) rfl rfl rfl ?_
          refine TO.y (Y.move rfl) rfl rfl rfl ?_
          refine TO.off (Gd.at 7 false 51 true rfl rfl rfl rfl) rfl rfl ?_
          refine TO.off (Gd.at 7 false 51 true rfl rfl rfl rfl) rfl rfl ?_
          refine TO.off (Gd.at 7 false 51 true rfl rfl rfl rfl) rfl rfl ?_
          refine TO.off (Gd.at 7 false 51 true rfl rfl rfl rfl) rfl rfl ?_
          refine TO.y (Y.pick_t rfl rfl rfl) rfl rfl rfl ?_
          refine TO.nil ?_
          exact TE.jb_go () [0, 0, 0, 0] ⟨rfl, rfl, rfl, rfl, rfl, trivial⟩ rfl
        · refine TO.y (Y.move rfl) (Gd.at 3 false 47 (!R33) rfl rfl rfl (beq_ff H36)) rfl rfl ?_
          refine TO.y (Y.lss rfl rfl) (Gd.at 3 false 47 (!R33) rfl rfl rfl (beq_ff H36)) rfl rfl ?_
          refine TO.y (Y.pick_f H36 rfl rfl) rfl rfl rfl ?_
          refine TO.y (Y.move rfl) rfl rfl rfl ?_
          refine TO.ite (b := decide (n < (1 : Int))) (fun H37 => ?_) (fun H37 => ?_)
          · refine TO.off (Gd.at 7 false 51 (decide (n < (1 : Int))) rfl rfl rfl (beq_tf H37)) rfl rfl ?_
            refine TO.off (Gd.at 7 false 51 (decide (n < (1 : Int))) rfl rfl rfl (beq_tf H37)) rfl rfl ?_
            refine TO.off (Gd.at 7 false 51 (decide (n < (1 : Int))) rfl rfl rfl (beq_tf H37)) rfl rfl ?_
            refine TO.off (Gd.at 7 false 51 (decide (n < (1 : Int))) rfl rfl rfl (beq_tf H37)) rfl rfl ?_
            refine TO.y (Y.pick_t H37 rfl rfl) rfl rfl rfl ?_
            refine TO.nil ?_
            exact TE.jb_go () [0, 0, 0, 0] ⟨rfl, rfl, rfl, rfl, rfl, trivial⟩ rfl
          · refine TO.y (Y.move rfl) (Gd.at 7 false 51 (decide (n < (1 : Int))) rfl rfl rfl (beq_ff H37)) rfl rfl ?_
            refine TO.y (Y.len (l := T16) ke33 (Can.own 3 rfl) rfl) (Gd.at 7 false 51 (decide (n < (1 : Int))) rfl rfl rfl (beq_ff H37)) rfl rfl ?_
            refine TO.y (Y.move rfl) (Gd.at 7 false 51 (decide (n < (1 : Int))) rfl rfl rfl (beq_ff H37)) rfl rfl ?_
            refine TO.y (Y.lss rfl rfl) (Gd.at 7 false 51 (decide (n < (1 : Int))) rfl rfl rfl (beq_ff H37)) rfl rfl ?_
            refine TO.y (Y.pick_f H37 rfl rfl) rfl rfl rfl ?_
            refine TO.nil ?_
            exact TE.jb_go () [0, 0, 0, 0] ⟨rfl, rfl, rfl, rfl, rfl, trivial⟩ rfl
      · refine TE.next ?_
        refine TW.cond rfl (fun H38 => ?_) (fun H38 => ?_)
        · refine TW.seq ?_
          refine TW.region ?_
          refine TO.y (Y.load_box (v := .agg #[Y11]) 1 kk37 rfl rfl rfl) rfl rfl rfl ?_
          refine TO.ef (Ef.buildSlice (α := Int) (Vs := []) ([] : List Int) ke33 kz3 rfl rfl rfl rfl rfl) rfl rfl rfl (fun B39 => ?_)
          refine TO.ef0 (Ef.store_box (us := [Y11]) (vs' := [Y11]) (is' := [.own (.slice (some ⟨B39, 0, none⟩) 0 0) (lc 3 ([] : List Int)), .box B2 37 [Y11], .box B12 37 [Y11], .own Y11 (lc 3 R9.Owner), .own X17 (lc 3 T16)]) 1 kk37 rfl rfl rfl (Cel.agg ⟨(One.can (Can.own 3 rfl)), trivial⟩) rfl rfl rfl rfl) rfl rfl (fun _ => ?_)
          refine TO.y (Y.assign rfl) rfl rfl rfl ?_
          refine TO.y (Y.assign rfl) rfl rfl rfl ?_
          refine TO.nil ?_
          refine TE.next ?_
          refine TW.ret ?_
          refine TE.then_ret ?_
          exact TE.leaf fun _ _ hf_ hs_ => ret_any (rs := [.cell 6 37, .tmp 7, .tmp 8]) (vs := [.agg #[Y11], .slice (some ⟨B39, 0, none⟩) 0 0, .bool false]) (.inl rfl) rfl (RV.cell 1 rfl rfl kk37 rfl ⟨rfl, ⟨rfl, trivial⟩⟩) hf_ hs_ ⟨(Y11, (.slice (some ⟨B39, 0, none⟩) 0 0)), rfl, hs_.pulls [3, 0] rfl⟩
        · refine TW.skip ?_
          refine TE.next ?_
          refine TW.seq ?_
          refine TW.seq ?_
          refine TW.region ?_
          refine TO.y (Y.assign rfl) rfl rfl rfl ?_
          refine TO.nil ?_
          refine TE.next ?_
          refine TW.joinX (τ := List Int) (X := Unit) (fun _ _ => [(6, .pointer (some ⟨B2, 0, none⟩)), (9, .pointer (some ⟨B12, 0, none⟩)), (10, X17)]) (fun T _ => [.box B2 37 [.slice none 0 0], .box B12 37 [Y11], .own Y11 (lc 3 T), .own X17 (lc 3 T16)]) ?_ (fun T42 X43 => ?_)
          · refine TW.block ?_
            refine TW.loopX (σ := Int × List Int) (X := Unit) (fun T _ => [(1, .int .i64 who), (6, .pointer (some ⟨B2, 0, none⟩)), (9, .pointer (some ⟨B12, 0, none⟩)), (10, X17), (12, .int .i64 T.1)]) (fun T _ => [.box B2 37 [.slice none 0 0], .box B12 37 [Y11], .own Y11 (lc 3 T.2), .own X17 (lc 3 T16)]) () [0, 0, 0, 0] ⟨rfl, rfl, rfl, rfl, rfl, trivial⟩ rfl (fun S40 X41 => ?_)
            refine TW.seq ?_
            refine TW.seq ?_
            refine TW.region ?_
            refine TO.y (Y.move rfl) rfl rfl rfl ?_
            refine TO.y (Y.move rfl) rfl rfl rfl ?_
            refine TO.y (Y.len (l := T16) ke33 (Can.own 3 rfl) rfl) rfl rfl rfl ?_
            refine TO.y (Y.lss rfl rfl) rfl rfl rfl ?_
            refine TO.nil ?_
            refine TE.next ?_
            refine TW.cond rfl (fun H44 => ?_) (fun H44 => ?_)
            · refine TW.skip ?_
              refine TE.next ?_
              refine TW.seq ?_
              refine TW.block ?_
              refine TW.draw (isH := [.box B2 37 [.slice none 0 0], .box B12 37 [Y11], .own X17 (lc 3 T16)]) hMix ?_
              refine TA.y (listed' := #[true, false, false, false, false, false, false, false, false]) 0 [0, 0, 1] rfl (Y.field_box kf37_0 rfl rfl) rfl rfl rfl (by kernel_rfl) (by kernel_rfl) (by kernel_rfl) rfl rfl ?_
              refine TA.y (listed' := #[true, true, false, false, false, false, false, false, false]) 1 [0, 0, 1] rfl (Y.load_box (v := Y11) 1 kk33 rfl rfl rfl) rfl rfl rfl (by kernel_rfl) (by kernel_rfl) (by kernel_rfl) rfl rfl ?_
              refine TA.y (listed' := #[true, true, true, false, false, false, false, false, false]) 2 [0, 0, 1] rfl (Y.move rfl) rfl rfl rfl (by kernel_rfl) (by kernel_rfl) (by kernel_rfl) rfl rfl ?_
              refine TA.y (listed' := #[true, true, true, true, false, false, false, false, false]) 3 [0, 0, 1] rfl (Y.move rfl) rfl rfl rfl (by kernel_rfl) (by kernel_rfl) (by kernel_rfl) rfl rfl ?_
              refine TA.bind fun E45 H46 => ?_
              refine TA.y (listed' := #[true, true, true, true, true, false, false, false, false]) 4 [0, 0, 1] rfl (Y.index ke33 (Can.own 2 rfl) H46 rfl rfl) rfl rfl rfl (by kernel_rfl) (by kernel_rfl) (by kernel_rfl) rfl rfl ?_
              refine TA.y (listed' := #[true, true, true, true, true, true, false, false, false]) 5 [0, 0, 1] rfl (Y.load_el (us := [.int .i64 E45]) (u := .int .i64 E45) kk3 rfl (Can.own 2 rfl) (idx_get H46).2.2 rfl rfl rfl rfl rfl) rfl rfl rfl (by kernel_rfl) (by kernel_rfl) (by kernel_rfl) rfl rfl ?_
              refine TA.y (listed' := #[true, true, true, true, true, true, true, false, false]) 6 [0, 0, 1] rfl (Y.move rfl) rfl rfl rfl (by kernel_rfl) (by kernel_rfl) (by kernel_rfl) rfl rfl ?_
              refine TA.bind fun E47 H48 => ?_
              refine TA.one 7 (by kernel_rfl) ?_
              refine TX.y (listed' := #[true, true, true, true, true, true, true, true, false]) [0, 0, 1] rfl (Y.index ke33 (Can.own 2 rfl) H48 rfl rfl) rfl rfl rfl rfl rfl ?_
              refine TA.one 8 (by kernel_rfl) ?_
              refine TX.ef0 (listed' := #[true, true, true, true, true, true, true, true, true]) [0, 0, 1] rfl (Ef.store_el (us := [.int .i64 who]) (is' := [.box B2 37 [.slice none 0 0], .box B12 37 [Y11], .own Y11 (lc 3 (S40.2.set E45.toNat who)), .own X17 (lc 3 T16)]) who 2 kk3 rfl rfl (idx_get H48).2.2 rfl rfl (Cel.plain rfl rfl) rfl rfl rfl rfl) rfl rfl rfl (fun _ => rfl) (fun _ => ?_)
              refine TA.nil (by kernel_rfl) ?_
              refine TE.block_normal ?_
              refine TE.next ?_
              refine TW.region ?_
              refine TO.y (Y.move rfl) rfl rfl rfl ?_
              refine TO.y (Y.add rfl rfl) rfl rfl rfl ?_
              refine TO.y (Y.assign rfl) rfl rfl rfl ?_
              refine TO.nil ?_
              exact TE.lp_go () [0, 0, 0, 0] ⟨rfl, rfl, rfl, rfl, rfl, trivial⟩ rfl
            · refine TW.exit ?_
              refine TE.then_exit ?_
              refine TE.lp_exit ?_
              refine TE.block_exit ?_
              exact TE.jn_go () [0, 0, 0, 0] ⟨rfl, rfl, rfl, trivial⟩ rfl
          · refine TE.next ?_
            refine TW.seq ?_
            refine TW.region ?_
            refine TO.y (Y.load_box (v := .agg #[Y11]) 1 kk37 rfl rfl rfl) rfl rfl rfl ?_
            refine TO.y (Y.move rfl) rfl rfl rfl ?_
            refine TO.ef0 (Ef.store_box (us := [Y11]) (vs' := [Y11]) (is' := [.box B2 37 [Y11], .box B12 37 [Y11], .own Y11 (lc 3 T42), .own X17 (lc 3 T16)]) 0 kk37 rfl rfl rfl (Cel.agg ⟨(One.can (Can.own 2 rfl)), trivial⟩) rfl rfl rfl rfl) rfl rfl (fun _ => ?_)
            refine TO.y (Y.assign rfl) rfl rfl rfl ?_
            refine TO.y (Y.assign rfl) rfl rfl rfl ?_
            refine TO.nil ?_
            refine TE.next ?_
            refine TW.ret ?_
            exact TE.leaf fun _ _ hf_ hs_ => ret_any (rs := [.cell 6 37, .tmp 7, .tmp 8]) (vs := [.agg #[Y11], X17, .bool true]) (.inl rfl) rfl (RV.cell 0 rfl rfl kk37 rfl ⟨rfl, ⟨rfl, trivial⟩⟩) hf_ hs_ ⟨(Y11, X17), rfl, hs_.pulls [2, 2] rfl⟩

/-- loop.example/g00950/impl.SpaceOf -/
noncomputable def impl_SpaceOf (s : Space) (who : Int) : Option Int :=
  (impl_SpaceOk s).bind fun R2 =>
  if (!R2) = true then (some (0 : Int))
  else (bindC (loopO (fun (S6 : Int × Int) => if (decide (S6.2 < ((s.Owner.length : Nat) : Int))) = true then ((idx s.Owner S6.2).bind fun E11 =>
  bindC (if (decide (E11 = who)) = true then (some (.go (IntKind.i64.wrap (S6.1 + (1 : Int)))))
  else (some (.go S6.1)))
  (fun (T13 : Int) => some (.go (T13, IntKind.i64.wrap (S6.2 + (1 : Int))))))
  else (some (.done (.go S6.1))))
  ((0 : Int), (0 : Int)))
  (fun (T8 : Int) => some T8))

theorem impl_SpaceOf_con (s : Space) (who : Int) (V_s0 : Value) (r : Int) (hm : impl_SpaceOf s who = some r) :
    Con Try.prog 55 [.agg #[V_s0], .int .i64 who] [] [(V_s0, lc 3 s.Owner)] (fun _ : Unit => .int .i64 r) (fun _ => []) := by
  refine Con.intro (args := [.agg #[V_s0], .int .i64 who]) (n := 25) (val := fun r (_ : Unit) => .int .i64 r) (post := fun _ _ => []) (m := impl_SpaceOf s who) Try.func55 rfl rfl rfl hm ?_
  intro w S hrd
  have HB_V_s0 := hrd _ (.head _)
  clear hrd
  unfold impl_SpaceOf
  refine TW.seq ?_
  refine TW.region ?_
  refine TO.ef (Ef.box rfl (Cel.agg ⟨(One.can (Base.can HB_V_s0)), trivial⟩)) rfl rfl rfl (fun B1 => ?_)
  refine TO.y (Y.assign rfl) rfl rfl rfl ?_
  refine TO.nil ?_
  refine TE.next ?_
  refine TW.seq ?_
  refine TW.seq ?_
  refine TW.region ?_
  refine TO.y (Y.load_box (v := .agg #[V_s0]) 0 kk37 rfl rfl rfl) rfl rfl rfl ?_
  refine TO.bind fun R2 H3 => ?_
  refine TO.ef (Ef.call (rest := [.box B1 37 [V_s0]]) [0] (impl_SpaceOk_con s V_s0 R2 H3) kc52 rfl rfl ⟨(Base.can HB_V_s0), trivial⟩) rfl rfl rfl (fun _ => ?_)
  refine TO.y (Y.not rfl) rfl rfl rfl ?_
  refine TO.nil ?_
  refine TE.next ?_
  refine TW.cond rfl (fun H5 => ?_) (fun H5 => ?_)
  · refine TW.seq ?_
    refine TW.region ?_
    refine TO.y (Y.assign rfl) rfl rfl rfl ?_
    refine TO.nil ?_
    refine TE.next ?_
    refine TW.ret ?_
    refine TE.then_ret ?_
    exact TE.leaf fun _ _ hf_ hs_ => ret_any (rs := [.tmp 4]) (vs := [.int .i64 (0 : Int)]) (.inl rfl) rfl ⟨rfl, trivial⟩ hf_ hs_ ⟨(), rfl, hs_.pulls [] rfl⟩
  · refine TW.skip ?_
    refine TE.next ?_
    refine TW.seq ?_
    refine TW.region ?_
    refine TO.y (Y.assign rfl) rfl rfl rfl ?_
    refine TO.nil ?_
    refine TE.next ?_
    refine TW.seq ?_
    refine TW.seq ?_
    refine TW.region ?_
    refine TO.y (Y.field_box kf37_0 rfl rfl) rfl rfl rfl ?_
    refine TO.y (Y.load_box (v := V_s0) 0 kk33 rfl rfl rfl) rfl rfl rfl ?_
    refine TO.y (Y.len (l := s.Owner) ke33 (Base.can HB_V_s0) rfl) rfl rfl rfl ?_
    refine TO.y (Y.move rfl) rfl rfl rfl ?_
    refine TO.nil ?_
    refine TE.next ?_
    refine TW.joinX (τ := Int) (X := Unit) (fun T _ => [(5, .int .i64 T)]) (fun _ _ => []) ?_ (fun T8 X9 => ?_)
    · refine TW.block ?_
      refine TW.loopX (σ := Int × Int) (X := Unit) (fun T _ => [(1, .int .i64 who), (5, .int .i64 T.1), (12, V_s0), (13, .int .i64 ((s.Owner.length : Nat) : Int)), (14, .int .i64 T.2)]) (fun _ _ => []) () [] ⟨rfl, rfl, rfl, rfl, rfl, trivial⟩ rfl (fun S6 X7 => ?_)
      refine TW.seq ?_
      refine TW.region ?_
      refine TO.y (Y.lss rfl rfl) rfl rfl rfl ?_
      refine TO.nil ?_
      refine TE.next ?_
      refine TW.seq ?_
      refine TW.cond rfl (fun H10 => ?_) (fun H10 => ?_)
      · refine TW.skip ?_
        refine TE.next ?_
        refine TW.seq ?_
        refine TW.block ?_
        refine TW.seq ?_
        refine TW.region ?_
        refine TO.bind fun E11 H12 => ?_
        refine TO.y (Y.index ke33 (Base.can HB_V_s0) H12 rfl rfl) rfl rfl rfl ?_
        refine TO.y (Y.load_el (us := [.int .i64 E11]) (u := .int .i64 E11) kk3 rfl (Base.can HB_V_s0) (idx_get H12).2.2 rfl rfl rfl rfl rfl) rfl rfl rfl ?_
        refine TO.y (Y.assign rfl) rfl rfl rfl ?_
        refine TO.nil ?_
        refine TE.next ?_
        refine TW.seq ?_
        refine TW.region ?_
        refine TO.y (Y.move rfl) rfl rfl rfl ?_
        refine TO.y (Y.move rfl) rfl rfl rfl ?_
        refine TO.y (Y.eql rfl rfl) rfl rfl rfl ?_
        refine TO.nil ?_
        refine TE.next ?_
        refine TW.joinX (τ := Int) (X := Unit) (fun T _ => [(1, .int .i64 who), (5, .int .i64 T), (12, V_s0), (13, .int .i64 ((s.Owner.length : Nat) : Int)), (14, .int .i64 S6.2)]) (fun _ _ => []) ?_ (fun T13 X14 => ?_)
        · refine TW.cond rfl (fun H15 => ?_) (fun H15 => ?_)
          · refine TW.region ?_
            refine TO.y (Y.move rfl) rfl rfl rfl ?_
            refine TO.y (Y.add rfl rfl) rfl rfl rfl ?_
            refine TO.y (Y.assign rfl) rfl rfl rfl ?_
            refine TO.nil ?_
            exact TE.jn_go () [] ⟨rfl, rfl, rfl, rfl, rfl, trivial⟩ rfl
          · refine TW.skip ?_
            exact TE.jn_go () [] ⟨rfl, rfl, rfl, rfl, rfl, trivial⟩ rfl
        · refine TE.block_normal ?_
          refine TE.next ?_
          refine TW.region ?_
          refine TO.y (Y.add rfl rfl) rfl rfl rfl ?_
          refine TO.y (Y.move rfl) rfl rfl rfl ?_
          refine TO.nil ?_
          exact TE.lp_go () [] ⟨rfl, rfl, rfl, rfl, rfl, trivial⟩ rfl
      · refine TW.exit ?_
        refine TE.then_exit ?_
        refine TE.lp_exit ?_
        refine TE.block_exit ?_
        exact TE.jn_go () [] ⟨rfl, trivial⟩ rfl
    · refine TE.next ?_
      refine TW.seq ?_
      refine TW.region ?_
      refine TO.y (Y.move rfl) rfl rfl rfl ?_
      refine TO.y (Y.assign rfl) rfl rfl rfl ?_
      refine TO.nil ?_
      refine TE.next ?_
      refine TW.ret ?_
      exact TE.leaf fun _ _ hf_ hs_ => ret_any (rs := [.tmp 4]) (vs := [.int .i64 T8]) (.inl rfl) rfl ⟨rfl, trivial⟩ hf_ hs_ ⟨(), rfl, hs_.pulls [] rfl⟩

/-- loop.example/g00950/impl.SpaceTake -/
noncomputable def impl_SpaceTake (s : Space) (who : Int) (n : Int) : Option (Space × List Int × Bool) :=
  (impl_SpaceOk s).bind fun R3 =>
  if (!R3) = true then (some ({ Owner := ([] : List Int) : Space }, [], false))
  else ((impl_copySpace s).bind fun R9 =>
  ((impl_isTenant who).bind fun R15 =>
  if (!R15) = true then (some true)
  else (if (decide (n < (1 : Int))) = true then (some true)
  else ((impl_SpaceOf s (0 : Int)).bind fun R20 =>
  some (decide (R20 < n))))).bind (fun (T13 : Bool) =>
  if T13 = true then (some (R9, [], false))
  else (bindC (loopO (fun (S25 : Int × List Int × List Int) => if (decide (S25.1 < ((s.Owner.length : Nat) : Int))) = true then ((idx s.Owner S25.1).bind fun E30 =>
  (if (decide (E30 = (0 : Int))) = true then (some (decide (((S25.2.2.length : Nat) : Int) < n)))
  else (some false)).bind (fun (T32 : Bool) =>
  bindC (if T32 = true then ((app 8 S25.2.2 ([S25.1])).bind fun E40 =>
  (idx S25.2.1 S25.1).bind fun E42 =>
  some (.go ((S25.2.1.set S25.1.toNat who), E40)))
  else (some (.go (S25.2.1, S25.2.2))))
  (fun (T35 : List Int × List Int) => some (.go (IntKind.i64.wrap (S25.1 + (1 : Int)), T35.1, T35.2)))))
  else (some (.done (.go (S25.2.1, S25.2.2)))))
  ((0 : Int), R9.Owner, ([] : List Int)))
  (fun (T27 : List Int × List Int) => some ({ Owner := T27.1 : Space }, T27.2, true)))))

theorem impl_SpaceTake_con (s : Space) (who : Int) (n : Int) (V_s0 : Value) (r : Space × List Int × Bool) (hm : impl_SpaceTake s who n = some r) :
    Con Try.prog 22 [.agg #[V_s0], .int .i64 who, .int .i64 n] [] [(V_s0, lc 3 s.Owner)] (fun X : Value × Value => .tuple #[.agg #[X.1], X.2, .bool r.2.2]) (fun X => [.own X.1 (lc 3 r.1.Owner), .own X.2 (lc 3 r.2.1)]) := by
  refine Con.intro (args := [.agg #[V_s0], .int .i64 who, .int .i64 n]) (n := 61) (val := fun r (X : Value × Value) => .tuple #[.agg #[X.1], X.2, .bool r.2.2]) (post := fun r X => [.own X.1 (lc 3 r.1.Owner), .own X.2 (lc 3 r.2.1)]) (m := impl_SpaceTake s who n) Try.func22 rfl rfl rfl hm ?_
  intro w S hrd
  have HB_V_s0 := hrd _ (.head _)
  clear hrd
  unfold impl_SpaceTake
  refine TW.seq ?_
  refine TW.region ?_
  refine TO.ef (Ef.box rfl (Cel.agg ⟨(One.can (Base.can HB_V_s0)), trivial⟩)) rfl rfl rfl (fun B1 => ?_)
  refine TO.ef (Ef.alloc kz37 rfl) rfl rfl rfl (fun B2 => ?_)
  refine TO.y (Y.assign rfl) rfl rfl rfl ?_
  refine TO.y (Y.assign rfl) rfl rfl rfl ?_
  refine TO.nil ?_
  refine TE.next ?_
  refine TW.seq ?_
  refine TW.seq ?_
  refine TW.region ?_
  refine TO.y (Y.load_box (v := .agg #[V_s0]) 1 kk37 rfl rfl rfl) rfl rfl rfl ?_
  refine TO.bind fun R3 H4 => ?_
  refine TO.ef (Ef.call (rest := [.box B2 37 [.slice none 0 0], .box B1 37 [V_s0]]) [0, 0] (impl_SpaceOk_con s V_s0 R3 H4) kc52 rfl rfl ⟨(Base.can HB_V_s0), trivial⟩) rfl rfl rfl (fun _ => ?_)
  refine TO.y (Y.not rfl) rfl rfl rfl ?_
  refine TO.nil ?_
  refine TE.next ?_
  refine TW.cond rfl (fun H6 => ?_) (fun H6 => ?_)
  · refine TW.seq ?_
    refine TW.region ?_
    refine TO.y (Y.build (cells := [.slice none 0 0]) [] kp37 kz37 trivial rfl) rfl rfl rfl ?_
    refine TO.ef0 (Ef.store_box (us := [.slice none 0 0]) (vs' := [.slice none 0 0]) (is' := [.box B2 37 [.slice none 0 0], .box B1 37 [V_s0]]) 0 kk37 rfl rfl rfl (Cel.plain rfl rfl) rfl rfl rfl rfl) rfl rfl (fun _ => ?_)
    refine TO.y (Y.assign rfl) rfl rfl rfl ?_
    refine TO.y (Y.assign rfl) rfl rfl rfl ?_
    refine TO.nil ?_
    refine TE.next ?_
    refine TW.ret ?_
    refine TE.then_ret ?_
    exact TE.leaf fun _ _ hf_ hs_ => ret_any (rs := [.cell 6 37, .tmp 7, .tmp 8]) (vs := [.agg #[.slice none 0 0], .slice none 0 0, .bool false]) (.inl rfl) rfl (RV.cell 0 rfl rfl kk37 rfl ⟨rfl, ⟨rfl, trivial⟩⟩) hf_ hs_ ⟨((.slice none 0 0), (.slice none 0 0)), rfl, ((hs_.nilItem 3 1).nilItem 3 1).pulls [1, 0] rfl⟩
  · refine TW.skip ?_
    refine TE.next ?_
    refine TW.seq ?_
    refine TW.region ?_
    refine TO.y (Y.load_box (v := .agg #[V_s0]) 1 kk37 rfl rfl rfl) rfl rfl rfl ?_
    refine TO.bind fun R9 H10 => ?_
    refine TO.ef (Ef.call (rest := [.box B2 37 [.slice none 0 0], .box B1 37 [V_s0]]) [0, 0] (impl_copySpace_con s V_s0 R9 H10) kc53 rfl rfl ⟨(Base.can HB_V_s0), trivial⟩) rfl rfl rfl (fun Y11 => ?_)
    refine TO.ef (Ef.alloc kz37 rfl) rfl rfl rfl (fun B12 => ?_)
    refine TO.ef0 (Ef.store_box (us := [Y11]) (vs' := [Y11]) (is' := [.box B12 37 [Y11], .own Y11 (lc 3 R9.Owner), .box B2 37 [.slice none 0 0], .box B1 37 [V_s0]]) 0 kk37 rfl rfl rfl (Cel.agg ⟨(One.can (Can.own 1 rfl)), trivial⟩) rfl rfl rfl rfl) rfl rfl (fun _ => ?_)
    refine TO.nil ?_
    refine TE.next ?_
    refine TW.seq ?_
    refine TW.seq ?_
    refine TW.joinBX (τ := Bool) (X := Unit) (fun T _ => [(1, .int .i64 who), (2, .int .i64 n), (3, .pointer (some ⟨B1, 0, none⟩)), (6, .pointer (some ⟨B2, 0, none⟩)), (9, .pointer (some ⟨B12, 0, none⟩)), (31, .bool T)]) (fun _ _ => [.box B1 37 [V_s0], .box B2 37 [.slice none 0 0], .box B12 37 [Y11], .own Y11 (lc 3 R9.Owner)]) ?_ (fun T13 X14 => ?_)
    · refine TW.region ?_
      refine TO.y (Y.move rfl) rfl rfl rfl ?_
      refine TO.bind fun R15 H16 => ?_
      refine TO.ef (Ef.call (rest := [.box B12 37 [Y11], .own Y11 (lc 3 R9.Owner), .box B2 37 [.slice none 0 0], .box B1 37 [V_s0]]) [0, 0, 0, 0] (impl_isTenant_con who  R15 H16) kc54 rfl rfl trivial) rfl rfl rfl (fun _ => ?_)
      refine TO.y (Y.not rfl) rfl rfl rfl ?_
      refine TO.y (Y.move rfl) rfl rfl rfl ?_
      refine TO.ite (b := !R15) (fun H18 => ?_) (fun H18 => ?_)
      · refine TO.off (Gd.at 3 false 22 (!R15) rfl rfl rfl (beq_tf H18)) rfl rfl ?_
        refine TO.off (Gd.at 3 false 22 (!R15) rfl rfl rfl (beq_tf H18)) rfl rfl ?_
        refine TO.y (Y.pick_t H18 rfl rfl) rfl rfl rfl ?_
        refine TO.y (Y.move rfl) rfl rfl rfl ?_
        refine TO.off (Gd.at 7 false 26 true rfl rfl rfl rfl) rfl rfl ?_
        refine TO.off (Gd.at 7 false 26 true rfl rfl rfl rfl) rfl rfl ?_
        refine TO.off (Gd.at 7 false 26 true rfl rfl rfl rfl) rfl rfl ?_
        refine TO.off (Gd.at 7 false 26 true rfl rfl rfl rfl) rfl rfl ?_
        refine TO.y (Y.pick_t rfl rfl rfl) rfl rfl rfl ?_
        refine TO.nil ?_
        exact TE.jb_go () [3, 2, 0, 0] ⟨rfl, rfl, rfl, rfl, rfl, rfl, trivial⟩ rfl
      · refine TO.y (Y.move rfl) (Gd.at 3 false 22 (!R15) rfl rfl rfl (beq_ff H18)) rfl rfl ?_
        refine TO.y (Y.lss rfl rfl) (Gd.at 3 false 22 (!R15) rfl rfl rfl (beq_ff H18)) rfl rfl ?_
        refine TO.y (Y.pick_f H18 rfl rfl) rfl rfl rfl ?_
        refine TO.y (Y.move rfl) rfl rfl rfl ?_
        refine TO.ite (b := decide (n < (1 : Int))) (fun H19 => ?_) (fun H19 => ?_)
        · refine TO.off (Gd.at 7 false 26 (decide (n < (1 : Int))) rfl rfl rfl (beq_tf H19)) rfl rfl ?_
          refine TO.off (Gd.at 7 false 26 (decide (n < (1 : Int))) rfl rfl rfl (beq_tf H19)) rfl rfl ?_
          refine TO.off (Gd.at 7 false 26 (decide (n < (1 : Int))) rfl rfl rfl (beq_tf H19)) rfl rfl ?_
          refine TO.off (Gd.at 7 false 26 (decide (n < (1 : Int))) rfl rfl rfl (beq_tf H19)) rfl rfl ?_
          refine TO.y (Y.pick_t H19 rfl rfl) rfl rfl rfl ?_
          refine TO.nil ?_
          exact TE.jb_go () [3, 2, 0, 0] ⟨rfl, rfl, rfl, rfl, rfl, rfl, trivial⟩ rfl
        · refine TO.y (Y.load_box (v := .agg #[V_s0]) 3 kk37 rfl rfl rfl) (Gd.at 7 false 26 (decide (n < (1 : Int))) rfl rfl rfl (beq_ff H19)) rfl rfl ?_
          refine TO.bind fun R20 H21 => ?_
          refine TO.ef (Ef.call (rest := [.box B12 37 [Y11], .own Y11 (lc 3 R9.Owner), .box B2 37 [.slice none 0 0], .box B1 37 [V_s0]]) [0, 0, 0, 0] (impl_SpaceOf_con s (0 : Int) V_s0 R20 H21) kc55 rfl rfl ⟨(Base.can HB_V_s0), trivial⟩) (Gd.at 7 false 26 (decide (n < (1 : Int))) rfl rfl rfl (beq_ff H19)) rfl rfl (fun _ => ?_)
          refine TO.y (Y.move rfl) (Gd.at 7 false 26 (decide (n < (1 : Int))) rfl rfl rfl (beq_ff H19)) rfl rfl ?_
          refine TO.y (Y.lss rfl rfl) (Gd.at 7 false 26 (decide (n < (1 : Int))) rfl rfl rfl (beq_ff H19)) rfl rfl ?_
          refine TO.y (Y.pick_f H19 rfl rfl) rfl rfl rfl ?_
          refine TO.nil ?_
          exact TE.jb_go () [3, 2, 0, 0] ⟨rfl, rfl, rfl, rfl, rfl, rfl, trivial⟩ rfl
    · refine TE.next ?_
      refine TW.cond rfl (fun H23 => ?_) (fun H23 => ?_)
      · refine TW.seq ?_
        refine TW.region ?_
        refine TO.y (Y.load_box (v := .agg #[Y11]) 2 kk37 rfl rfl rfl) rfl rfl rfl ?_
        refine TO.ef0 (Ef.store_box (us := [Y11]) (vs' := [Y11]) (is' := [.box B1 37 [V_s0], .box B2 37 [Y11], .box B12 37 [Y11], .own Y11 (lc 3 R9.Owner)]) 1 kk37 rfl rfl rfl (Cel.agg ⟨(One.can (Can.own 3 rfl)), trivial⟩) rfl rfl rfl rfl) rfl rfl (fun _ => ?_)
        refine TO.y (Y.assign rfl) rfl rfl rfl ?_
        refine TO.y (Y.assign rfl) rfl rfl rfl ?_
        refine TO.nil ?_
        refine TE.next ?_
        refine TW.ret ?_
        refine TE.then_ret ?_
        exact TE.leaf fun _ _ hf_ hs_ => ret_any (rs := [.cell 6 37, .tmp 7, .tmp 8]) (vs := [.agg #[Y11], .slice none 0 0, .bool false]) (.inl rfl) rfl (RV.cell 1 rfl rfl kk37 rfl ⟨rfl, ⟨rfl, trivial⟩⟩) hf_ hs_ ⟨(Y11, (.slice none 0 0)), rfl, (hs_.nilItem 3 1).pulls [4, 0] rfl⟩
      · refine TW.skip ?_
        refine TE.next ?_
        refine TW.seq ?_
        refine TW.region ?_
        refine TO.y (Y.assign rfl) rfl rfl rfl ?_
        refine TO.nil ?_
        refine TE.next ?_
        refine TW.seq ?_
        refine TW.seq ?_
        refine TW.region ?_
        refine TO.y (Y.field_box kf37_0 rfl rfl) rfl rfl rfl ?_
        refine TO.y (Y.load_box (v := V_s0) 0 kk33 rfl rfl rfl) rfl rfl rfl ?_
        refine TO.y (Y.len (l := s.Owner) ke33 (Base.can HB_V_s0) rfl) rfl rfl rfl ?_
        refine TO.y (Y.move rfl) rfl rfl rfl ?_
        refine TO.nil ?_
        refine TE.next ?_
        refine TW.joinX (τ := List Int × List Int) (X := Value) (fun _ X => [(6, .pointer (some ⟨B2, 0, none⟩)), (9, .pointer (some ⟨B12, 0, none⟩)), (10, X)]) (fun T X => [.box B2 37 [.slice none 0 0], .box B12 37 [Y11], .own Y11 (lc 3 T.1), .own X (lc 3 T.2)]) ?_ (fun T27 X28 => ?_)
        · refine TW.block ?_
          refine TW.nilItem 3 1 ?_
          refine TW.loopX (σ := Int × List Int × List Int) (X := Value) (fun T X => [(1, .int .i64 who), (2, .int .i64 n), (6, .pointer (some ⟨B2, 0, none⟩)), (9, .pointer (some ⟨B12, 0, none⟩)), (10, X), (34, V_s0), (35, .int .i64 ((s.Owner.length : Nat) : Int)), (36, .int .i64 T.1)]) (fun T X => [.box B2 37 [.slice none 0 0], .box B12 37 [Y11], .own Y11 (lc 3 T.2.1), .own X (lc 3 T.2.2)]) (.slice none 0 0) [2, 2, 2, 0] ⟨rfl, rfl, rfl, rfl, rfl, rfl, rfl, rfl, trivial⟩ rfl (fun S25 X26 => ?_)
          refine TW.seq ?_
          refine TW.region ?_
          refine TO.y (Y.lss rfl rfl) rfl rfl rfl ?_
          refine TO.nil ?_
          refine TE.next ?_
          refine TW.seq ?_
          refine TW.cond rfl (fun H29 => ?_) (fun H29 => ?_)
          · refine TW.skip ?_
            refine TE.next ?_
            refine TW.seq ?_
            refine TW.block ?_
            refine TW.seq ?_
            refine TW.region ?_
            refine TO.y (Y.move rfl) rfl rfl rfl ?_
            refine TO.bind fun E30 H31 => ?_
            refine TO.y (Y.index ke33 (Base.can HB_V_s0) H31 rfl rfl) rfl rfl rfl ?_
            refine TO.y (Y.load_el (us := [.int .i64 E30]) (u := .int .i64 E30) kk3 rfl (Base.can HB_V_s0) (idx_get H31).2.2 rfl rfl rfl rfl rfl) rfl rfl rfl ?_
            refine TO.y (Y.assign rfl) rfl rfl rfl ?_
            refine TO.y (Y.assign rfl) rfl rfl rfl ?_
            refine TO.nil ?_
            refine TE.next ?_
            refine TW.seq ?_
            refine TW.joinBX (τ := Bool) (X := Unit) (fun T _ => [(1, .int .i64 who), (2, .int .i64 n), (6, .pointer (some ⟨B2, 0, none⟩)), (9, .pointer (some ⟨B12, 0, none⟩)), (10, X26), (11, .int .i64 S25.1), (34, V_s0), (35, .int .i64 ((s.Owner.length : Nat) : Int)), (36, .int .i64 S25.1), (48, .bool T)]) (fun _ _ => [.box B2 37 [.slice none 0 0], .box B12 37 [Y11], .own Y11 (lc 3 S25.2.1), .own X26 (lc 3 S25.2.2)]) ?_ (fun T32 X33 => ?_)
            · refine TW.region ?_
              refine TO.y (Y.move rfl) rfl rfl rfl ?_
              refine TO.y (Y.eql rfl rfl) rfl rfl rfl ?_
              refine TO.y (Y.move rfl) rfl rfl rfl ?_
              refine TO.ite (b := decide (E30 = (0 : Int))) (fun H34 => ?_) (fun H34 => ?_)
              · refine TO.y (Y.move rfl) (Gd.at 2 true 43 (decide (E30 = (0 : Int))) rfl rfl rfl (beq_tt H34)) rfl rfl ?_
                refine TO.y (Y.len (l := S25.2.2) ke33 (Can.own 3 rfl) rfl) (Gd.at 2 true 43 (decide (E30 = (0 : Int))) rfl rfl rfl (beq_tt H34)) rfl rfl ?_
                refine TO.y (Y.move rfl) (Gd.at 2 true 43 (decide (E30 = (0 : Int))) rfl rfl rfl (beq_tt H34)) rfl rfl ?_
                refine TO.y (Y.lss rfl rfl) (Gd.at 2 true 43 (decide (E30 = (0 : Int))) rfl rfl rfl (beq_tt H34)) rfl rfl ?_
                refine TO.y (Y.pick_t H34 rfl rfl) rfl rfl rfl ?_
                refine TO.nil ?_
                exact TE.jb_go () [0, 0, 0, 0] ⟨rfl, rfl, rfl, rfl, rfl, rfl, rfl, rfl, rfl, rfl, trivial⟩ rfl
              · refine TO.off (Gd.at 2 true 43 (decide (E30 = (0 : Int))) rfl rfl rfl (beq_ft H34)) rfl rfl ?_
                refine TO.off (Gd.at 2 true 43 (decide (E30 = (0 : Int))) rfl rfl rfl (beq_ft H34)) rfl rfl ?_
                refine TO.off (Gd.at 2 true 43 (decide (E30 = (0 : Int))) rfl rfl rfl (beq_ft H34)) rfl rfl ?_
                refine TO.off (Gd.at 2 true 43 (decide (E30 = (0 : Int))) rfl rfl rfl (beq_ft H34)) rfl rfl ?_
                refine TO.y (Y.pick_f H34 rfl rfl) rfl rfl rfl ?_
                refine TO.nil ?_
                exact TE.jb_go () [0, 0, 0, 0] ⟨rfl, rfl, rfl, rfl, rfl, rfl, rfl, rfl, rfl, rfl, trivial⟩ rfl
            · refine TE.next ?_
              refine TW.joinX (τ := List Int × List Int) (X := Value) (fun _ X => [(1, .int .i64 who), (2, .int .i64 n), (6, .pointer (some ⟨B2, 0, none⟩)), (9, .pointer (some ⟨B12, 0, none⟩)), (10, X), (34, V_s0), (35, .int .i64 ((s.Owner.length : Nat) : Int)), (36, .int .i64 S25.1)]) (fun T X => [.box B2 37 [.slice none 0 0], .box B12 37 [Y11], .own Y11 (lc 3 T.1), .own X (lc 3 T.2)]) ?_ (fun T35 X36 => ?_)
              · refine TW.cond rfl (fun H37 => ?_) (fun H37 => ?_)
                · refine TW.seq ?_
                  refine TW.region ?_
                  refine TO.y (Y.move rfl) rfl rfl rfl ?_
                  refine TO.y (Y.move rfl) rfl rfl rfl ?_
                  refine TO.ef (Ef.buildSlice (α := Int) (Vs := [.int .i64 S25.1]) [S25.1] ke33 kz3 rfl rfl rfl rfl rfl) rfl rfl rfl (fun B38 => ?_)
                  refine TO.bind fun E40 H41 => ?_
                  refine TO.ef (Ef.append (α := Int) (is' := [.own (.slice (some ⟨B38, 0, none⟩) 1 1) (lc 3 ([S25.1])), .box B2 37 [.slice none 0 0], .box B12 37 [Y11], .own Y11 (lc 3 S25.2.1)]) [4, 0, 0, 0, 0] H41 ke33 kz3 rfl rfl rfl rfl rfl (Can.own 0 rfl)) rfl rfl rfl (fun V39 => ?_)
                  refine TO.y (Y.assign rfl) rfl rfl rfl ?_
                  refine TO.nil ?_
                  refine TE.next ?_
                  refine TW.region ?_
                  refine TO.y (Y.field_box kf37_0 rfl rfl) rfl rfl rfl ?_
                  refine TO.y (Y.load_box (v := Y11) 3 kk33 rfl rfl rfl) rfl rfl rfl ?_
                  refine TO.y (Y.move rfl) rfl rfl rfl ?_
                  refine TO.y (Y.move rfl) rfl rfl rfl ?_
                  refine TO.bind fun E42 H43 => ?_
                  refine TO.y (Y.index ke33 (Can.own 4 rfl) H43 rfl rfl) rfl rfl rfl ?_
                  refine TO.ef0 (Ef.store_el (us := [.int .i64 who]) (is' := [.own V39 (lc 3 E40), .own (.slice (some ⟨B38, 0, none⟩) 1 1) (lc 3 ([S25.1])), .box B2 37 [.slice none 0 0], .box B12 37 [Y11], .own Y11 (lc 3 (S25.2.1.set S25.1.toNat who))]) who 4 kk3 rfl rfl (idx_get H43).2.2 rfl rfl (Cel.plain rfl rfl) rfl rfl rfl rfl) rfl rfl (fun _ => ?_)
                  refine TO.nil ?_
                  exact TE.jn_go V39 [2, 2, 2, 0] ⟨rfl, rfl, rfl, rfl, rfl, rfl, rfl, rfl, trivial⟩ rfl
                · refine TW.skip ?_
                  exact TE.jn_go X26 [0, 0, 0, 0] ⟨rfl, rfl, rfl, rfl, rfl, rfl, rfl, rfl, trivial⟩ rfl
              · refine TE.block_normal ?_
                refine TE.next ?_
                refine TW.region ?_
                refine TO.y (Y.add rfl rfl) rfl rfl rfl ?_
                refine TO.y (Y.move rfl) rfl rfl rfl ?_
                refine TO.nil ?_
                exact TE.lp_go X36 [0, 0, 0, 0] ⟨rfl, rfl, rfl, rfl, rfl, rfl, rfl, rfl, trivial⟩ rfl
          · refine TW.exit ?_
            refine TE.then_exit ?_
            refine TE.lp_exit ?_
            refine TE.block_exit ?_
            exact TE.jn_go X26 [0, 0, 0, 0] ⟨rfl, rfl, rfl, trivial⟩ rfl
        · refine TE.next ?_
          refine TW.seq ?_
          refine TW.region ?_
          refine TO.y (Y.load_box (v := .agg #[Y11]) 1 kk37 rfl rfl rfl) rfl rfl rfl ?_
          refine TO.y (Y.move rfl) rfl rfl rfl ?_
          refine TO.ef0 (Ef.store_box (us := [Y11]) (vs' := [Y11]) (is' := [.box B2 37 [Y11], .box B12 37 [Y11], .own Y11 (lc 3 T27.1), .own X28 (lc 3 T27.2)]) 0 kk37 rfl rfl rfl (Cel.agg ⟨(One.can (Can.own 2 rfl)), trivial⟩) rfl rfl rfl rfl) rfl rfl (fun _ => ?_)
          refine TO.y (Y.assign rfl) rfl rfl rfl ?_
          refine TO.y (Y.assign rfl) rfl rfl rfl ?_
          refine TO.nil ?_
          refine TE.next ?_
          refine TW.ret ?_
          exact TE.leaf fun _ _ hf_ hs_ => ret_any (rs := [.cell 6 37, .tmp 7, .tmp 8]) (vs := [.agg #[Y11], X28, .bool true]) (.inl rfl) rfl (RV.cell 0 rfl rfl kk37 rfl ⟨rfl, ⟨rfl, trivial⟩⟩) hf_ hs_ ⟨(Y11, X28), rfl, hs_.pulls [2, 2] rfl⟩

/-- loop.example/g00950/laws.FnExactSpaceTake -/
noncomputable def laws_FnExactSpaceTake (aS : Space) (aWho : Int) (aN : Int) : Option Bool :=
  (laws_szSpace aS (1048576 : Int)).bind fun R2 =>
  if (decide (R2 < (0 : Int))) = true then (some true)
  else ((laws_toSpace aS).bind fun R6 =>
  (spec_SpaceTake R6 aWho aN).bind fun R9 =>
  (impl_SpaceTake R6 aWho aN).bind fun R15 =>
  ((laws_eqSpace R15.1 R9.1).bind fun R21 =>
  if (!R21) = true then (some true)
  else ((laws_eqIntS R15.2.1 R9.2.1).bind fun R25 =>
  if (!R25) = true then (some true)
  else (some (!(decide (R15.2.2 = R9.2.2)))))).bind (fun (T19 : Bool) =>
  if T19 = true then (some false)
  else ((laws_eqSpace R6 R6).bind fun R31 =>
  if (!R31) = true then (some false)
  else ((laws_markSpace R6 (1 : Int)).bind fun R35 =>
  (if (decide (R35.1 < (0 : Int))) = true then (some true)
  else ((laws_eqSpace R15.1 R9.1).bind fun R41 =>
  if (!R41) = true then (some true)
  else ((laws_eqIntS R15.2.1 R9.2.1).bind fun R45 =>
  if (!R45) = true then (some true)
  else (some (!(decide (R15.2.2 = R9.2.2))))))).bind (fun (T38 : Bool) =>
  if T38 = true then (some false)
  else ((laws_markSpace R15.1 (1 : Int)).bind fun R50 =>
  (laws_markIntS R15.2.1 R50.1).bind fun R53 =>
  (laws_heldSpace ({ Owner := R50.2 : Space }) (1 : Int)).bind fun R56 =>
  if (decide (R56 < (0 : Int))) = true then (some false)
  else ((laws_heldIntS R53.2 R56).bind fun R60 =>
  if (decide (R60 < (0 : Int))) = true then (some false)
  else (if (!(decide (R60 = R53.1))) = true then (some false)
  else (((laws_eqSpace R15.1 R9.1).bind fun R70 =>
  if (!R70) = true then (some true)
  else ((laws_eqIntS R15.2.1 R9.2.1).bind fun R74 =>
  if (!R74) = true then (some true)
  else (some (!(decide (R15.2.2 = R9.2.2)))))).bind (fun (T68 : Bool) =>
  if T68 = true then (some false)
  else (if (decide (R56 < (0 : Int))) = true then (some false)
  else (if (decide (R60 < (0 : Int))) = true then (some false)
  else (if (!(decide (R60 = R53.1))) = true then (some false)
  else (some true))))))))))))))

theorem laws_FnExactSpaceTake_con (aS : Space) (aWho : Int) (aN : Int) (V_aS0 : Value) (r : Bool) (hm : laws_FnExactSpaceTake aS aWho aN = some r) :
    Con Try.prog 5 [.agg #[V_aS0], .int .i64 aWho, .int .i64 aN] [] [(V_aS0, lc 3 aS.Owner)] (fun _ : Unit => .bool r) (fun _ => []) := by
  refine Con.intro (args := [.agg #[V_aS0], .int .i64 aWho, .int .i64 aN]) (n := 143) (val := fun r (_ : Unit) => .bool r) (post := fun _ _ => []) (m := laws_FnExactSpaceTake aS aWho aN) Try.func5 rfl rfl rfl hm ?_
  intro w S hrd
  have HB_V_aS0 := hrd _ (.head _)
  clear hrd
  unfold laws_FnExactSpaceTake
  refine TW.seq ?_
  refine TW.region ?_
  refine TO.ef (Ef.box rfl (Cel.agg ⟨(One.can (Base.can HB_V_aS0)), trivial⟩)) rfl rfl rfl (fun B1 => ?_)
  refine TO.y (Y.assign rfl) rfl rfl rfl ?_
  refine TO.nil ?_
  refine TE.next ?_
  refine TW.seq ?_
  refine TW.region ?_
  refine TO.y (Y.assign rfl) rfl rfl rfl ?_
  refine TO.nil ?_
  refine TE.next ?_
  refine TW.seq ?_
  refine TW.region ?_
  refine TO.y (Y.load_box (v := .agg #[V_aS0]) 0 kk35 rfl rfl rfl) rfl rfl rfl ?_
  refine TO.y (Y.move rfl) rfl rfl rfl ?_
  refine TO.bind fun R2 H3 => ?_
  refine TO.ef (Ef.call (rest := [.box B1 35 [V_aS0]]) [0] (laws_szSpace_con aS (1048576 : Int) V_aS0 R2 H3) kc14 rfl rfl ⟨(Base.can HB_V_aS0), trivial⟩) rfl rfl rfl (fun _ => ?_)
  refine TO.y (Y.assign rfl) rfl rfl rfl ?_
  refine TO.nil ?_
  refine TE.next ?_
  refine TW.seq ?_
  refine TW.seq ?_
  refine TW.region ?_
  refine TO.y (Y.move rfl) rfl rfl rfl ?_
  refine TO.y (Y.lss rfl rfl) rfl rfl rfl ?_
  refine TO.nil ?_
  refine TE.next ?_
  refine TW.cond rfl (fun H5 => ?_) (fun H5 => ?_)
  · refine TW.seq ?_
    refine TW.region ?_
    refine TO.y (Y.assign rfl) rfl rfl rfl ?_
    refine TO.nil ?_
    refine TE.next ?_
    refine TW.ret ?_
    refine TE.then_ret ?_
    exact TE.leaf fun _ _ hf_ hs_ => ret_any (rs := [.tmp 6]) (vs := [.bool true]) (.inl rfl) rfl ⟨rfl, trivial⟩ hf_ hs_ ⟨(), rfl, hs_.pulls [] rfl⟩
  · refine TW.skip ?_
    refine TE.next ?_
    refine TW.seq ?_
    refine TW.region ?_
    refine TO.y (Y.load_box (v := .agg #[V_aS0]) 0 kk35 rfl rfl rfl) rfl rfl rfl ?_
    refine TO.bind fun R6 H7 => ?_
    refine TO.ef (Ef.call (rest := [.box B1 35 [V_aS0]]) [0] (laws_toSpace_con aS V_aS0 R6 H7) kc16 rfl rfl ⟨(Base.can HB_V_aS0), trivial⟩) rfl rfl rfl (fun Y8 => ?_)
    refine TO.y (Y.move rfl) rfl rfl rfl ?_
    refine TO.y (Y.move rfl) rfl rfl rfl ?_
    refine TO.bind fun R9 H10 => ?_
    refine TO.ef (Ef.call (rest := [.own Y8 (lc 3 R6.Owner), .box B1 35 [V_aS0]]) [0, 0] (spec_SpaceTake_con R6 aWho aN Y8 R9 H10) kc21 rfl rfl ⟨(Can.own 0 rfl), trivial⟩) rfl rfl rfl (fun Y11 => ?_)
    refine TO.y (Y.move rfl) rfl rfl rfl ?_
    refine TO.y (Y.extract rfl rfl) rfl rfl rfl ?_
    refine TO.y (Y.extract rfl rfl) rfl rfl rfl ?_
    refine TO.y (Y.extract rfl rfl) rfl rfl rfl ?_
    refine TO.ef (Ef.alloc kz37 rfl) rfl rfl rfl (fun B12 => ?_)
    refine TO.ef0 (Ef.store_box (us := [Y11.1]) (vs' := [Y11.1]) (is' := [.box B12 37 [Y11.1], .own Y11.1 (lc 3 R9.1.Owner), .own Y11.2 (lc 3 R9.2.1), .own Y8 (lc 3 R6.Owner), .box B1 35 [V_aS0]]) 0 kk37 rfl rfl rfl (Cel.agg ⟨(One.can (Can.own 1 rfl)), trivial⟩) rfl rfl rfl rfl) rfl rfl (fun _ => ?_)
    refine TO.y (Y.assign rfl) rfl rfl rfl ?_
    refine TO.y (Y.assign rfl) rfl rfl rfl ?_
    refine TO.nil ?_
    refine TE.next ?_
    refine TW.seq ?_
    refine TW.region ?_
    refine TO.y (Y.load_box (v := .agg #[V_aS0]) 4 kk35 rfl rfl rfl) rfl rfl rfl ?_
    refine TO.ef (Ef.call (rest := [.box B12 37 [Y11.1], .own Y11.1 (lc 3 R9.1.Owner), .own Y11.2 (lc 3 R9.2.1), .own Y8 (lc 3 R6.Owner), .box B1 35 [V_aS0]]) [0, 0, 0, 0, 0] (laws_toSpace_con aS V_aS0 R6 H7) kc16 rfl rfl ⟨(Base.can HB_V_aS0), trivial⟩) rfl rfl rfl (fun Y13 => ?_)
    refine TO.ef (Ef.alloc kz37 rfl) rfl rfl rfl (fun B14 => ?_)
    refine TO.ef0 (Ef.store_box (us := [Y13]) (vs' := [Y13]) (is' := [.box B14 37 [Y13], .own Y13 (lc 3 R6.Owner), .box B12 37 [Y11.1], .own Y11.1 (lc 3 R9.1.Owner), .own Y11.2 (lc 3 R9.2.1), .own Y8 (lc 3 R6.Owner), .box B1 35 [V_aS0]]) 0 kk37 rfl rfl rfl (Cel.agg ⟨(One.can (Can.own 1 rfl)), trivial⟩) rfl rfl rfl rfl) rfl rfl (fun _ => ?_)
    refine TO.nil ?_
    refine TE.next ?_
    refine TW.seq ?_
    refine TW.region ?_
    refine TO.y (Y.load_box (v := .agg #[Y13]) 0 kk37 rfl rfl rfl) rfl rfl rfl ?_
    refine TO.y (Y.move rfl) rfl rfl rfl ?_
    refine TO.y (Y.move rfl) rfl rfl rfl ?_
    refine TO.bind fun R15 H16 => ?_
    refine TO.ef (Ef.call (rest := [.box B14 37 [Y13], .own Y13 (lc 3 R6.Owner), .box B12 37 [Y11.1], .own Y11.1 (lc 3 R9.1.Owner), .own Y11.2 (lc 3 R9.2.1), .own Y8 (lc 3 R6.Owner), .box B1 35 [V_aS0]]) [0, 0, 0, 0, 0, 0, 0] (impl_SpaceTake_con R6 aWho aN Y13 R15 H16) kc22 rfl rfl ⟨(Can.own 1 rfl), trivial⟩) rfl rfl rfl (fun Y17 => ?_)
    refine TO.y (Y.move rfl) rfl rfl rfl ?_
    refine TO.y (Y.extract rfl rfl) rfl rfl rfl ?_
    refine TO.y (Y.extract rfl rfl) rfl rfl rfl ?_
    refine TO.y (Y.extract rfl rfl) rfl rfl rfl ?_
    refine TO.ef (Ef.alloc kz37 rfl) rfl rfl rfl (fun B18 => ?_)
    refine TO.ef0 (Ef.store_box (us := [Y17.1]) (vs' := [Y17.1]) (is' := [.box B18 37 [Y17.1], .own Y17.1 (lc 3 R15.1.Owner), .own Y17.2 (lc 3 R15.2.1), .box B14 37 [Y13], .own Y13 (lc 3 R6.Owner), .box B12 37 [Y11.1], .own Y11.1 (lc 3 R9.1.Owner), .own Y11.2 (lc 3 R9.2.1), .own Y8 (lc 3 R6.Owner), .box B1 35 [V_aS0]]) 0 kk37 rfl rfl rfl (Cel.agg ⟨(One.can (Can.own 1 rfl)), trivial⟩) rfl rfl rfl rfl) rfl rfl (fun _ => ?_)
    refine TO.y (Y.assign rfl) rfl rfl rfl ?_
    refine TO.y (Y.assign rfl) rfl rfl rfl ?_
    refine TO.nil ?_
    refine TE.next ?_
    refine TW.seq ?_
    refine TW.seq ?_
    refine TW.joinBX (τ := Bool) (X := Unit) (fun T _ => [(1, .int .i64 aWho), (2, .int .i64 aN), (3, .pointer (some ⟨B1, 0, none⟩)), (8, .pointer (some ⟨B12, 0, none⟩)), (9, Y11.2), (10, .bool R9.2.2), (11, .pointer (some ⟨B14, 0, none⟩)), (12, .pointer (some ⟨B18, 0, none⟩)), (13, Y17.2), (14, .bool R15.2.2), (59, .bool T)]) (fun _ _ => [.box B1 35 [V_aS0], .box B12 37 [Y11.1], .box B14 37 [Y13], .box B18 37 [Y17.1], .own Y11.1 (lc 3 R9.1.Owner), .own Y11.2 (lc 3 R9.2.1), .own Y13 (lc 3 R6.Owner), .own Y17.1 (lc 3 R15.1.Owner), .own Y17.2 (lc 3 R15.2.1)]) ?_ (fun T19 X20 => ?_)
    · refine TW.region ?_
      refine TO.y (Y.load_box (v := .agg #[Y17.1]) 0 kk37 rfl rfl rfl) rfl rfl rfl ?_
      refine TO.y (Y.load_box (v := .agg #[Y11.1]) 5 kk37 rfl rfl rfl) rfl rfl rfl ?_
      refine TO.bind fun R21 H22 => ?_
      refine TO.ef (Ef.call (rest := [.box B18 37 [Y17.1], .own Y17.1 (lc 3 R15.1.Owner), .own Y17.2 (lc 3 R15.2.1), .box B14 37 [Y13], .own Y13 (lc 3 R6.Owner), .box B12 37 [Y11.1], .own Y11.1 (lc 3 R9.1.Owner), .own Y11.2 (lc 3 R9.2.1), .own Y8 (lc 3 R6.Owner), .box B1 35 [V_aS0]]) [0, 0, 0, 0, 0, 0, 0, 0, 0, 0] (laws_eqSpace_con R15.1 R9.1 Y17.1 Y11.1 R21 H22) kc18 rfl rfl ⟨(Can.own 1 rfl), (Can.own 6 rfl), trivial⟩) rfl rfl rfl (fun _ => ?_)
      refine TO.y (Y.not rfl) rfl rfl rfl ?_
      refine TO.y (Y.move rfl) rfl rfl rfl ?_
      refine TO.ite (b := !R21) (fun H24 => ?_) (fun H24 => ?_)
      · refine TO.off (Gd.at 4 false 49 (!R21) rfl rfl rfl (beq_tf H24)) rfl rfl ?_
        refine TO.off (Gd.at 4 false 49 (!R21) rfl rfl rfl (beq_tf H24)) rfl rfl ?_
        refine TO.off (Gd.at 4 false 49 (!R21) rfl rfl rfl (beq_tf H24)) rfl rfl ?_
        refine TO.off (Gd.at 4 false 49 (!R21) rfl rfl rfl (beq_tf H24)) rfl rfl ?_
        refine TO.y (Y.pick_t H24 rfl rfl) rfl rfl rfl ?_
        refine TO.y (Y.move rfl) rfl rfl rfl ?_
        refine TO.off (Gd.at 10 false 55 true rfl rfl rfl rfl) rfl rfl ?_
        refine TO.off (Gd.at 10 false 55 true rfl rfl rfl rfl) rfl rfl ?_
        refine TO.off (Gd.at 10 false 55 true rfl rfl rfl rfl) rfl rfl ?_
        refine TO.y (Y.pick_t rfl rfl rfl) rfl rfl rfl ?_
        refine TO.nil ?_
        exact TE.jb_go () [9, 5, 3, 0, 3, 3, 2, 0, 0] ⟨rfl, rfl, rfl, rfl, rfl, rfl, rfl, rfl, rfl, rfl, rfl, trivial⟩ rfl
      · refine TO.y (Y.move rfl) (Gd.at 4 false 49 (!R21) rfl rfl rfl (beq_ff H24)) rfl rfl ?_
        refine TO.y (Y.move rfl) (Gd.at 4 false 49 (!R21) rfl rfl rfl (beq_ff H24)) rfl rfl ?_
        refine TO.bind fun R25 H26 => ?_
        refine TO.ef (Ef.call (rest := [.box B18 37 [Y17.1], .own Y17.1 (lc 3 R15.1.Owner), .own Y17.2 (lc 3 R15.2.1), .box B14 37 [Y13], .own Y13 (lc 3 R6.Owner), .box B12 37 [Y11.1], .own Y11.1 (lc 3 R9.1.Owner), .own Y11.2 (lc 3 R9.2.1), .own Y8 (lc 3 R6.Owner), .box B1 35 [V_aS0]]) [0, 0, 0, 0, 0, 0, 0, 0, 0, 0] (laws_eqIntS_con R15.2.1 R9.2.1 Y17.2 Y11.2 R25 H26) kc23 rfl rfl ⟨(Can.own 2 rfl), (Can.own 7 rfl), trivial⟩) (Gd.at 4 false 49 (!R21) rfl rfl rfl (beq_ff H24)) rfl rfl (fun _ => ?_)
        refine TO.y (Y.not rfl) (Gd.at 4 false 49 (!R21) rfl rfl rfl (beq_ff H24)) rfl rfl ?_
        refine TO.y (Y.pick_f H24 rfl rfl) rfl rfl rfl ?_
        refine TO.y (Y.move rfl) rfl rfl rfl ?_
        refine TO.ite (b := !R25) (fun H28 => ?_) (fun H28 => ?_)
        · refine TO.off (Gd.at 10 false 55 (!R25) rfl rfl rfl (beq_tf H28)) rfl rfl ?_
          refine TO.off (Gd.at 10 false 55 (!R25) rfl rfl rfl (beq_tf H28)) rfl rfl ?_
          refine TO.off (Gd.at 10 false 55 (!R25) rfl rfl rfl (beq_tf H28)) rfl rfl ?_
          refine TO.y (Y.pick_t H28 rfl rfl) rfl rfl rfl ?_
          refine TO.nil ?_
          exact TE.jb_go () [9, 5, 3, 0, 3, 3, 2, 0, 0] ⟨rfl, rfl, rfl, rfl, rfl, rfl, rfl, rfl, rfl, rfl, rfl, trivial⟩ rfl
        · refine TO.y (Y.move rfl) (Gd.at 10 false 55 (!R25) rfl rfl rfl (beq_ff H28)) rfl rfl ?_
          refine TO.y (Y.move rfl) (Gd.at 10 false 55 (!R25) rfl rfl rfl (beq_ff H28)) rfl rfl ?_
          refine TO.y (Y.neb kb4 rfl rfl) (Gd.at 10 false 55 (!R25) rfl rfl rfl (beq_ff H28)) rfl rfl ?_
          refine TO.y (Y.pick_f H28 rfl rfl) rfl rfl rfl ?_
          refine TO.nil ?_
          exact TE.jb_go () [9, 5, 3, 0, 3, 3, 2, 0, 0] ⟨rfl, rfl, rfl, rfl, rfl, rfl, rfl, rfl, rfl, rfl, rfl, trivial⟩ rfl
    · refine TE.next ?_
      refine TW.cond rfl (fun H29 => ?_) (fun H29 => ?_)
      · refine TW.seq ?_
        refine TW.region ?_
        refine TO.y (Y.assign rfl) rfl rfl rfl ?_
        refine TO.nil ?_
        refine TE.next ?_
        refine TW.ret ?_
        refine TE.then_ret ?_
        exact TE.leaf fun _ _ hf_ hs_ => ret_any (rs := [.tmp 6]) (vs := [.bool false]) (.inl rfl) rfl ⟨rfl, trivial⟩ hf_ hs_ ⟨(), rfl, hs_.pulls [] rfl⟩
      · refine TW.skip ?_
        refine TE.next ?_
        refine TW.seq ?_
        refine TW.seq ?_
        refine TW.draw (isH := [.box B1 35 [V_aS0], .box B12 37 [Y11.1], .box B14 37 [Y13], .box B18 37 [Y17.1], .own Y11.1 (lc 3 R9.1.Owner), .own Y11.2 (lc 3 R9.2.1), .own Y13 (lc 3 R6.Owner), .own Y17.1 (lc 3 R15.1.Owner), .own Y17.2 (lc 3 R15.2.1)]) hMix ?_
        refine TA.y (listed' := #[true, false, false, false, false]) 0 [0, 0, 0, 0, 0, 0, 0, 0, 0] rfl (Y.load_box (v := .agg #[Y13]) 2 kk37 rfl rfl rfl) rfl rfl rfl (by kernel_rfl) (by kernel_rfl) (by kernel_rfl) rfl rfl ?_
        refine TA.y (listed' := #[true, true, false, false, false]) 1 [0, 0, 0, 0, 0, 0, 0, 0, 0] rfl (Y.load_box (v := .agg #[V_aS0]) 0 kk35 rfl rfl rfl) rfl rfl rfl (by kernel_rfl) (by kernel_rfl) (by kernel_rfl) rfl rfl ?_
        refine TA.one 2 (by kernel_rfl) ?_
        refine TX.ef (listed' := #[true, true, true, false, false]) [1, 1, 1, 1, 1, 1, 1, 1, 1] rfl (Ef.call (rest := [.box B1 35 [V_aS0], .box B12 37 [Y11.1], .box B14 37 [Y13], .box B18 37 [Y17.1], .own Y11.1 (lc 3 R9.1.Owner), .own Y11.2 (lc 3 R9.2.1), .own Y13 (lc 3 R6.Owner), .own Y17.1 (lc 3 R15.1.Owner), .own Y17.2 (lc 3 R15.2.1)]) [0, 0, 0, 0, 0, 0, 0, 0, 0] (laws_toSpace_con aS V_aS0 R6 H7) kc16 rfl rfl ⟨(Base.can HB_V_aS0), trivial⟩) rfl rfl rfl rfl (fun _ => rfl) (fun Y30 => ?_)
        refine TA.bind fun R31 H32 => ?_
        refine TA.one 3 (by kernel_rfl) ?_
        refine TX.ef (listed' := #[true, true, true, true, false]) [1, 1, 1, 1, 1, 1, 1, 1, 1] rfl (Ef.call (rest := [.own Y30 (lc 3 R6.Owner), .box B1 35 [V_aS0], .box B12 37 [Y11.1], .box B14 37 [Y13], .box B18 37 [Y17.1], .own Y11.1 (lc 3 R9.1.Owner), .own Y11.2 (lc 3 R9.2.1), .own Y13 (lc 3 R6.Owner), .own Y17.1 (lc 3 R15.1.Owner), .own Y17.2 (lc 3 R15.2.1)]) [0, 0, 0, 0, 0, 0, 0, 0, 0, 0] (laws_eqSpace_con R6 R6 Y13 Y30 R31 H32) kc18 rfl rfl ⟨(Can.own 7 rfl), (Can.own 0 rfl), trivial⟩) rfl rfl rfl rfl (fun _ => rfl) (fun _ => ?_)
        refine TA.y (listed' := #[true, true, true, true, true]) 4 [1, 1, 1, 1, 1, 1, 1, 1, 1] rfl (Y.not rfl) rfl rfl rfl (by kernel_rfl) (by kernel_rfl) (by kernel_rfl) rfl rfl ?_
        refine TA.nil (by kernel_rfl) ?_
        refine TE.next ?_
        refine TW.cond rfl (fun H34 => ?_) (fun H34 => ?_)
        · refine TW.seq ?_
          refine TW.region ?_
          refine TO.y (Y.assign rfl) rfl rfl rfl ?_
          refine TO.nil ?_
          refine TE.next ?_
          refine TW.ret ?_
          refine TE.then_ret ?_
          exact TE.leaf fun _ _ hf_ hs_ => ret_any (rs := [.tmp 6]) (vs := [.bool false]) (.inl rfl) rfl ⟨rfl, trivial⟩ hf_ hs_ ⟨(), rfl, hs_.pulls [] rfl⟩
        · refine TW.skip ?_
          refine TE.next ?_
          refine TW.seq ?_
          refine TW.region ?_
          refine TO.y (Y.assign rfl) rfl rfl rfl ?_
          refine TO.nil ?_
          refine TE.next ?_
          refine TW.seq ?_
          refine TW.region ?_
          refine TO.y (Y.load_box (v := .agg #[Y13]) 3 kk37 rfl rfl rfl) rfl rfl rfl ?_
          refine TO.y (Y.move rfl) rfl rfl rfl ?_
          refine TO.bind fun R35 H36 => ?_
          refine TO.ef (Ef.call (rest := [.own Y30 (lc 3 R6.Owner), .box B1 35 [V_aS0], .box B12 37 [Y11.1], .box B14 37 [Y13], .box B18 37 [Y17.1], .own Y11.1 (lc 3 R9.1.Owner), .own Y11.2 (lc 3 R9.2.1), .own Y17.1 (lc 3 R15.1.Owner), .own Y17.2 (lc 3 R15.2.1)]) [7, 0, 0, 0, 0, 0, 0, 0, 0, 0] (laws_markSpace_con R6 (1 : Int) Y13 R35 H36) kc19 rfl rfl trivial) rfl rfl rfl (fun _ => ?_)
          refine TO.y (Y.assign rfl) rfl rfl rfl ?_
          refine TO.nil ?_
          refine TE.next ?_
          refine TW.seq ?_
          refine TW.seq ?_
          refine TW.joinBX (τ := Bool) (X := Unit) (fun T _ => [(1, .int .i64 aWho), (2, .int .i64 aN), (3, .pointer (some ⟨B1, 0, none⟩)), (8, .pointer (some ⟨B12, 0, none⟩)), (9, Y11.2), (10, .bool R9.2.2), (12, .pointer (some ⟨B18, 0, none⟩)), (13, Y17.2), (86, .bool T)]) (fun _ _ => [.box B1 35 [V_aS0], .box B12 37 [Y11.1], .box B18 37 [Y17.1], .own Y11.1 (lc 3 R9.1.Owner), .own Y11.2 (lc 3 R9.2.1), .own Y17.1 (lc 3 R15.1.Owner), .own Y17.2 (lc 3 R15.2.1)]) ?_ (fun T38 X39 => ?_)
          · refine TW.region ?_
            refine TO.y (Y.move rfl) rfl rfl rfl ?_
            refine TO.y (Y.lss rfl rfl) rfl rfl rfl ?_
            refine TO.y (Y.move rfl) rfl rfl rfl ?_
            refine TO.ite (b := decide (R35.1 < (0 : Int))) (fun H40 => ?_) (fun H40 => ?_)
            · refine TO.off (Gd.at 2 false 70 (decide (R35.1 < (0 : Int))) rfl rfl rfl (beq_tf H40)) rfl rfl ?_
              refine TO.off (Gd.at 2 false 70 (decide (R35.1 < (0 : Int))) rfl rfl rfl (beq_tf H40)) rfl rfl ?_
              refine TO.off (Gd.at 2 false 70 (decide (R35.1 < (0 : Int))) rfl rfl rfl (beq_tf H40)) rfl rfl ?_
              refine TO.off (Gd.at 2 false 70 (decide (R35.1 < (0 : Int))) rfl rfl rfl (beq_tf H40)) rfl rfl ?_
              refine TO.y (Y.pick_t H40 rfl rfl) rfl rfl rfl ?_
              refine TO.y (Y.move rfl) rfl rfl rfl ?_
              refine TO.off (Gd.at 8 false 76 true rfl rfl rfl rfl) rfl rfl ?_
              refine TO.off (Gd.at 8 false 76 true rfl rfl rfl rfl) rfl rfl ?_
              refine TO.off (Gd.at 8 false 76 true rfl rfl rfl rfl) rfl rfl ?_
              refine TO.off (Gd.at 8 false 76 true rfl rfl rfl rfl) rfl rfl ?_
              refine TO.y (Y.pick_t rfl rfl rfl) rfl rfl rfl ?_
              refine TO.y (Y.move rfl) rfl rfl rfl ?_
              refine TO.off (Gd.at 14 false 82 true rfl rfl rfl rfl) rfl rfl ?_
              refine TO.off (Gd.at 14 false 82 true rfl rfl rfl rfl) rfl rfl ?_
              refine TO.off (Gd.at 14 false 82 true rfl rfl rfl rfl) rfl rfl ?_
              refine TO.y (Y.pick_t rfl rfl rfl) rfl rfl rfl ?_
              refine TO.nil ?_
              exact TE.jb_go () [2, 2, 3, 3, 3, 3, 3] ⟨rfl, rfl, rfl, rfl, rfl, rfl, rfl, rfl, rfl, trivial⟩ rfl
            · refine TO.y (Y.load_box (v := .agg #[Y17.1]) 5 kk37 rfl rfl rfl) (Gd.at 2 false 70 (decide (R35.1 < (0 : Int))) rfl rfl rfl (beq_ff H40)) rfl rfl ?_
              refine TO.y (Y.load_box (v := .agg #[Y11.1]) 3 kk37 rfl rfl rfl) (Gd.at 2 false 70 (decide (R35.1 < (0 : Int))) rfl rfl rfl (beq_ff H40)) rfl rfl ?_
              refine TO.bind fun R41 H42 => ?_
              refine TO.ef (Ef.call (rest := [.own Y13 (lc 3 R35.2), .own Y30 (lc 3 R6.Owner), .box B1 35 [V_aS0], .box B12 37 [Y11.1], .box B14 37 [Y13], .box B18 37 [Y17.1], .own Y11.1 (lc 3 R9.1.Owner), .own Y11.2 (lc 3 R9.2.1), .own Y17.1 (lc 3 R15.1.Owner), .own Y17.2 (lc 3 R15.2.1)]) [0, 0, 0, 0, 0, 0, 0, 0, 0, 0] (laws_eqSpace_con R15.1 R9.1 Y17.1 Y11.1 R41 H42) kc18 rfl rfl ⟨(Can.own 8 rfl), (Can.own 6 rfl), trivial⟩) (Gd.at 2 false 70 (decide (R35.1 < (0 : Int))) rfl rfl rfl (beq_ff H40)) rfl rfl (fun _ => ?_)
              refine TO.y (Y.not rfl) (Gd.at 2 false 70 (decide (R35.1 < (0 : Int))) rfl rfl rfl (beq_ff H40)) rfl rfl ?_
              refine TO.y (Y.pick_f H40 rfl rfl) rfl rfl rfl ?_
              refine TO.y (Y.move rfl) rfl rfl rfl ?_
              refine TO.ite (b := !R41) (fun H44 => ?_) (fun H44 => ?_)
              · refine TO.off (Gd.at 8 false 76 (!R41) rfl rfl rfl (beq_tf H44)) rfl rfl ?_
                refine TO.off (Gd.at 8 false 76 (!R41) rfl rfl rfl (beq_tf H44)) rfl rfl ?_
                refine TO.off (Gd.at 8 false 76 (!R41) rfl rfl rfl (beq_tf H44)) rfl rfl ?_
                refine TO.off (Gd.at 8 false 76 (!R41) rfl rfl rfl (beq_tf H44)) rfl rfl ?_
                refine TO.y (Y.pick_t H44 rfl rfl) rfl rfl rfl ?_
                refine TO.y (Y.move rfl) rfl rfl rfl ?_
                refine TO.off (Gd.at 14 false 82 true rfl rfl rfl rfl) rfl rfl ?_
                refine TO.off (Gd.at 14 false 82 true rfl rfl rfl rfl) rfl rfl ?_
                refine TO.off (Gd.at 14 false 82 true rfl rfl rfl rfl) rfl rfl ?_
                refine TO.y (Y.pick_t rfl rfl rfl) rfl rfl rfl ?_
                refine TO.nil ?_
                exact TE.jb_go () [2, 2, 3, 3, 3, 3, 3] ⟨rfl, rfl, rfl, rfl, rfl, rfl, rfl, rfl, rfl, trivial⟩ rfl
              · refine TO.y (Y.move rfl) (Gd.at 8 false 76 (!R41) rfl rfl rfl (beq_ff H44)) rfl rfl ?_
                refine TO.y (Y.move rfl) (Gd.at 8 false 76 (!R41) rfl rfl rfl (beq_ff H44)) rfl rfl ?_
                refine TO.bind fun R45 H46 => ?_
                refine TO.ef (Ef.call (rest := [.own Y13 (lc 3 R35.2), .own Y30 (lc 3 R6.Owner), .box B1 35 [V_aS0], .box B12 37 [Y11.1], .box B14 37 [Y13], .box B18 37 [Y17.1], .own Y11.1 (lc 3 R9.1.Owner), .own Y11.2 (lc 3 R9.2.1), .own Y17.1 (lc 3 R15.1.Owner), .own Y17.2 (lc 3 R15.2.1)]) [0, 0, 0, 0, 0, 0, 0, 0, 0, 0] (laws_eqIntS_con R15.2.1 R9.2.1 Y17.2 Y11.2 R45 H46) kc23 rfl rfl ⟨(Can.own 9 rfl), (Can.own 7 rfl), trivial⟩) (Gd.at 8 false 76 (!R41) rfl rfl rfl (beq_ff H44)) rfl rfl (fun _ => ?_)
                refine TO.y (Y.not rfl) (Gd.at 8 false 76 (!R41) rfl rfl rfl (beq_ff H44)) rfl rfl ?_
                refine TO.y (Y.pick_f H44 rfl rfl) rfl rfl rfl ?_
                refine TO.y (Y.move rfl) rfl rfl rfl ?_
                refine TO.ite (b := !R45) (fun H48 => ?_) (fun H48 => ?_)
                · refine TO.off (Gd.at 14 false 82 (!R45) rfl rfl rfl (beq_tf H48)) rfl rfl ?_
                  refine TO.off (Gd.at 14 false 82 (!R45) rfl rfl rfl (beq_tf H48)) rfl rfl ?_
                  refine TO.off (Gd.at 14 false 82 (!R45) rfl rfl rfl (beq_tf H48)) rfl rfl ?_
                  refine TO.y (Y.pick_t H48 rfl rfl) rfl rfl rfl ?_
                  refine TO.nil ?_
                  exact TE.jb_go () [2, 2, 3, 3, 3, 3, 3] ⟨rfl, rfl, rfl, rfl, rfl, rfl, rfl, rfl, rfl, trivial⟩ rfl
                · refine TO.y (Y.move rfl) (Gd.at 14 false 82 (!R45) rfl rfl rfl (beq_ff H48)) rfl rfl ?_
                  refine TO.y (Y.move rfl) (Gd.at 14 false 82 (!R45) rfl rfl rfl (beq_ff H48)) rfl rfl ?_
                  refine TO.y (Y.neb kb4 rfl rfl) (Gd.at 14 false 82 (!R45) rfl rfl rfl (beq_ff H48)) rfl rfl ?_
                  refine TO.y (Y.pick_f H48 rfl rfl) rfl rfl rfl ?_
                  refine TO.nil ?_
                  exact TE.jb_go () [2, 2, 3, 3, 3, 3, 3] ⟨rfl, rfl, rfl, rfl, rfl, rfl, rfl, rfl, rfl, trivial⟩ rfl
          · refine TE.next ?_
            refine TW.cond rfl (fun H49 => ?_) (fun H49 => ?_)
            · refine TW.seq ?_
              refine TW.region ?_
              refine TO.y (Y.assign rfl) rfl rfl rfl ?_
              refine TO.nil ?_
              refine TE.next ?_
              refine TW.ret ?_
              refine TE.then_ret ?_
              exact TE.leaf fun _ _ hf_ hs_ => ret_any (rs := [.tmp 6]) (vs := [.bool false]) (.inl rfl) rfl ⟨rfl, trivial⟩ hf_ hs_ ⟨(), rfl, hs_.pulls [] rfl⟩
            · refine TW.skip ?_
              refine TE.next ?_
              refine TW.seq ?_
              refine TW.region ?_
              refine TO.y (Y.assign rfl) rfl rfl rfl ?_
              refine TO.nil ?_
              refine TE.next ?_
              refine TW.seq ?_
              refine TW.region ?_
              refine TO.y (Y.load_box (v := .agg #[Y17.1]) 2 kk37 rfl rfl rfl) rfl rfl rfl ?_
              refine TO.y (Y.move rfl) rfl rfl rfl ?_
              refine TO.bind fun R50 H51 => ?_
              refine TO.ef (Ef.call (rest := [.box B1 35 [V_aS0], .box B12 37 [Y11.1], .box B18 37 [Y17.1], .own Y11.1 (lc 3 R9.1.Owner), .own Y11.2 (lc 3 R9.2.1), .own Y17.2 (lc 3 R15.2.1)]) [5, 0, 0, 0, 0, 0, 0] (laws_markSpace_con R15.1 (1 : Int) Y17.1 R50 H51) kc19 rfl rfl trivial) rfl rfl rfl (fun _ => ?_)
              refine TO.y (Y.assign rfl) rfl rfl rfl ?_
              refine TO.nil ?_
              refine TE.next ?_
              refine TW.seq ?_
              refine TW.region ?_
              refine TO.y (Y.move rfl) rfl rfl rfl ?_
              refine TO.y (Y.move rfl) rfl rfl rfl ?_
              refine TO.bind fun R53 H54 => ?_
              refine TO.ef (Ef.call (rest := [.own Y17.1 (lc 3 R50.2), .box B1 35 [V_aS0], .box B12 37 [Y11.1], .box B18 37 [Y17.1], .own Y11.1 (lc 3 R9.1.Owner), .own Y11.2 (lc 3 R9.2.1)]) [6, 0, 0, 0, 0, 0, 0] (laws_markIntS_con R15.2.1 R50.1 Y17.2 R53 H54) kc24 rfl rfl trivial) rfl rfl rfl (fun _ => ?_)
              refine TO.y (Y.assign rfl) rfl rfl rfl ?_
              refine TO.nil ?_
              refine TE.next ?_
              refine TW.seq ?_
              refine TW.region ?_
              refine TO.y (Y.assign rfl) rfl rfl rfl ?_
              refine TO.nil ?_
              refine TE.next ?_
              refine TW.seq ?_
              refine TW.region ?_
              refine TO.y (Y.load_box (v := .agg #[Y17.1]) 4 kk37 rfl rfl rfl) rfl rfl rfl ?_
              refine TO.y (Y.move rfl) rfl rfl rfl ?_
              refine TO.bind fun R56 H57 => ?_
              refine TO.ef (Ef.call (rest := [.own Y17.2 (lc 3 R53.2), .own Y17.1 (lc 3 R50.2), .box B1 35 [V_aS0], .box B12 37 [Y11.1], .box B18 37 [Y17.1], .own Y11.1 (lc 3 R9.1.Owner), .own Y11.2 (lc 3 R9.2.1)]) [0, 0, 0, 0, 0, 0, 0] (laws_heldSpace_con ({ Owner := R50.2 : Space }) (1 : Int) Y17.1 R56 H57) kc20 rfl rfl ⟨(Can.own 1 rfl), trivial⟩) rfl rfl rfl (fun _ => ?_)
              refine TO.y (Y.assign rfl) rfl rfl rfl ?_
              refine TO.nil ?_
              refine TE.next ?_
              refine TW.seq ?_
              refine TW.seq ?_
              refine TW.region ?_
              refine TO.y (Y.move rfl) rfl rfl rfl ?_
              refine TO.y (Y.lss rfl rfl) rfl rfl rfl ?_
              refine TO.nil ?_
              refine TE.next ?_
              refine TW.cond rfl (fun H59 => ?_) (fun H59 => ?_)
              · refine TW.seq ?_
                refine TW.region ?_
                refine TO.y (Y.assign rfl) rfl rfl rfl ?_
                refine TO.nil ?_
                refine TE.next ?_
                refine TW.ret ?_
                refine TE.then_ret ?_
                exact TE.leaf fun _ _ hf_ hs_ => ret_any (rs := [.tmp 6]) (vs := [.bool false]) (.inl rfl) rfl ⟨rfl, trivial⟩ hf_ hs_ ⟨(), rfl, hs_.pulls [] rfl⟩
              · refine TW.skip ?_
                refine TE.next ?_
                refine TW.seq ?_
                refine TW.region ?_
                refine TO.y (Y.move rfl) rfl rfl rfl ?_
                refine TO.y (Y.move rfl) rfl rfl rfl ?_
                refine TO.bind fun R60 H61 => ?_
                refine TO.ef (Ef.call (rest := [.own Y17.2 (lc 3 R53.2), .own Y17.1 (lc 3 R50.2), .box B1 35 [V_aS0], .box B12 37 [Y11.1], .box B18 37 [Y17.1], .own Y11.1 (lc 3 R9.1.Owner), .own Y11.2 (lc 3 R9.2.1)]) [0, 0, 0, 0, 0, 0, 0] (laws_heldIntS_con R53.2 R56 Y17.2 R60 H61) kc25 rfl rfl ⟨(Can.own 0 rfl), trivial⟩) rfl rfl rfl (fun _ => ?_)
                refine TO.y (Y.assign rfl) rfl rfl rfl ?_
                refine TO.nil ?_
                refine TE.next ?_
                refine TW.seq ?_
                refine TW.seq ?_
                refine TW.region ?_
                refine TO.y (Y.move rfl) rfl rfl rfl ?_
                refine TO.y (Y.lss rfl rfl) rfl rfl rfl ?_
                refine TO.nil ?_
                refine TE.next ?_
                refine TW.cond rfl (fun H63 => ?_) (fun H63 => ?_)
                · refine TW.seq ?_
                  refine TW.region ?_
                  refine TO.y (Y.assign rfl) rfl rfl rfl ?_
                  refine TO.nil ?_
                  refine TE.next ?_
                  refine TW.ret ?_
                  refine TE.then_ret ?_
                  exact TE.leaf fun _ _ hf_ hs_ => ret_any (rs := [.tmp 6]) (vs := [.bool false]) (.inl rfl) rfl ⟨rfl, trivial⟩ hf_ hs_ ⟨(), rfl, hs_.pulls [] rfl⟩
                · refine TW.skip ?_
                  refine TE.next ?_
                  refine TW.seq ?_
                  refine TW.seq ?_
                  refine TW.region ?_
                  refine TO.y (Y.move rfl) rfl rfl rfl ?_
                  refine TO.y (Y.move rfl) rfl rfl rfl ?_
                  refine TO.y (Y.neq rfl rfl) rfl rfl rfl ?_
                  refine TO.nil ?_
                  refine TE.next ?_
                  refine TW.cond rfl (fun H64 => ?_) (fun H64 => ?_)
                  · refine TW.seq ?_
                    refine TW.region ?_
                    refine TO.y (Y.assign rfl) rfl rfl rfl ?_
                    refine TO.nil ?_
                    refine TE.next ?_
                    refine TW.ret ?_
                    refine TE.then_ret ?_
                    exact TE.leaf fun _ _ hf_ hs_ => ret_any (rs := [.tmp 6]) (vs := [.bool false]) (.inl rfl) rfl ⟨rfl, trivial⟩ hf_ hs_ ⟨(), rfl, hs_.pulls [] rfl⟩
                  · refine TW.skip ?_
                    refine TE.next ?_
                    refine TW.seq ?_
                    refine TW.region ?_
                    refine TO.y (Y.load_box (v := .agg #[V_aS0]) 2 kk35 rfl rfl rfl) rfl rfl rfl ?_
                    refine TO.ef (Ef.call (rest := [.own Y17.2 (lc 3 R53.2), .own Y17.1 (lc 3 R50.2), .box B1 35 [V_aS0], .box B12 37 [Y11.1], .box B18 37 [Y17.1], .own Y11.1 (lc 3 R9.1.Owner), .own Y11.2 (lc 3 R9.2.1)]) [0, 0, 0, 0, 0, 0, 0] (laws_toSpace_con aS V_aS0 R6 H7) kc16 rfl rfl ⟨(Base.can HB_V_aS0), trivial⟩) rfl rfl rfl (fun Y65 => ?_)
                    refine TO.y (Y.move rfl) rfl rfl rfl ?_
                    refine TO.y (Y.move rfl) rfl rfl rfl ?_
                    refine TO.ef (Ef.call (rest := [.own Y65 (lc 3 R6.Owner), .own Y17.2 (lc 3 R53.2), .own Y17.1 (lc 3 R50.2), .box B1 35 [V_aS0], .box B12 37 [Y11.1], .box B18 37 [Y17.1], .own Y11.1 (lc 3 R9.1.Owner), .own Y11.2 (lc 3 R9.2.1)]) [0, 0, 0, 0, 0, 0, 0, 0] (impl_SpaceTake_con R6 aWho aN Y65 R15 H16) kc22 rfl rfl ⟨(Can.own 0 rfl), trivial⟩) rfl rfl rfl (fun Y66 => ?_)
                    refine TO.y (Y.move rfl) rfl rfl rfl ?_
                    refine TO.y (Y.extract rfl rfl) rfl rfl rfl ?_
                    refine TO.y (Y.extract rfl rfl) rfl rfl rfl ?_
                    refine TO.y (Y.extract rfl rfl) rfl rfl rfl ?_
                    refine TO.ef (Ef.alloc kz37 rfl) rfl rfl rfl (fun B67 => ?_)
                    refine TO.ef0 (Ef.store_box (us := [Y66.1]) (vs' := [Y66.1]) (is' := [.box B67 37 [Y66.1], .own Y66.1 (lc 3 R15.1.Owner), .own Y66.2 (lc 3 R15.2.1), .own Y65 (lc 3 R6.Owner), .own Y17.2 (lc 3 R53.2), .own Y17.1 (lc 3 R50.2), .box B1 35 [V_aS0], .box B12 37 [Y11.1], .box B18 37 [Y17.1], .own Y11.1 (lc 3 R9.1.Owner), .own Y11.2 (lc 3 R9.2.1)]) 0 kk37 rfl rfl rfl (Cel.agg ⟨(One.can (Can.own 1 rfl)), trivial⟩) rfl rfl rfl rfl) rfl rfl (fun _ => ?_)
                    refine TO.y (Y.assign rfl) rfl rfl rfl ?_
                    refine TO.y (Y.assign rfl) rfl rfl rfl ?_
                    refine TO.nil ?_
                    refine TE.next ?_
                    refine TW.seq ?_
                    refine TW.seq ?_
                    refine TW.joinBX (τ := Bool) (X := Unit) (fun T _ => [(12, .pointer (some ⟨B18, 0, none⟩)), (13, Y17.2), (16, .int .i64 R53.1), (129, .bool T)]) (fun _ _ => [.box B18 37 [Y17.1], .own Y17.1 (lc 3 R50.2), .own Y17.2 (lc 3 R53.2)]) ?_ (fun T68 X69 => ?_)
                    · refine TW.region ?_
                      refine TO.y (Y.load_box (v := .agg #[Y66.1]) 0 kk37 rfl rfl rfl) rfl rfl rfl ?_
                      refine TO.y (Y.load_box (v := .agg #[Y11.1]) 7 kk37 rfl rfl rfl) rfl rfl rfl ?_
                      refine TO.bind fun R70 H71 => ?_
                      refine TO.ef (Ef.call (rest := [.box B67 37 [Y66.1], .own Y66.1 (lc 3 R15.1.Owner), .own Y66.2 (lc 3 R15.2.1), .own Y65 (lc 3 R6.Owner), .own Y17.2 (lc 3 R53.2), .own Y17.1 (lc 3 R50.2), .box B1 35 [V_aS0], .box B12 37 [Y11.1], .box B18 37 [Y17.1], .own Y11.1 (lc 3 R9.1.Owner), .own Y11.2 (lc 3 R9.2.1)]) [0, 0, 0, 0, 0, 0, 0, 0, 0, 0, 0] (laws_eqSpace_con R15.1 R9.1 Y66.1 Y11.1 R70 H71) kc18 rfl rfl ⟨(Can.own 1 rfl), (Can.own 9 rfl), trivial⟩) rfl rfl rfl (fun _ => ?_)
                      refine TO.y (Y.not rfl) rfl rfl rfl ?_
                      refine TO.y (Y.move rfl) rfl rfl rfl ?_
                      refine TO.ite (b := !R70) (fun H73 => ?_) (fun H73 => ?_)
                      · refine TO.off (Gd.at 4 false 119 (!R70) rfl rfl rfl (beq_tf H73)) rfl rfl ?_
                        refine TO.off (Gd.at 4 false 119 (!R70) rfl rfl rfl (beq_tf H73)) rfl rfl ?_
                        refine TO.off (Gd.at 4 false 119 (!R70) rfl rfl rfl (beq_tf H73)) rfl rfl ?_
                        refine TO.off (Gd.at 4 false 119 (!R70) rfl rfl rfl (beq_tf H73)) rfl rfl ?_
                        refine TO.y (Y.pick_t H73 rfl rfl) rfl rfl rfl ?_
                        refine TO.y (Y.move rfl) rfl rfl rfl ?_
                        refine TO.off (Gd.at 10 false 125 true rfl rfl rfl rfl) rfl rfl ?_
                        refine TO.off (Gd.at 10 false 125 true rfl rfl rfl rfl) rfl rfl ?_
                        refine TO.off (Gd.at 10 false 125 true rfl rfl rfl rfl) rfl rfl ?_
                        refine TO.y (Y.pick_t rfl rfl rfl) rfl rfl rfl ?_
                        refine TO.nil ?_
                        exact TE.jb_go () [8, 5, 4] ⟨rfl, rfl, rfl, rfl, trivial⟩ rfl
                      · refine TO.y (Y.move rfl) (Gd.at 4 false 119 (!R70) rfl rfl rfl (beq_ff H73)) rfl rfl ?_
                        refine TO.y (Y.move rfl) (Gd.at 4 false 119 (!R70) rfl rfl rfl (beq_ff H73)) rfl rfl ?_
                        refine TO.bind fun R74 H75 => ?_
                        refine TO.ef (Ef.call (rest := [.box B67 37 [Y66.1], .own Y66.1 (lc 3 R15.1.Owner), .own Y66.2 (lc 3 R15.2.1), .own Y65 (lc 3 R6.Owner), .own Y17.2 (lc 3 R53.2), .own Y17.1 (lc 3 R50.2), .box B1 35 [V_aS0], .box B12 37 [Y11.1], .box B18 37 [Y17.1], .own Y11.1 (lc 3 R9.1.Owner), .own Y11.2 (lc 3 R9.2.1)]) [0, 0, 0, 0, 0, 0, 0, 0, 0, 0, 0] (laws_eqIntS_con R15.2.1 R9.2.1 Y66.2 Y11.2 R74 H75) kc23 rfl rfl ⟨(Can.own 2 rfl), (Can.own 10 rfl), trivial⟩) (Gd.at 4 false 119 (!R70) rfl rfl rfl (beq_ff H73)) rfl rfl (fun _ => ?_)
                        refine TO.y (Y.not rfl) (Gd.at 4 false 119 (!R70) rfl rfl rfl (beq_ff H73)) rfl rfl ?_
                        refine TO.y (Y.pick_f H73 rfl rfl) rfl rfl rfl ?_
                        refine TO.y (Y.move rfl) rfl rfl rfl ?_
                        refine TO.ite (b := !R74) (fun H77 => ?_) (fun H77 => ?_)
                        · refine TO.off (Gd.at 10 false 125 (!R74) rfl rfl rfl (beq_tf H77)) rfl rfl ?_
                          refine TO.off (Gd.at 10 false 125 (!R74) rfl rfl rfl (beq_tf H77)) rfl rfl ?_
                          refine TO.off (Gd.at 10 false 125 (!R74) rfl rfl rfl (beq_tf H77)) rfl rfl ?_
                          refine TO.y (Y.pick_t H77 rfl rfl) rfl rfl rfl ?_
                          refine TO.nil ?_
                          exact TE.jb_go () [8, 5, 4] ⟨rfl, rfl, rfl, rfl, trivial⟩ rfl
                        · refine TO.y (Y.move rfl) (Gd.at 10 false 125 (!R74) rfl rfl rfl (beq_ff H77)) rfl rfl ?_
                          refine TO.y (Y.move rfl) (Gd.at 10 false 125 (!R74) rfl rfl rfl (beq_ff H77)) rfl rfl ?_
                          refine TO.y (Y.neb kb4 rfl rfl) (Gd.at 10 false 125 (!R74) rfl rfl rfl (beq_ff H77)) rfl rfl ?_
                          refine TO.y (Y.pick_f H77 rfl rfl) rfl rfl rfl ?_
                          refine TO.nil ?_
                          exact TE.jb_go () [8, 5, 4] ⟨rfl, rfl, rfl, rfl, trivial⟩ rfl
                    · refine TE.next ?_
                      refine TW.cond rfl (fun H78 => ?_) (fun H78 => ?_)
                      · refine TW.seq ?_
                        refine TW.region ?_
                        refine TO.y (Y.assign rfl) rfl rfl rfl ?_
                        refine TO.nil ?_
                        refine TE.next ?_
                        refine TW.ret ?_
                        refine TE.then_ret ?_
                        exact TE.leaf fun _ _ hf_ hs_ => ret_any (rs := [.tmp 6]) (vs := [.bool false]) (.inl rfl) rfl ⟨rfl, trivial⟩ hf_ hs_ ⟨(), rfl, hs_.pulls [] rfl⟩
                      · refine TW.skip ?_
                        refine TE.next ?_
                        refine TW.seq ?_
                        refine TW.region ?_
                        refine TO.y (Y.assign rfl) rfl rfl rfl ?_
                        refine TO.nil ?_
                        refine TE.next ?_
                        refine TW.seq ?_
                        refine TW.region ?_
                        refine TO.y (Y.load_box (v := .agg #[Y17.1]) 0 kk37 rfl rfl rfl) rfl rfl rfl ?_
                        refine TO.y (Y.move rfl) rfl rfl rfl ?_
                        refine TO.ef (Ef.call (rest := [.box B18 37 [Y17.1], .own Y17.1 (lc 3 R50.2), .own Y17.2 (lc 3 R53.2)]) [0, 0, 0] (laws_heldSpace_con ({ Owner := R50.2 : Space }) (1 : Int) Y17.1 R56 H57) kc20 rfl rfl ⟨(Can.own 1 rfl), trivial⟩) rfl rfl rfl (fun _ => ?_)
                        refine TO.y (Y.assign rfl) rfl rfl rfl ?_
                        refine TO.nil ?_
                        refine TE.next ?_
                        refine TW.seq ?_
                        refine TW.seq ?_
                        refine TW.region ?_
                        refine TO.y (Y.move rfl) rfl rfl rfl ?_
                        refine TO.y (Y.lss rfl rfl) rfl rfl rfl ?_
                        refine TO.nil ?_
                        refine TE.next ?_
                        refine TW.cond rfl (fun H80 => ?_) (fun H80 => ?_)
                        · refine TW.seq ?_
                          refine TW.region ?_
                          refine TO.y (Y.assign rfl) rfl rfl rfl ?_
                          refine TO.nil ?_
                          refine TE.next ?_
                          refine TW.ret ?_
                          refine TE.then_ret ?_
                          exact TE.leaf fun _ _ hf_ hs_ => ret_any (rs := [.tmp 6]) (vs := [.bool false]) (.inl rfl) rfl ⟨rfl, trivial⟩ hf_ hs_ ⟨(), rfl, hs_.pulls [] rfl⟩
                        · refine TW.skip ?_
                          refine TE.next ?_
                          refine TW.seq ?_
                          refine TW.region ?_
                          refine TO.y (Y.move rfl) rfl rfl rfl ?_
                          refine TO.y (Y.move rfl) rfl rfl rfl ?_
                          refine TO.ef (Ef.call (rest := [.box B18 37 [Y17.1], .own Y17.1 (lc 3 R50.2), .own Y17.2 (lc 3 R53.2)]) [0, 0, 0] (laws_heldIntS_con R53.2 R56 Y17.2 R60 H61) kc25 rfl rfl ⟨(Can.own 2 rfl), trivial⟩) rfl rfl rfl (fun _ => ?_)
                          refine TO.y (Y.assign rfl) rfl rfl rfl ?_
                          refine TO.nil ?_
                          refine TE.next ?_
                          refine TW.seq ?_
                          refine TW.seq ?_
                          refine TW.region ?_
                          refine TO.y (Y.move rfl) rfl rfl rfl ?_
                          refine TO.y (Y.lss rfl rfl) rfl rfl rfl ?_
                          refine TO.nil ?_
                          refine TE.next ?_
                          refine TW.cond rfl (fun H82 => ?_) (fun H82 => ?_)
                          · refine TW.seq ?_
                            refine TW.region ?_
                            refine TO.y (Y.assign rfl) rfl rfl rfl ?_
                            refine TO.nil ?_
                            refine TE.next ?_
                            refine TW.ret ?_
                            refine TE.then_ret ?_
                            exact TE.leaf fun _ _ hf_ hs_ => ret_any (rs := [.tmp 6]) (vs := [.bool false]) (.inl rfl) rfl ⟨rfl, trivial⟩ hf_ hs_ ⟨(), rfl, hs_.pulls [] rfl⟩
                          · refine TW.skip ?_
                            refine TE.next ?_
                            refine TW.seq ?_
                            refine TW.seq ?_
                            refine TW.region ?_
                            refine TO.y (Y.move rfl) rfl rfl rfl ?_
                            refine TO.y (Y.move rfl) rfl rfl rfl ?_
                            refine TO.y (Y.neq rfl rfl) rfl rfl rfl ?_
                            refine TO.nil ?_
                            refine TE.next ?_
                            refine TW.cond rfl (fun H83 => ?_) (fun H83 => ?_)
                            · refine TW.seq ?_
                              refine TW.region ?_
                              refine TO.y (Y.assign rfl) rfl rfl rfl ?_
                              refine TO.nil ?_
                              refine TE.next ?_
                              refine TW.ret ?_
                              refine TE.then_ret ?_
                              exact TE.leaf fun _ _ hf_ hs_ => ret_any (rs := [.tmp 6]) (vs := [.bool false]) (.inl rfl) rfl ⟨rfl, trivial⟩ hf_ hs_ ⟨(), rfl, hs_.pulls [] rfl⟩
                            · refine TW.skip ?_
                              refine TE.next ?_
                              refine TW.seq ?_
                              refine TW.region ?_
                              refine TO.y (Y.assign rfl) rfl rfl rfl ?_
                              refine TO.nil ?_
                              refine TE.next ?_
                              refine TW.ret ?_
                              exact TE.leaf fun _ _ hf_ hs_ => ret_any (rs := [.tmp 6]) (vs := [.bool true]) (.inl rfl) rfl ⟨rfl, trivial⟩ hf_ hs_ ⟨(), rfl, hs_.pulls [] rfl⟩

end Go.Proofs.Ytpfndjojoikkgaa
