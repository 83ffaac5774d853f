/-
  The functions that a law reaches, each as a pure function, with the proof that the program computes it, and the step from a pure law to the given statement. Conditions: none.
-/
import Derived.Test.YtamgnhkgcggbhaaN1
set_option linter.unusedVariables false
set_option maxRecDepth 100000
set_option maxHeartbeats 4000000
namespace Go.Proofs.Ytamgnhkgcggbhaa
open Go Sl

/-- cmp.Or[int] -/
noncomputable def cmp_Or_26527 (vals : List Int) : Option Int :=
  bindC (loopO (fun (S1 : Int) => if (decide (S1 < ((vals.length : Nat) : Int))) = true then ((idx vals S1).bind fun E6 =>
  if (!(decide (E6 = (0 : Int)))) = true then (some (.done (.done E6)))
  else (some (.go (IntKind.i64.wrap (S1 + (1 : Int))))))
  else (some (.done (.go ()))))
  (0 : Int))
  (fun (T3 : Unit) => some (0 : Int))

theorem cmp_Or_26527_con (vals : List Int) (V_vals0 : Value) (r : Int) (hm : cmp_Or_26527 vals = some r) :
    Con Try.prog 159 [V_vals0] [] [(V_vals0, lc vals)] (fun _ : Unit => .int .i64 r) (fun _ => []) := by
  refine Con.intro (args := [V_vals0]) (n := 18) (val := fun r (_ : Unit) => .int .i64 r) (post := fun _ _ => []) (m := cmp_Or_26527 vals) Try.func159 rfl rfl rfl hm ?_
  intro w S hrd
  have HB_V_vals0 := hrd _ (.head _)
  clear hrd
  unfold cmp_Or_26527
  refine TW.seq ?_
  refine TW.region ?_
  refine TO.y (Y.assign rfl) rfl rfl rfl ?_
  refine TO.nil ?_
  refine TE.next ?_
  refine TW.seq ?_
  refine TW.region ?_
  refine TO.y (Y.assign rfl) rfl rfl rfl ?_
  refine TO.nil ?_
  refine TE.next ?_
  refine TW.seq ?_
  refine TW.seq ?_
  refine TW.region ?_
  refine TO.y (Y.move rfl) rfl rfl rfl ?_
  refine TO.y (Y.len (l := vals) ke23 (Base.can HB_V_vals0) rfl) rfl rfl rfl ?_
  refine TO.y (Y.move rfl) rfl rfl rfl ?_
  refine TO.nil ?_
  refine TE.next ?_
  refine TW.joinX (τ := Unit) (X := Unit) (fun _ _ => [(3, .int .i64 (0 : Int))]) (fun _ _ => []) ?_ (fun T3 X4 => ?_)
  · refine TW.block ?_
    refine TW.loopX (σ := Int) (X := Unit) (fun T _ => [(3, .int .i64 (0 : Int)), (6, V_vals0), (7, .int .i64 ((vals.length : Nat) : Int)), (8, .int .i64 T)]) (fun _ _ => []) () [] ⟨rfl, rfl, rfl, rfl, trivial⟩ rfl (fun S1 X2 => ?_)
    refine TW.seq ?_
    refine TW.region ?_
    refine TO.y (Y.lss rfl rfl) rfl rfl rfl ?_
    refine TO.nil ?_
    refine TE.next ?_
    refine TW.seq ?_
    refine TW.cond rfl (fun H5 => ?_) (fun H5 => ?_)
    · refine TW.skip ?_
      refine TE.next ?_
      refine TW.seq ?_
      refine TW.block ?_
      refine TW.seq ?_
      refine TW.region ?_
      refine TO.bind fun E6 H7 => ?_
      refine TO.y (Y.index ke23 (Base.can HB_V_vals0) H7 rfl rfl) rfl rfl rfl ?_
      refine TO.y (Y.load_el (us := [.int .i64 E6]) (u := .int .i64 E6) kk3 rfl (Base.can HB_V_vals0) (idx_get H7).2.2 rfl rfl rfl rfl rfl) rfl rfl rfl ?_
      refine TO.y (Y.assign rfl) rfl rfl rfl ?_
      refine TO.nil ?_
      refine TE.next ?_
      refine TW.seq ?_
      refine TW.region ?_
      refine TO.y (Y.move rfl) rfl rfl rfl ?_
      refine TO.y (Y.move rfl) rfl rfl rfl ?_
      refine TO.y (Y.neq rfl rfl) rfl rfl rfl ?_
      refine TO.nil ?_
      refine TE.next ?_
      refine TW.cond rfl (fun H8 => ?_) (fun H8 => ?_)
      · refine TW.seq ?_
        refine TW.region ?_
        refine TO.y (Y.move rfl) rfl rfl rfl ?_
        refine TO.y (Y.assign rfl) rfl rfl rfl ?_
        refine TO.nil ?_
        refine TE.next ?_
        refine TW.ret ?_
        refine TE.block_ret ?_
        refine TE.then_ret ?_
        refine TE.lp_ret ?_
        refine TE.block_ret ?_
        refine TE.jn_done ?_
        refine TE.then_ret ?_
        exact TE.leaf fun _ _ hf_ hs_ => ret_any (rs := [.tmp 2]) (vs := [.int .i64 E6]) (.inl rfl) rfl ⟨rfl, trivial⟩ hf_ hs_ ⟨(), rfl, hs_.pulls [] rfl⟩
      · refine TW.skip ?_
        refine TE.block_normal ?_
        refine TE.next ?_
        refine TW.region ?_
        refine TO.y (Y.add rfl rfl) rfl rfl rfl ?_
        refine TO.y (Y.move rfl) rfl rfl rfl ?_
        refine TO.nil ?_
        exact TE.lp_go () [] ⟨rfl, rfl, rfl, rfl, trivial⟩ rfl
    · refine TW.exit ?_
      refine TE.then_exit ?_
      refine TE.lp_exit ?_
      refine TE.block_exit ?_
      exact TE.jn_go () [] ⟨rfl, trivial⟩ rfl
  · refine TE.next ?_
    refine TW.seq ?_
    refine TW.region ?_
    refine TO.y (Y.move rfl) rfl rfl rfl ?_
    refine TO.y (Y.assign rfl) rfl rfl rfl ?_
    refine TO.nil ?_
    refine TE.next ?_
    refine TW.ret ?_
    exact TE.leaf fun _ _ hf_ hs_ => ret_any (rs := [.tmp 2]) (vs := [.int .i64 (0 : Int)]) (.inl rfl) rfl ⟨rfl, trivial⟩ hf_ hs_ ⟨(), rfl, hs_.pulls [] rfl⟩

/-- loop.example/g00950/impl.compareEnts -/
noncomputable def impl_compareEnts (a : Ent) (b : Ent) : Option Int :=
  (cmp_Compare_83645 a.Key b.Key).bind fun R3 =>
  (cmp_Compare_26527 b.Seq a.Seq).bind fun R6 =>
  (cmp_Or_26527 ([R3, R6])).bind fun R10 =>
  some R10

theorem impl_compareEnts_con (a : Ent) (b : Ent)  (r : Int) (hm : impl_compareEnts a b = some r) :
    Con Try.prog 145 [.agg #[strV a.Key, .int .i64 a.Seq, .bool a.Del, strV a.Val], .agg #[strV b.Key, .int .i64 b.Seq, .bool b.Del, strV b.Val]] [] [] (fun _ : Unit => .int .i64 r) (fun _ => []) := by
  refine Con.intro (args := [.agg #[strV a.Key, .int .i64 a.Seq, .bool a.Del, strV a.Val], .agg #[strV b.Key, .int .i64 b.Seq, .bool b.Del, strV b.Val]]) (n := 17) (val := fun r (_ : Unit) => .int .i64 r) (post := fun _ _ => []) (m := impl_compareEnts a b) Try.func145 rfl rfl rfl hm ?_
  intro w S _
  unfold impl_compareEnts
  refine TW.seq ?_
  refine TW.region ?_
  refine TO.ef (Ef.box rfl (Cel.plain rfl rfl)) rfl rfl rfl (fun B1 => ?_)
  refine TO.ef (Ef.box rfl (Cel.plain rfl rfl)) rfl rfl rfl (fun B2 => ?_)
  refine TO.y (Y.assign rfl) rfl rfl rfl ?_
  refine TO.nil ?_
  refine TE.next ?_
  refine TW.seq ?_
  refine TW.draw (isH := [.box B2 148 [strV b.Key, .int .i64 b.Seq, .bool b.Del, strV b.Val], .box B1 148 [strV a.Key, .int .i64 a.Seq, .bool a.Del, strV a.Val]]) hMix ?_
  refine TA.y (listed' := #[true, false, false, false, false, false, false, false, false, false, false, false, false]) 0 [0, 0] rfl (Y.field_box kf148_0 rfl rfl) rfl rfl rfl (by kernel_rfl) (by kernel_rfl) (by kernel_rfl) rfl rfl ?_
  refine TA.y (listed' := #[true, true, false, false, false, false, false, false, false, false, false, false, false]) 1 [0, 0] rfl (Y.load_box (v := strV a.Key) 1 kk9 rfl rfl rfl) rfl rfl rfl (by kernel_rfl) (by kernel_rfl) (by kernel_rfl) rfl rfl ?_
  refine TA.y (listed' := #[true, true, true, false, false, false, false, false, false, false, false, false, false]) 2 [0, 0] rfl (Y.field_box kf148_0 rfl rfl) rfl rfl rfl (by kernel_rfl) (by kernel_rfl) (by kernel_rfl) rfl rfl ?_
  refine TA.y (listed' := #[true, true, true, true, false, false, false, false, false, false, false, false, false]) 3 [0, 0] rfl (Y.load_box (v := strV b.Key) 0 kk9 rfl rfl rfl) rfl rfl rfl (by kernel_rfl) (by kernel_rfl) (by kernel_rfl) rfl rfl ?_
  refine TA.y (listed' := #[true, true, true, true, false, true, false, false, false, false, false, false, false]) 5 [0, 0] rfl (Y.field_box kf148_1 rfl rfl) rfl rfl rfl (by kernel_rfl) (by kernel_rfl) (by kernel_rfl) rfl rfl ?_
  refine TA.y (listed' := #[true, true, true, true, false, true, true, false, false, false, false, false, false]) 6 [0, 0] rfl (Y.load_box (v := .int .i64 b.Seq) 0 kk3 rfl rfl rfl) rfl rfl rfl (by kernel_rfl) (by kernel_rfl) (by kernel_rfl) rfl rfl ?_
  refine TA.y (listed' := #[true, true, true, true, false, true, true, true, false, false, false, false, false]) 7 [0, 0] rfl (Y.field_box kf148_1 rfl rfl) rfl rfl rfl (by kernel_rfl) (by kernel_rfl) (by kernel_rfl) rfl rfl ?_
  refine TA.y (listed' := #[true, true, true, true, false, true, true, true, true, false, false, false, false]) 8 [0, 0] rfl (Y.load_box (v := .int .i64 a.Seq) 1 kk3 rfl rfl rfl) rfl rfl rfl (by kernel_rfl) (by kernel_rfl) (by kernel_rfl) rfl rfl ?_
  refine TA.bind fun R3 H4 => ?_
  refine TA.one 4 (by kernel_rfl) ?_
  refine TX.ef (listed' := #[true, true, true, true, true, true, true, true, true, false, false, false, false]) [0, 0] rfl (Ef.call (rest := [.box B2 148 [strV b.Key, .int .i64 b.Seq, .bool b.Del, strV b.Val], .box B1 148 [strV a.Key, .int .i64 a.Seq, .bool a.Del, strV a.Val]]) [0, 0] (cmp_Compare_83645_con a.Key b.Key  R3 H4) kc160 rfl rfl trivial) rfl rfl rfl rfl (fun _ => rfl) (fun _ => ?_)
  refine TA.bind fun R6 H7 => ?_
  refine TA.one 9 (by kernel_rfl) ?_
  refine TX.ef (listed' := #[true, true, true, true, true, true, true, true, true, true, false, false, false]) [0, 0] rfl (Ef.call (rest := [.box B2 148 [strV b.Key, .int .i64 b.Seq, .bool b.Del, strV b.Val], .box B1 148 [strV a.Key, .int .i64 a.Seq, .bool a.Del, strV a.Val]]) [0, 0] (cmp_Compare_26527_con b.Seq a.Seq  R6 H7) kc161 rfl rfl trivial) rfl rfl rfl rfl (fun _ => rfl) (fun _ => ?_)
  refine TA.one 10 (by kernel_rfl) ?_
  refine TX.ef (listed' := #[true, true, true, true, true, true, true, true, true, true, true, false, false]) [1, 1] rfl (Ef.buildSlice (α := Int) (Vs := [.int .i64 R3, .int .i64 R6]) [R3, R6] ke23 kz3 rfl rfl rfl rfl rfl) rfl rfl rfl rfl (fun _ => rfl) (fun B9 => ?_)
  refine TA.bind fun R10 H11 => ?_
  refine TA.one 11 (by kernel_rfl) ?_
  refine TX.ef (listed' := #[true, true, true, true, true, true, true, true, true, true, true, true, false]) [1, 1] rfl (Ef.call (rest := [.own (.slice (some ⟨B9, 0, none⟩) 2 2) (lc ([R3, R6])), .box B2 148 [strV b.Key, .int .i64 b.Seq, .bool b.Del, strV b.Val], .box B1 148 [strV a.Key, .int .i64 a.Seq, .bool a.Del, strV a.Val]]) [0, 0, 0] (cmp_Or_26527_con ([R3, R6]) (.slice (some ⟨B9, 0, none⟩) 2 2) R10 H11) kc159 rfl rfl ⟨(Can.own 0 rfl), trivial⟩) rfl rfl rfl rfl (fun _ => rfl) (fun _ => ?_)
  refine TA.y (listed' := #[true, true, true, true, true, true, true, true, true, true, true, true, true]) 12 [1, 1] rfl (Y.assign rfl) rfl rfl rfl (by kernel_rfl) (by kernel_rfl) (by kernel_rfl) rfl rfl ?_
  refine TA.nil (by kernel_rfl) ?_
  refine TE.next ?_
  refine TW.ret ?_
  exact TE.leaf fun _ _ hf_ hs_ => ret_any (rs := [.tmp 4]) (vs := [.int .i64 R10]) (.inl rfl) rfl ⟨rfl, trivial⟩ hf_ hs_ ⟨(), rfl, hs_.pulls [] rfl⟩

/-- loop.example/g00950/impl.inOrder -/
noncomputable def impl_inOrder (l : List Ent) : Option Bool :=
  bindC (loopO (fun (S1 : Int) => if (decide (S1 < ((l.length : Nat) : Int))) = true then ((idx l S1).bind fun E6 =>
  ((impl_entOk E6).bind fun R11 =>
  if (!R11) = true then (some true)
  else (if (decide (S1 > (0 : Int))) = true then ((idx l (IntKind.i64.wrap (S1 - (1 : Int)))).bind fun E16 =>
  (impl_compareEnts E16 E6).bind fun R18 =>
  some (decide (R18 ≥ (0 : Int))))
  else (some false))).bind (fun (T9 : Bool) =>
  if T9 = true then (some (.done (.done false)))
  else (some (.go (IntKind.i64.wrap (S1 + (1 : Int)))))))
  else (some (.done (.go ()))))
  (0 : Int))
  (fun (T3 : Unit) => some true)

theorem impl_inOrder_con (l : List Ent) (V_l0 : Value) (r : Bool) (hm : impl_inOrder l = some r) :
    Con Try.prog 112 [V_l0] [] [(V_l0, lc l)] (fun _ : Unit => .bool r) (fun _ => []) := by
  refine Con.intro (args := [V_l0]) (n := 30) (val := fun r (_ : Unit) => .bool r) (post := fun _ _ => []) (m := impl_inOrder l) Try.func112 rfl rfl rfl hm ?_
  intro w S hrd
  have HB_V_l0 := hrd _ (.head _)
  clear hrd
  unfold impl_inOrder
  refine TW.seq ?_
  refine TW.region ?_
  refine TO.y (Y.assign rfl) rfl rfl rfl ?_
  refine TO.nil ?_
  refine TE.next ?_
  refine TW.seq ?_
  refine TW.seq ?_
  refine TW.region ?_
  refine TO.y (Y.move rfl) rfl rfl rfl ?_
  refine TO.y (Y.len (l := l) ke40 (Base.can HB_V_l0) rfl) rfl rfl rfl ?_
  refine TO.y (Y.move rfl) rfl rfl rfl ?_
  refine TO.nil ?_
  refine TE.next ?_
  refine TW.joinX (τ := Unit) (X := Unit) (fun _ _ => []) (fun _ _ => []) ?_ (fun T3 X4 => ?_)
  · refine TW.block ?_
    refine TW.loopX (σ := Int) (X := Unit) (fun T _ => [(0, V_l0), (5, V_l0), (6, .int .i64 ((l.length : Nat) : Int)), (7, .int .i64 T)]) (fun _ _ => []) () [] ⟨rfl, rfl, rfl, rfl, trivial⟩ rfl (fun S1 X2 => ?_)
    refine TW.seq ?_
    refine TW.region ?_
    refine TO.y (Y.lss rfl rfl) rfl rfl rfl ?_
    refine TO.nil ?_
    refine TE.next ?_
    refine TW.seq ?_
    refine TW.cond rfl (fun H5 => ?_) (fun H5 => ?_)
    · refine TW.skip ?_
      refine TE.next ?_
      refine TW.seq ?_
      refine TW.block ?_
      refine TW.seq ?_
      refine TW.region ?_
      refine TO.y (Y.move rfl) rfl rfl rfl ?_
      refine TO.bind fun E6 H7 => ?_
      refine TO.y (Y.index ke40 (Base.can HB_V_l0) H7 rfl rfl) rfl rfl rfl ?_
      refine TO.y (Y.load_el (us := [strV E6.Key, .int .i64 E6.Seq, .bool E6.Del, strV E6.Val]) (u := .agg #[strV E6.Key, .int .i64 E6.Seq, .bool E6.Del, strV E6.Val]) kk148 rfl (Base.can HB_V_l0) (idx_get H7).2.2 rfl rfl rfl rfl rfl) rfl rfl rfl ?_
      refine TO.ef (Ef.alloc kz148 rfl) rfl rfl rfl (fun B8 => ?_)
      refine TO.y (Y.assign rfl) rfl rfl rfl ?_
      refine TO.ef0 (Ef.store_box (us := [strV E6.Key, .int .i64 E6.Seq, .bool E6.Del, strV E6.Val]) (vs' := [strV E6.Key, .int .i64 E6.Seq, .bool E6.Del, strV E6.Val]) (is' := [.box B8 148 [strV E6.Key, .int .i64 E6.Seq, .bool E6.Del, strV E6.Val]]) 0 kk148 rfl rfl rfl (Cel.plain rfl rfl) rfl rfl rfl rfl) rfl rfl (fun _ => ?_)
      refine TO.nil ?_
      refine TE.next ?_
      refine TW.seq ?_
      refine TW.joinBX (τ := Bool) (X := Unit) (fun T _ => [(0, V_l0), (5, V_l0), (6, .int .i64 ((l.length : Nat) : Int)), (7, .int .i64 S1), (28, .bool T)]) (fun _ _ => []) ?_ (fun T9 X10 => ?_)
      · refine TW.draw (isH := [.box B8 148 [strV E6.Key, .int .i64 E6.Seq, .bool E6.Del, strV E6.Val]]) hMix ?_
        refine TA.y (listed' := #[true, false, false, false, false, false, false, false, false, false, false, false, false, false, false, false, false]) 0 [0] rfl (Y.load_box (v := .agg #[strV E6.Key, .int .i64 E6.Seq, .bool E6.Del, strV E6.Val]) 0 kk148 rfl rfl rfl) rfl rfl rfl (by kernel_rfl) (by kernel_rfl) (by kernel_rfl) rfl rfl ?_
        refine TA.bind fun R11 H12 => ?_
        refine TA.one 1 (by kernel_rfl) ?_
        refine TX.ef (listed' := #[true, true, false, false, false, false, false, false, false, false, false, false, false, false, false, false, false]) [0] rfl (Ef.call (rest := [.box B8 148 [strV E6.Key, .int .i64 E6.Seq, .bool E6.Del, strV E6.Val]]) [0] (impl_entOk_con E6  R11 H12) kc144 rfl rfl trivial) rfl rfl rfl rfl (fun _ => rfl) (fun _ => ?_)
        refine TA.y (listed' := #[true, true, true, false, false, false, false, false, false, false, false, false, false, false, false, false, false]) 2 [0] rfl (Y.not rfl) rfl rfl rfl (by kernel_rfl) (by kernel_rfl) (by kernel_rfl) rfl rfl ?_
        refine TA.y (listed' := #[true, true, true, true, false, false, false, false, false, false, false, false, false, false, false, false, false]) 3 [0] rfl (Y.move rfl) rfl rfl rfl (by kernel_rfl) (by kernel_rfl) (by kernel_rfl) rfl rfl ?_
        refine TA.ite (b := !R11) (fun H14 => ?_) (fun H14 => ?_)
        · refine TA.off (listed' := #[true, true, true, true, true, false, false, false, false, false, false, false, false, false, false, false, false]) 4 [0] rfl (Gd.at 3 false 15 (!R11) rfl rfl rfl (beq_tf H14)) rfl rfl (by kernel_rfl) (by kernel_rfl) (by kernel_rfl) rfl rfl ?_
          refine TA.off (listed' := #[true, true, true, true, true, true, false, false, false, false, false, false, false, false, false, false, false]) 5 [0] rfl (Gd.at 3 false 15 (!R11) rfl rfl rfl (beq_tf H14)) rfl rfl (by kernel_rfl) (by kernel_rfl) (by kernel_rfl) rfl rfl ?_
          refine TA.off (listed' := #[true, true, true, true, true, true, true, false, false, false, false, false, false, false, false, false, false]) 6 [0] rfl (Gd.at 3 false 15 (!R11) rfl rfl rfl (beq_tf H14)) rfl rfl (by kernel_rfl) (by kernel_rfl) (by kernel_rfl) rfl rfl ?_
          refine TA.off (listed' := #[true, true, true, true, true, true, true, true, false, false, false, false, false, false, false, false, false]) 7 [0] rfl (Gd.un 6 true 18 rfl rfl rfl) rfl rfl (by kernel_rfl) (by kernel_rfl) (by kernel_rfl) rfl rfl ?_
          refine TA.off (listed' := #[true, true, true, true, true, true, true, true, true, false, false, false, false, false, false, false, false]) 8 [0] rfl (Gd.un 6 true 18 rfl rfl rfl) rfl rfl (by kernel_rfl) (by kernel_rfl) (by kernel_rfl) rfl rfl ?_
          refine TA.off (listed' := #[true, true, true, true, true, true, true, true, true, true, false, false, false, false, false, false, false]) 9 [0] rfl (Gd.un 6 true 18 rfl rfl rfl) rfl rfl (by kernel_rfl) (by kernel_rfl) (by kernel_rfl) rfl rfl ?_
          refine TA.off (listed' := #[true, true, true, true, true, true, true, true, true, true, true, false, false, false, false, false, false]) 10 [0] rfl (Gd.un 6 true 18 rfl rfl rfl) rfl rfl (by kernel_rfl) (by kernel_rfl) (by kernel_rfl) rfl rfl ?_
          refine TA.off (listed' := #[true, true, true, true, true, true, true, true, true, true, true, true, false, false, false, false, false]) 11 [0] rfl (Gd.un 6 true 18 rfl rfl rfl) rfl rfl (by kernel_rfl) (by kernel_rfl) (by kernel_rfl) rfl rfl ?_
          refine TA.off (listed' := #[true, true, true, true, true, true, true, true, true, true, true, true, true, false, false, false, false]) 12 [0] rfl (Gd.un 6 true 18 rfl rfl rfl) rfl rfl (by kernel_rfl) (by kernel_rfl) (by kernel_rfl) rfl rfl ?_
          refine TA.off (listed' := #[true, true, true, true, true, true, true, true, true, true, true, true, true, true, false, false, false]) 13 [0] rfl (Gd.un 6 true 18 rfl rfl rfl) rfl rfl (by kernel_rfl) (by kernel_rfl) (by kernel_rfl) rfl rfl ?_
          refine TA.off (listed' := #[true, true, true, true, true, true, true, true, true, true, true, true, true, true, true, false, false]) 14 [0] rfl (Gd.un 6 true 18 rfl rfl rfl) rfl rfl (by kernel_rfl) (by kernel_rfl) (by kernel_rfl) rfl rfl ?_
          refine TA.off (listed' := #[true, true, true, true, true, true, true, true, true, true, true, true, true, true, true, true, false]) 15 [0] rfl (Gd.at 3 false 15 (!R11) rfl rfl rfl (beq_tf H14)) rfl rfl (by kernel_rfl) (by kernel_rfl) (by kernel_rfl) rfl rfl ?_
          refine TA.y (listed' := #[true, true, true, true, true, true, true, true, true, true, true, true, true, true, true, true, true]) 16 [0] rfl (Y.pick_t H14 rfl rfl) rfl rfl rfl (by kernel_rfl) (by kernel_rfl) (by kernel_rfl) rfl rfl ?_
          refine TA.nil (by kernel_rfl) ?_
          exact TE.jb_go () [] ⟨rfl, rfl, rfl, rfl, rfl, trivial⟩ rfl
        · refine TA.y (listed' := #[true, true, true, true, true, false, false, false, false, false, false, false, false, false, false, false, false]) 4 [0] rfl (Y.move rfl) (Gd.at 3 false 15 (!R11) rfl rfl rfl (beq_ff H14)) rfl rfl (by kernel_rfl) (by kernel_rfl) (by kernel_rfl) rfl rfl ?_
          refine TA.y (listed' := #[true, true, true, true, true, true, false, false, false, false, false, false, false, false, false, false, false]) 5 [0] rfl (Y.gtr rfl rfl) (Gd.at 3 false 15 (!R11) rfl rfl rfl (beq_ff H14)) rfl rfl (by kernel_rfl) (by kernel_rfl) (by kernel_rfl) rfl rfl ?_
          refine TA.y (listed' := #[true, true, true, true, true, true, true, false, false, false, false, false, false, false, false, false, false]) 6 [0] rfl (Y.move rfl) (Gd.at 3 false 15 (!R11) rfl rfl rfl (beq_ff H14)) rfl rfl (by kernel_rfl) (by kernel_rfl) (by kernel_rfl) rfl rfl ?_
          refine TA.ite (b := decide (S1 > (0 : Int))) (fun H15 => ?_) (fun H15 => ?_)
          · refine TA.y (listed' := #[true, true, true, true, true, true, true, true, false, false, false, false, false, false, false, false, false]) 7 [0] rfl (Y.move rfl) (Gd.at 6 true 18 (decide (S1 > (0 : Int))) rfl rfl rfl (beq_tt H15)) rfl rfl (by kernel_rfl) (by kernel_rfl) (by kernel_rfl) rfl rfl ?_
            refine TA.y (listed' := #[true, true, true, true, true, true, true, true, true, false, false, false, false, false, false, false, false]) 8 [0] rfl (Y.move rfl) (Gd.at 6 true 18 (decide (S1 > (0 : Int))) rfl rfl rfl (beq_tt H15)) rfl rfl (by kernel_rfl) (by kernel_rfl) (by kernel_rfl) rfl rfl ?_
            refine TA.y (listed' := #[true, true, true, true, true, true, true, true, true, true, false, false, false, false, false, false, false]) 9 [0] rfl (Y.sub rfl rfl) (Gd.at 6 true 18 (decide (S1 > (0 : Int))) rfl rfl rfl (beq_tt H15)) rfl rfl (by kernel_rfl) (by kernel_rfl) (by kernel_rfl) rfl rfl ?_
            refine TA.bind fun E16 H17 => ?_
            refine TA.y (listed' := #[true, true, true, true, true, true, true, true, true, true, true, false, false, false, false, false, false]) 10 [0] rfl (Y.index ke40 (Base.can HB_V_l0) H17 rfl rfl) (Gd.at 6 true 18 (decide (S1 > (0 : Int))) rfl rfl rfl (beq_tt H15)) rfl rfl (by kernel_rfl) (by kernel_rfl) (by kernel_rfl) rfl rfl ?_
            refine TA.y (listed' := #[true, true, true, true, true, true, true, true, true, true, true, true, false, false, false, false, false]) 11 [0] rfl (Y.load_el (us := [strV E16.Key, .int .i64 E16.Seq, .bool E16.Del, strV E16.Val]) (u := .agg #[strV E16.Key, .int .i64 E16.Seq, .bool E16.Del, strV E16.Val]) kk148 rfl (Base.can HB_V_l0) (idx_get H17).2.2 rfl rfl rfl rfl rfl) (Gd.at 6 true 18 (decide (S1 > (0 : Int))) rfl rfl rfl (beq_tt H15)) rfl rfl (by kernel_rfl) (by kernel_rfl) (by kernel_rfl) rfl rfl ?_
            refine TA.y (listed' := #[true, true, true, true, true, true, true, true, true, true, true, true, true, false, false, false, false]) 12 [0] rfl (Y.load_box (v := .agg #[strV E6.Key, .int .i64 E6.Seq, .bool E6.Del, strV E6.Val]) 0 kk148 rfl rfl rfl) (Gd.at 6 true 18 (decide (S1 > (0 : Int))) rfl rfl rfl (beq_tt H15)) rfl rfl (by kernel_rfl) (by kernel_rfl) (by kernel_rfl) rfl rfl ?_
            refine TA.bind fun R18 H19 => ?_
            refine TA.one 13 (by kernel_rfl) ?_
            refine TX.ef (listed' := #[true, true, true, true, true, true, true, true, true, true, true, true, true, true, false, false, false]) [0] rfl (Ef.call (rest := [.box B8 148 [strV E6.Key, .int .i64 E6.Seq, .bool E6.Del, strV E6.Val]]) [0] (impl_compareEnts_con E16 E6  R18 H19) kc145 rfl rfl trivial) (Gd.at 6 true 18 (decide (S1 > (0 : Int))) rfl rfl rfl (beq_tt H15)) rfl rfl rfl (fun _ => rfl) (fun _ => ?_)
            refine TA.y (listed' := #[true, true, true, true, true, true, true, true, true, true, true, true, true, true, true, false, false]) 14 [0] rfl (Y.geq rfl rfl) (Gd.at 6 true 18 (decide (S1 > (0 : Int))) rfl rfl rfl (beq_tt H15)) rfl rfl (by kernel_rfl) (by kernel_rfl) (by kernel_rfl) rfl rfl ?_
            refine TA.y (listed' := #[true, true, true, true, true, true, true, true, true, true, true, true, true, true, true, true, false]) 15 [0] rfl (Y.pick_t H15 rfl rfl) (Gd.at 3 false 15 (!R11) rfl rfl rfl (beq_ff H14)) rfl rfl (by kernel_rfl) (by kernel_rfl) (by kernel_rfl) rfl rfl ?_
            refine TA.y (listed' := #[true, true, true, true, true, true, true, true, true, true, true, true, true, true, true, true, true]) 16 [0] rfl (Y.pick_f H14 rfl rfl) rfl rfl rfl (by kernel_rfl) (by kernel_rfl) (by kernel_rfl) rfl rfl ?_
            refine TA.nil (by kernel_rfl) ?_
            exact TE.jb_go () [] ⟨rfl, rfl, rfl, rfl, rfl, trivial⟩ rfl
          · refine TA.off (listed' := #[true, true, true, true, true, true, true, true, false, false, false, false, false, false, false, false, false]) 7 [0] rfl (Gd.at 6 true 18 (decide (S1 > (0 : Int))) rfl rfl rfl (beq_ft H15)) rfl rfl (by kernel_rfl) (by kernel_rfl) (by kernel_rfl) rfl rfl ?_
            refine TA.off (listed' := #[true, true, true, true, true, true, true, true, true, false, false, false, false, false, false, false, false]) 8 [0] rfl (Gd.at 6 true 18 (decide (S1 > (0 : Int))) rfl rfl rfl (beq_ft H15)) rfl rfl (by kernel_rfl) (by kernel_rfl) (by kernel_rfl) rfl rfl ?_
            refine TA.off (listed' := #[true, true, true, true, true, true, true, true, true, true, false, false, false, false, false, false, false]) 9 [0] rfl (Gd.at 6 true 18 (decide (S1 > (0 : Int))) rfl rfl rfl (beq_ft H15)) rfl rfl (by kernel_rfl) (by kernel_rfl) (by kernel_rfl) rfl rfl ?_
            refine TA.off (listed' := #[true, true, true, true, true, true, true, true, true, true, true, false, false, false, false, false, false]) 10 [0] rfl (Gd.at 6 true 18 (decide (S1 > (0 : Int))) rfl rfl rfl (beq_ft H15)) rfl rfl (by kernel_rfl) (by kernel_rfl) (by kernel_rfl) rfl rfl ?_
            refine TA.off (listed' := #[true, true, true, true, true, true, true, true, true, true, true, true, false, false, false, false, false]) 11 [0] rfl (Gd.at 6 true 18 (decide (S1 > (0 : Int))) rfl rfl rfl (beq_ft H15)) rfl rfl (by kernel_rfl) (by kernel_rfl) (by kernel_rfl) rfl rfl ?_
            refine TA.off (listed' := #[true, true, true, true, true, true, true, true, true, true, true, true, true, false, false, false, false]) 12 [0] rfl (Gd.at 6 true 18 (decide (S1 > (0 : Int))) rfl rfl rfl (beq_ft H15)) rfl rfl (by kernel_rfl) (by kernel_rfl) (by kernel_rfl) rfl rfl ?_
            refine TA.off (listed' := #[true, true, true, true, true, true, true, true, true, true, true, true, true, true, false, false, false]) 13 [0] rfl (Gd.at 6 true 18 (decide (S1 > (0 : Int))) rfl rfl rfl (beq_ft H15)) rfl rfl (by kernel_rfl) (by kernel_rfl) (by kernel_rfl) rfl rfl ?_
            refine TA.off (listed' := #[true, true, true, true, true, true, true, true, true, true, true, true, true, true, true, false, false]) 14 [0] rfl (Gd.at 6 true 18 (decide (S1 > (0 : Int))) rfl rfl rfl (beq_ft H15)) rfl rfl (by kernel_rfl) (by kernel_rfl) (by kernel_rfl) rfl rfl ?_
            refine TA.y (listed' := #[true, true, true, true, true, true, true, true, true, true, true, true, true, true, true, true, false]) 15 [0] rfl (Y.pick_f H15 rfl rfl) (Gd.at 3 false 15 (!R11) rfl rfl rfl (beq_ff H14)) rfl rfl (by kernel_rfl) (by kernel_rfl) (by kernel_rfl) rfl rfl ?_
            refine TA.y (listed' := #[true, true, true, true, true, true, true, true, true, true, true, true, true, true, true, true, true]) 16 [0] rfl (Y.pick_f H14 rfl rfl) rfl rfl rfl (by kernel_rfl) (by kernel_rfl) (by kernel_rfl) rfl rfl ?_
            refine TA.nil (by kernel_rfl) ?_
            exact TE.jb_go () [] ⟨rfl, rfl, rfl, rfl, rfl, trivial⟩ rfl
      · refine TE.next ?_
        refine TW.cond rfl (fun H21 => ?_) (fun H21 => ?_)
        · refine TW.seq ?_
          refine TW.region ?_
          refine TO.y (Y.assign rfl) rfl rfl rfl ?_
          refine TO.nil ?_
          refine TE.next ?_
          refine TW.ret ?_
          refine TE.block_ret ?_
          refine TE.then_ret ?_
          refine TE.lp_ret ?_
          refine TE.block_ret ?_
          refine TE.jn_done ?_
          refine TE.then_ret ?_
          exact TE.leaf fun _ _ hf_ hs_ => ret_any (rs := [.tmp 2]) (vs := [.bool false]) (.inl rfl) rfl ⟨rfl, trivial⟩ hf_ hs_ ⟨(), rfl, hs_.pulls [] rfl⟩
        · refine TW.skip ?_
          refine TE.block_normal ?_
          refine TE.next ?_
          refine TW.region ?_
          refine TO.y (Y.add rfl rfl) rfl rfl rfl ?_
          refine TO.y (Y.move rfl) rfl rfl rfl ?_
          refine TO.nil ?_
          exact TE.lp_go () [] ⟨rfl, rfl, rfl, rfl, trivial⟩ rfl
    · refine TW.exit ?_
      refine TE.then_exit ?_
      refine TE.lp_exit ?_
      refine TE.block_exit ?_
      exact TE.jn_go () [] trivial rfl
  · refine TE.next ?_
    refine TW.seq ?_
    refine TW.region ?_
    refine TO.y (Y.assign rfl) rfl rfl rfl ?_
    refine TO.nil ?_
    refine TE.next ?_
    refine TW.ret ?_
    exact TE.leaf fun _ _ hf_ hs_ => ret_any (rs := [.tmp 2]) (vs := [.bool true]) (.inl rfl) rfl ⟨rfl, trivial⟩ hf_ hs_ ⟨(), rfl, hs_.pulls [] rfl⟩

/-- loop.example/g00950/impl.MemOk -/
noncomputable def impl_MemOk (l : List Ent) : Option Bool :=
  (if (decide (((l.length : Nat) : Int) ≤ (60 : Int))) = true then ((impl_inOrder l).bind fun R4 =>
  some R4)
  else (some false)).bind (fun (T1 : Bool) =>
  some T1)

theorem impl_MemOk_con (l : List Ent) (V_l0 : Value) (r : Bool) (hm : impl_MemOk l = some r) :
    Con Try.prog 110 [V_l0] [] [(V_l0, lc l)] (fun _ : Unit => .bool r) (fun _ => []) := by
  refine Con.intro (args := [V_l0]) (n := 10) (val := fun r (_ : Unit) => .bool r) (post := fun _ _ => []) (m := impl_MemOk l) Try.func110 rfl rfl rfl hm ?_
  intro w S hrd
  have HB_V_l0 := hrd _ (.head _)
  clear hrd
  unfold impl_MemOk
  refine TW.seq ?_
  refine TW.region ?_
  refine TO.y (Y.assign rfl) rfl rfl rfl ?_
  refine TO.nil ?_
  refine TE.next ?_
  refine TW.seq ?_
  refine TW.joinBX (τ := Bool) (X := Unit) (fun T _ => [(2, .bool T)]) (fun _ _ => []) ?_ (fun T1 X2 => ?_)
  · refine TW.region ?_
    refine TO.y (Y.move rfl) rfl rfl rfl ?_
    refine TO.y (Y.len (l := l) ke40 (Base.can HB_V_l0) rfl) rfl rfl rfl ?_
    refine TO.y (Y.leq rfl rfl) rfl rfl rfl ?_
    refine TO.y (Y.move rfl) rfl rfl rfl ?_
    refine TO.ite (b := decide (((l.length : Nat) : Int) ≤ (60 : Int))) (fun H3 => ?_) (fun H3 => ?_)
    · refine TO.y (Y.move rfl) (Gd.at 3 true 6 (decide (((l.length : Nat) : Int) ≤ (60 : Int))) rfl rfl rfl (beq_tt H3)) rfl rfl ?_
      refine TO.bind fun R4 H5 => ?_
      refine TO.ef (Ef.call (rest := []) [] (impl_inOrder_con l V_l0 R4 H5) kc112 rfl rfl ⟨(Base.can HB_V_l0), trivial⟩) (Gd.at 3 true 6 (decide (((l.length : Nat) : Int) ≤ (60 : Int))) rfl rfl rfl (beq_tt H3)) rfl rfl (fun _ => ?_)
      refine TO.y (Y.pick_t H3 rfl rfl) rfl rfl rfl ?_
      refine TO.y (Y.assign rfl) rfl rfl rfl ?_
      refine TO.nil ?_
      exact TE.jb_go () [] ⟨rfl, trivial⟩ rfl
    · refine TO.off (Gd.at 3 true 6 (decide (((l.length : Nat) : Int) ≤ (60 : Int))) rfl rfl rfl (beq_ft H3)) rfl rfl ?_
      refine TO.off (Gd.at 3 true 6 (decide (((l.length : Nat) : Int) ≤ (60 : Int))) rfl rfl rfl (beq_ft H3)) rfl rfl ?_
      refine TO.y (Y.pick_f H3 rfl rfl) rfl rfl rfl ?_
      refine TO.y (Y.assign rfl) rfl rfl rfl ?_
      refine TO.nil ?_
      exact TE.jb_go () [] ⟨rfl, trivial⟩ rfl
  · refine TE.next ?_
    refine TW.ret ?_
    exact TE.leaf fun _ _ hf_ hs_ => ret_any (rs := [.tmp 2]) (vs := [.bool T1]) (.inl rfl) rfl ⟨rfl, trivial⟩ hf_ hs_ ⟨(), rfl, hs_.pulls [] rfl⟩

/-- loop.example/g00950/impl.seqRange -/
noncomputable def impl_seqRange (l : List Ent) : Option (Int × Int) :=
  bindC (loopO (fun (S1 : Int × Int × Int) => if (decide (S1.2.2 < ((l.length : Nat) : Int))) = true then ((idx l S1.2.2).bind fun E6 =>
  some (.go (goMin S1.1 E6.Seq, goMax S1.2.1 E6.Seq, IntKind.i64.wrap (S1.2.2 + (1 : Int)))))
  else (some (.done (.go (S1.1, S1.2.1)))))
  ((1000001 : Int), (-1 : Int), (0 : Int)))
  (fun (T3 : Int × Int) => some (T3.1, T3.2))

theorem impl_seqRange_con (l : List Ent) (V_l0 : Value) (r : Int × Int) (hm : impl_seqRange l = some r) :
    Con Try.prog 111 [V_l0] [] [(V_l0, lc l)] (fun _ : Unit => .tuple #[.int .i64 r.1, .int .i64 r.2]) (fun _ => []) := by
  refine Con.intro (args := [V_l0]) (n := 25) (val := fun r (_ : Unit) => .tuple #[.int .i64 r.1, .int .i64 r.2]) (post := fun _ _ => []) (m := impl_seqRange l) Try.func111 rfl rfl rfl hm ?_
  intro w S hrd
  have HB_V_l0 := hrd _ (.head _)
  clear hrd
  unfold impl_seqRange
  refine TW.seq ?_
  refine TW.region ?_
  refine TO.y (Y.assign rfl) rfl rfl rfl ?_
  refine TO.y (Y.assign rfl) rfl rfl rfl ?_
  refine TO.nil ?_
  refine TE.next ?_
  refine TW.seq ?_
  refine TW.region ?_
  refine TO.y (Y.assign rfl) rfl rfl rfl ?_
  refine TO.y (Y.assign rfl) rfl rfl rfl ?_
  refine TO.nil ?_
  refine TE.next ?_
  refine TW.seq ?_
  refine TW.seq ?_
  refine TW.region ?_
  refine TO.y (Y.move rfl) rfl rfl rfl ?_
  refine TO.y (Y.len (l := l) ke40 (Base.can HB_V_l0) rfl) rfl rfl rfl ?_
  refine TO.y (Y.move rfl) rfl rfl rfl ?_
  refine TO.nil ?_
  refine TE.next ?_
  refine TW.joinX (τ := Int × Int) (X := Unit) (fun T _ => [(4, .int .i64 T.1), (5, .int .i64 T.2)]) (fun _ _ => []) ?_ (fun T3 X4 => ?_)
  · refine TW.block ?_
    refine TW.loopX (σ := Int × Int × Int) (X := Unit) (fun T _ => [(4, .int .i64 T.1), (5, .int .i64 T.2.1), (8, V_l0), (9, .int .i64 ((l.length : Nat) : Int)), (10, .int .i64 T.2.2)]) (fun _ _ => []) () [] ⟨rfl, rfl, rfl, rfl, rfl, trivial⟩ rfl (fun S1 X2 => ?_)
    refine TW.seq ?_
    refine TW.region ?_
    refine TO.y (Y.lss rfl rfl) rfl rfl rfl ?_
    refine TO.nil ?_
    refine TE.next ?_
    refine TW.seq ?_
    refine TW.cond rfl (fun H5 => ?_) (fun H5 => ?_)
    · refine TW.skip ?_
      refine TE.next ?_
      refine TW.seq ?_
      refine TW.block ?_
      refine TW.seq ?_
      refine TW.region ?_
      refine TO.bind fun E6 H7 => ?_
      refine TO.y (Y.index ke40 (Base.can HB_V_l0) H7 rfl rfl) rfl rfl rfl ?_
      refine TO.y (Y.load_el (us := [strV E6.Key, .int .i64 E6.Seq, .bool E6.Del, strV E6.Val]) (u := .agg #[strV E6.Key, .int .i64 E6.Seq, .bool E6.Del, strV E6.Val]) kk148 rfl (Base.can HB_V_l0) (idx_get H7).2.2 rfl rfl rfl rfl rfl) rfl rfl rfl ?_
      refine TO.ef (Ef.alloc kz148 rfl) rfl rfl rfl (fun B8 => ?_)
      refine TO.ef0 (Ef.store_box (us := [strV E6.Key, .int .i64 E6.Seq, .bool E6.Del, strV E6.Val]) (vs' := [strV E6.Key, .int .i64 E6.Seq, .bool E6.Del, strV E6.Val]) (is' := [.box B8 148 [strV E6.Key, .int .i64 E6.Seq, .bool E6.Del, strV E6.Val]]) 0 kk148 rfl rfl rfl (Cel.plain rfl rfl) rfl rfl rfl rfl) rfl rfl (fun _ => ?_)
      refine TO.nil ?_
      refine TE.next ?_
      refine TW.draw (isH := [.box B8 148 [strV E6.Key, .int .i64 E6.Seq, .bool E6.Del, strV E6.Val]]) hMix ?_
      refine TA.y (listed' := #[true, false, false, false, false, false, false, false, false, false]) 0 [0] rfl (Y.move rfl) rfl rfl rfl (by kernel_rfl) (by kernel_rfl) (by kernel_rfl) rfl rfl ?_
      refine TA.y (listed' := #[true, true, false, false, false, false, false, false, false, false]) 1 [0] rfl (Y.field_box kf148_1 rfl rfl) rfl rfl rfl (by kernel_rfl) (by kernel_rfl) (by kernel_rfl) rfl rfl ?_
      refine TA.y (listed' := #[true, true, true, false, false, false, false, false, false, false]) 2 [0] rfl (Y.load_box (v := .int .i64 E6.Seq) 0 kk3 rfl rfl rfl) rfl rfl rfl (by kernel_rfl) (by kernel_rfl) (by kernel_rfl) rfl rfl ?_
      refine TA.y (listed' := #[true, true, true, true, false, false, false, false, false, false]) 3 [0] rfl (Y.min2 rfl rfl) rfl rfl rfl (by kernel_rfl) (by kernel_rfl) (by kernel_rfl) rfl rfl ?_
      refine TA.y (listed' := #[true, true, true, true, true, false, false, false, false, false]) 4 [0] rfl (Y.move rfl) rfl rfl rfl (by kernel_rfl) (by kernel_rfl) (by kernel_rfl) rfl rfl ?_
      refine TA.y (listed' := #[true, true, true, true, true, true, false, false, false, false]) 5 [0] rfl (Y.field_box kf148_1 rfl rfl) rfl rfl rfl (by kernel_rfl) (by kernel_rfl) (by kernel_rfl) rfl rfl ?_
      refine TA.y (listed' := #[true, true, true, true, true, true, true, false, false, false]) 6 [0] rfl (Y.load_box (v := .int .i64 E6.Seq) 0 kk3 rfl rfl rfl) rfl rfl rfl (by kernel_rfl) (by kernel_rfl) (by kernel_rfl) rfl rfl ?_
      refine TA.y (listed' := #[true, true, true, true, true, true, true, true, false, false]) 7 [0] rfl (Y.max2 rfl rfl) rfl rfl rfl (by kernel_rfl) (by kernel_rfl) (by kernel_rfl) rfl rfl ?_
      refine TA.y (listed' := #[true, true, true, true, true, true, true, true, true, false]) 8 [0] rfl (Y.assign rfl) rfl rfl rfl (by kernel_rfl) (by kernel_rfl) (by kernel_rfl) rfl rfl ?_
      refine TA.y (listed' := #[true, true, true, true, true, true, true, true, true, true]) 9 [0] rfl (Y.assign rfl) rfl rfl rfl (by kernel_rfl) (by kernel_rfl) (by kernel_rfl) rfl rfl ?_
      refine TA.nil (by kernel_rfl) ?_
      refine TE.block_normal ?_
      refine TE.next ?_
      refine TW.region ?_
      refine TO.y (Y.add rfl rfl) rfl rfl rfl ?_
      refine TO.y (Y.move rfl) rfl rfl rfl ?_
      refine TO.nil ?_
      exact TE.lp_go () [] ⟨rfl, rfl, rfl, rfl, rfl, trivial⟩ rfl
    · refine TW.exit ?_
      refine TE.then_exit ?_
      refine TE.lp_exit ?_
      refine TE.block_exit ?_
      exact TE.jn_go () [] ⟨rfl, rfl, trivial⟩ rfl
  · refine TE.next ?_
    refine TW.seq ?_
    refine TW.region ?_
    refine TO.y (Y.move rfl) rfl rfl rfl ?_
    refine TO.y (Y.move rfl) rfl rfl rfl ?_
    refine TO.y (Y.assign rfl) rfl rfl rfl ?_
    refine TO.y (Y.assign rfl) rfl rfl rfl ?_
    refine TO.nil ?_
    refine TE.next ?_
    refine TW.ret ?_
    exact TE.leaf fun _ _ hf_ hs_ => ret_any (rs := [.tmp 2, .tmp 3]) (vs := [.int .i64 T3.1, .int .i64 T3.2]) (.inl rfl) rfl ⟨rfl, ⟨rfl, trivial⟩⟩ hf_ hs_ ⟨(), rfl, hs_.pulls [] rfl⟩

/-- loop.example/g00950/impl.tablesOk -/
noncomputable def impl_tablesOk (e : Eng) : Option Bool :=
  (if (decide (((e.Tables.length : Nat) : Int) > (6 : Int))) = true then (some true)
  else ((impl_totalOf e.Tables).bind fun R5 =>
  if (decide (IntKind.i64.wrap (R5 + ((e.Mem.length : Nat) : Int)) > (400 : Int))) = true then (some true)
  else ((impl_MemOk e.Mem).bind fun R9 =>
  some (!R9)))).bind (fun (T2 : Bool) =>
  if T2 = true then (some false)
  else ((impl_seqRange e.Mem).bind fun R13 =>
  if (decide (R13.2 > e.Seq)) = true then (some false)
  else (bindC (loopO (fun (S17 : Int × Int) => if (decide (S17.2 < ((e.Tables.length : Nat) : Int))) = true then ((idx e.Tables S17.2).bind fun E22 =>
  (impl_seqRange E22).bind fun R25 =>
  (if (decide (((E22.length : Nat) : Int) = (0 : Int))) = true then (some true)
  else ((impl_inOrder E22).bind fun R31 =>
  if (!R31) = true then (some true)
  else (if (decide (R25.2 ≥ S17.1)) = true then (some true)
  else (some (decide (R25.2 > e.Seq)))))).bind (fun (T28 : Bool) =>
  if T28 = true then (some (.done (.done false)))
  else (some (.go (R25.1, IntKind.i64.wrap (S17.2 + (1 : Int)))))))
  else (some (.done (.go ()))))
  (R13.1, (0 : Int)))
  (fun (T19 : Unit) => some true))))

theorem impl_tablesOk_con (e : Eng) (V_e0 : Value) (V_e1 : Value) (V_e3 : Value) (r : Bool) (hm : impl_tablesOk e = some r) :
    Con Try.prog 63 [.agg #[V_e0, V_e1, .int .i64 e.Seq, V_e3]] [] [(V_e0, lc e.Mem), (V_e1, lc e.Tables), (V_e3, lc e.Snaps)] (fun _ : Unit => .bool r) (fun _ => []) := by
  refine Con.intro (args := [.agg #[V_e0, V_e1, .int .i64 e.Seq, V_e3]]) (n := 72) (val := fun r (_ : Unit) => .bool r) (post := fun _ _ => []) (m := impl_tablesOk e) Try.func63 rfl rfl rfl hm ?_
  intro w S hrd
  have HB_V_e0 := hrd _ (.head _)
  have HB_V_e1 := hrd _ (.tail _ (.head _))
  have HB_V_e3 := hrd _ (.tail _ (.tail _ (.head _)))
  clear hrd
  unfold impl_tablesOk
  refine TW.seq ?_
  refine TW.region ?_
  refine TO.ef (Ef.box rfl (Cel.agg ⟨(One.can (Base.can HB_V_e0)), (One.can (Base.can HB_V_e1)), (One.plain rfl), (One.can (Base.can HB_V_e3)), trivial⟩)) rfl rfl rfl (fun B1 => ?_)
  refine TO.y (Y.assign rfl) rfl rfl rfl ?_
  refine TO.nil ?_
  refine TE.next ?_
  refine TW.seq ?_
  refine TW.seq ?_
  refine TW.joinBX (τ := Bool) (X := Unit) (fun T _ => [(1, .pointer (some ⟨B1, 0, none⟩)), (28, .bool T)]) (fun _ _ => [.box B1 43 [V_e0, V_e1, .int .i64 e.Seq, V_e3]]) ?_ (fun T2 X3 => ?_)
  · refine TW.draw (isH := [.box B1 43 [V_e0, V_e1, .int .i64 e.Seq, V_e3]]) hMix ?_
    refine TA.y (listed' := #[true, false, false, false, false, false, false, false, false, false, false, false, false, false, false, false, false, false, false, false]) 0 [0] rfl (Y.field_box kf43_1 rfl rfl) rfl rfl rfl (by kernel_rfl) (by kernel_rfl) (by kernel_rfl) rfl rfl ?_
    refine TA.y (listed' := #[true, true, false, false, false, false, false, false, false, false, false, false, false, false, false, false, false, false, false, false]) 1 [0] rfl (Y.load_box (v := V_e1) 0 kk41 rfl rfl rfl) rfl rfl rfl (by kernel_rfl) (by kernel_rfl) (by kernel_rfl) rfl rfl ?_
    refine TA.y (listed' := #[true, true, true, false, false, false, false, false, false, false, false, false, false, false, false, false, false, false, false, false]) 2 [0] rfl (Y.len (l := e.Tables) ke41 (Base.can HB_V_e1) rfl) rfl rfl rfl (by kernel_rfl) (by kernel_rfl) (by kernel_rfl) rfl rfl ?_
    refine TA.y (listed' := #[true, true, true, true, false, false, false, false, false, false, false, false, false, false, false, false, false, false, false, false]) 3 [0] rfl (Y.gtr rfl rfl) rfl rfl rfl (by kernel_rfl) (by kernel_rfl) (by kernel_rfl) rfl rfl ?_
    refine TA.y (listed' := #[true, true, true, true, true, false, false, false, false, false, false, false, false, false, false, false, false, false, false, false]) 4 [0] rfl (Y.move rfl) rfl rfl rfl (by kernel_rfl) (by kernel_rfl) (by kernel_rfl) rfl rfl ?_
    refine TA.ite (b := decide (((e.Tables.length : Nat) : Int) > (6 : Int))) (fun H4 => ?_) (fun H4 => ?_)
    · refine TA.off (listed' := #[true, true, true, true, true, true, false, false, false, false, false, false, false, false, false, false, false, false, false, false]) 5 [0] rfl (Gd.at 4 false 13 (decide (((e.Tables.length : Nat) : Int) > (6 : Int))) rfl rfl rfl (beq_tf H4)) rfl rfl (by kernel_rfl) (by kernel_rfl) (by kernel_rfl) rfl rfl ?_
      refine TA.off (listed' := #[true, true, true, true, true, true, true, false, false, false, false, false, false, false, false, false, false, false, false, false]) 6 [0] rfl (Gd.at 4 false 13 (decide (((e.Tables.length : Nat) : Int) > (6 : Int))) rfl rfl rfl (beq_tf H4)) rfl rfl (by kernel_rfl) (by kernel_rfl) (by kernel_rfl) rfl rfl ?_
      refine TA.off (listed' := #[true, true, true, true, true, true, true, true, false, false, false, false, false, false, false, false, false, false, false, false]) 7 [0] rfl (Gd.at 4 false 13 (decide (((e.Tables.length : Nat) : Int) > (6 : Int))) rfl rfl rfl (beq_tf H4)) rfl rfl (by kernel_rfl) (by kernel_rfl) (by kernel_rfl) rfl rfl ?_
      refine TA.off (listed' := #[true, true, true, true, true, true, true, true, true, false, false, false, false, false, false, false, false, false, false, false]) 8 [0] rfl (Gd.at 4 false 13 (decide (((e.Tables.length : Nat) : Int) > (6 : Int))) rfl rfl rfl (beq_tf H4)) rfl rfl (by kernel_rfl) (by kernel_rfl) (by kernel_rfl) rfl rfl ?_
      refine TA.off (listed' := #[true, true, true, true, true, true, true, true, true, true, false, false, false, false, false, false, false, false, false, false]) 9 [0] rfl (Gd.at 4 false 13 (decide (((e.Tables.length : Nat) : Int) > (6 : Int))) rfl rfl rfl (beq_tf H4)) rfl rfl (by kernel_rfl) (by kernel_rfl) (by kernel_rfl) rfl rfl ?_
      refine TA.off (listed' := #[true, true, true, true, true, true, true, true, true, true, true, false, false, false, false, false, false, false, false, false]) 10 [0] rfl (Gd.at 4 false 13 (decide (((e.Tables.length : Nat) : Int) > (6 : Int))) rfl rfl rfl (beq_tf H4)) rfl rfl (by kernel_rfl) (by kernel_rfl) (by kernel_rfl) rfl rfl ?_
      refine TA.off (listed' := #[true, true, true, true, true, true, true, true, true, true, true, true, false, false, false, false, false, false, false, false]) 11 [0] rfl (Gd.at 4 false 13 (decide (((e.Tables.length : Nat) : Int) > (6 : Int))) rfl rfl rfl (beq_tf H4)) rfl rfl (by kernel_rfl) (by kernel_rfl) (by kernel_rfl) rfl rfl ?_
      refine TA.off (listed' := #[true, true, true, true, true, true, true, true, true, true, true, true, true, false, false, false, false, false, false, false]) 12 [0] rfl (Gd.at 4 false 13 (decide (((e.Tables.length : Nat) : Int) > (6 : Int))) rfl rfl rfl (beq_tf H4)) rfl rfl (by kernel_rfl) (by kernel_rfl) (by kernel_rfl) rfl rfl ?_
      refine TA.y (listed' := #[true, true, true, true, true, true, true, true, true, true, true, true, true, true, false, false, false, false, false, false]) 13 [0] rfl (Y.pick_t H4 rfl rfl) rfl rfl rfl (by kernel_rfl) (by kernel_rfl) (by kernel_rfl) rfl rfl ?_
      refine TA.y (listed' := #[true, true, true, true, true, true, true, true, true, true, true, true, true, true, true, false, false, false, false, false]) 14 [0] rfl (Y.move rfl) rfl rfl rfl (by kernel_rfl) (by kernel_rfl) (by kernel_rfl) rfl rfl ?_
      refine TA.off (listed' := #[true, true, true, true, true, true, true, true, true, true, true, true, true, true, true, true, false, false, false, false]) 15 [0] rfl (Gd.at 14 false 23 true rfl rfl rfl rfl) rfl rfl (by kernel_rfl) (by kernel_rfl) (by kernel_rfl) rfl rfl ?_
      refine TA.off (listed' := #[true, true, true, true, true, true, true, true, true, true, true, true, true, true, true, true, true, false, false, false]) 16 [0] rfl (Gd.at 14 false 23 true rfl rfl rfl rfl) rfl rfl (by kernel_rfl) (by kernel_rfl) (by kernel_rfl) rfl rfl ?_
      refine TA.off (listed' := #[true, true, true, true, true, true, true, true, true, true, true, true, true, true, true, true, true, true, false, false]) 17 [0] rfl (Gd.at 14 false 23 true rfl rfl rfl rfl) rfl rfl (by kernel_rfl) (by kernel_rfl) (by kernel_rfl) rfl rfl ?_
      refine TA.off (listed' := #[true, true, true, true, true, true, true, true, true, true, true, true, true, true, true, true, true, true, true, false]) 18 [0] rfl (Gd.at 14 false 23 true rfl rfl rfl rfl) rfl rfl (by kernel_rfl) (by kernel_rfl) (by kernel_rfl) rfl rfl ?_
      refine TA.y (listed' := #[true, true, true, true, true, true, true, true, true, true, true, true, true, true, true, true, true, true, true, true]) 19 [0] rfl (Y.pick_t rfl rfl rfl) rfl rfl rfl (by kernel_rfl) (by kernel_rfl) (by kernel_rfl) rfl rfl ?_
      refine TA.nil (by kernel_rfl) ?_
      exact TE.jb_go () [0] ⟨rfl, rfl, trivial⟩ rfl
    · refine TA.y (listed' := #[true, true, true, true, true, true, false, false, false, false, false, false, false, false, false, false, false, false, false, false]) 5 [0] rfl (Y.field_box kf43_1 rfl rfl) (Gd.at 4 false 13 (decide (((e.Tables.length : Nat) : Int) > (6 : Int))) rfl rfl rfl (beq_ff H4)) rfl rfl (by kernel_rfl) (by kernel_rfl) (by kernel_rfl) rfl rfl ?_
      refine TA.y (listed' := #[true, true, true, true, true, true, true, false, false, false, false, false, false, false, false, false, false, false, false, false]) 6 [0] rfl (Y.load_box (v := V_e1) 0 kk41 rfl rfl rfl) (Gd.at 4 false 13 (decide (((e.Tables.length : Nat) : Int) > (6 : Int))) rfl rfl rfl (beq_ff H4)) rfl rfl (by kernel_rfl) (by kernel_rfl) (by kernel_rfl) rfl rfl ?_
      refine TA.y (listed' := #[true, true, true, true, true, true, true, false, true, false, false, false, false, false, false, false, false, false, false, false]) 8 [0] rfl (Y.field_box kf43_0 rfl rfl) (Gd.at 4 false 13 (decide (((e.Tables.length : Nat) : Int) > (6 : Int))) rfl rfl rfl (beq_ff H4)) rfl rfl (by kernel_rfl) (by kernel_rfl) (by kernel_rfl) rfl rfl ?_
      refine TA.y (listed' := #[true, true, true, true, true, true, true, false, true, true, false, false, false, false, false, false, false, false, false, false]) 9 [0] rfl (Y.load_box (v := V_e0) 0 kk40 rfl rfl rfl) (Gd.at 4 false 13 (decide (((e.Tables.length : Nat) : Int) > (6 : Int))) rfl rfl rfl (beq_ff H4)) rfl rfl (by kernel_rfl) (by kernel_rfl) (by kernel_rfl) rfl rfl ?_
      refine TA.y (listed' := #[true, true, true, true, true, true, true, false, true, true, true, false, false, false, false, false, false, false, false, false]) 10 [0] rfl (Y.len (l := e.Mem) ke40 (Base.can HB_V_e0) rfl) (Gd.at 4 false 13 (decide (((e.Tables.length : Nat) : Int) > (6 : Int))) rfl rfl rfl (beq_ff H4)) rfl rfl (by kernel_rfl) (by kernel_rfl) (by kernel_rfl) rfl rfl ?_
      refine TA.bind fun R5 H6 => ?_
      refine TA.one 7 (by kernel_rfl) ?_
      refine TX.ef (listed' := #[true, true, true, true, true, true, true, true, true, true, true, false, false, false, false, false, false, false, false, false]) [0] rfl (Ef.call (rest := [.box B1 43 [V_e0, V_e1, .int .i64 e.Seq, V_e3]]) [0] (impl_totalOf_con e.Tables V_e1 R5 H6) kc109 rfl rfl ⟨(Base.can HB_V_e1), trivial⟩) (Gd.at 4 false 13 (decide (((e.Tables.length : Nat) : Int) > (6 : Int))) rfl rfl rfl (beq_ff H4)) rfl rfl rfl (fun _ => rfl) (fun _ => ?_)
      refine TA.y (listed' := #[true, true, true, true, true, true, true, true, true, true, true, true, false, false, false, false, false, false, false, false]) 11 [0] rfl (Y.add rfl rfl) (Gd.at 4 false 13 (decide (((e.Tables.length : Nat) : Int) > (6 : Int))) rfl rfl rfl (beq_ff H4)) rfl rfl (by kernel_rfl) (by kernel_rfl) (by kernel_rfl) rfl rfl ?_
      refine TA.y (listed' := #[true, true, true, true, true, true, true, true, true, true, true, true, true, false, false, false, false, false, false, false]) 12 [0] rfl (Y.gtr rfl rfl) (Gd.at 4 false 13 (decide (((e.Tables.length : Nat) : Int) > (6 : Int))) rfl rfl rfl (beq_ff H4)) rfl rfl (by kernel_rfl) (by kernel_rfl) (by kernel_rfl) rfl rfl ?_
      refine TA.y (listed' := #[true, true, true, true, true, true, true, true, true, true, true, true, true, true, false, false, false, false, false, false]) 13 [0] rfl (Y.pick_f H4 rfl rfl) rfl rfl rfl (by kernel_rfl) (by kernel_rfl) (by kernel_rfl) rfl rfl ?_
      refine TA.y (listed' := #[true, true, true, true, true, true, true, true, true, true, true, true, true, true, true, false, false, false, false, false]) 14 [0] rfl (Y.move rfl) rfl rfl rfl (by kernel_rfl) (by kernel_rfl) (by kernel_rfl) rfl rfl ?_
      refine TA.ite (b := decide (IntKind.i64.wrap (R5 + ((e.Mem.length : Nat) : Int)) > (400 : Int))) (fun H8 => ?_) (fun H8 => ?_)
      · refine TA.off (listed' := #[true, true, true, true, true, true, true, true, true, true, true, true, true, true, true, true, false, false, false, false]) 15 [0] rfl (Gd.at 14 false 23 (decide (IntKind.i64.wrap (R5 + ((e.Mem.length : Nat) : Int)) > (400 : Int))) rfl rfl rfl (beq_tf H8)) rfl rfl (by kernel_rfl) (by kernel_rfl) (by kernel_rfl) rfl rfl ?_
        refine TA.off (listed' := #[true, true, true, true, true, true, true, true, true, true, true, true, true, true, true, true, true, false, false, false]) 16 [0] rfl (Gd.at 14 false 23 (decide (IntKind.i64.wrap (R5 + ((e.Mem.length : Nat) : Int)) > (400 : Int))) rfl rfl rfl (beq_tf H8)) rfl rfl (by kernel_rfl) (by kernel_rfl) (by kernel_rfl) rfl rfl ?_
        refine TA.off (listed' := #[true, true, true, true, true, true, true, true, true, true, true, true, true, true, true, true, true, true, false, false]) 17 [0] rfl (Gd.at 14 false 23 (decide (IntKind.i64.wrap (R5 + ((e.Mem.length : Nat) : Int)) > (400 : Int))) rfl rfl rfl (beq_tf H8)) rfl rfl (by kernel_rfl) (by kernel_rfl) (by kernel_rfl) rfl rfl ?_
        refine TA.off (listed' := #[true, true, true, true, true, true, true, true, true, true, true, true, true, true, true, true, true, true, true, false]) 18 [0] rfl (Gd.at 14 false 23 (decide (IntKind.i64.wrap (R5 + ((e.Mem.length : Nat) : Int)) > (400 : Int))) rfl rfl rfl (beq_tf H8)) rfl rfl (by kernel_rfl) (by kernel_rfl) (by kernel_rfl) rfl rfl ?_
        refine TA.y (listed' := #[true, true, true, true, true, true, true, true, true, true, true, true, true, true, true, true, true, true, true, true]) 19 [0] rfl (Y.pick_t H8 rfl rfl) rfl rfl rfl (by kernel_rfl) (by kernel_rfl) (by kernel_rfl) rfl rfl ?_
        refine TA.nil (by kernel_rfl) ?_
        exact TE.jb_go () [0] ⟨rfl, rfl, trivial⟩ rfl
      · refine TA.y (listed' := #[true, true, true, true, true, true, true, true, true, true, true, true, true, true, true, true, false, false, false, false]) 15 [0] rfl (Y.field_box kf43_0 rfl rfl) (Gd.at 14 false 23 (decide (IntKind.i64.wrap (R5 + ((e.Mem.length : Nat) : Int)) > (400 : Int))) rfl rfl rfl (beq_ff H8)) rfl rfl (by kernel_rfl) (by kernel_rfl) (by kernel_rfl) rfl rfl ?_
        refine TA.y (listed' := #[true, true, true, true, true, true, true, true, true, true, true, true, true, true, true, true, true, false, false, false]) 16 [0] rfl (Y.load_box (v := V_e0) 0 kk40 rfl rfl rfl) (Gd.at 14 false 23 (decide (IntKind.i64.wrap (R5 + ((e.Mem.length : Nat) : Int)) > (400 : Int))) rfl rfl rfl (beq_ff H8)) rfl rfl (by kernel_rfl) (by kernel_rfl) (by kernel_rfl) rfl rfl ?_
        refine TA.bind fun R9 H10 => ?_
        refine TA.one 17 (by kernel_rfl) ?_
        refine TX.ef (listed' := #[true, true, true, true, true, true, true, true, true, true, true, true, true, true, true, true, true, true, false, false]) [0] rfl (Ef.call (rest := [.box B1 43 [V_e0, V_e1, .int .i64 e.Seq, V_e3]]) [0] (impl_MemOk_con e.Mem V_e0 R9 H10) kc110 rfl rfl ⟨(Base.can HB_V_e0), trivial⟩) (Gd.at 14 false 23 (decide (IntKind.i64.wrap (R5 + ((e.Mem.length : Nat) : Int)) > (400 : Int))) rfl rfl rfl (beq_ff H8)) rfl rfl rfl (fun _ => rfl) (fun _ => ?_)
        refine TA.y (listed' := #[true, true, true, true, true, true, true, true, true, true, true, true, true, true, true, true, true, true, true, false]) 18 [0] rfl (Y.not rfl) (Gd.at 14 false 23 (decide (IntKind.i64.wrap (R5 + ((e.Mem.length : Nat) : Int)) > (400 : Int))) rfl rfl rfl (beq_ff H8)) rfl rfl (by kernel_rfl) (by kernel_rfl) (by kernel_rfl) rfl rfl ?_
        refine TA.y (listed' := #[true, true, true, true, true, true, true, true, true, true, true, true, true, true, true, true, true, true, true, true]) 19 [0] rfl (Y.pick_f H8 rfl rfl) rfl rfl rfl (by kernel_rfl) (by kernel_rfl) (by kernel_rfl) rfl rfl ?_
        refine TA.nil (by kernel_rfl) ?_
        exact TE.jb_go () [0] ⟨rfl, rfl, trivial⟩ rfl
  · refine TE.next ?_
    refine TW.cond rfl (fun H12 => ?_) (fun H12 => ?_)
    · refine TW.seq ?_
      refine TW.region ?_
      refine TO.y (Y.assign rfl) rfl rfl rfl ?_
      refine TO.nil ?_
      refine TE.next ?_
      refine TW.ret ?_
      refine TE.then_ret ?_
      exact TE.leaf fun _ _ hf_ hs_ => ret_any (rs := [.tmp 2]) (vs := [.bool false]) (.inl rfl) rfl ⟨rfl, trivial⟩ hf_ hs_ ⟨(), rfl, hs_.pulls [] rfl⟩
    · refine TW.skip ?_
      refine TE.next ?_
      refine TW.seq ?_
      refine TW.region ?_
      refine TO.y (Y.field_box kf43_0 rfl rfl) rfl rfl rfl ?_
      refine TO.y (Y.load_box (v := V_e0) 0 kk40 rfl rfl rfl) rfl rfl rfl ?_
      refine TO.bind fun R13 H14 => ?_
      refine TO.ef (Ef.call (rest := [.box B1 43 [V_e0, V_e1, .int .i64 e.Seq, V_e3]]) [0] (impl_seqRange_con e.Mem V_e0 R13 H14) kc111 rfl rfl ⟨(Base.can HB_V_e0), trivial⟩) rfl rfl rfl (fun _ => ?_)
      refine TO.y (Y.move rfl) rfl rfl rfl ?_
      refine TO.y (Y.extract rfl rfl) rfl rfl rfl ?_
      refine TO.y (Y.extract rfl rfl) rfl rfl rfl ?_
      refine TO.y (Y.assign rfl) rfl rfl rfl ?_
      refine TO.y (Y.assign rfl) rfl rfl rfl ?_
      refine TO.nil ?_
      refine TE.next ?_
      refine TW.seq ?_
      refine TW.seq ?_
      refine TW.region ?_
      refine TO.y (Y.move rfl) rfl rfl rfl ?_
      refine TO.y (Y.field_box kf43_2 rfl rfl) rfl rfl rfl ?_
      refine TO.y (Y.load_box (v := .int .i64 e.Seq) 0 kk3 rfl rfl rfl) rfl rfl rfl ?_
      refine TO.y (Y.gtr rfl rfl) rfl rfl rfl ?_
      refine TO.nil ?_
      refine TE.next ?_
      refine TW.cond rfl (fun H16 => ?_) (fun H16 => ?_)
      · refine TW.seq ?_
        refine TW.region ?_
        refine TO.y (Y.assign rfl) rfl rfl rfl ?_
        refine TO.nil ?_
        refine TE.next ?_
        refine TW.ret ?_
        refine TE.then_ret ?_
        exact TE.leaf fun _ _ hf_ hs_ => ret_any (rs := [.tmp 2]) (vs := [.bool false]) (.inl rfl) rfl ⟨rfl, trivial⟩ hf_ hs_ ⟨(), rfl, hs_.pulls [] rfl⟩
      · refine TW.skip ?_
        refine TE.next ?_
        refine TW.seq ?_
        refine TW.seq ?_
        refine TW.region ?_
        refine TO.y (Y.field_box kf43_1 rfl rfl) rfl rfl rfl ?_
        refine TO.y (Y.load_box (v := V_e1) 0 kk41 rfl rfl rfl) rfl rfl rfl ?_
        refine TO.y (Y.len (l := e.Tables) ke41 (Base.can HB_V_e1) rfl) rfl rfl rfl ?_
        refine TO.y (Y.move rfl) rfl rfl rfl ?_
        refine TO.nil ?_
        refine TE.next ?_
        refine TW.joinX (τ := Unit) (X := Unit) (fun _ _ => []) (fun _ _ => []) ?_ (fun T19 X20 => ?_)
        · refine TW.block ?_
          refine TW.loopX (σ := Int × Int) (X := Unit) (fun T _ => [(1, .pointer (some ⟨B1, 0, none⟩)), (3, .int .i64 T.1), (40, V_e1), (41, .int .i64 ((e.Tables.length : Nat) : Int)), (42, .int .i64 T.2)]) (fun _ _ => [.box B1 43 [V_e0, V_e1, .int .i64 e.Seq, V_e3]]) () [0] ⟨rfl, rfl, rfl, rfl, rfl, trivial⟩ rfl (fun S17 X18 => ?_)
          refine TW.seq ?_
          refine TW.region ?_
          refine TO.y (Y.lss rfl rfl) rfl rfl rfl ?_
          refine TO.nil ?_
          refine TE.next ?_
          refine TW.seq ?_
          refine TW.cond rfl (fun H21 => ?_) (fun H21 => ?_)
          · refine TW.skip ?_
            refine TE.next ?_
            refine TW.seq ?_
            refine TW.block ?_
            refine TW.seq ?_
            refine TW.region ?_
            refine TO.bind fun E22 H23 => ?_
            refine TO.y (Y.index ke41 (Base.can HB_V_e1) H23 rfl rfl) rfl rfl rfl ?_
            have Q24 : Base w S (elv w V_e1 (S17.2.toNat * 1 + 0)) (lc E22) := Base.el HB_V_e1 (idx_get H23).2.2 rfl rfl
            refine TO.y (Y.load_base (α := List Ent) (u := (elv w V_e1 (S17.2.toNat * 1 + 0))) kk40 rfl HB_V_e1 (idx_get H23).2.2 rfl rfl rfl rfl rfl) rfl rfl rfl ?_
            refine TO.y (Y.assign rfl) rfl rfl rfl ?_
            refine TO.nil ?_
            refine TE.next ?_
            refine TW.seq ?_
            refine TW.region ?_
            refine TO.y (Y.move rfl) rfl rfl rfl ?_
            refine TO.bind fun R25 H26 => ?_
            refine TO.ef (Ef.call (rest := [.box B1 43 [V_e0, V_e1, .int .i64 e.Seq, V_e3]]) [0] (impl_seqRange_con E22 (elv w V_e1 (S17.2.toNat * 1 + 0)) R25 H26) kc111 rfl rfl ⟨(Base.can Q24), trivial⟩) rfl rfl rfl (fun _ => ?_)
            refine TO.y (Y.move rfl) rfl rfl rfl ?_
            refine TO.y (Y.extract rfl rfl) rfl rfl rfl ?_
            refine TO.y (Y.extract rfl rfl) rfl rfl rfl ?_
            refine TO.y (Y.assign rfl) rfl rfl rfl ?_
            refine TO.y (Y.assign rfl) rfl rfl rfl ?_
            refine TO.nil ?_
            refine TE.next ?_
            refine TW.seq ?_
            refine TW.seq ?_
            refine TW.joinBX (τ := Bool) (X := Unit) (fun T _ => [(1, .pointer (some ⟨B1, 0, none⟩)), (7, .int .i64 R25.1), (40, V_e1), (41, .int .i64 ((e.Tables.length : Nat) : Int)), (42, .int .i64 S17.2), (69, .bool T)]) (fun _ _ => [.box B1 43 [V_e0, V_e1, .int .i64 e.Seq, V_e3]]) ?_ (fun T28 X29 => ?_)
            · refine TW.region ?_
              refine TO.y (Y.move rfl) rfl rfl rfl ?_
              refine TO.y (Y.len (l := E22) ke40 (Base.can Q24) rfl) rfl rfl rfl ?_
              refine TO.y (Y.eql rfl rfl) rfl rfl rfl ?_
              refine TO.y (Y.move rfl) rfl rfl rfl ?_
              refine TO.ite (b := decide (((E22.length : Nat) : Int) = (0 : Int))) (fun H30 => ?_) (fun H30 => ?_)
              · refine TO.off (Gd.at 3 false 54 (decide (((E22.length : Nat) : Int) = (0 : Int))) rfl rfl rfl (beq_tf H30)) rfl rfl ?_
                refine TO.off (Gd.at 3 false 54 (decide (((E22.length : Nat) : Int) = (0 : Int))) rfl rfl rfl (beq_tf H30)) rfl rfl ?_
                refine TO.off (Gd.at 3 false 54 (decide (((E22.length : Nat) : Int) = (0 : Int))) rfl rfl rfl (beq_tf H30)) rfl rfl ?_
                refine TO.y (Y.pick_t H30 rfl rfl) rfl rfl rfl ?_
                refine TO.y (Y.move rfl) rfl rfl rfl ?_
                refine TO.off (Gd.at 8 false 59 true rfl rfl rfl rfl) rfl rfl ?_
                refine TO.off (Gd.at 8 false 59 true rfl rfl rfl rfl) rfl rfl ?_
                refine TO.off (Gd.at 8 false 59 true rfl rfl rfl rfl) rfl rfl ?_
                refine TO.y (Y.pick_t rfl rfl rfl) rfl rfl rfl ?_
                refine TO.y (Y.move rfl) rfl rfl rfl ?_
                refine TO.off (Gd.at 13 false 64 true rfl rfl rfl rfl) rfl rfl ?_
                refine TO.off (Gd.at 13 false 64 true rfl rfl rfl rfl) rfl rfl ?_
                refine TO.off (Gd.at 13 false 64 true rfl rfl rfl rfl) rfl rfl ?_
                refine TO.off (Gd.at 13 false 64 true rfl rfl rfl rfl) rfl rfl ?_
                refine TO.y (Y.pick_t rfl rfl rfl) rfl rfl rfl ?_
                refine TO.nil ?_
                exact TE.jb_go () [0] ⟨rfl, rfl, rfl, rfl, rfl, rfl, trivial⟩ rfl
              · refine TO.y (Y.move rfl) (Gd.at 3 false 54 (decide (((E22.length : Nat) : Int) = (0 : Int))) rfl rfl rfl (beq_ff H30)) rfl rfl ?_
                refine TO.bind fun R31 H32 => ?_
                refine TO.ef (Ef.call (rest := [.box B1 43 [V_e0, V_e1, .int .i64 e.Seq, V_e3]]) [0] (impl_inOrder_con E22 (elv w V_e1 (S17.2.toNat * 1 + 0)) R31 H32) kc112 rfl rfl ⟨(Base.can Q24), trivial⟩) (Gd.at 3 false 54 (decide (((E22.length : Nat) : Int) = (0 : Int))) rfl rfl rfl (beq_ff H30)) rfl rfl (fun _ => ?_)
                refine TO.y (Y.not rfl) (Gd.at 3 false 54 (decide (((E22.length : Nat) : Int) = (0 : Int))) rfl rfl rfl (beq_ff H30)) rfl rfl ?_
                refine TO.y (Y.pick_f H30 rfl rfl) rfl rfl rfl ?_
                refine TO.y (Y.move rfl) rfl rfl rfl ?_
                refine TO.ite (b := !R31) (fun H34 => ?_) (fun H34 => ?_)
                · refine TO.off (Gd.at 8 false 59 (!R31) rfl rfl rfl (beq_tf H34)) rfl rfl ?_
                  refine TO.off (Gd.at 8 false 59 (!R31) rfl rfl rfl (beq_tf H34)) rfl rfl ?_
                  refine TO.off (Gd.at 8 false 59 (!R31) rfl rfl rfl (beq_tf H34)) rfl rfl ?_
                  refine TO.y (Y.pick_t H34 rfl rfl) rfl rfl rfl ?_
                  refine TO.y (Y.move rfl) rfl rfl rfl ?_
                  refine TO.off (Gd.at 13 false 64 true rfl rfl rfl rfl) rfl rfl ?_
                  refine TO.off (Gd.at 13 false 64 true rfl rfl rfl rfl) rfl rfl ?_
                  refine TO.off (Gd.at 13 false 64 true rfl rfl rfl rfl) rfl rfl ?_
                  refine TO.off (Gd.at 13 false 64 true rfl rfl rfl rfl) rfl rfl ?_
                  refine TO.y (Y.pick_t rfl rfl rfl) rfl rfl rfl ?_
                  refine TO.nil ?_
                  exact TE.jb_go () [0] ⟨rfl, rfl, rfl, rfl, rfl, rfl, trivial⟩ rfl
                · refine TO.y (Y.move rfl) (Gd.at 8 false 59 (!R31) rfl rfl rfl (beq_ff H34)) rfl rfl ?_
                  refine TO.y (Y.move rfl) (Gd.at 8 false 59 (!R31) rfl rfl rfl (beq_ff H34)) rfl rfl ?_
                  refine TO.y (Y.geq rfl rfl) (Gd.at 8 false 59 (!R31) rfl rfl rfl (beq_ff H34)) rfl rfl ?_
                  refine TO.y (Y.pick_f H34 rfl rfl) rfl rfl rfl ?_
                  refine TO.y (Y.move rfl) rfl rfl rfl ?_
                  refine TO.ite (b := decide (R25.2 ≥ S17.1)) (fun H35 => ?_) (fun H35 => ?_)
                  · refine TO.off (Gd.at 13 false 64 (decide (R25.2 ≥ S17.1)) rfl rfl rfl (beq_tf H35)) rfl rfl ?_
                    refine TO.off (Gd.at 13 false 64 (decide (R25.2 ≥ S17.1)) rfl rfl rfl (beq_tf H35)) rfl rfl ?_
                    refine TO.off (Gd.at 13 false 64 (decide (R25.2 ≥ S17.1)) rfl rfl rfl (beq_tf H35)) rfl rfl ?_
                    refine TO.off (Gd.at 13 false 64 (decide (R25.2 ≥ S17.1)) rfl rfl rfl (beq_tf H35)) rfl rfl ?_
                    refine TO.y (Y.pick_t H35 rfl rfl) rfl rfl rfl ?_
                    refine TO.nil ?_
                    exact TE.jb_go () [0] ⟨rfl, rfl, rfl, rfl, rfl, rfl, trivial⟩ rfl
                  · refine TO.y (Y.move rfl) (Gd.at 13 false 64 (decide (R25.2 ≥ S17.1)) rfl rfl rfl (beq_ff H35)) rfl rfl ?_
                    refine TO.y (Y.field_box kf43_2 rfl rfl) (Gd.at 13 false 64 (decide (R25.2 ≥ S17.1)) rfl rfl rfl (beq_ff H35)) rfl rfl ?_
                    refine TO.y (Y.load_box (v := .int .i64 e.Seq) 0 kk3 rfl rfl rfl) (Gd.at 13 false 64 (decide (R25.2 ≥ S17.1)) rfl rfl rfl (beq_ff H35)) rfl rfl ?_
                    refine TO.y (Y.gtr rfl rfl) (Gd.at 13 false 64 (decide (R25.2 ≥ S17.1)) rfl rfl rfl (beq_ff H35)) rfl rfl ?_
                    refine TO.y (Y.pick_f H35 rfl rfl) rfl rfl rfl ?_
                    refine TO.nil ?_
                    exact TE.jb_go () [0] ⟨rfl, rfl, rfl, rfl, rfl, rfl, trivial⟩ rfl
            · refine TE.next ?_
              refine TW.cond rfl (fun H36 => ?_) (fun H36 => ?_)
              · refine TW.seq ?_
                refine TW.region ?_
                refine TO.y (Y.assign rfl) rfl rfl rfl ?_
                refine TO.nil ?_
                refine TE.next ?_
                refine TW.ret ?_
                refine TE.then_ret ?_
                refine TE.block_ret ?_
                refine TE.then_ret ?_
                refine TE.lp_ret ?_
                refine TE.block_ret ?_
                refine TE.jn_done ?_
                refine TE.then_ret ?_
                exact TE.leaf fun _ _ hf_ hs_ => ret_any (rs := [.tmp 2]) (vs := [.bool false]) (.inl rfl) rfl ⟨rfl, trivial⟩ hf_ hs_ ⟨(), rfl, hs_.pulls [] rfl⟩
              · refine TW.skip ?_
                refine TE.next ?_
                refine TW.region ?_
                refine TO.y (Y.move rfl) rfl rfl rfl ?_
                refine TO.y (Y.assign rfl) rfl rfl rfl ?_
                refine TO.nil ?_
                refine TE.block_normal ?_
                refine TE.next ?_
                refine TW.region ?_
                refine TO.y (Y.add rfl rfl) rfl rfl rfl ?_
                refine TO.y (Y.move rfl) rfl rfl rfl ?_
                refine TO.nil ?_
                exact TE.lp_go () [0] ⟨rfl, rfl, rfl, rfl, rfl, trivial⟩ rfl
          · refine TW.exit ?_
            refine TE.then_exit ?_
            refine TE.lp_exit ?_
            refine TE.block_exit ?_
            exact TE.jn_go () [] trivial rfl
        · refine TE.next ?_
          refine TW.seq ?_
          refine TW.region ?_
          refine TO.y (Y.assign rfl) rfl rfl rfl ?_
          refine TO.nil ?_
          refine TE.next ?_
          refine TW.ret ?_
          exact TE.leaf fun _ _ hf_ hs_ => ret_any (rs := [.tmp 2]) (vs := [.bool true]) (.inl rfl) rfl ⟨rfl, trivial⟩ hf_ hs_ ⟨(), rfl, hs_.pulls [] rfl⟩

/-- loop.example/g00950/impl.EngOk -/
noncomputable def impl_EngOk (e : Eng) : Option Bool :=
  ((impl_isNumber e.Seq).bind fun R4 =>
  if (!R4) = true then (some true)
  else (if (decide (((e.Snaps.length : Nat) : Int) > (4 : Int))) = true then (some true)
  else ((impl_tablesOk e).bind fun R9 =>
  some (!R9)))).bind (fun (T2 : Bool) =>
  if T2 = true then (some false)
  else (bindC (loopO (fun (S13 : Int) => if (decide (S13 < ((e.Snaps.length : Nat) : Int))) = true then ((idx e.Snaps S13).bind fun E18 =>
  ((impl_inRange E18 (0 : Int) e.Seq).bind fun R22 =>
  if (!R22) = true then (some true)
  else (if (decide (S13 > (0 : Int))) = true then ((idx e.Snaps (IntKind.i64.wrap (S13 - (1 : Int)))).bind fun E27 =>
  some (decide (E18 ≤ E27)))
  else (some false))).bind (fun (T20 : Bool) =>
  if T20 = true then (some (.done (.done false)))
  else (some (.go (IntKind.i64.wrap (S13 + (1 : Int)))))))
  else (some (.done (.go ()))))
  (0 : Int))
  (fun (T15 : Unit) => some true)))

theorem impl_EngOk_con (e : Eng) (V_e0 : Value) (V_e1 : Value) (V_e3 : Value) (r : Bool) (hm : impl_EngOk e = some r) :
    Con Try.prog 17 [.agg #[V_e0, V_e1, .int .i64 e.Seq, V_e3]] [] [(V_e0, lc e.Mem), (V_e1, lc e.Tables), (V_e3, lc e.Snaps)] (fun _ : Unit => .bool r) (fun _ => []) := by
  refine Con.intro (args := [.agg #[V_e0, V_e1, .int .i64 e.Seq, V_e3]]) (n := 48) (val := fun r (_ : Unit) => .bool r) (post := fun _ _ => []) (m := impl_EngOk e) Try.func17 rfl rfl rfl hm ?_
  intro w S hrd
  have HB_V_e0 := hrd _ (.head _)
  have HB_V_e1 := hrd _ (.tail _ (.head _))
  have HB_V_e3 := hrd _ (.tail _ (.tail _ (.head _)))
  clear hrd
  unfold impl_EngOk
  refine TW.seq ?_
  refine TW.region ?_
  refine TO.ef (Ef.box rfl (Cel.agg ⟨(One.can (Base.can HB_V_e0)), (One.can (Base.can HB_V_e1)), (One.plain rfl), (One.can (Base.can HB_V_e3)), trivial⟩)) rfl rfl rfl (fun B1 => ?_)
  refine TO.y (Y.assign rfl) rfl rfl rfl ?_
  refine TO.nil ?_
  refine TE.next ?_
  refine TW.seq ?_
  refine TW.seq ?_
  refine TW.joinBX (τ := Bool) (X := Unit) (fun T _ => [(1, .pointer (some ⟨B1, 0, none⟩)), (19, .bool T)]) (fun _ _ => [.box B1 43 [V_e0, V_e1, .int .i64 e.Seq, V_e3]]) ?_ (fun T2 X3 => ?_)
  · refine TW.region ?_
    refine TO.y (Y.field_box kf43_2 rfl rfl) rfl rfl rfl ?_
    refine TO.y (Y.load_box (v := .int .i64 e.Seq) 0 kk3 rfl rfl rfl) rfl rfl rfl ?_
    refine TO.bind fun R4 H5 => ?_
    refine TO.ef (Ef.call (rest := [.box B1 43 [V_e0, V_e1, .int .i64 e.Seq, V_e3]]) [0] (impl_isNumber_con e.Seq  R4 H5) kc62 rfl rfl trivial) rfl rfl rfl (fun _ => ?_)
    refine TO.y (Y.not rfl) rfl rfl rfl ?_
    refine TO.y (Y.move rfl) rfl rfl rfl ?_
    refine TO.ite (b := !R4) (fun H7 => ?_) (fun H7 => ?_)
    · refine TO.off (Gd.at 4 false 9 (!R4) rfl rfl rfl (beq_tf H7)) rfl rfl ?_
      refine TO.off (Gd.at 4 false 9 (!R4) rfl rfl rfl (beq_tf H7)) rfl rfl ?_
      refine TO.off (Gd.at 4 false 9 (!R4) rfl rfl rfl (beq_tf H7)) rfl rfl ?_
      refine TO.off (Gd.at 4 false 9 (!R4) rfl rfl rfl (beq_tf H7)) rfl rfl ?_
      refine TO.y (Y.pick_t H7 rfl rfl) rfl rfl rfl ?_
      refine TO.y (Y.move rfl) rfl rfl rfl ?_
      refine TO.off (Gd.at 10 false 15 true rfl rfl rfl rfl) rfl rfl ?_
      refine TO.off (Gd.at 10 false 15 true rfl rfl rfl rfl) rfl rfl ?_
      refine TO.off (Gd.at 10 false 15 true rfl rfl rfl rfl) rfl rfl ?_
      refine TO.y (Y.pick_t rfl rfl rfl) rfl rfl rfl ?_
      refine TO.nil ?_
      exact TE.jb_go () [0] ⟨rfl, rfl, trivial⟩ rfl
    · refine TO.y (Y.field_box kf43_3 rfl rfl) (Gd.at 4 false 9 (!R4) rfl rfl rfl (beq_ff H7)) rfl rfl ?_
      refine TO.y (Y.load_box (v := V_e3) 0 kk23 rfl rfl rfl) (Gd.at 4 false 9 (!R4) rfl rfl rfl (beq_ff H7)) rfl rfl ?_
      refine TO.y (Y.len (l := e.Snaps) ke23 (Base.can HB_V_e3) rfl) (Gd.at 4 false 9 (!R4) rfl rfl rfl (beq_ff H7)) rfl rfl ?_
      refine TO.y (Y.gtr rfl rfl) (Gd.at 4 false 9 (!R4) rfl rfl rfl (beq_ff H7)) rfl rfl ?_
      refine TO.y (Y.pick_f H7 rfl rfl) rfl rfl rfl ?_
      refine TO.y (Y.move rfl) rfl rfl rfl ?_
      refine TO.ite (b := decide (((e.Snaps.length : Nat) : Int) > (4 : Int))) (fun H8 => ?_) (fun H8 => ?_)
      · refine TO.off (Gd.at 10 false 15 (decide (((e.Snaps.length : Nat) : Int) > (4 : Int))) rfl rfl rfl (beq_tf H8)) rfl rfl ?_
        refine TO.off (Gd.at 10 false 15 (decide (((e.Snaps.length : Nat) : Int) > (4 : Int))) rfl rfl rfl (beq_tf H8)) rfl rfl ?_
        refine TO.off (Gd.at 10 false 15 (decide (((e.Snaps.length : Nat) : Int) > (4 : Int))) rfl rfl rfl (beq_tf H8)) rfl rfl ?_
        refine TO.y (Y.pick_t H8 rfl rfl) rfl rfl rfl ?_
        refine TO.nil ?_
        exact TE.jb_go () [0] ⟨rfl, rfl, trivial⟩ rfl
      · refine TO.y (Y.load_box (v := .agg #[V_e0, V_e1, .int .i64 e.Seq, V_e3]) 0 kk43 rfl rfl rfl) (Gd.at 10 false 15 (decide (((e.Snaps.length : Nat) : Int) > (4 : Int))) rfl rfl rfl (beq_ff H8)) rfl rfl ?_
        refine TO.bind fun R9 H10 => ?_
        refine TO.ef (Ef.call (rest := [.box B1 43 [V_e0, V_e1, .int .i64 e.Seq, V_e3]]) [0] (impl_tablesOk_con e V_e0 V_e1 V_e3 R9 H10) kc63 rfl rfl ⟨(Base.can HB_V_e0), (Base.can HB_V_e1), (Base.can HB_V_e3), trivial⟩) (Gd.at 10 false 15 (decide (((e.Snaps.length : Nat) : Int) > (4 : Int))) rfl rfl rfl (beq_ff H8)) rfl rfl (fun _ => ?_)
        refine TO.y (Y.not rfl) (Gd.at 10 false 15 (decide (((e.Snaps.length : Nat) : Int) > (4 : Int))) rfl rfl rfl (beq_ff H8)) rfl rfl ?_
        refine TO.y (Y.pick_f H8 rfl rfl) rfl rfl rfl ?_
        refine TO.nil ?_
        exact TE.jb_go () [0] ⟨rfl, rfl, trivial⟩ rfl
  · refine TE.next ?_
    refine TW.cond rfl (fun H12 => ?_) (fun H12 => ?_)
    · refine TW.seq ?_
      refine TW.region ?_
      refine TO.y (Y.assign rfl) rfl rfl rfl ?_
      refine TO.nil ?_
      refine TE.next ?_
      refine TW.ret ?_
      refine TE.then_ret ?_
      exact TE.leaf fun _ _ hf_ hs_ => ret_any (rs := [.tmp 2]) (vs := [.bool false]) (.inl rfl) rfl ⟨rfl, trivial⟩ hf_ hs_ ⟨(), rfl, hs_.pulls [] rfl⟩
    · refine TW.skip ?_
      refine TE.next ?_
      refine TW.seq ?_
      refine TW.seq ?_
      refine TW.region ?_
      refine TO.y (Y.field_box kf43_3 rfl rfl) rfl rfl rfl ?_
      refine TO.y (Y.load_box (v := V_e3) 0 kk23 rfl rfl rfl) rfl rfl rfl ?_
      refine TO.y (Y.len (l := e.Snaps) ke23 (Base.can HB_V_e3) rfl) rfl rfl rfl ?_
      refine TO.y (Y.move rfl) rfl rfl rfl ?_
      refine TO.nil ?_
      refine TE.next ?_
      refine TW.joinX (τ := Unit) (X := Unit) (fun _ _ => []) (fun _ _ => []) ?_ (fun T15 X16 => ?_)
      · refine TW.block ?_
        refine TW.loopX (σ := Int) (X := Unit) (fun T _ => [(1, .pointer (some ⟨B1, 0, none⟩)), (21, V_e3), (22, .int .i64 ((e.Snaps.length : Nat) : Int)), (23, .int .i64 T)]) (fun _ _ => [.box B1 43 [V_e0, V_e1, .int .i64 e.Seq, V_e3]]) () [0] ⟨rfl, rfl, rfl, rfl, trivial⟩ rfl (fun S13 X14 => ?_)
        refine TW.seq ?_
        refine TW.region ?_
        refine TO.y (Y.lss rfl rfl) rfl rfl rfl ?_
        refine TO.nil ?_
        refine TE.next ?_
        refine TW.seq ?_
        refine TW.cond rfl (fun H17 => ?_) (fun H17 => ?_)
        · refine TW.skip ?_
          refine TE.next ?_
          refine TW.seq ?_
          refine TW.block ?_
          refine TW.seq ?_
          refine TW.region ?_
          refine TO.y (Y.move rfl) rfl rfl rfl ?_
          refine TO.bind fun E18 H19 => ?_
          refine TO.y (Y.index ke23 (Base.can HB_V_e3) H19 rfl rfl) rfl rfl rfl ?_
          refine TO.y (Y.load_el (us := [.int .i64 E18]) (u := .int .i64 E18) kk3 rfl (Base.can HB_V_e3) (idx_get H19).2.2 rfl rfl rfl rfl rfl) rfl rfl rfl ?_
          refine TO.y (Y.assign rfl) rfl rfl rfl ?_
          refine TO.y (Y.assign rfl) rfl rfl rfl ?_
          refine TO.nil ?_
          refine TE.next ?_
          refine TW.seq ?_
          refine TW.joinBX (τ := Bool) (X := Unit) (fun T _ => [(1, .pointer (some ⟨B1, 0, none⟩)), (21, V_e3), (22, .int .i64 ((e.Snaps.length : Nat) : Int)), (23, .int .i64 S13), (46, .bool T)]) (fun _ _ => [.box B1 43 [V_e0, V_e1, .int .i64 e.Seq, V_e3]]) ?_ (fun T20 X21 => ?_)
          · refine TW.region ?_
            refine TO.y (Y.move rfl) rfl rfl rfl ?_
            refine TO.y (Y.field_box kf43_2 rfl rfl) rfl rfl rfl ?_
            refine TO.y (Y.load_box (v := .int .i64 e.Seq) 0 kk3 rfl rfl rfl) rfl rfl rfl ?_
            refine TO.bind fun R22 H23 => ?_
            refine TO.ef (Ef.call (rest := [.box B1 43 [V_e0, V_e1, .int .i64 e.Seq, V_e3]]) [0] (impl_inRange_con E18 (0 : Int) e.Seq  R22 H23) kc64 rfl rfl trivial) rfl rfl rfl (fun _ => ?_)
            refine TO.y (Y.not rfl) rfl rfl rfl ?_
            refine TO.y (Y.move rfl) rfl rfl rfl ?_
            refine TO.ite (b := !R22) (fun H25 => ?_) (fun H25 => ?_)
            · refine TO.off (Gd.at 5 false 33 (!R22) rfl rfl rfl (beq_tf H25)) rfl rfl ?_
              refine TO.off (Gd.at 5 false 33 (!R22) rfl rfl rfl (beq_tf H25)) rfl rfl ?_
              refine TO.off (Gd.at 5 false 33 (!R22) rfl rfl rfl (beq_tf H25)) rfl rfl ?_
              refine TO.off (Gd.un 8 true 36 rfl rfl rfl) rfl rfl ?_
              refine TO.off (Gd.un 8 true 36 rfl rfl rfl) rfl rfl ?_
              refine TO.off (Gd.un 8 true 36 rfl rfl rfl) rfl rfl ?_
              refine TO.off (Gd.un 8 true 36 rfl rfl rfl) rfl rfl ?_
              refine TO.off (Gd.un 8 true 36 rfl rfl rfl) rfl rfl ?_
              refine TO.off (Gd.un 8 true 36 rfl rfl rfl) rfl rfl ?_
              refine TO.off (Gd.un 8 true 36 rfl rfl rfl) rfl rfl ?_
              refine TO.off (Gd.un 8 true 36 rfl rfl rfl) rfl rfl ?_
              refine TO.off (Gd.at 5 false 33 (!R22) rfl rfl rfl (beq_tf H25)) rfl rfl ?_
              refine TO.y (Y.pick_t H25 rfl rfl) rfl rfl rfl ?_
              refine TO.nil ?_
              exact TE.jb_go () [0] ⟨rfl, rfl, rfl, rfl, rfl, trivial⟩ rfl
            · refine TO.y (Y.move rfl) (Gd.at 5 false 33 (!R22) rfl rfl rfl (beq_ff H25)) rfl rfl ?_
              refine TO.y (Y.gtr rfl rfl) (Gd.at 5 false 33 (!R22) rfl rfl rfl (beq_ff H25)) rfl rfl ?_
              refine TO.y (Y.move rfl) (Gd.at 5 false 33 (!R22) rfl rfl rfl (beq_ff H25)) rfl rfl ?_
              refine TO.ite (b := decide (S13 > (0 : Int))) (fun H26 => ?_) (fun H26 => ?_)
              · refine TO.y (Y.move rfl) (Gd.at 8 true 36 (decide (S13 > (0 : Int))) rfl rfl rfl (beq_tt H26)) rfl rfl ?_
                refine TO.y (Y.field_box kf43_3 rfl rfl) (Gd.at 8 true 36 (decide (S13 > (0 : Int))) rfl rfl rfl (beq_tt H26)) rfl rfl ?_
                refine TO.y (Y.load_box (v := V_e3) 0 kk23 rfl rfl rfl) (Gd.at 8 true 36 (decide (S13 > (0 : Int))) rfl rfl rfl (beq_tt H26)) rfl rfl ?_
                refine TO.y (Y.move rfl) (Gd.at 8 true 36 (decide (S13 > (0 : Int))) rfl rfl rfl (beq_tt H26)) rfl rfl ?_
                refine TO.y (Y.sub rfl rfl) (Gd.at 8 true 36 (decide (S13 > (0 : Int))) rfl rfl rfl (beq_tt H26)) rfl rfl ?_
                refine TO.bind fun E27 H28 => ?_
                refine TO.y (Y.index ke23 (Base.can HB_V_e3) H28 rfl rfl) (Gd.at 8 true 36 (decide (S13 > (0 : Int))) rfl rfl rfl (beq_tt H26)) rfl rfl ?_
                refine TO.y (Y.load_el (us := [.int .i64 E27]) (u := .int .i64 E27) kk3 rfl (Base.can HB_V_e3) (idx_get H28).2.2 rfl rfl rfl rfl rfl) (Gd.at 8 true 36 (decide (S13 > (0 : Int))) rfl rfl rfl (beq_tt H26)) rfl rfl ?_
                refine TO.y (Y.leq rfl rfl) (Gd.at 8 true 36 (decide (S13 > (0 : Int))) rfl rfl rfl (beq_tt H26)) rfl rfl ?_
                refine TO.y (Y.pick_t H26 rfl rfl) (Gd.at 5 false 33 (!R22) rfl rfl rfl (beq_ff H25)) rfl rfl ?_
                refine TO.y (Y.pick_f H25 rfl rfl) rfl rfl rfl ?_
                refine TO.nil ?_
                exact TE.jb_go () [0] ⟨rfl, rfl, rfl, rfl, rfl, trivial⟩ rfl
              · refine TO.off (Gd.at 8 true 36 (decide (S13 > (0 : Int))) rfl rfl rfl (beq_ft H26)) rfl rfl ?_
                refine TO.off (Gd.at 8 true 36 (decide (S13 > (0 : Int))) rfl rfl rfl (beq_ft H26)) rfl rfl ?_
                refine TO.off (Gd.at 8 true 36 (decide (S13 > (0 : Int))) rfl rfl rfl (beq_ft H26)) rfl rfl ?_
                refine TO.off (Gd.at 8 true 36 (decide (S13 > (0 : Int))) rfl rfl rfl (beq_ft H26)) rfl rfl ?_
                refine TO.off (Gd.at 8 true 36 (decide (S13 > (0 : Int))) rfl rfl rfl (beq_ft H26)) rfl rfl ?_
                refine TO.off (Gd.at 8 true 36 (decide (S13 > (0 : Int))) rfl rfl rfl (beq_ft H26)) rfl rfl ?_
                refine TO.off (Gd.at 8 true 36 (decide (S13 > (0 : Int))) rfl rfl rfl (beq_ft H26)) rfl rfl ?_
                refine TO.off (Gd.at 8 true 36 (decide (S13 > (0 : Int))) rfl rfl rfl (beq_ft H26)) rfl rfl ?_
                refine TO.y (Y.pick_f H26 rfl rfl) (Gd.at 5 false 33 (!R22) rfl rfl rfl (beq_ff H25)) rfl rfl ?_
                refine TO.y (Y.pick_f H25 rfl rfl) rfl rfl rfl ?_
                refine TO.nil ?_
                exact TE.jb_go () [0] ⟨rfl, rfl, rfl, rfl, rfl, trivial⟩ rfl
          · refine TE.next ?_
            refine TW.cond rfl (fun H29 => ?_) (fun H29 => ?_)
            · refine TW.seq ?_
              refine TW.region ?_
              refine TO.y (Y.assign rfl) rfl rfl rfl ?_
              refine TO.nil ?_
              refine TE.next ?_
              refine TW.ret ?_
              refine TE.block_ret ?_
              refine TE.then_ret ?_
              refine TE.lp_ret ?_
              refine TE.block_ret ?_
              refine TE.jn_done ?_
              refine TE.then_ret ?_
              exact TE.leaf fun _ _ hf_ hs_ => ret_any (rs := [.tmp 2]) (vs := [.bool false]) (.inl rfl) rfl ⟨rfl, trivial⟩ hf_ hs_ ⟨(), rfl, hs_.pulls [] rfl⟩
            · refine TW.skip ?_
              refine TE.block_normal ?_
              refine TE.next ?_
              refine TW.region ?_
              refine TO.y (Y.add rfl rfl) rfl rfl rfl ?_
              refine TO.y (Y.move rfl) rfl rfl rfl ?_
              refine TO.nil ?_
              exact TE.lp_go () [0] ⟨rfl, rfl, rfl, rfl, trivial⟩ rfl
        · refine TW.exit ?_
          refine TE.then_exit ?_
          refine TE.lp_exit ?_
          refine TE.block_exit ?_
          exact TE.jn_go () [] trivial rfl
      · refine TE.next ?_
        refine TW.seq ?_
        refine TW.region ?_
        refine TO.y (Y.assign rfl) rfl rfl rfl ?_
        refine TO.nil ?_
        refine TE.next ?_
        refine TW.ret ?_
        exact TE.leaf fun _ _ hf_ hs_ => ret_any (rs := [.tmp 2]) (vs := [.bool true]) (.inl rfl) rfl ⟨rfl, trivial⟩ hf_ hs_ ⟨(), rfl, hs_.pulls [] rfl⟩

/-- loop.example/g00950/laws.eqEnt -/
noncomputable def laws_eqEnt (a : Ent) (b : Ent) : Option Bool :=
  if (!(decide (a.Key = b.Key))) = true then (some false)
  else (if (!(decide (a.Seq = b.Seq))) = true then (some false)
  else (if (!(decide (a.Del = b.Del))) = true then (some false)
  else (if (!(decide (a.Val = b.Val))) = true then (some false)
  else (some true))))

theorem laws_eqEnt_con (a : Ent) (b : Ent)  (r : Bool) (hm : laws_eqEnt a b = some r) :
    Con Try.prog 113 [.agg #[strV a.Key, .int .i64 a.Seq, .bool a.Del, strV a.Val], .agg #[strV b.Key, .int .i64 b.Seq, .bool b.Del, strV b.Val]] [] [] (fun _ : Unit => .bool r) (fun _ => []) := by
  refine Con.intro (args := [.agg #[strV a.Key, .int .i64 a.Seq, .bool a.Del, strV a.Val], .agg #[strV b.Key, .int .i64 b.Seq, .bool b.Del, strV b.Val]]) (n := 25) (val := fun r (_ : Unit) => .bool r) (post := fun _ _ => []) (m := laws_eqEnt a b) Try.func113 rfl rfl rfl hm ?_
  intro w S _
  unfold laws_eqEnt
  refine TW.seq ?_
  refine TW.region ?_
  refine TO.ef (Ef.box rfl (Cel.plain rfl rfl)) rfl rfl rfl (fun B1 => ?_)
  refine TO.ef (Ef.box rfl (Cel.plain rfl rfl)) rfl rfl rfl (fun B2 => ?_)
  refine TO.y (Y.assign rfl) rfl rfl rfl ?_
  refine TO.nil ?_
  refine TE.next ?_
  refine TW.seq ?_
  refine TW.seq ?_
  refine TW.region ?_
  refine TO.y (Y.field_box kf148_0 rfl rfl) rfl rfl rfl ?_
  refine TO.y (Y.load_box (v := strV a.Key) 1 kk9 rfl rfl rfl) rfl rfl rfl ?_
  refine TO.y (Y.field_box kf148_0 rfl rfl) rfl rfl rfl ?_
  refine TO.y (Y.load_box (v := strV b.Key) 0 kk9 rfl rfl rfl) rfl rfl rfl ?_
  refine TO.y (Y.sneq rfl rfl) rfl rfl rfl ?_
  refine TO.nil ?_
  refine TE.next ?_
  refine TW.cond rfl (fun H3 => ?_) (fun H3 => ?_)
  · refine TW.seq ?_
    refine TW.region ?_
    refine TO.y (Y.assign rfl) rfl rfl rfl ?_
    refine TO.nil ?_
    refine TE.next ?_
    refine TW.ret ?_
    refine TE.then_ret ?_
    exact TE.leaf fun _ _ hf_ hs_ => ret_any (rs := [.tmp 4]) (vs := [.bool false]) (.inl rfl) rfl ⟨rfl, trivial⟩ hf_ hs_ ⟨(), rfl, hs_.pulls [] rfl⟩
  · refine TW.skip ?_
    refine TE.next ?_
    refine TW.seq ?_
    refine TW.seq ?_
    refine TW.region ?_
    refine TO.y (Y.field_box kf148_1 rfl rfl) rfl rfl rfl ?_
    refine TO.y (Y.load_box (v := .int .i64 a.Seq) 1 kk3 rfl rfl rfl) rfl rfl rfl ?_
    refine TO.y (Y.field_box kf148_1 rfl rfl) rfl rfl rfl ?_
    refine TO.y (Y.load_box (v := .int .i64 b.Seq) 0 kk3 rfl rfl rfl) rfl rfl rfl ?_
    refine TO.y (Y.neq rfl rfl) rfl rfl rfl ?_
    refine TO.nil ?_
    refine TE.next ?_
    refine TW.cond rfl (fun H4 => ?_) (fun H4 => ?_)
    · refine TW.seq ?_
      refine TW.region ?_
      refine TO.y (Y.assign rfl) rfl rfl rfl ?_
      refine TO.nil ?_
      refine TE.next ?_
      refine TW.ret ?_
      refine TE.then_ret ?_
      exact TE.leaf fun _ _ hf_ hs_ => ret_any (rs := [.tmp 4]) (vs := [.bool false]) (.inl rfl) rfl ⟨rfl, trivial⟩ hf_ hs_ ⟨(), rfl, hs_.pulls [] rfl⟩
    · refine TW.skip ?_
      refine TE.next ?_
      refine TW.seq ?_
      refine TW.seq ?_
      refine TW.region ?_
      refine TO.y (Y.field_box kf148_2 rfl rfl) rfl rfl rfl ?_
      refine TO.y (Y.load_box (v := .bool a.Del) 1 kk4 rfl rfl rfl) rfl rfl rfl ?_
      refine TO.y (Y.field_box kf148_2 rfl rfl) rfl rfl rfl ?_
      refine TO.y (Y.load_box (v := .bool b.Del) 0 kk4 rfl rfl rfl) rfl rfl rfl ?_
      refine TO.y (Y.neb kb4 rfl rfl) rfl rfl rfl ?_
      refine TO.nil ?_
      refine TE.next ?_
      refine TW.cond rfl (fun H5 => ?_) (fun H5 => ?_)
      · refine TW.seq ?_
        refine TW.region ?_
        refine TO.y (Y.assign rfl) rfl rfl rfl ?_
        refine TO.nil ?_
        refine TE.next ?_
        refine TW.ret ?_
        refine TE.then_ret ?_
        exact TE.leaf fun _ _ hf_ hs_ => ret_any (rs := [.tmp 4]) (vs := [.bool false]) (.inl rfl) rfl ⟨rfl, trivial⟩ hf_ hs_ ⟨(), rfl, hs_.pulls [] rfl⟩
      · refine TW.skip ?_
        refine TE.next ?_
        refine TW.seq ?_
        refine TW.seq ?_
        refine TW.region ?_
        refine TO.y (Y.field_box kf148_3 rfl rfl) rfl rfl rfl ?_
        refine TO.y (Y.load_box (v := strV a.Val) 1 kk9 rfl rfl rfl) rfl rfl rfl ?_
        refine TO.y (Y.field_box kf148_3 rfl rfl) rfl rfl rfl ?_
        refine TO.y (Y.load_box (v := strV b.Val) 0 kk9 rfl rfl rfl) rfl rfl rfl ?_
        refine TO.y (Y.sneq rfl rfl) rfl rfl rfl ?_
        refine TO.nil ?_
        refine TE.next ?_
        refine TW.cond rfl (fun H6 => ?_) (fun H6 => ?_)
        · refine TW.seq ?_
          refine TW.region ?_
          refine TO.y (Y.assign rfl) rfl rfl rfl ?_
          refine TO.nil ?_
          refine TE.next ?_
          refine TW.ret ?_
          refine TE.then_ret ?_
          exact TE.leaf fun _ _ hf_ hs_ => ret_any (rs := [.tmp 4]) (vs := [.bool false]) (.inl rfl) rfl ⟨rfl, trivial⟩ hf_ hs_ ⟨(), rfl, hs_.pulls [] rfl⟩
        · refine TW.skip ?_
          refine TE.next ?_
          refine TW.seq ?_
          refine TW.region ?_
          refine TO.y (Y.assign rfl) rfl rfl rfl ?_
          refine TO.nil ?_
          refine TE.next ?_
          refine TW.ret ?_
          exact TE.leaf fun _ _ hf_ hs_ => ret_any (rs := [.tmp 4]) (vs := [.bool true]) (.inl rfl) rfl ⟨rfl, trivial⟩ hf_ hs_ ⟨(), rfl, hs_.pulls [] rfl⟩

/-- loop.example/g00950/laws.eqEntS -/
noncomputable def laws_eqEntS (a : List Ent) (b : List Ent) : Option Bool :=
  if (!(decide (((a.length : Nat) : Int) = ((b.length : Nat) : Int)))) = true then (some false)
  else (bindC (loopO (fun (S2 : Int) => if (decide (S2 < ((a.length : Nat) : Int))) = true then ((idx a S2).bind fun E7 =>
  (idx b S2).bind fun E9 =>
  (laws_eqEnt E7 E9).bind fun R11 =>
  if (!R11) = true then (some (.done (.done false)))
  else (some (.go (IntKind.i64.wrap (S2 + (1 : Int))))))
  else (some (.done (.go ()))))
  (0 : Int))
  (fun (T4 : Unit) => some true))

theorem laws_eqEntS_con (a : List Ent) (b : List Ent) (V_a0 : Value) (V_b0 : Value) (r : Bool) (hm : laws_eqEntS a b = some r) :
    Con Try.prog 65 [V_a0, V_b0] [] [(V_a0, lc a), (V_b0, lc b)] (fun _ : Unit => .bool r) (fun _ => []) := by
  refine Con.intro (args := [V_a0, V_b0]) (n := 27) (val := fun r (_ : Unit) => .bool r) (post := fun _ _ => []) (m := laws_eqEntS a b) Try.func65 rfl rfl rfl hm ?_
  intro w S hrd
  have HB_V_a0 := hrd _ (.head _)
  have HB_V_b0 := hrd _ (.tail _ (.head _))
  clear hrd
  unfold laws_eqEntS
  refine TW.seq ?_
  refine TW.region ?_
  refine TO.y (Y.assign rfl) rfl rfl rfl ?_
  refine TO.nil ?_
  refine TE.next ?_
  refine TW.seq ?_
  refine TW.seq ?_
  refine TW.region ?_
  refine TO.y (Y.move rfl) rfl rfl rfl ?_
  refine TO.y (Y.len (l := a) ke40 (Base.can HB_V_a0) rfl) rfl rfl rfl ?_
  refine TO.y (Y.move rfl) rfl rfl rfl ?_
  refine TO.y (Y.len (l := b) ke40 (Base.can HB_V_b0) rfl) rfl rfl rfl ?_
  refine TO.y (Y.neq rfl rfl) rfl rfl rfl ?_
  refine TO.nil ?_
  refine TE.next ?_
  refine TW.cond rfl (fun H1 => ?_) (fun H1 => ?_)
  · refine TW.seq ?_
    refine TW.region ?_
    refine TO.y (Y.assign rfl) rfl rfl rfl ?_
    refine TO.nil ?_
    refine TE.next ?_
    refine TW.ret ?_
    refine TE.then_ret ?_
    exact TE.leaf fun _ _ hf_ hs_ => ret_any (rs := [.tmp 4]) (vs := [.bool false]) (.inl rfl) rfl ⟨rfl, trivial⟩ hf_ hs_ ⟨(), rfl, hs_.pulls [] rfl⟩
  · refine TW.skip ?_
    refine TE.next ?_
    refine TW.seq ?_
    refine TW.seq ?_
    refine TW.region ?_
    refine TO.y (Y.assign rfl) rfl rfl rfl ?_
    refine TO.nil ?_
    refine TE.next ?_
    refine TW.joinX (τ := Unit) (X := Unit) (fun _ _ => []) (fun _ _ => []) ?_ (fun T4 X5 => ?_)
    · refine TW.block ?_
      refine TW.loopX (σ := Int) (X := Unit) (fun T _ => [(0, V_a0), (1, V_b0), (5, .int .i64 T)]) (fun _ _ => []) () [] ⟨rfl, rfl, rfl, trivial⟩ rfl (fun S2 X3 => ?_)
      refine TW.seq ?_
      refine TW.seq ?_
      refine TW.region ?_
      refine TO.y (Y.move rfl) rfl rfl rfl ?_
      refine TO.y (Y.move rfl) rfl rfl rfl ?_
      refine TO.y (Y.len (l := a) ke40 (Base.can HB_V_a0) rfl) rfl rfl rfl ?_
      refine TO.y (Y.lss rfl rfl) rfl rfl rfl ?_
      refine TO.nil ?_
      refine TE.next ?_
      refine TW.cond rfl (fun H6 => ?_) (fun H6 => ?_)
      · refine TW.skip ?_
        refine TE.next ?_
        refine TW.seq ?_
        refine TW.block ?_
        refine TW.seq ?_
        refine TW.draw (isH := []) hMix ?_
        refine TA.y (listed' := #[true, false, false, false, false, false, false, false, false, false]) 0 [] rfl (Y.move rfl) rfl rfl rfl (by kernel_rfl) (by kernel_rfl) (by kernel_rfl) rfl rfl ?_
        refine TA.y (listed' := #[true, true, false, false, false, false, false, false, false, false]) 1 [] rfl (Y.move rfl) rfl rfl rfl (by kernel_rfl) (by kernel_rfl) (by kernel_rfl) rfl rfl ?_
        refine TA.bind fun E7 H8 => ?_
        refine TA.y (listed' := #[true, true, true, false, false, false, false, false, false, false]) 2 [] rfl (Y.index ke40 (Base.can HB_V_a0) H8 rfl rfl) rfl rfl rfl (by kernel_rfl) (by kernel_rfl) (by kernel_rfl) rfl rfl ?_
        refine TA.y (listed' := #[true, true, true, true, false, false, false, false, false, false]) 3 [] rfl (Y.load_el (us := [strV E7.Key, .int .i64 E7.Seq, .bool E7.Del, strV E7.Val]) (u := .agg #[strV E7.Key, .int .i64 E7.Seq, .bool E7.Del, strV E7.Val]) kk148 rfl (Base.can HB_V_a0) (idx_get H8).2.2 rfl rfl rfl rfl rfl) rfl rfl rfl (by kernel_rfl) (by kernel_rfl) (by kernel_rfl) rfl rfl ?_
        refine TA.y (listed' := #[true, true, true, true, true, false, false, false, false, false]) 4 [] rfl (Y.move rfl) rfl rfl rfl (by kernel_rfl) (by kernel_rfl) (by kernel_rfl) rfl rfl ?_
        refine TA.y (listed' := #[true, true, true, true, true, true, false, false, false, false]) 5 [] rfl (Y.move rfl) rfl rfl rfl (by kernel_rfl) (by kernel_rfl) (by kernel_rfl) rfl rfl ?_
        refine TA.bind fun E9 H10 => ?_
        refine TA.y (listed' := #[true, true, true, true, true, true, true, false, false, false]) 6 [] rfl (Y.index ke40 (Base.can HB_V_b0) H10 rfl rfl) rfl rfl rfl (by kernel_rfl) (by kernel_rfl) (by kernel_rfl) rfl rfl ?_
        refine TA.y (listed' := #[true, true, true, true, true, true, true, true, false, false]) 7 [] rfl (Y.load_el (us := [strV E9.Key, .int .i64 E9.Seq, .bool E9.Del, strV E9.Val]) (u := .agg #[strV E9.Key, .int .i64 E9.Seq, .bool E9.Del, strV E9.Val]) kk148 rfl (Base.can HB_V_b0) (idx_get H10).2.2 rfl rfl rfl rfl rfl) rfl rfl rfl (by kernel_rfl) (by kernel_rfl) (by kernel_rfl) rfl rfl ?_
        refine TA.bind fun R11 H12 => ?_
        refine TA.one 8 (by kernel_rfl) ?_
        refine TX.ef (listed' := #[true, true, true, true, true, true, true, true, true, false]) [] rfl (Ef.call (rest := []) [] (laws_eqEnt_con E7 E9  R11 H12) kc113 rfl rfl trivial) rfl rfl rfl rfl (fun _ => rfl) (fun _ => ?_)
        refine TA.y (listed' := #[true, true, true, true, true, true, true, true, true, true]) 9 [] rfl (Y.not rfl) rfl rfl rfl (by kernel_rfl) (by kernel_rfl) (by kernel_rfl) rfl rfl ?_
        refine TA.nil (by kernel_rfl) ?_
        refine TE.next ?_
        refine TW.cond rfl (fun H14 => ?_) (fun H14 => ?_)
        · refine TW.seq ?_
          refine TW.region ?_
          refine TO.y (Y.assign rfl) rfl rfl rfl ?_
          refine TO.nil ?_
          refine TE.next ?_
          refine TW.ret ?_
          refine TE.block_ret ?_
          refine TE.then_ret ?_
          refine TE.lp_ret ?_
          refine TE.block_ret ?_
          refine TE.jn_done ?_
          refine TE.then_ret ?_
          exact TE.leaf fun _ _ hf_ hs_ => ret_any (rs := [.tmp 4]) (vs := [.bool false]) (.inl rfl) rfl ⟨rfl, trivial⟩ hf_ hs_ ⟨(), rfl, hs_.pulls [] rfl⟩
        · refine TW.skip ?_
          refine TE.block_normal ?_
          refine TE.next ?_
          refine TW.region ?_
          refine TO.y (Y.move rfl) rfl rfl rfl ?_
          refine TO.y (Y.add rfl rfl) rfl rfl rfl ?_
          refine TO.y (Y.assign rfl) rfl rfl rfl ?_
          refine TO.nil ?_
          exact TE.lp_go () [] ⟨rfl, rfl, rfl, trivial⟩ rfl
      · refine TW.exit ?_
        refine TE.then_exit ?_
        refine TE.lp_exit ?_
        refine TE.block_exit ?_
        exact TE.jn_go () [] trivial rfl
    · refine TE.next ?_
      refine TW.seq ?_
      refine TW.region ?_
      refine TO.y (Y.assign rfl) rfl rfl rfl ?_
      refine TO.nil ?_
      refine TE.next ?_
      refine TW.ret ?_
      exact TE.leaf fun _ _ hf_ hs_ => ret_any (rs := [.tmp 4]) (vs := [.bool true]) (.inl rfl) rfl ⟨rfl, trivial⟩ hf_ hs_ ⟨(), rfl, hs_.pulls [] rfl⟩

/-- loop.example/g00950/laws.eqEntSS -/
noncomputable def laws_eqEntSS (a : List (List Ent)) (b : List (List Ent)) : Option Bool :=
  if (!(decide (((a.length : Nat) : Int) = ((b.length : Nat) : Int)))) = true then (some false)
  else (bindC (loopO (fun (S2 : Int) => if (decide (S2 < ((a.length : Nat) : Int))) = true then ((idx a S2).bind fun E7 =>
  (idx b S2).bind fun E10 =>
  (laws_eqEntS E7 E10).bind fun R13 =>
  if (!R13) = true then (some (.done (.done false)))
  else (some (.go (IntKind.i64.wrap (S2 + (1 : Int))))))
  else (some (.done (.go ()))))
  (0 : Int))
  (fun (T4 : Unit) => some true))

theorem laws_eqEntSS_con (a : List (List Ent)) (b : List (List Ent)) (V_a0 : Value) (V_b0 : Value) (r : Bool) (hm : laws_eqEntSS a b = some r) :
    Con Try.prog 66 [V_a0, V_b0] [] [(V_a0, lc a), (V_b0, lc b)] (fun _ : Unit => .bool r) (fun _ => []) := by
  refine Con.intro (args := [V_a0, V_b0]) (n := 27) (val := fun r (_ : Unit) => .bool r) (post := fun _ _ => []) (m := laws_eqEntSS a b) Try.func66 rfl rfl rfl hm ?_
  intro w S hrd
  have HB_V_a0 := hrd _ (.head _)
  have HB_V_b0 := hrd _ (.tail _ (.head _))
  clear hrd
  unfold laws_eqEntSS
  refine TW.seq ?_
  refine TW.region ?_
  refine TO.y (Y.assign rfl) rfl rfl rfl ?_
  refine TO.nil ?_
  refine TE.next ?_
  refine TW.seq ?_
  refine TW.seq ?_
  refine TW.region ?_
  refine TO.y (Y.move rfl) rfl rfl rfl ?_
  refine TO.y (Y.len (l := a) ke41 (Base.can HB_V_a0) rfl) rfl rfl rfl ?_
  refine TO.y (Y.move rfl) rfl rfl rfl ?_
  refine TO.y (Y.len (l := b) ke41 (Base.can HB_V_b0) rfl) rfl rfl rfl ?_
  refine TO.y (Y.neq rfl rfl) rfl rfl rfl ?_
  refine TO.nil ?_
  refine TE.next ?_
  refine TW.cond rfl (fun H1 => ?_) (fun H1 => ?_)
  · refine TW.seq ?_
    refine TW.region ?_
    refine TO.y (Y.assign rfl) rfl rfl rfl ?_
    refine TO.nil ?_
    refine TE.next ?_
    refine TW.ret ?_
    refine TE.then_ret ?_
    exact TE.leaf fun _ _ hf_ hs_ => ret_any (rs := [.tmp 4]) (vs := [.bool false]) (.inl rfl) rfl ⟨rfl, trivial⟩ hf_ hs_ ⟨(), rfl, hs_.pulls [] rfl⟩
  · refine TW.skip ?_
    refine TE.next ?_
    refine TW.seq ?_
    refine TW.seq ?_
    refine TW.region ?_
    refine TO.y (Y.assign rfl) rfl rfl rfl ?_
    refine TO.nil ?_
    refine TE.next ?_
    refine TW.joinX (τ := Unit) (X := Unit) (fun _ _ => []) (fun _ _ => []) ?_ (fun T4 X5 => ?_)
    · refine TW.block ?_
      refine TW.loopX (σ := Int) (X := Unit) (fun T _ => [(0, V_a0), (1, V_b0), (5, .int .i64 T)]) (fun _ _ => []) () [] ⟨rfl, rfl, rfl, trivial⟩ rfl (fun S2 X3 => ?_)
      refine TW.seq ?_
      refine TW.seq ?_
      refine TW.region ?_
      refine TO.y (Y.move rfl) rfl rfl rfl ?_
      refine TO.y (Y.move rfl) rfl rfl rfl ?_
      refine TO.y (Y.len (l := a) ke41 (Base.can HB_V_a0) rfl) rfl rfl rfl ?_
      refine TO.y (Y.lss rfl rfl) rfl rfl rfl ?_
      refine TO.nil ?_
      refine TE.next ?_
      refine TW.cond rfl (fun H6 => ?_) (fun H6 => ?_)
      · refine TW.skip ?_
        refine TE.next ?_
        refine TW.seq ?_
        refine TW.block ?_
        refine TW.seq ?_
        refine TW.draw (isH := []) hMix ?_
        refine TA.y (listed' := #[true, false, false, false, false, false, false, false, false, false]) 0 [] rfl (Y.move rfl) rfl rfl rfl (by kernel_rfl) (by kernel_rfl) (by kernel_rfl) rfl rfl ?_
        refine TA.y (listed' := #[true, true, false, false, false, false, false, false, false, false]) 1 [] rfl (Y.move rfl) rfl rfl rfl (by kernel_rfl) (by kernel_rfl) (by kernel_rfl) rfl rfl ?_
        refine TA.bind fun E7 H8 => ?_
        refine TA.y (listed' := #[true, true, true, false, false, false, false, false, false, false]) 2 [] rfl (Y.index ke41 (Base.can HB_V_a0) H8 rfl rfl) rfl rfl rfl (by kernel_rfl) (by kernel_rfl) (by kernel_rfl) rfl rfl ?_
        have Q9 : Base w S (elv w V_a0 (S2.toNat * 1 + 0)) (lc E7) := Base.el HB_V_a0 (idx_get H8).2.2 rfl rfl
        refine TA.y (listed' := #[true, true, true, true, false, false, false, false, false, false]) 3 [] rfl (Y.load_base (α := List Ent) (u := (elv w V_a0 (S2.toNat * 1 + 0))) kk40 rfl HB_V_a0 (idx_get H8).2.2 rfl rfl rfl rfl rfl) rfl rfl rfl (by kernel_rfl) (by kernel_rfl) (by kernel_rfl) rfl rfl ?_
        refine TA.y (listed' := #[true, true, true, true, true, false, false, false, false, false]) 4 [] rfl (Y.move rfl) rfl rfl rfl (by kernel_rfl) (by kernel_rfl) (by kernel_rfl) rfl rfl ?_
        refine TA.y (listed' := #[true, true, true, true, true, true, false, false, false, false]) 5 [] rfl (Y.move rfl) rfl rfl rfl (by kernel_rfl) (by kernel_rfl) (by kernel_rfl) rfl rfl ?_
        refine TA.bind fun E10 H11 => ?_
        refine TA.y (listed' := #[true, true, true, true, true, true, true, false, false, false]) 6 [] rfl (Y.index ke41 (Base.can HB_V_b0) H11 rfl rfl) rfl rfl rfl (by kernel_rfl) (by kernel_rfl) (by kernel_rfl) rfl rfl ?_
        have Q12 : Base w S (elv w V_b0 (S2.toNat * 1 + 0)) (lc E10) := Base.el HB_V_b0 (idx_get H11).2.2 rfl rfl
        refine TA.y (listed' := #[true, true, true, true, true, true, true, true, false, false]) 7 [] rfl (Y.load_base (α := List Ent) (u := (elv w V_b0 (S2.toNat * 1 + 0))) kk40 rfl HB_V_b0 (idx_get H11).2.2 rfl rfl rfl rfl rfl) rfl rfl rfl (by kernel_rfl) (by kernel_rfl) (by kernel_rfl) rfl rfl ?_
        refine TA.bind fun R13 H14 => ?_
        refine TA.one 8 (by kernel_rfl) ?_
        refine TX.ef (listed' := #[true, true, true, true, true, true, true, true, true, false]) [] rfl (Ef.call (rest := []) [] (laws_eqEntS_con E7 E10 (elv w V_a0 (S2.toNat * 1 + 0)) (elv w V_b0 (S2.toNat * 1 + 0)) R13 H14) kc65 rfl rfl ⟨(Base.can Q9), (Base.can Q12), trivial⟩) rfl rfl rfl rfl (fun _ => rfl) (fun _ => ?_)
        refine TA.y (listed' := #[true, true, true, true, true, true, true, true, true, true]) 9 [] rfl (Y.not rfl) rfl rfl rfl (by kernel_rfl) (by kernel_rfl) (by kernel_rfl) rfl rfl ?_
        refine TA.nil (by kernel_rfl) ?_
        refine TE.next ?_
        refine TW.cond rfl (fun H16 => ?_) (fun H16 => ?_)
        · refine TW.seq ?_
          refine TW.region ?_
          refine TO.y (Y.assign rfl) rfl rfl rfl ?_
          refine TO.nil ?_
          refine TE.next ?_
          refine TW.ret ?_
          refine TE.block_ret ?_
          refine TE.then_ret ?_
          refine TE.lp_ret ?_
          refine TE.block_ret ?_
          refine TE.jn_done ?_
          refine TE.then_ret ?_
          exact TE.leaf fun _ _ hf_ hs_ => ret_any (rs := [.tmp 4]) (vs := [.bool false]) (.inl rfl) rfl ⟨rfl, trivial⟩ hf_ hs_ ⟨(), rfl, hs_.pulls [] rfl⟩
        · refine TW.skip ?_
          refine TE.block_normal ?_
          refine TE.next ?_
          refine TW.region ?_
          refine TO.y (Y.move rfl) rfl rfl rfl ?_
          refine TO.y (Y.add rfl rfl) rfl rfl rfl ?_
          refine TO.y (Y.assign rfl) rfl rfl rfl ?_
          refine TO.nil ?_
          exact TE.lp_go () [] ⟨rfl, rfl, rfl, trivial⟩ rfl
      · refine TW.exit ?_
        refine TE.then_exit ?_
        refine TE.lp_exit ?_
        refine TE.block_exit ?_
        exact TE.jn_go () [] trivial rfl
    · refine TE.next ?_
      refine TW.seq ?_
      refine TW.region ?_
      refine TO.y (Y.assign rfl) rfl rfl rfl ?_
      refine TO.nil ?_
      refine TE.next ?_
      refine TW.ret ?_
      exact TE.leaf fun _ _ hf_ hs_ => ret_any (rs := [.tmp 4]) (vs := [.bool true]) (.inl rfl) rfl ⟨rfl, trivial⟩ hf_ hs_ ⟨(), rfl, hs_.pulls [] rfl⟩

/-- loop.example/g00950/laws.eqIntS -/
noncomputable def laws_eqIntS (a : List Int) (b : List Int) : Option Bool :=
  if (!(decide (((a.length : Nat) : Int) = ((b.length : Nat) : Int)))) = true then (some false)
  else (bindC (loopO (fun (S2 : Int) => if (decide (S2 < ((a.length : Nat) : Int))) = true then ((idx a S2).bind fun E7 =>
  (idx b S2).bind fun E9 =>
  if (!(decide (E7 = E9))) = true then (some (.done (.done false)))
  else (some (.go (IntKind.i64.wrap (S2 + (1 : Int))))))
  else (some (.done (.go ()))))
  (0 : Int))
  (fun (T4 : Unit) => some true))

theorem laws_eqIntS_con (a : List Int) (b : List Int) (V_a0 : Value) (V_b0 : Value) (r : Bool) (hm : laws_eqIntS a b = some r) :
    Con Try.prog 53 [V_a0, V_b0] [] [(V_a0, lc a), (V_b0, lc b)] (fun _ : Unit => .bool r) (fun _ => []) := by
  refine Con.intro (args := [V_a0, V_b0]) (n := 26) (val := fun r (_ : Unit) => .bool r) (post := fun _ _ => []) (m := laws_eqIntS a b) Try.func53 rfl rfl rfl hm ?_
  intro w S hrd
  have HB_V_a0 := hrd _ (.head _)
  have HB_V_b0 := hrd _ (.tail _ (.head _))
  clear hrd
  unfold laws_eqIntS
  refine TW.seq ?_
  refine TW.region ?_
  refine TO.y (Y.assign rfl) rfl rfl rfl ?_
  refine TO.nil ?_
  refine TE.next ?_
  refine TW.seq ?_
  refine TW.seq ?_
  refine TW.region ?_
  refine TO.y (Y.move rfl) rfl rfl rfl ?_
  refine TO.y (Y.len (l := a) ke23 (Base.can HB_V_a0) rfl) rfl rfl rfl ?_
  refine TO.y (Y.move rfl) rfl rfl rfl ?_
  refine TO.y (Y.len (l := b) ke23 (Base.can HB_V_b0) rfl) rfl rfl rfl ?_
  refine TO.y (Y.neq rfl rfl) rfl rfl rfl ?_
  refine TO.nil ?_
  refine TE.next ?_
  refine TW.cond rfl (fun H1 => ?_) (fun H1 => ?_)
  · refine TW.seq ?_
    refine TW.region ?_
    refine TO.y (Y.assign rfl) rfl rfl rfl ?_
    refine TO.nil ?_
    refine TE.next ?_
    refine TW.ret ?_
    refine TE.then_ret ?_
    exact TE.leaf fun _ _ hf_ hs_ => ret_any (rs := [.tmp 4]) (vs := [.bool false]) (.inl rfl) rfl ⟨rfl, trivial⟩ hf_ hs_ ⟨(), rfl, hs_.pulls [] rfl⟩
  · refine TW.skip ?_
    refine TE.next ?_
    refine TW.seq ?_
    refine TW.seq ?_
    refine TW.region ?_
    refine TO.y (Y.assign rfl) rfl rfl rfl ?_
    refine TO.nil ?_
    refine TE.next ?_
    refine TW.joinX (τ := Unit) (X := Unit) (fun _ _ => []) (fun _ _ => []) ?_ (fun T4 X5 => ?_)
    · refine TW.block ?_
      refine TW.loopX (σ := Int) (X := Unit) (fun T _ => [(0, V_a0), (1, V_b0), (5, .int .i64 T)]) (fun _ _ => []) () [] ⟨rfl, rfl, rfl, trivial⟩ rfl (fun S2 X3 => ?_)
      refine TW.seq ?_
      refine TW.seq ?_
      refine TW.region ?_
      refine TO.y (Y.move rfl) rfl rfl rfl ?_
      refine TO.y (Y.move rfl) rfl rfl rfl ?_
      refine TO.y (Y.len (l := a) ke23 (Base.can HB_V_a0) rfl) rfl rfl rfl ?_
      refine TO.y (Y.lss rfl rfl) rfl rfl rfl ?_
      refine TO.nil ?_
      refine TE.next ?_
      refine TW.cond rfl (fun H6 => ?_) (fun H6 => ?_)
      · refine TW.skip ?_
        refine TE.next ?_
        refine TW.seq ?_
        refine TW.block ?_
        refine TW.seq ?_
        refine TW.draw (isH := []) hMix ?_
        refine TA.y (listed' := #[true, false, false, false, false, false, false, false, false]) 0 [] rfl (Y.move rfl) rfl rfl rfl (by kernel_rfl) (by kernel_rfl) (by kernel_rfl) rfl rfl ?_
        refine TA.y (listed' := #[true, true, false, false, false, false, false, false, false]) 1 [] rfl (Y.move rfl) rfl rfl rfl (by kernel_rfl) (by kernel_rfl) (by kernel_rfl) rfl rfl ?_
        refine TA.bind fun E7 H8 => ?_
        refine TA.y (listed' := #[true, true, true, false, false, false, false, false, false]) 2 [] rfl (Y.index ke23 (Base.can HB_V_a0) H8 rfl rfl) rfl rfl rfl (by kernel_rfl) (by kernel_rfl) (by kernel_rfl) rfl rfl ?_
        refine TA.y (listed' := #[true, true, true, true, false, false, false, false, false]) 3 [] rfl (Y.load_el (us := [.int .i64 E7]) (u := .int .i64 E7) kk3 rfl (Base.can HB_V_a0) (idx_get H8).2.2 rfl rfl rfl rfl rfl) rfl rfl rfl (by kernel_rfl) (by kernel_rfl) (by kernel_rfl) rfl rfl ?_
        refine TA.y (listed' := #[true, true, true, true, true, false, false, false, false]) 4 [] rfl (Y.move rfl) rfl rfl rfl (by kernel_rfl) (by kernel_rfl) (by kernel_rfl) rfl rfl ?_
        refine TA.y (listed' := #[true, true, true, true, true, true, false, false, false]) 5 [] rfl (Y.move rfl) rfl rfl rfl (by kernel_rfl) (by kernel_rfl) (by kernel_rfl) rfl rfl ?_
        refine TA.bind fun E9 H10 => ?_
        refine TA.y (listed' := #[true, true, true, true, true, true, true, false, false]) 6 [] rfl (Y.index ke23 (Base.can HB_V_b0) H10 rfl rfl) rfl rfl rfl (by kernel_rfl) (by kernel_rfl) (by kernel_rfl) rfl rfl ?_
        refine TA.y (listed' := #[true, true, true, true, true, true, true, true, false]) 7 [] rfl (Y.load_el (us := [.int .i64 E9]) (u := .int .i64 E9) kk3 rfl (Base.can HB_V_b0) (idx_get H10).2.2 rfl rfl rfl rfl rfl) rfl rfl rfl (by kernel_rfl) (by kernel_rfl) (by kernel_rfl) rfl rfl ?_
        refine TA.y (listed' := #[true, true, true, true, true, true, true, true, true]) 8 [] rfl (Y.neq rfl rfl) rfl rfl rfl (by kernel_rfl) (by kernel_rfl) (by kernel_rfl) rfl rfl ?_
        refine TA.nil (by kernel_rfl) ?_
        refine TE.next ?_
        refine TW.cond rfl (fun H11 => ?_) (fun H11 => ?_)
        · refine TW.seq ?_
          refine TW.region ?_
          refine TO.y (Y.assign rfl) rfl rfl rfl ?_
          refine TO.nil ?_
          refine TE.next ?_
          refine TW.ret ?_
          refine TE.block_ret ?_
          refine TE.then_ret ?_
          refine TE.lp_ret ?_
          refine TE.block_ret ?_
          refine TE.jn_done ?_
          refine TE.then_ret ?_
          exact TE.leaf fun _ _ hf_ hs_ => ret_any (rs := [.tmp 4]) (vs := [.bool false]) (.inl rfl) rfl ⟨rfl, trivial⟩ hf_ hs_ ⟨(), rfl, hs_.pulls [] rfl⟩
        · refine TW.skip ?_
          refine TE.block_normal ?_
          refine TE.next ?_
          refine TW.region ?_
          refine TO.y (Y.move rfl) rfl rfl rfl ?_
          refine TO.y (Y.add rfl rfl) rfl rfl rfl ?_
          refine TO.y (Y.assign rfl) rfl rfl rfl ?_
          refine TO.nil ?_
          exact TE.lp_go () [] ⟨rfl, rfl, rfl, trivial⟩ rfl
      · refine TW.exit ?_
        refine TE.then_exit ?_
        refine TE.lp_exit ?_
        refine TE.block_exit ?_
        exact TE.jn_go () [] trivial rfl
    · refine TE.next ?_
      refine TW.seq ?_
      refine TW.region ?_
      refine TO.y (Y.assign rfl) rfl rfl rfl ?_
      refine TO.nil ?_
      refine TE.next ?_
      refine TW.ret ?_
      exact TE.leaf fun _ _ hf_ hs_ => ret_any (rs := [.tmp 4]) (vs := [.bool true]) (.inl rfl) rfl ⟨rfl, trivial⟩ hf_ hs_ ⟨(), rfl, hs_.pulls [] rfl⟩

/-- loop.example/g00950/laws.eqEng -/
noncomputable def laws_eqEng (a : Eng) (b : Eng) : Option Bool :=
  (laws_eqEntS a.Mem b.Mem).bind fun R3 =>
  if (!R3) = true then (some false)
  else ((laws_eqEntSS a.Tables b.Tables).bind fun R7 =>
  if (!R7) = true then (some false)
  else (if (!(decide (a.Seq = b.Seq))) = true then (some false)
  else ((laws_eqIntS a.Snaps b.Snaps).bind fun R12 =>
  if (!R12) = true then (some false)
  else (some true))))

theorem laws_eqEng_con (a : Eng) (b : Eng) (V_a0 : Value) (V_a1 : Value) (V_a3 : Value) (V_b0 : Value) (V_b1 : Value) (V_b3 : Value) (r : Bool) (hm : laws_eqEng a b = some r) :
    Con Try.prog 18 [.agg #[V_a0, V_a1, .int .i64 a.Seq, V_a3], .agg #[V_b0, V_b1, .int .i64 b.Seq, V_b3]] [] [(V_a0, lc a.Mem), (V_a1, lc a.Tables), (V_a3, lc a.Snaps), (V_b0, lc b.Mem), (V_b1, lc b.Tables), (V_b3, lc b.Snaps)] (fun _ : Unit => .bool r) (fun _ => []) := by
  refine Con.intro (args := [.agg #[V_a0, V_a1, .int .i64 a.Seq, V_a3], .agg #[V_b0, V_b1, .int .i64 b.Seq, V_b3]]) (n := 28) (val := fun r (_ : Unit) => .bool r) (post := fun _ _ => []) (m := laws_eqEng a b) Try.func18 rfl rfl rfl hm ?_
  intro w S hrd
  have HB_V_a0 := hrd _ (.head _)
  have HB_V_a1 := hrd _ (.tail _ (.head _))
  have HB_V_a3 := hrd _ (.tail _ (.tail _ (.head _)))
  have HB_V_b0 := hrd _ (.tail _ (.tail _ (.tail _ (.head _))))
  have HB_V_b1 := hrd _ (.tail _ (.tail _ (.tail _ (.tail _ (.head _)))))
  have HB_V_b3 := hrd _ (.tail _ (.tail _ (.tail _ (.tail _ (.tail _ (.head _))))))
  clear hrd
  unfold laws_eqEng
  refine TW.seq ?_
  refine TW.region ?_
  refine TO.ef (Ef.box rfl (Cel.agg ⟨(One.can (Base.can HB_V_a0)), (One.can (Base.can HB_V_a1)), (One.plain rfl), (One.can (Base.can HB_V_a3)), trivial⟩)) rfl rfl rfl (fun B1 => ?_)
  refine TO.ef (Ef.box rfl (Cel.agg ⟨(One.can (Base.can HB_V_b0)), (One.can (Base.can HB_V_b1)), (One.plain rfl), (One.can (Base.can HB_V_b3)), trivial⟩)) rfl rfl rfl (fun B2 => ?_)
  refine TO.y (Y.assign rfl) rfl rfl rfl ?_
  refine TO.nil ?_
  refine TE.next ?_
  refine TW.seq ?_
  refine TW.seq ?_
  refine TW.region ?_
  refine TO.y (Y.field_box kf43_0 rfl rfl) rfl rfl rfl ?_
  refine TO.y (Y.load_box (v := V_a0) 1 kk40 rfl rfl rfl) rfl rfl rfl ?_
  refine TO.y (Y.field_box kf43_0 rfl rfl) rfl rfl rfl ?_
  refine TO.y (Y.load_box (v := V_b0) 0 kk40 rfl rfl rfl) rfl rfl rfl ?_
  refine TO.bind fun R3 H4 => ?_
  refine TO.ef (Ef.call (rest := [.box B2 43 [V_b0, V_b1, .int .i64 b.Seq, V_b3], .box B1 43 [V_a0, V_a1, .int .i64 a.Seq, V_a3]]) [0, 0] (laws_eqEntS_con a.Mem b.Mem V_a0 V_b0 R3 H4) kc65 rfl rfl ⟨(Base.can HB_V_a0), (Base.can HB_V_b0), trivial⟩) rfl rfl rfl (fun _ => ?_)
  refine TO.y (Y.not rfl) rfl rfl rfl ?_
  refine TO.nil ?_
  refine TE.next ?_
  refine TW.cond rfl (fun H6 => ?_) (fun H6 => ?_)
  · refine TW.seq ?_
    refine TW.region ?_
    refine TO.y (Y.assign rfl) rfl rfl rfl ?_
    refine TO.nil ?_
    refine TE.next ?_
    refine TW.ret ?_
    refine TE.then_ret ?_
    exact TE.leaf fun _ _ hf_ hs_ => ret_any (rs := [.tmp 4]) (vs := [.bool false]) (.inl rfl) rfl ⟨rfl, trivial⟩ hf_ hs_ ⟨(), rfl, hs_.pulls [] rfl⟩
  · refine TW.skip ?_
    refine TE.next ?_
    refine TW.seq ?_
    refine TW.seq ?_
    refine TW.region ?_
    refine TO.y (Y.field_box kf43_1 rfl rfl) rfl rfl rfl ?_
    refine TO.y (Y.load_box (v := V_a1) 1 kk41 rfl rfl rfl) rfl rfl rfl ?_
    refine TO.y (Y.field_box kf43_1 rfl rfl) rfl rfl rfl ?_
    refine TO.y (Y.load_box (v := V_b1) 0 kk41 rfl rfl rfl) rfl rfl rfl ?_
    refine TO.bind fun R7 H8 => ?_
    refine TO.ef (Ef.call (rest := [.box B2 43 [V_b0, V_b1, .int .i64 b.Seq, V_b3], .box B1 43 [V_a0, V_a1, .int .i64 a.Seq, V_a3]]) [0, 0] (laws_eqEntSS_con a.Tables b.Tables V_a1 V_b1 R7 H8) kc66 rfl rfl ⟨(Base.can HB_V_a1), (Base.can HB_V_b1), trivial⟩) rfl rfl rfl (fun _ => ?_)
    refine TO.y (Y.not rfl) rfl rfl rfl ?_
    refine TO.nil ?_
    refine TE.next ?_
    refine TW.cond rfl (fun H10 => ?_) (fun H10 => ?_)
    · refine TW.seq ?_
      refine TW.region ?_
      refine TO.y (Y.assign rfl) rfl rfl rfl ?_
      refine TO.nil ?_
      refine TE.next ?_
      refine TW.ret ?_
      refine TE.then_ret ?_
      exact TE.leaf fun _ _ hf_ hs_ => ret_any (rs := [.tmp 4]) (vs := [.bool false]) (.inl rfl) rfl ⟨rfl, trivial⟩ hf_ hs_ ⟨(), rfl, hs_.pulls [] rfl⟩
    · refine TW.skip ?_
      refine TE.next ?_
      refine TW.seq ?_
      refine TW.seq ?_
      refine TW.region ?_
      refine TO.y (Y.field_box kf43_2 rfl rfl) rfl rfl rfl ?_
      refine TO.y (Y.load_box (v := .int .i64 a.Seq) 1 kk3 rfl rfl rfl) rfl rfl rfl ?_
      refine TO.y (Y.field_box kf43_2 rfl rfl) rfl rfl rfl ?_
      refine TO.y (Y.load_box (v := .int .i64 b.Seq) 0 kk3 rfl rfl rfl) rfl rfl rfl ?_
      refine TO.y (Y.neq rfl rfl) rfl rfl rfl ?_
      refine TO.nil ?_
      refine TE.next ?_
      refine TW.cond rfl (fun H11 => ?_) (fun H11 => ?_)
      · refine TW.seq ?_
        refine TW.region ?_
        refine TO.y (Y.assign rfl) rfl rfl rfl ?_
        refine TO.nil ?_
        refine TE.next ?_
        refine TW.ret ?_
        refine TE.then_ret ?_
        exact TE.leaf fun _ _ hf_ hs_ => ret_any (rs := [.tmp 4]) (vs := [.bool false]) (.inl rfl) rfl ⟨rfl, trivial⟩ hf_ hs_ ⟨(), rfl, hs_.pulls [] rfl⟩
      · refine TW.skip ?_
        refine TE.next ?_
        refine TW.seq ?_
        refine TW.seq ?_
        refine TW.region ?_
        refine TO.y (Y.field_box kf43_3 rfl rfl) rfl rfl rfl ?_
        refine TO.y (Y.load_box (v := V_a3) 1 kk23 rfl rfl rfl) rfl rfl rfl ?_
        refine TO.y (Y.field_box kf43_3 rfl rfl) rfl rfl rfl ?_
        refine TO.y (Y.load_box (v := V_b3) 0 kk23 rfl rfl rfl) rfl rfl rfl ?_
        refine TO.bind fun R12 H13 => ?_
        refine TO.ef (Ef.call (rest := [.box B2 43 [V_b0, V_b1, .int .i64 b.Seq, V_b3], .box B1 43 [V_a0, V_a1, .int .i64 a.Seq, V_a3]]) [0, 0] (laws_eqIntS_con a.Snaps b.Snaps V_a3 V_b3 R12 H13) kc53 rfl rfl ⟨(Base.can HB_V_a3), (Base.can HB_V_b3), trivial⟩) rfl rfl rfl (fun _ => ?_)
        refine TO.y (Y.not rfl) rfl rfl rfl ?_
        refine TO.nil ?_
        refine TE.next ?_
        refine TW.cond rfl (fun H15 => ?_) (fun H15 => ?_)
        · refine TW.seq ?_
          refine TW.region ?_
          refine TO.y (Y.assign rfl) rfl rfl rfl ?_
          refine TO.nil ?_
          refine TE.next ?_
          refine TW.ret ?_
          refine TE.then_ret ?_
          exact TE.leaf fun _ _ hf_ hs_ => ret_any (rs := [.tmp 4]) (vs := [.bool false]) (.inl rfl) rfl ⟨rfl, trivial⟩ hf_ hs_ ⟨(), rfl, hs_.pulls [] rfl⟩
        · refine TW.skip ?_
          refine TE.next ?_
          refine TW.seq ?_
          refine TW.region ?_
          refine TO.y (Y.assign rfl) rfl rfl rfl ?_
          refine TO.nil ?_
          refine TE.next ?_
          refine TW.ret ?_
          exact TE.leaf fun _ _ hf_ hs_ => ret_any (rs := [.tmp 4]) (vs := [.bool true]) (.inl rfl) rfl ⟨rfl, trivial⟩ hf_ hs_ ⟨(), rfl, hs_.pulls [] rfl⟩

/-- loop.example/g00950/laws.FnExactEngOk -/
noncomputable def laws_FnExactEngOk (aE : Eng) : Option Bool :=
  (laws_szEng aE (1048576 : Int)).bind fun R2 =>
  if (decide (R2 < (0 : Int))) = true then (some true)
  else ((laws_toEng aE).bind fun R6 =>
  (spec_EngOk R6).bind fun R9 =>
  (impl_EngOk R6).bind fun R14 =>
  if (!(decide (R14 = R9))) = true then (some false)
  else ((laws_eqEng R6 R6).bind fun R19 =>
  if (!R19) = true then (some false)
  else (some true)))

theorem laws_FnExactEngOk_con (aE : Eng) (V_aE0 : Value) (V_aE1 : Value) (V_aE3 : Value) (r : Bool) (hm : laws_FnExactEngOk aE = some r) :
    Con Try.prog 4 [.agg #[V_aE0, V_aE1, .int .i64 aE.Seq, V_aE3]] [] [(V_aE0, lc aE.Mem), (V_aE1, lc aE.Tables), (V_aE3, lc aE.Snaps)] (fun _ : Unit => .bool r) (fun _ => []) := by
  refine Con.intro (args := [.agg #[V_aE0, V_aE1, .int .i64 aE.Seq, V_aE3]]) (n := 27) (val := fun r (_ : Unit) => .bool r) (post := fun _ _ => []) (m := laws_FnExactEngOk aE) Try.func4 rfl rfl rfl hm ?_
  intro w S hrd
  have HB_V_aE0 := hrd _ (.head _)
  have HB_V_aE1 := hrd _ (.tail _ (.head _))
  have HB_V_aE3 := hrd _ (.tail _ (.tail _ (.head _)))
  clear hrd
  unfold laws_FnExactEngOk
  refine TW.seq ?_
  refine TW.region ?_
  refine TO.ef (Ef.box rfl (Cel.agg ⟨(One.can (Base.can HB_V_aE0)), (One.can (Base.can HB_V_aE1)), (One.plain rfl), (One.can (Base.can HB_V_aE3)), trivial⟩)) rfl rfl rfl (fun B1 => ?_)
  refine TO.y (Y.assign rfl) rfl rfl rfl ?_
  refine TO.nil ?_
  refine TE.next ?_
  refine TW.seq ?_
  refine TW.region ?_
  refine TO.y (Y.assign rfl) rfl rfl rfl ?_
  refine TO.nil ?_
  refine TE.next ?_
  refine TW.seq ?_
  refine TW.region ?_
  refine TO.y (Y.load_box (v := .agg #[V_aE0, V_aE1, .int .i64 aE.Seq, V_aE3]) 0 kk37 rfl rfl rfl) rfl rfl rfl ?_
  refine TO.y (Y.move rfl) rfl rfl rfl ?_
  refine TO.bind fun R2 H3 => ?_
  refine TO.ef (Ef.call (rest := [.box B1 37 [V_aE0, V_aE1, .int .i64 aE.Seq, V_aE3]]) [0] (laws_szEng_con aE (1048576 : Int) V_aE0 V_aE1 V_aE3 R2 H3) kc14 rfl rfl ⟨(Base.can HB_V_aE0), (Base.can HB_V_aE1), (Base.can HB_V_aE3), trivial⟩) rfl rfl rfl (fun _ => ?_)
  refine TO.y (Y.assign rfl) rfl rfl rfl ?_
  refine TO.nil ?_
  refine TE.next ?_
  refine TW.seq ?_
  refine TW.seq ?_
  refine TW.region ?_
  refine TO.y (Y.move rfl) rfl rfl rfl ?_
  refine TO.y (Y.lss rfl rfl) rfl rfl rfl ?_
  refine TO.nil ?_
  refine TE.next ?_
  refine TW.cond rfl (fun H5 => ?_) (fun H5 => ?_)
  · refine TW.seq ?_
    refine TW.region ?_
    refine TO.y (Y.assign rfl) rfl rfl rfl ?_
    refine TO.nil ?_
    refine TE.next ?_
    refine TW.ret ?_
    refine TE.then_ret ?_
    exact TE.leaf fun _ _ hf_ hs_ => ret_any (rs := [.tmp 2]) (vs := [.bool true]) (.inl rfl) rfl ⟨rfl, trivial⟩ hf_ hs_ ⟨(), rfl, hs_.pulls [] rfl⟩
  · refine TW.skip ?_
    refine TE.next ?_
    refine TW.seq ?_
    refine TW.region ?_
    refine TO.y (Y.load_box (v := .agg #[V_aE0, V_aE1, .int .i64 aE.Seq, V_aE3]) 0 kk37 rfl rfl rfl) rfl rfl rfl ?_
    refine TO.bind fun R6 H7 => ?_
    refine TO.ef (Ef.call (rest := [.box B1 37 [V_aE0, V_aE1, .int .i64 aE.Seq, V_aE3]]) [0] (laws_toEng_con aE V_aE0 V_aE1 V_aE3 R6 H7) kc16 rfl rfl ⟨(Base.can HB_V_aE0), (Base.can HB_V_aE1), (Base.can HB_V_aE3), trivial⟩) rfl rfl rfl (fun Y8 => ?_)
    refine TO.bind fun R9 H10 => ?_
    refine TO.ef (Ef.call (rest := [.own Y8.1 (lc R6.Mem), .own Y8.2.1 (lc R6.Tables), .own Y8.2.2 (lc R6.Snaps), .box B1 37 [V_aE0, V_aE1, .int .i64 aE.Seq, V_aE3]]) [0, 0, 0, 0] (spec_EngOk_con R6 Y8.1 Y8.2.1 Y8.2.2 R9 H10) kc15 rfl rfl ⟨(Can.own 0 rfl), (Can.own 1 rfl), (Can.own 2 rfl), trivial⟩) rfl rfl rfl (fun _ => ?_)
    refine TO.y (Y.assign rfl) rfl rfl rfl ?_
    refine TO.nil ?_
    refine TE.next ?_
    refine TW.seq ?_
    refine TW.region ?_
    refine TO.y (Y.load_box (v := .agg #[V_aE0, V_aE1, .int .i64 aE.Seq, V_aE3]) 3 kk37 rfl rfl rfl) rfl rfl rfl ?_
    refine TO.ef (Ef.call (rest := [.own Y8.1 (lc R6.Mem), .own Y8.2.1 (lc R6.Tables), .own Y8.2.2 (lc R6.Snaps), .box B1 37 [V_aE0, V_aE1, .int .i64 aE.Seq, V_aE3]]) [0, 0, 0, 0] (laws_toEng_con aE V_aE0 V_aE1 V_aE3 R6 H7) kc16 rfl rfl ⟨(Base.can HB_V_aE0), (Base.can HB_V_aE1), (Base.can HB_V_aE3), trivial⟩) rfl rfl rfl (fun Y12 => ?_)
    refine TO.ef (Ef.alloc kz43 rfl) rfl rfl rfl (fun B13 => ?_)
    refine TO.ef0 (Ef.store_box (us := [Y12.1, Y12.2.1, .int .i64 R6.Seq, Y12.2.2]) (vs' := [Y12.1, Y12.2.1, .int .i64 R6.Seq, Y12.2.2]) (is' := [.box B13 43 [Y12.1, Y12.2.1, .int .i64 R6.Seq, Y12.2.2], .own Y12.1 (lc R6.Mem), .own Y12.2.1 (lc R6.Tables), .own Y12.2.2 (lc R6.Snaps), .own Y8.1 (lc R6.Mem), .own Y8.2.1 (lc R6.Tables), .own Y8.2.2 (lc R6.Snaps), .box B1 37 [V_aE0, V_aE1, .int .i64 aE.Seq, V_aE3]]) 0 kk43 rfl rfl rfl (Cel.agg ⟨(One.can (Can.own 1 rfl)), (One.can (Can.own 2 rfl)), (One.plain rfl), (One.can (Can.own 3 rfl)), trivial⟩) rfl rfl rfl rfl) rfl rfl (fun _ => ?_)
    refine TO.nil ?_
    refine TE.next ?_
    refine TW.seq ?_
    refine TW.region ?_
    refine TO.y (Y.load_box (v := .agg #[Y12.1, Y12.2.1, .int .i64 R6.Seq, Y12.2.2]) 0 kk43 rfl rfl rfl) rfl rfl rfl ?_
    refine TO.bind fun R14 H15 => ?_
    refine TO.ef (Ef.call (rest := [.box B13 43 [Y12.1, Y12.2.1, .int .i64 R6.Seq, Y12.2.2], .own Y12.1 (lc R6.Mem), .own Y12.2.1 (lc R6.Tables), .own Y12.2.2 (lc R6.Snaps), .own Y8.1 (lc R6.Mem), .own Y8.2.1 (lc R6.Tables), .own Y8.2.2 (lc R6.Snaps), .box B1 37 [V_aE0, V_aE1, .int .i64 aE.Seq, V_aE3]]) [0, 0, 0, 0, 0, 0, 0, 0] (impl_EngOk_con R6 Y12.1 Y12.2.1 Y12.2.2 R14 H15) kc17 rfl rfl ⟨(Can.own 1 rfl), (Can.own 2 rfl), (Can.own 3 rfl), trivial⟩) rfl rfl rfl (fun _ => ?_)
    refine TO.y (Y.assign rfl) rfl rfl rfl ?_
    refine TO.nil ?_
    refine TE.next ?_
    refine TW.seq ?_
    refine TW.seq ?_
    refine TW.region ?_
    refine TO.y (Y.move rfl) rfl rfl rfl ?_
    refine TO.y (Y.move rfl) rfl rfl rfl ?_
    refine TO.y (Y.neb kb4 rfl rfl) rfl rfl rfl ?_
    refine TO.nil ?_
    refine TE.next ?_
    refine TW.cond rfl (fun H17 => ?_) (fun H17 => ?_)
    · refine TW.seq ?_
      refine TW.region ?_
      refine TO.y (Y.assign rfl) rfl rfl rfl ?_
      refine TO.nil ?_
      refine TE.next ?_
      refine TW.ret ?_
      refine TE.then_ret ?_
      exact TE.leaf fun _ _ hf_ hs_ => ret_any (rs := [.tmp 2]) (vs := [.bool false]) (.inl rfl) rfl ⟨rfl, trivial⟩ hf_ hs_ ⟨(), rfl, hs_.pulls [] rfl⟩
    · refine TW.skip ?_
      refine TE.next ?_
      refine TW.seq ?_
      refine TW.seq ?_
      refine TW.draw (isH := [.box B13 43 [Y12.1, Y12.2.1, .int .i64 R6.Seq, Y12.2.2], .own Y12.1 (lc R6.Mem), .own Y12.2.1 (lc R6.Tables), .own Y12.2.2 (lc R6.Snaps), .own Y8.1 (lc R6.Mem), .own Y8.2.1 (lc R6.Tables), .own Y8.2.2 (lc R6.Snaps), .box B1 37 [V_aE0, V_aE1, .int .i64 aE.Seq, V_aE3]]) hMix ?_
      refine TA.y (listed' := #[true, false, false, false, false]) 0 [0, 0, 0, 0, 0, 0, 0, 0] rfl (Y.load_box (v := .agg #[Y12.1, Y12.2.1, .int .i64 R6.Seq, Y12.2.2]) 0 kk43 rfl rfl rfl) rfl rfl rfl (by kernel_rfl) (by kernel_rfl) (by kernel_rfl) rfl rfl ?_
      refine TA.y (listed' := #[true, true, false, false, false]) 1 [0, 0, 0, 0, 0, 0, 0, 0] rfl (Y.load_box (v := .agg #[V_aE0, V_aE1, .int .i64 aE.Seq, V_aE3]) 7 kk37 rfl rfl rfl) rfl rfl rfl (by kernel_rfl) (by kernel_rfl) (by kernel_rfl) rfl rfl ?_
      refine TA.one 2 (by kernel_rfl) ?_
      refine TX.ef (listed' := #[true, true, true, false, false]) [3, 3, 3, 3, 3, 3, 3, 3] rfl (Ef.call (rest := [.box B13 43 [Y12.1, Y12.2.1, .int .i64 R6.Seq, Y12.2.2], .own Y12.1 (lc R6.Mem), .own Y12.2.1 (lc R6.Tables), .own Y12.2.2 (lc R6.Snaps), .own Y8.1 (lc R6.Mem), .own Y8.2.1 (lc R6.Tables), .own Y8.2.2 (lc R6.Snaps), .box B1 37 [V_aE0, V_aE1, .int .i64 aE.Seq, V_aE3]]) [0, 0, 0, 0, 0, 0, 0, 0] (laws_toEng_con aE V_aE0 V_aE1 V_aE3 R6 H7) kc16 rfl rfl ⟨(Base.can HB_V_aE0), (Base.can HB_V_aE1), (Base.can HB_V_aE3), trivial⟩) rfl rfl rfl rfl (fun _ => rfl) (fun Y18 => ?_)
      refine TA.bind fun R19 H20 => ?_
      refine TA.one 3 (by kernel_rfl) ?_
      refine TX.ef (listed' := #[true, true, true, true, false]) [3, 3, 3, 3, 3, 3, 3, 3] rfl (Ef.call (rest := [.own Y18.1 (lc R6.Mem), .own Y18.2.1 (lc R6.Tables), .own Y18.2.2 (lc R6.Snaps), .box B13 43 [Y12.1, Y12.2.1, .int .i64 R6.Seq, Y12.2.2], .own Y12.1 (lc R6.Mem), .own Y12.2.1 (lc R6.Tables), .own Y12.2.2 (lc R6.Snaps), .own Y8.1 (lc R6.Mem), .own Y8.2.1 (lc R6.Tables), .own Y8.2.2 (lc R6.Snaps), .box B1 37 [V_aE0, V_aE1, .int .i64 aE.Seq, V_aE3]]) [0, 0, 0, 0, 0, 0, 0, 0, 0, 0, 0] (laws_eqEng_con R6 R6 Y12.1 Y12.2.1 Y12.2.2 Y18.1 Y18.2.1 Y18.2.2 R19 H20) kc18 rfl rfl ⟨(Can.own 4 rfl), (Can.own 5 rfl), (Can.own 6 rfl), (Can.own 0 rfl), (Can.own 1 rfl), (Can.own 2 rfl), trivial⟩) rfl rfl rfl rfl (fun _ => rfl) (fun _ => ?_)
      refine TA.y (listed' := #[true, true, true, true, true]) 4 [3, 3, 3, 3, 3, 3, 3, 3] rfl (Y.not rfl) rfl rfl rfl (by kernel_rfl) (by kernel_rfl) (by kernel_rfl) rfl rfl ?_
      refine TA.nil (by kernel_rfl) ?_
      refine TE.next ?_
      refine TW.cond rfl (fun H22 => ?_) (fun H22 => ?_)
      · refine TW.seq ?_
        refine TW.region ?_
        refine TO.y (Y.assign rfl) rfl rfl rfl ?_
        refine TO.nil ?_
        refine TE.next ?_
        refine TW.ret ?_
        refine TE.then_ret ?_
        exact TE.leaf fun _ _ hf_ hs_ => ret_any (rs := [.tmp 2]) (vs := [.bool false]) (.inl rfl) rfl ⟨rfl, trivial⟩ hf_ hs_ ⟨(), rfl, hs_.pulls [] rfl⟩
      · refine TW.skip ?_
        refine TE.next ?_
        refine TW.seq ?_
        refine TW.region ?_
        refine TO.y (Y.assign rfl) rfl rfl rfl ?_
        refine TO.nil ?_
        refine TE.next ?_
        refine TW.ret ?_
        exact TE.leaf fun _ _ hf_ hs_ => ret_any (rs := [.tmp 2]) (vs := [.bool true]) (.inl rfl) rfl ⟨rfl, trivial⟩ hf_ hs_ ⟨(), rfl, hs_.pulls [] rfl⟩

/-- loop.example/g00950/spec.ModelNew -/
noncomputable def spec_ModelNew (secret : List UInt8) (size : Int) : Option (Model × Bool) :=
  (if (!(decide (((secret.length : Nat) : Int) = (32 : Int)))) = true then (some true)
  else ((spec_l1In size (0 : Int) (1000 : Int)).bind fun R5 =>
  some (!R5))).bind (fun (T2 : Bool) =>
  if T2 = true then (some ({ Secret := [], Shares := { Size := (0 : Int), List := ([] : List Share) : Shares }, Tens := ([] : List MTen), Base := ([] : List MTen), Rows := ([] : List MRow) : Model }, false))
  else (some ({ Secret := secret, Shares := { Size := size, List := ([] : List Share) : Shares }, Tens := ([] : List MTen), Base := ([] : List MTen), Rows := ([] : List MRow) : Model }, true)))

theorem spec_ModelNew_con (secret : List UInt8) (size : Int)  (r : Model × Bool) (hm : spec_ModelNew secret size = some r) :
    Con Try.prog 23 [strV secret, .int .i64 size] [] [] (fun X : Value × Value × Value × Value => .tuple #[.agg #[strV r.1.Secret, .int .i64 r.1.Shares.Size, X.1, X.2.1, X.2.2.1, X.2.2.2], .bool r.2]) (fun X => [.own X.1 (lc r.1.Shares.List), .own X.2.1 (lc r.1.Tens), .own X.2.2.1 (lc r.1.Base), .own X.2.2.2 (lc r.1.Rows)]) := by
  refine Con.intro (args := [strV secret, .int .i64 size]) (n := 19) (val := fun r (X : Value × Value × Value × Value) => .tuple #[.agg #[strV r.1.Secret, .int .i64 r.1.Shares.Size, X.1, X.2.1, X.2.2.1, X.2.2.2], .bool r.2]) (post := fun r X => [.own X.1 (lc r.1.Shares.List), .own X.2.1 (lc r.1.Tens), .own X.2.2.1 (lc r.1.Base), .own X.2.2.2 (lc r.1.Rows)]) (m := spec_ModelNew secret size) Try.func23 rfl rfl rfl hm ?_
  intro w S _
  unfold spec_ModelNew
  refine TW.seq ?_
  refine TW.region ?_
  refine TO.ef (Ef.alloc kz60 rfl) rfl rfl rfl (fun B1 => ?_)
  refine TO.y (Y.assign rfl) rfl rfl rfl ?_
  refine TO.nil ?_
  refine TE.next ?_
  refine TW.seq ?_
  refine TW.seq ?_
  refine TW.joinBX (τ := Bool) (X := Unit) (fun T _ => [(0, strV secret), (1, .int .i64 size), (4, .pointer (some ⟨B1, 0, none⟩)), (13, .bool T)]) (fun _ _ => [.box B1 60 [strV ([]), .int .i64 (0 : Int), .slice none 0 0, .slice none 0 0, .slice none 0 0, .slice none 0 0]]) ?_ (fun T2 X3 => ?_)
  · refine TW.region ?_
    refine TO.y (Y.move rfl) rfl rfl rfl ?_
    refine TO.y (Y.slen ks9 rfl) rfl rfl rfl ?_
    refine TO.y (Y.neq rfl rfl) rfl rfl rfl ?_
    refine TO.y (Y.move rfl) rfl rfl rfl ?_
    refine TO.ite (b := !(decide (((secret.length : Nat) : Int) = (32 : Int)))) (fun H4 => ?_) (fun H4 => ?_)
    · refine TO.off (Gd.at 3 false 9 (!(decide (((secret.length : Nat) : Int) = (32 : Int)))) rfl rfl rfl (beq_tf H4)) rfl rfl ?_
      refine TO.off (Gd.at 3 false 9 (!(decide (((secret.length : Nat) : Int) = (32 : Int)))) rfl rfl rfl (beq_tf H4)) rfl rfl ?_
      refine TO.off (Gd.at 3 false 9 (!(decide (((secret.length : Nat) : Int) = (32 : Int)))) rfl rfl rfl (beq_tf H4)) rfl rfl ?_
      refine TO.y (Y.pick_t H4 rfl rfl) rfl rfl rfl ?_
      refine TO.nil ?_
      exact TE.jb_go () [0] ⟨rfl, rfl, rfl, rfl, trivial⟩ rfl
    · refine TO.y (Y.move rfl) (Gd.at 3 false 9 (!(decide (((secret.length : Nat) : Int) = (32 : Int)))) rfl rfl rfl (beq_ff H4)) rfl rfl ?_
      refine TO.bind fun R5 H6 => ?_
      refine TO.ef (Ef.call (rest := [.box B1 60 [strV ([]), .int .i64 (0 : Int), .slice none 0 0, .slice none 0 0, .slice none 0 0, .slice none 0 0]]) [0] (spec_l1In_con size (0 : Int) (1000 : Int)  R5 H6) kc57 rfl rfl trivial) (Gd.at 3 false 9 (!(decide (((secret.length : Nat) : Int) = (32 : Int)))) rfl rfl rfl (beq_ff H4)) rfl rfl (fun _ => ?_)
      refine TO.y (Y.not rfl) (Gd.at 3 false 9 (!(decide (((secret.length : Nat) : Int) = (32 : Int)))) rfl rfl rfl (beq_ff H4)) rfl rfl ?_
      refine TO.y (Y.pick_f H4 rfl rfl) rfl rfl rfl ?_
      refine TO.nil ?_
      exact TE.jb_go () [0] ⟨rfl, rfl, rfl, rfl, trivial⟩ rfl
  · refine TE.next ?_
    refine TW.cond rfl (fun H8 => ?_) (fun H8 => ?_)
    · refine TW.seq ?_
      refine TW.region ?_
      refine TO.y (Y.build (cells := [strV ([]), .int .i64 (0 : Int), .slice none 0 0, .slice none 0 0, .slice none 0 0, .slice none 0 0]) [] kp60 kz60 trivial rfl) rfl rfl rfl ?_
      refine TO.ef0 (Ef.store_box (us := [strV ([]), .int .i64 (0 : Int), .slice none 0 0, .slice none 0 0, .slice none 0 0, .slice none 0 0]) (vs' := [strV ([]), .int .i64 (0 : Int), .slice none 0 0, .slice none 0 0, .slice none 0 0, .slice none 0 0]) (is' := [.box B1 60 [strV ([]), .int .i64 (0 : Int), .slice none 0 0, .slice none 0 0, .slice none 0 0, .slice none 0 0]]) 0 kk60 rfl rfl rfl (Cel.plain rfl rfl) rfl rfl rfl rfl) rfl rfl (fun _ => ?_)
      refine TO.y (Y.assign rfl) rfl rfl rfl ?_
      refine TO.nil ?_
      refine TE.next ?_
      refine TW.ret ?_
      refine TE.then_ret ?_
      exact TE.leaf fun _ _ hf_ hs_ => ret_any (rs := [.cell 4 60, .tmp 5]) (vs := [.agg #[strV ([]), .int .i64 (0 : Int), .slice none 0 0, .slice none 0 0, .slice none 0 0, .slice none 0 0], .bool false]) (.inl rfl) rfl (RV.cell 0 rfl rfl kk60 rfl ⟨rfl, trivial⟩) hf_ hs_ ⟨((.slice none 0 0), (.slice none 0 0), (.slice none 0 0), (.slice none 0 0)), rfl, ((((hs_.nilItem 2).nilItem 5).nilItem 5).nilItem 3).pulls [3, 2, 1, 0] rfl⟩
    · refine TW.skip ?_
      refine TE.next ?_
      refine TW.seq ?_
      refine TW.region ?_
      refine TO.y (Y.move rfl) rfl rfl rfl ?_
      refine TO.y (Y.move rfl) rfl rfl rfl ?_
      refine TO.y (Y.build (cells := [.int .i64 size, .slice none 0 0]) [(0, [.int .i64 size])] kp56 kz56 ⟨rfl, ⟨_, rfl, (Cel.plain rfl rfl)⟩, trivial⟩ rfl) rfl rfl rfl ?_
      refine TO.y (Y.build (cells := [strV secret, .int .i64 size, .slice none 0 0, .slice none 0 0, .slice none 0 0, .slice none 0 0]) [(0, [strV secret]), (1, [.int .i64 size, .slice none 0 0])] kp60 kz60 ⟨rfl, ⟨_, rfl, (Cel.plain rfl rfl)⟩, ⟨rfl, ⟨_, rfl, (Cel.plain rfl rfl)⟩, trivial⟩⟩ rfl) rfl rfl rfl ?_
      refine TO.ef0 (Ef.store_box (us := [strV secret, .int .i64 size, .slice none 0 0, .slice none 0 0, .slice none 0 0, .slice none 0 0]) (vs' := [strV secret, .int .i64 size, .slice none 0 0, .slice none 0 0, .slice none 0 0, .slice none 0 0]) (is' := [.box B1 60 [strV secret, .int .i64 size, .slice none 0 0, .slice none 0 0, .slice none 0 0, .slice none 0 0]]) 0 kk60 rfl rfl rfl (Cel.plain rfl rfl) rfl rfl rfl rfl) rfl rfl (fun _ => ?_)
      refine TO.y (Y.assign rfl) rfl rfl rfl ?_
      refine TO.nil ?_
      refine TE.next ?_
      refine TW.ret ?_
      exact TE.leaf fun _ _ hf_ hs_ => ret_any (rs := [.cell 4 60, .tmp 5]) (vs := [.agg #[strV secret, .int .i64 size, .slice none 0 0, .slice none 0 0, .slice none 0 0, .slice none 0 0], .bool true]) (.inl rfl) rfl (RV.cell 0 rfl rfl kk60 rfl ⟨rfl, trivial⟩) hf_ hs_ ⟨((.slice none 0 0), (.slice none 0 0), (.slice none 0 0), (.slice none 0 0)), rfl, ((((hs_.nilItem 2).nilItem 5).nilItem 5).nilItem 3).pulls [3, 2, 1, 0] rfl⟩

/-- loop.example/g00950/impl.ModelNew -/
noncomputable def impl_ModelNew (secret : List UInt8) (size : Int) : Option (Model × Bool) :=
  (if (!(decide (((secret.length : Nat) : Int) = (32 : Int)))) = true then (some true)
  else ((impl_inRange size (0 : Int) (1000 : Int)).bind fun R5 =>
  some (!R5))).bind (fun (T2 : Bool) =>
  if T2 = true then (some ({ Secret := [], Shares := { Size := (0 : Int), List := ([] : List Share) : Shares }, Tens := ([] : List MTen), Base := ([] : List MTen), Rows := ([] : List MRow) : Model }, false))
  else (some ({ Secret := secret, Shares := { Size := size, List := ([] : List Share) : Shares }, Tens := ([] : List MTen), Base := ([] : List MTen), Rows := ([] : List MRow) : Model }, true)))

theorem impl_ModelNew_con (secret : List UInt8) (size : Int)  (r : Model × Bool) (hm : impl_ModelNew secret size = some r) :
    Con Try.prog 24 [strV secret, .int .i64 size] [] [] (fun X : Value × Value × Value × Value => .tuple #[.agg #[strV r.1.Secret, .int .i64 r.1.Shares.Size, X.1, X.2.1, X.2.2.1, X.2.2.2], .bool r.2]) (fun X => [.own X.1 (lc r.1.Shares.List), .own X.2.1 (lc r.1.Tens), .own X.2.2.1 (lc r.1.Base), .own X.2.2.2 (lc r.1.Rows)]) := by
  refine Con.intro (args := [strV secret, .int .i64 size]) (n := 19) (val := fun r (X : Value × Value × Value × Value) => .tuple #[.agg #[strV r.1.Secret, .int .i64 r.1.Shares.Size, X.1, X.2.1, X.2.2.1, X.2.2.2], .bool r.2]) (post := fun r X => [.own X.1 (lc r.1.Shares.List), .own X.2.1 (lc r.1.Tens), .own X.2.2.1 (lc r.1.Base), .own X.2.2.2 (lc r.1.Rows)]) (m := impl_ModelNew secret size) Try.func24 rfl rfl rfl hm ?_
  intro w S _
  unfold impl_ModelNew
  refine TW.seq ?_
  refine TW.region ?_
  refine TO.ef (Ef.alloc kz60 rfl) rfl rfl rfl (fun B1 => ?_)
  refine TO.y (Y.assign rfl) rfl rfl rfl ?_
  refine TO.nil ?_
  refine TE.next ?_
  refine TW.seq ?_
  refine TW.seq ?_
  refine TW.joinBX (τ := Bool) (X := Unit) (fun T _ => [(0, strV secret), (1, .int .i64 size), (4, .pointer (some ⟨B1, 0, none⟩)), (13, .bool T)]) (fun _ _ => [.box B1 60 [strV ([]), .int .i64 (0 : Int), .slice none 0 0, .slice none 0 0, .slice none 0 0, .slice none 0 0]]) ?_ (fun T2 X3 => ?_)
  · refine TW.region ?_
    refine TO.y (Y.move rfl) rfl rfl rfl ?_
    refine TO.y (Y.slen ks9 rfl) rfl rfl rfl ?_
    refine TO.y (Y.neq rfl rfl) rfl rfl rfl ?_
    refine TO.y (Y.move rfl) rfl rfl rfl ?_
    refine TO.ite (b := !(decide (((secret.length : Nat) : Int) = (32 : Int)))) (fun H4 => ?_) (fun H4 => ?_)
    · refine TO.off (Gd.at 3 false 9 (!(decide (((secret.length : Nat) : Int) = (32 : Int)))) rfl rfl rfl (beq_tf H4)) rfl rfl ?_
      refine TO.off (Gd.at 3 false 9 (!(decide (((secret.length : Nat) : Int) = (32 : Int)))) rfl rfl rfl (beq_tf H4)) rfl rfl ?_
      refine TO.off (Gd.at 3 false 9 (!(decide (((secret.length : Nat) : Int) = (32 : Int)))) rfl rfl rfl (beq_tf H4)) rfl rfl ?_
      refine TO.y (Y.pick_t H4 rfl rfl) rfl rfl rfl ?_
      refine TO.nil ?_
      exact TE.jb_go () [0] ⟨rfl, rfl, rfl, rfl, trivial⟩ rfl
    · refine TO.y (Y.move rfl) (Gd.at 3 false 9 (!(decide (((secret.length : Nat) : Int) = (32 : Int)))) rfl rfl rfl (beq_ff H4)) rfl rfl ?_
      refine TO.bind fun R5 H6 => ?_
      refine TO.ef (Ef.call (rest := [.box B1 60 [strV ([]), .int .i64 (0 : Int), .slice none 0 0, .slice none 0 0, .slice none 0 0, .slice none 0 0]]) [0] (impl_inRange_con size (0 : Int) (1000 : Int)  R5 H6) kc64 rfl rfl trivial) (Gd.at 3 false 9 (!(decide (((secret.length : Nat) : Int) = (32 : Int)))) rfl rfl rfl (beq_ff H4)) rfl rfl (fun _ => ?_)
      refine TO.y (Y.not rfl) (Gd.at 3 false 9 (!(decide (((secret.length : Nat) : Int) = (32 : Int)))) rfl rfl rfl (beq_ff H4)) rfl rfl ?_
      refine TO.y (Y.pick_f H4 rfl rfl) rfl rfl rfl ?_
      refine TO.nil ?_
      exact TE.jb_go () [0] ⟨rfl, rfl, rfl, rfl, trivial⟩ rfl
  · refine TE.next ?_
    refine TW.cond rfl (fun H8 => ?_) (fun H8 => ?_)
    · refine TW.seq ?_
      refine TW.region ?_
      refine TO.y (Y.build (cells := [strV ([]), .int .i64 (0 : Int), .slice none 0 0, .slice none 0 0, .slice none 0 0, .slice none 0 0]) [] kp60 kz60 trivial rfl) rfl rfl rfl ?_
      refine TO.ef0 (Ef.store_box (us := [strV ([]), .int .i64 (0 : Int), .slice none 0 0, .slice none 0 0, .slice none 0 0, .slice none 0 0]) (vs' := [strV ([]), .int .i64 (0 : Int), .slice none 0 0, .slice none 0 0, .slice none 0 0, .slice none 0 0]) (is' := [.box B1 60 [strV ([]), .int .i64 (0 : Int), .slice none 0 0, .slice none 0 0, .slice none 0 0, .slice none 0 0]]) 0 kk60 rfl rfl rfl (Cel.plain rfl rfl) rfl rfl rfl rfl) rfl rfl (fun _ => ?_)
      refine TO.y (Y.assign rfl) rfl rfl rfl ?_
      refine TO.nil ?_
      refine TE.next ?_
      refine TW.ret ?_
      refine TE.then_ret ?_
      exact TE.leaf fun _ _ hf_ hs_ => ret_any (rs := [.cell 4 60, .tmp 5]) (vs := [.agg #[strV ([]), .int .i64 (0 : Int), .slice none 0 0, .slice none 0 0, .slice none 0 0, .slice none 0 0], .bool false]) (.inl rfl) rfl (RV.cell 0 rfl rfl kk60 rfl ⟨rfl, trivial⟩) hf_ hs_ ⟨((.slice none 0 0), (.slice none 0 0), (.slice none 0 0), (.slice none 0 0)), rfl, ((((hs_.nilItem 2).nilItem 5).nilItem 5).nilItem 3).pulls [3, 2, 1, 0] rfl⟩
    · refine TW.skip ?_
      refine TE.next ?_
      refine TW.seq ?_
      refine TW.region ?_
      refine TO.y (Y.move rfl) rfl rfl rfl ?_
      refine TO.y (Y.move rfl) rfl rfl rfl ?_
      refine TO.y (Y.build (cells := [.int .i64 size, .slice none 0 0]) [(0, [.int .i64 size])] kp56 kz56 ⟨rfl, ⟨_, rfl, (Cel.plain rfl rfl)⟩, trivial⟩ rfl) rfl rfl rfl ?_
      refine TO.y (Y.build (cells := [strV secret, .int .i64 size, .slice none 0 0, .slice none 0 0, .slice none 0 0, .slice none 0 0]) [(0, [strV secret]), (1, [.int .i64 size, .slice none 0 0])] kp60 kz60 ⟨rfl, ⟨_, rfl, (Cel.plain rfl rfl)⟩, ⟨rfl, ⟨_, rfl, (Cel.plain rfl rfl)⟩, trivial⟩⟩ rfl) rfl rfl rfl ?_
      refine TO.ef0 (Ef.store_box (us := [strV secret, .int .i64 size, .slice none 0 0, .slice none 0 0, .slice none 0 0, .slice none 0 0]) (vs' := [strV secret, .int .i64 size, .slice none 0 0, .slice none 0 0, .slice none 0 0, .slice none 0 0]) (is' := [.box B1 60 [strV secret, .int .i64 size, .slice none 0 0, .slice none 0 0, .slice none 0 0, .slice none 0 0]]) 0 kk60 rfl rfl rfl (Cel.plain rfl rfl) rfl rfl rfl rfl) rfl rfl (fun _ => ?_)
      refine TO.y (Y.assign rfl) rfl rfl rfl ?_
      refine TO.nil ?_
      refine TE.next ?_
      refine TW.ret ?_
      exact TE.leaf fun _ _ hf_ hs_ => ret_any (rs := [.cell 4 60, .tmp 5]) (vs := [.agg #[strV secret, .int .i64 size, .slice none 0 0, .slice none 0 0, .slice none 0 0, .slice none 0 0], .bool true]) (.inl rfl) rfl (RV.cell 0 rfl rfl kk60 rfl ⟨rfl, trivial⟩) hf_ hs_ ⟨((.slice none 0 0), (.slice none 0 0), (.slice none 0 0), (.slice none 0 0)), rfl, ((((hs_.nilItem 2).nilItem 5).nilItem 5).nilItem 3).pulls [3, 2, 1, 0] rfl⟩

/-- loop.example/g00950/laws.eqShare -/
noncomputable def laws_eqShare (a : Share) (b : Share) : Option Bool :=
  if (!(decide (a.Tenant = b.Tenant))) = true then (some false)
  else (if (!(decide (a.Quota = b.Quota))) = true then (some false)
  else (some true))

theorem laws_eqShare_con (a : Share) (b : Share)  (r : Bool) (hm : laws_eqShare a b = some r) :
    Con Try.prog 153 [.agg #[.int .i64 a.Tenant, .int .i64 a.Quota], .agg #[.int .i64 b.Tenant, .int .i64 b.Quota]] [] [] (fun _ : Unit => .bool r) (fun _ => []) := by
  refine Con.intro (args := [.agg #[.int .i64 a.Tenant, .int .i64 a.Quota], .agg #[.int .i64 b.Tenant, .int .i64 b.Quota]]) (n := 15) (val := fun r (_ : Unit) => .bool r) (post := fun _ _ => []) (m := laws_eqShare a b) Try.func153 rfl rfl rfl hm ?_
  intro w S _
  unfold laws_eqShare
  refine TW.seq ?_
  refine TW.region ?_
  refine TO.ef (Ef.box rfl (Cel.plain rfl rfl)) rfl rfl rfl (fun B1 => ?_)
  refine TO.ef (Ef.box rfl (Cel.plain rfl rfl)) rfl rfl rfl (fun B2 => ?_)
  refine TO.y (Y.assign rfl) rfl rfl rfl ?_
  refine TO.nil ?_
  refine TE.next ?_
  refine TW.seq ?_
  refine TW.seq ?_
  refine TW.region ?_
  refine TO.y (Y.field_box kf197_0 rfl rfl) rfl rfl rfl ?_
  refine TO.y (Y.load_box (v := .int .i64 a.Tenant) 1 kk3 rfl rfl rfl) rfl rfl rfl ?_
  refine TO.y (Y.field_box kf197_0 rfl rfl) rfl rfl rfl ?_
  refine TO.y (Y.load_box (v := .int .i64 b.Tenant) 0 kk3 rfl rfl rfl) rfl rfl rfl ?_
  refine TO.y (Y.neq rfl rfl) rfl rfl rfl ?_
  refine TO.nil ?_
  refine TE.next ?_
  refine TW.cond rfl (fun H3 => ?_) (fun H3 => ?_)
  · refine TW.seq ?_
    refine TW.region ?_
    refine TO.y (Y.assign rfl) rfl rfl rfl ?_
    refine TO.nil ?_
    refine TE.next ?_
    refine TW.ret ?_
    refine TE.then_ret ?_
    exact TE.leaf fun _ _ hf_ hs_ => ret_any (rs := [.tmp 4]) (vs := [.bool false]) (.inl rfl) rfl ⟨rfl, trivial⟩ hf_ hs_ ⟨(), rfl, hs_.pulls [] rfl⟩
  · refine TW.skip ?_
    refine TE.next ?_
    refine TW.seq ?_
    refine TW.seq ?_
    refine TW.region ?_
    refine TO.y (Y.field_box kf197_1 rfl rfl) rfl rfl rfl ?_
    refine TO.y (Y.load_box (v := .int .i64 a.Quota) 1 kk3 rfl rfl rfl) rfl rfl rfl ?_
    refine TO.y (Y.field_box kf197_1 rfl rfl) rfl rfl rfl ?_
    refine TO.y (Y.load_box (v := .int .i64 b.Quota) 0 kk3 rfl rfl rfl) rfl rfl rfl ?_
    refine TO.y (Y.neq rfl rfl) rfl rfl rfl ?_
    refine TO.nil ?_
    refine TE.next ?_
    refine TW.cond rfl (fun H4 => ?_) (fun H4 => ?_)
    · refine TW.seq ?_
      refine TW.region ?_
      refine TO.y (Y.assign rfl) rfl rfl rfl ?_
      refine TO.nil ?_
      refine TE.next ?_
      refine TW.ret ?_
      refine TE.then_ret ?_
      exact TE.leaf fun _ _ hf_ hs_ => ret_any (rs := [.tmp 4]) (vs := [.bool false]) (.inl rfl) rfl ⟨rfl, trivial⟩ hf_ hs_ ⟨(), rfl, hs_.pulls [] rfl⟩
    · refine TW.skip ?_
      refine TE.next ?_
      refine TW.seq ?_
      refine TW.region ?_
      refine TO.y (Y.assign rfl) rfl rfl rfl ?_
      refine TO.nil ?_
      refine TE.next ?_
      refine TW.ret ?_
      exact TE.leaf fun _ _ hf_ hs_ => ret_any (rs := [.tmp 4]) (vs := [.bool true]) (.inl rfl) rfl ⟨rfl, trivial⟩ hf_ hs_ ⟨(), rfl, hs_.pulls [] rfl⟩

/-- loop.example/g00950/laws.eqShareS -/
noncomputable def laws_eqShareS (a : List Share) (b : List Share) : Option Bool :=
  if (!(decide (((a.length : Nat) : Int) = ((b.length : Nat) : Int)))) = true then (some false)
  else (bindC (loopO (fun (S2 : Int) => if (decide (S2 < ((a.length : Nat) : Int))) = true then ((idx a S2).bind fun E7 =>
  (idx b S2).bind fun E9 =>
  (laws_eqShare E7 E9).bind fun R11 =>
  if (!R11) = true then (some (.done (.done false)))
  else (some (.go (IntKind.i64.wrap (S2 + (1 : Int))))))
  else (some (.done (.go ()))))
  (0 : Int))
  (fun (T4 : Unit) => some true))

theorem laws_eqShareS_con (a : List Share) (b : List Share) (V_a0 : Value) (V_b0 : Value) (r : Bool) (hm : laws_eqShareS a b = some r) :
    Con Try.prog 122 [V_a0, V_b0] [] [(V_a0, lc a), (V_b0, lc b)] (fun _ : Unit => .bool r) (fun _ => []) := by
  refine Con.intro (args := [V_a0, V_b0]) (n := 27) (val := fun r (_ : Unit) => .bool r) (post := fun _ _ => []) (m := laws_eqShareS a b) Try.func122 rfl rfl rfl hm ?_
  intro w S hrd
  have HB_V_a0 := hrd _ (.head _)
  have HB_V_b0 := hrd _ (.tail _ (.head _))
  clear hrd
  unfold laws_eqShareS
  refine TW.seq ?_
  refine TW.region ?_
  refine TO.y (Y.assign rfl) rfl rfl rfl ?_
  refine TO.nil ?_
  refine TE.next ?_
  refine TW.seq ?_
  refine TW.seq ?_
  refine TW.region ?_
  refine TO.y (Y.move rfl) rfl rfl rfl ?_
  refine TO.y (Y.len (l := a) ke54 (Base.can HB_V_a0) rfl) rfl rfl rfl ?_
  refine TO.y (Y.move rfl) rfl rfl rfl ?_
  refine TO.y (Y.len (l := b) ke54 (Base.can HB_V_b0) rfl) rfl rfl rfl ?_
  refine TO.y (Y.neq rfl rfl) rfl rfl rfl ?_
  refine TO.nil ?_
  refine TE.next ?_
  refine TW.cond rfl (fun H1 => ?_) (fun H1 => ?_)
  · refine TW.seq ?_
    refine TW.region ?_
    refine TO.y (Y.assign rfl) rfl rfl rfl ?_
    refine TO.nil ?_
    refine TE.next ?_
    refine TW.ret ?_
    refine TE.then_ret ?_
    exact TE.leaf fun _ _ hf_ hs_ => ret_any (rs := [.tmp 4]) (vs := [.bool false]) (.inl rfl) rfl ⟨rfl, trivial⟩ hf_ hs_ ⟨(), rfl, hs_.pulls [] rfl⟩
  · refine TW.skip ?_
    refine TE.next ?_
    refine TW.seq ?_
    refine TW.seq ?_
    refine TW.region ?_
    refine TO.y (Y.assign rfl) rfl rfl rfl ?_
    refine TO.nil ?_
    refine TE.next ?_
    refine TW.joinX (τ := Unit) (X := Unit) (fun _ _ => []) (fun _ _ => []) ?_ (fun T4 X5 => ?_)
    · refine TW.block ?_
      refine TW.loopX (σ := Int) (X := Unit) (fun T _ => [(0, V_a0), (1, V_b0), (5, .int .i64 T)]) (fun _ _ => []) () [] ⟨rfl, rfl, rfl, trivial⟩ rfl (fun S2 X3 => ?_)
      refine TW.seq ?_
      refine TW.seq ?_
      refine TW.region ?_
      refine TO.y (Y.move rfl) rfl rfl rfl ?_
      refine TO.y (Y.move rfl) rfl rfl rfl ?_
      refine TO.y (Y.len (l := a) ke54 (Base.can HB_V_a0) rfl) rfl rfl rfl ?_
      refine TO.y (Y.lss rfl rfl) rfl rfl rfl ?_
      refine TO.nil ?_
      refine TE.next ?_
      refine TW.cond rfl (fun H6 => ?_) (fun H6 => ?_)
      · refine TW.skip ?_
        refine TE.next ?_
        refine TW.seq ?_
        refine TW.block ?_
        refine TW.seq ?_
        refine TW.draw (isH := []) hMix ?_
        refine TA.y (listed' := #[true, false, false, false, false, false, false, false, false, false]) 0 [] rfl (Y.move rfl) rfl rfl rfl (by kernel_rfl) (by kernel_rfl) (by kernel_rfl) rfl rfl ?_
        refine TA.y (listed' := #[true, true, false, false, false, false, false, false, false, false]) 1 [] rfl (Y.move rfl) rfl rfl rfl (by kernel_rfl) (by kernel_rfl) (by kernel_rfl) rfl rfl ?_
        refine TA.bind fun E7 H8 => ?_
        refine TA.y (listed' := #[true, true, true, false, false, false, false, false, false, false]) 2 [] rfl (Y.index ke54 (Base.can HB_V_a0) H8 rfl rfl) rfl rfl rfl (by kernel_rfl) (by kernel_rfl) (by kernel_rfl) rfl rfl ?_
        refine TA.y (listed' := #[true, true, true, true, false, false, false, false, false, false]) 3 [] rfl (Y.load_el (us := [.int .i64 E7.Tenant, .int .i64 E7.Quota]) (u := .agg #[.int .i64 E7.Tenant, .int .i64 E7.Quota]) kk197 rfl (Base.can HB_V_a0) (idx_get H8).2.2 rfl rfl rfl rfl rfl) rfl rfl rfl (by kernel_rfl) (by kernel_rfl) (by kernel_rfl) rfl rfl ?_
        refine TA.y (listed' := #[true, true, true, true, true, false, false, false, false, false]) 4 [] rfl (Y.move rfl) rfl rfl rfl (by kernel_rfl) (by kernel_rfl) (by kernel_rfl) rfl rfl ?_
        refine TA.y (listed' := #[true, true, true, true, true, true, false, false, false, false]) 5 [] rfl (Y.move rfl) rfl rfl rfl (by kernel_rfl) (by kernel_rfl) (by kernel_rfl) rfl rfl ?_
        refine TA.bind fun E9 H10 => ?_
        refine TA.y (listed' := #[true, true, true, true, true, true, true, false, false, false]) 6 [] rfl (Y.index ke54 (Base.can HB_V_b0) H10 rfl rfl) rfl rfl rfl (by kernel_rfl) (by kernel_rfl) (by kernel_rfl) rfl rfl ?_
        refine TA.y (listed' := #[true, true, true, true, true, true, true, true, false, false]) 7 [] rfl (Y.load_el (us := [.int .i64 E9.Tenant, .int .i64 E9.Quota]) (u := .agg #[.int .i64 E9.Tenant, .int .i64 E9.Quota]) kk197 rfl (Base.can HB_V_b0) (idx_get H10).2.2 rfl rfl rfl rfl rfl) rfl rfl rfl (by kernel_rfl) (by kernel_rfl) (by kernel_rfl) rfl rfl ?_
        refine TA.bind fun R11 H12 => ?_
        refine TA.one 8 (by kernel_rfl) ?_
        refine TX.ef (listed' := #[true, true, true, true, true, true, true, true, true, false]) [] rfl (Ef.call (rest := []) [] (laws_eqShare_con E7 E9  R11 H12) kc153 rfl rfl trivial) rfl rfl rfl rfl (fun _ => rfl) (fun _ => ?_)
        refine TA.y (listed' := #[true, true, true, true, true, true, true, true, true, true]) 9 [] rfl (Y.not rfl) rfl rfl rfl (by kernel_rfl) (by kernel_rfl) (by kernel_rfl) rfl rfl ?_
        refine TA.nil (by kernel_rfl) ?_
        refine TE.next ?_
        refine TW.cond rfl (fun H14 => ?_) (fun H14 => ?_)
        · refine TW.seq ?_
          refine TW.region ?_
          refine TO.y (Y.assign rfl) rfl rfl rfl ?_
          refine TO.nil ?_
          refine TE.next ?_
          refine TW.ret ?_
          refine TE.block_ret ?_
          refine TE.then_ret ?_
          refine TE.lp_ret ?_
          refine TE.block_ret ?_
          refine TE.jn_done ?_
          refine TE.then_ret ?_
          exact TE.leaf fun _ _ hf_ hs_ => ret_any (rs := [.tmp 4]) (vs := [.bool false]) (.inl rfl) rfl ⟨rfl, trivial⟩ hf_ hs_ ⟨(), rfl, hs_.pulls [] rfl⟩
        · refine TW.skip ?_
          refine TE.block_normal ?_
          refine TE.next ?_
          refine TW.region ?_
          refine TO.y (Y.move rfl) rfl rfl rfl ?_
          refine TO.y (Y.add rfl rfl) rfl rfl rfl ?_
          refine TO.y (Y.assign rfl) rfl rfl rfl ?_
          refine TO.nil ?_
          exact TE.lp_go () [] ⟨rfl, rfl, rfl, trivial⟩ rfl
      · refine TW.exit ?_
        refine TE.then_exit ?_
        refine TE.lp_exit ?_
        refine TE.block_exit ?_
        exact TE.jn_go () [] trivial rfl
    · refine TE.next ?_
      refine TW.seq ?_
      refine TW.region ?_
      refine TO.y (Y.assign rfl) rfl rfl rfl ?_
      refine TO.nil ?_
      refine TE.next ?_
      refine TW.ret ?_
      exact TE.leaf fun _ _ hf_ hs_ => ret_any (rs := [.tmp 4]) (vs := [.bool true]) (.inl rfl) rfl ⟨rfl, trivial⟩ hf_ hs_ ⟨(), rfl, hs_.pulls [] rfl⟩

/-- loop.example/g00950/laws.eqShares -/
noncomputable def laws_eqShares (a : Shares) (b : Shares) : Option Bool :=
  if (!(decide (a.Size = b.Size))) = true then (some false)
  else ((laws_eqShareS a.List b.List).bind fun R4 =>
  if (!R4) = true then (some false)
  else (some true))

theorem laws_eqShares_con (a : Shares) (b : Shares) (V_a1 : Value) (V_b1 : Value) (r : Bool) (hm : laws_eqShares a b = some r) :
    Con Try.prog 74 [.agg #[.int .i64 a.Size, V_a1], .agg #[.int .i64 b.Size, V_b1]] [] [(V_a1, lc a.List), (V_b1, lc b.List)] (fun _ : Unit => .bool r) (fun _ => []) := by
  refine Con.intro (args := [.agg #[.int .i64 a.Size, V_a1], .agg #[.int .i64 b.Size, V_b1]]) (n := 16) (val := fun r (_ : Unit) => .bool r) (post := fun _ _ => []) (m := laws_eqShares a b) Try.func74 rfl rfl rfl hm ?_
  intro w S hrd
  have HB_V_a1 := hrd _ (.head _)
  have HB_V_b1 := hrd _ (.tail _ (.head _))
  clear hrd
  unfold laws_eqShares
  refine TW.seq ?_
  refine TW.region ?_
  refine TO.ef (Ef.box rfl (Cel.agg ⟨(One.plain rfl), (One.can (Base.can HB_V_a1)), trivial⟩)) rfl rfl rfl (fun B1 => ?_)
  refine TO.ef (Ef.box rfl (Cel.agg ⟨(One.plain rfl), (One.can (Base.can HB_V_b1)), trivial⟩)) rfl rfl rfl (fun B2 => ?_)
  refine TO.y (Y.assign rfl) rfl rfl rfl ?_
  refine TO.nil ?_
  refine TE.next ?_
  refine TW.seq ?_
  refine TW.seq ?_
  refine TW.region ?_
  refine TO.y (Y.field_box kf56_0 rfl rfl) rfl rfl rfl ?_
  refine TO.y (Y.load_box (v := .int .i64 a.Size) 1 kk3 rfl rfl rfl) rfl rfl rfl ?_
  refine TO.y (Y.field_box kf56_0 rfl rfl) rfl rfl rfl ?_
  refine TO.y (Y.load_box (v := .int .i64 b.Size) 0 kk3 rfl rfl rfl) rfl rfl rfl ?_
  refine TO.y (Y.neq rfl rfl) rfl rfl rfl ?_
  refine TO.nil ?_
  refine TE.next ?_
  refine TW.cond rfl (fun H3 => ?_) (fun H3 => ?_)
  · refine TW.seq ?_
    refine TW.region ?_
    refine TO.y (Y.assign rfl) rfl rfl rfl ?_
    refine TO.nil ?_
    refine TE.next ?_
    refine TW.ret ?_
    refine TE.then_ret ?_
    exact TE.leaf fun _ _ hf_ hs_ => ret_any (rs := [.tmp 4]) (vs := [.bool false]) (.inl rfl) rfl ⟨rfl, trivial⟩ hf_ hs_ ⟨(), rfl, hs_.pulls [] rfl⟩
  · refine TW.skip ?_
    refine TE.next ?_
    refine TW.seq ?_
    refine TW.seq ?_
    refine TW.region ?_
    refine TO.y (Y.field_box kf56_1 rfl rfl) rfl rfl rfl ?_
    refine TO.y (Y.load_box (v := V_a1) 1 kk54 rfl rfl rfl) rfl rfl rfl ?_
    refine TO.y (Y.field_box kf56_1 rfl rfl) rfl rfl rfl ?_
    refine TO.y (Y.load_box (v := V_b1) 0 kk54 rfl rfl rfl) rfl rfl rfl ?_
    refine TO.bind fun R4 H5 => ?_
    refine TO.ef (Ef.call (rest := [.box B2 56 [.int .i64 b.Size, V_b1], .box B1 56 [.int .i64 a.Size, V_a1]]) [0, 0] (laws_eqShareS_con a.List b.List V_a1 V_b1 R4 H5) kc122 rfl rfl ⟨(Base.can HB_V_a1), (Base.can HB_V_b1), trivial⟩) rfl rfl rfl (fun _ => ?_)
    refine TO.y (Y.not rfl) rfl rfl rfl ?_
    refine TO.nil ?_
    refine TE.next ?_
    refine TW.cond rfl (fun H7 => ?_) (fun H7 => ?_)
    · refine TW.seq ?_
      refine TW.region ?_
      refine TO.y (Y.assign rfl) rfl rfl rfl ?_
      refine TO.nil ?_
      refine TE.next ?_
      refine TW.ret ?_
      refine TE.then_ret ?_
      exact TE.leaf fun _ _ hf_ hs_ => ret_any (rs := [.tmp 4]) (vs := [.bool false]) (.inl rfl) rfl ⟨rfl, trivial⟩ hf_ hs_ ⟨(), rfl, hs_.pulls [] rfl⟩
    · refine TW.skip ?_
      refine TE.next ?_
      refine TW.seq ?_
      refine TW.region ?_
      refine TO.y (Y.assign rfl) rfl rfl rfl ?_
      refine TO.nil ?_
      refine TE.next ?_
      refine TW.ret ?_
      exact TE.leaf fun _ _ hf_ hs_ => ret_any (rs := [.tmp 4]) (vs := [.bool true]) (.inl rfl) rfl ⟨rfl, trivial⟩ hf_ hs_ ⟨(), rfl, hs_.pulls [] rfl⟩

/-- loop.example/g00950/laws.eqKV -/
noncomputable def laws_eqKV (a : KV) (b : KV) : Option Bool :=
  if (!(decide (a.Key = b.Key))) = true then (some false)
  else (if (!(decide (a.Val = b.Val))) = true then (some false)
  else (some true))

theorem laws_eqKV_con (a : KV) (b : KV)  (r : Bool) (hm : laws_eqKV a b = some r) :
    Con Try.prog 168 [.agg #[strV a.Key, strV a.Val], .agg #[strV b.Key, strV b.Val]] [] [] (fun _ : Unit => .bool r) (fun _ => []) := by
  refine Con.intro (args := [.agg #[strV a.Key, strV a.Val], .agg #[strV b.Key, strV b.Val]]) (n := 15) (val := fun r (_ : Unit) => .bool r) (post := fun _ _ => []) (m := laws_eqKV a b) Try.func168 rfl rfl rfl hm ?_
  intro w S _
  unfold laws_eqKV
  refine TW.seq ?_
  refine TW.region ?_
  refine TO.ef (Ef.box rfl (Cel.plain rfl rfl)) rfl rfl rfl (fun B1 => ?_)
  refine TO.ef (Ef.box rfl (Cel.plain rfl rfl)) rfl rfl rfl (fun B2 => ?_)
  refine TO.y (Y.assign rfl) rfl rfl rfl ?_
  refine TO.nil ?_
  refine TE.next ?_
  refine TW.seq ?_
  refine TW.seq ?_
  refine TW.region ?_
  refine TO.y (Y.field_box kf201_0 rfl rfl) rfl rfl rfl ?_
  refine TO.y (Y.load_box (v := strV a.Key) 1 kk9 rfl rfl rfl) rfl rfl rfl ?_
  refine TO.y (Y.field_box kf201_0 rfl rfl) rfl rfl rfl ?_
  refine TO.y (Y.load_box (v := strV b.Key) 0 kk9 rfl rfl rfl) rfl rfl rfl ?_
  refine TO.y (Y.sneq rfl rfl) rfl rfl rfl ?_
  refine TO.nil ?_
  refine TE.next ?_
  refine TW.cond rfl (fun H3 => ?_) (fun H3 => ?_)
  · refine TW.seq ?_
    refine TW.region ?_
    refine TO.y (Y.assign rfl) rfl rfl rfl ?_
    refine TO.nil ?_
    refine TE.next ?_
    refine TW.ret ?_
    refine TE.then_ret ?_
    exact TE.leaf fun _ _ hf_ hs_ => ret_any (rs := [.tmp 4]) (vs := [.bool false]) (.inl rfl) rfl ⟨rfl, trivial⟩ hf_ hs_ ⟨(), rfl, hs_.pulls [] rfl⟩
  · refine TW.skip ?_
    refine TE.next ?_
    refine TW.seq ?_
    refine TW.seq ?_
    refine TW.region ?_
    refine TO.y (Y.field_box kf201_1 rfl rfl) rfl rfl rfl ?_
    refine TO.y (Y.load_box (v := strV a.Val) 1 kk9 rfl rfl rfl) rfl rfl rfl ?_
    refine TO.y (Y.field_box kf201_1 rfl rfl) rfl rfl rfl ?_
    refine TO.y (Y.load_box (v := strV b.Val) 0 kk9 rfl rfl rfl) rfl rfl rfl ?_
    refine TO.y (Y.sneq rfl rfl) rfl rfl rfl ?_
    refine TO.nil ?_
    refine TE.next ?_
    refine TW.cond rfl (fun H4 => ?_) (fun H4 => ?_)
    · refine TW.seq ?_
      refine TW.region ?_
      refine TO.y (Y.assign rfl) rfl rfl rfl ?_
      refine TO.nil ?_
      refine TE.next ?_
      refine TW.ret ?_
      refine TE.then_ret ?_
      exact TE.leaf fun _ _ hf_ hs_ => ret_any (rs := [.tmp 4]) (vs := [.bool false]) (.inl rfl) rfl ⟨rfl, trivial⟩ hf_ hs_ ⟨(), rfl, hs_.pulls [] rfl⟩
    · refine TW.skip ?_
      refine TE.next ?_
      refine TW.seq ?_
      refine TW.region ?_
      refine TO.y (Y.assign rfl) rfl rfl rfl ?_
      refine TO.nil ?_
      refine TE.next ?_
      refine TW.ret ?_
      exact TE.leaf fun _ _ hf_ hs_ => ret_any (rs := [.tmp 4]) (vs := [.bool true]) (.inl rfl) rfl ⟨rfl, trivial⟩ hf_ hs_ ⟨(), rfl, hs_.pulls [] rfl⟩

/-- loop.example/g00950/laws.eqKVS -/
noncomputable def laws_eqKVS (a : List KV) (b : List KV) : Option Bool :=
  if (!(decide (((a.length : Nat) : Int) = ((b.length : Nat) : Int)))) = true then (some false)
  else (bindC (loopO (fun (S2 : Int) => if (decide (S2 < ((a.length : Nat) : Int))) = true then ((idx a S2).bind fun E7 =>
  (idx b S2).bind fun E9 =>
  (laws_eqKV E7 E9).bind fun R11 =>
  if (!R11) = true then (some (.done (.done false)))
  else (some (.go (IntKind.i64.wrap (S2 + (1 : Int))))))
  else (some (.done (.go ()))))
  (0 : Int))
  (fun (T4 : Unit) => some true))

theorem laws_eqKVS_con (a : List KV) (b : List KV) (V_a0 : Value) (V_b0 : Value) (r : Bool) (hm : laws_eqKVS a b = some r) :
    Con Try.prog 154 [V_a0, V_b0] [] [(V_a0, lc a), (V_b0, lc b)] (fun _ : Unit => .bool r) (fun _ => []) := by
  refine Con.intro (args := [V_a0, V_b0]) (n := 27) (val := fun r (_ : Unit) => .bool r) (post := fun _ _ => []) (m := laws_eqKVS a b) Try.func154 rfl rfl rfl hm ?_
  intro w S hrd
  have HB_V_a0 := hrd _ (.head _)
  have HB_V_b0 := hrd _ (.tail _ (.head _))
  clear hrd
  unfold laws_eqKVS
  refine TW.seq ?_
  refine TW.region ?_
  refine TO.y (Y.assign rfl) rfl rfl rfl ?_
  refine TO.nil ?_
  refine TE.next ?_
  refine TW.seq ?_
  refine TW.seq ?_
  refine TW.region ?_
  refine TO.y (Y.move rfl) rfl rfl rfl ?_
  refine TO.y (Y.len (l := a) ke161 (Base.can HB_V_a0) rfl) rfl rfl rfl ?_
  refine TO.y (Y.move rfl) rfl rfl rfl ?_
  refine TO.y (Y.len (l := b) ke161 (Base.can HB_V_b0) rfl) rfl rfl rfl ?_
  refine TO.y (Y.neq rfl rfl) rfl rfl rfl ?_
  refine TO.nil ?_
  refine TE.next ?_
  refine TW.cond rfl (fun H1 => ?_) (fun H1 => ?_)
  · refine TW.seq ?_
    refine TW.region ?_
    refine TO.y (Y.assign rfl) rfl rfl rfl ?_
    refine TO.nil ?_
    refine TE.next ?_
    refine TW.ret ?_
    refine TE.then_ret ?_
    exact TE.leaf fun _ _ hf_ hs_ => ret_any (rs := [.tmp 4]) (vs := [.bool false]) (.inl rfl) rfl ⟨rfl, trivial⟩ hf_ hs_ ⟨(), rfl, hs_.pulls [] rfl⟩
  · refine TW.skip ?_
    refine TE.next ?_
    refine TW.seq ?_
    refine TW.seq ?_
    refine TW.region ?_
    refine TO.y (Y.assign rfl) rfl rfl rfl ?_
    refine TO.nil ?_
    refine TE.next ?_
    refine TW.joinX (τ := Unit) (X := Unit) (fun _ _ => []) (fun _ _ => []) ?_ (fun T4 X5 => ?_)
    · refine TW.block ?_
      refine TW.loopX (σ := Int) (X := Unit) (fun T _ => [(0, V_a0), (1, V_b0), (5, .int .i64 T)]) (fun _ _ => []) () [] ⟨rfl, rfl, rfl, trivial⟩ rfl (fun S2 X3 => ?_)
      refine TW.seq ?_
      refine TW.seq ?_
      refine TW.region ?_
      refine TO.y (Y.move rfl) rfl rfl rfl ?_
      refine TO.y (Y.move rfl) rfl rfl rfl ?_
      refine TO.y (Y.len (l := a) ke161 (Base.can HB_V_a0) rfl) rfl rfl rfl ?_
      refine TO.y (Y.lss rfl rfl) rfl rfl rfl ?_
      refine TO.nil ?_
      refine TE.next ?_
      refine TW.cond rfl (fun H6 => ?_) (fun H6 => ?_)
      · refine TW.skip ?_
        refine TE.next ?_
        refine TW.seq ?_
        refine TW.block ?_
        refine TW.seq ?_
        refine TW.draw (isH := []) hMix ?_
        refine TA.y (listed' := #[true, false, false, false, false, false, false, false, false, false]) 0 [] rfl (Y.move rfl) rfl rfl rfl (by kernel_rfl) (by kernel_rfl) (by kernel_rfl) rfl rfl ?_
        refine TA.y (listed' := #[true, true, false, false, false, false, false, false, false, false]) 1 [] rfl (Y.move rfl) rfl rfl rfl (by kernel_rfl) (by kernel_rfl) (by kernel_rfl) rfl rfl ?_
        refine TA.bind fun E7 H8 => ?_
        refine TA.y (listed' := #[true, true, true, false, false, false, false, false, false, false]) 2 [] rfl (Y.index ke161 (Base.can HB_V_a0) H8 rfl rfl) rfl rfl rfl (by kernel_rfl) (by kernel_rfl) (by kernel_rfl) rfl rfl ?_
        refine TA.y (listed' := #[true, true, true, true, false, false, false, false, false, false]) 3 [] rfl (Y.load_el (us := [strV E7.Key, strV E7.Val]) (u := .agg #[strV E7.Key, strV E7.Val]) kk201 rfl (Base.can HB_V_a0) (idx_get H8).2.2 rfl rfl rfl rfl rfl) rfl rfl rfl (by kernel_rfl) (by kernel_rfl) (by kernel_rfl) rfl rfl ?_
        refine TA.y (listed' := #[true, true, true, true, true, false, false, false, false, false]) 4 [] rfl (Y.move rfl) rfl rfl rfl (by kernel_rfl) (by kernel_rfl) (by kernel_rfl) rfl rfl ?_
        refine TA.y (listed' := #[true, true, true, true, true, true, false, false, false, false]) 5 [] rfl (Y.move rfl) rfl rfl rfl (by kernel_rfl) (by kernel_rfl) (by kernel_rfl) rfl rfl ?_
        refine TA.bind fun E9 H10 => ?_
        refine TA.y (listed' := #[true, true, true, true, true, true, true, false, false, false]) 6 [] rfl (Y.index ke161 (Base.can HB_V_b0) H10 rfl rfl) rfl rfl rfl (by kernel_rfl) (by kernel_rfl) (by kernel_rfl) rfl rfl ?_
        refine TA.y (listed' := #[true, true, true, true, true, true, true, true, false, false]) 7 [] rfl (Y.load_el (us := [strV E9.Key, strV E9.Val]) (u := .agg #[strV E9.Key, strV E9.Val]) kk201 rfl (Base.can HB_V_b0) (idx_get H10).2.2 rfl rfl rfl rfl rfl) rfl rfl rfl (by kernel_rfl) (by kernel_rfl) (by kernel_rfl) rfl rfl ?_
        refine TA.bind fun R11 H12 => ?_
        refine TA.one 8 (by kernel_rfl) ?_
        refine TX.ef (listed' := #[true, true, true, true, true, true, true, true, true, false]) [] rfl (Ef.call (rest := []) [] (laws_eqKV_con E7 E9  R11 H12) kc168 rfl rfl trivial) rfl rfl rfl rfl (fun _ => rfl) (fun _ => ?_)
        refine TA.y (listed' := #[true, true, true, true, true, true, true, true, true, true]) 9 [] rfl (Y.not rfl) rfl rfl rfl (by kernel_rfl) (by kernel_rfl) (by kernel_rfl) rfl rfl ?_
        refine TA.nil (by kernel_rfl) ?_
        refine TE.next ?_
        refine TW.cond rfl (fun H14 => ?_) (fun H14 => ?_)
        · refine TW.seq ?_
          refine TW.region ?_
          refine TO.y (Y.assign rfl) rfl rfl rfl ?_
          refine TO.nil ?_
          refine TE.next ?_
          refine TW.ret ?_
          refine TE.block_ret ?_
          refine TE.then_ret ?_
          refine TE.lp_ret ?_
          refine TE.block_ret ?_
          refine TE.jn_done ?_
          refine TE.then_ret ?_
          exact TE.leaf fun _ _ hf_ hs_ => ret_any (rs := [.tmp 4]) (vs := [.bool false]) (.inl rfl) rfl ⟨rfl, trivial⟩ hf_ hs_ ⟨(), rfl, hs_.pulls [] rfl⟩
        · refine TW.skip ?_
          refine TE.block_normal ?_
          refine TE.next ?_
          refine TW.region ?_
          refine TO.y (Y.move rfl) rfl rfl rfl ?_
          refine TO.y (Y.add rfl rfl) rfl rfl rfl ?_
          refine TO.y (Y.assign rfl) rfl rfl rfl ?_
          refine TO.nil ?_
          exact TE.lp_go () [] ⟨rfl, rfl, rfl, trivial⟩ rfl
      · refine TW.exit ?_
        refine TE.then_exit ?_
        refine TE.lp_exit ?_
        refine TE.block_exit ?_
        exact TE.jn_go () [] trivial rfl
    · refine TE.next ?_
      refine TW.seq ?_
      refine TW.region ?_
      refine TO.y (Y.assign rfl) rfl rfl rfl ?_
      refine TO.nil ?_
      refine TE.next ?_
      refine TW.ret ?_
      exact TE.leaf fun _ _ hf_ hs_ => ret_any (rs := [.tmp 4]) (vs := [.bool true]) (.inl rfl) rfl ⟨rfl, trivial⟩ hf_ hs_ ⟨(), rfl, hs_.pulls [] rfl⟩

/-- loop.example/g00950/laws.eqMSnap -/
noncomputable def laws_eqMSnap (a : MSnap) (b : MSnap) : Option Bool :=
  if (!(decide (a.Seq = b.Seq))) = true then (some false)
  else ((laws_eqKVS a.Map b.Map).bind fun R4 =>
  if (!R4) = true then (some false)
  else (some true))

theorem laws_eqMSnap_con (a : MSnap) (b : MSnap) (V_a1 : Value) (V_b1 : Value) (r : Bool) (hm : laws_eqMSnap a b = some r) :
    Con Try.prog 169 [.agg #[.int .i64 a.Seq, V_a1], .agg #[.int .i64 b.Seq, V_b1]] [] [(V_a1, lc a.Map), (V_b1, lc b.Map)] (fun _ : Unit => .bool r) (fun _ => []) := by
  refine Con.intro (args := [.agg #[.int .i64 a.Seq, V_a1], .agg #[.int .i64 b.Seq, V_b1]]) (n := 16) (val := fun r (_ : Unit) => .bool r) (post := fun _ _ => []) (m := laws_eqMSnap a b) Try.func169 rfl rfl rfl hm ?_
  intro w S hrd
  have HB_V_a1 := hrd _ (.head _)
  have HB_V_b1 := hrd _ (.tail _ (.head _))
  clear hrd
  unfold laws_eqMSnap
  refine TW.seq ?_
  refine TW.region ?_
  refine TO.ef (Ef.box rfl (Cel.agg ⟨(One.plain rfl), (One.can (Base.can HB_V_a1)), trivial⟩)) rfl rfl rfl (fun B1 => ?_)
  refine TO.ef (Ef.box rfl (Cel.agg ⟨(One.plain rfl), (One.can (Base.can HB_V_b1)), trivial⟩)) rfl rfl rfl (fun B2 => ?_)
  refine TO.y (Y.assign rfl) rfl rfl rfl ?_
  refine TO.nil ?_
  refine TE.next ?_
  refine TW.seq ?_
  refine TW.seq ?_
  refine TW.region ?_
  refine TO.y (Y.field_box kf203_0 rfl rfl) rfl rfl rfl ?_
  refine TO.y (Y.load_box (v := .int .i64 a.Seq) 1 kk3 rfl rfl rfl) rfl rfl rfl ?_
  refine TO.y (Y.field_box kf203_0 rfl rfl) rfl rfl rfl ?_
  refine TO.y (Y.load_box (v := .int .i64 b.Seq) 0 kk3 rfl rfl rfl) rfl rfl rfl ?_
  refine TO.y (Y.neq rfl rfl) rfl rfl rfl ?_
  refine TO.nil ?_
  refine TE.next ?_
  refine TW.cond rfl (fun H3 => ?_) (fun H3 => ?_)
  · refine TW.seq ?_
    refine TW.region ?_
    refine TO.y (Y.assign rfl) rfl rfl rfl ?_
    refine TO.nil ?_
    refine TE.next ?_
    refine TW.ret ?_
    refine TE.then_ret ?_
    exact TE.leaf fun _ _ hf_ hs_ => ret_any (rs := [.tmp 4]) (vs := [.bool false]) (.inl rfl) rfl ⟨rfl, trivial⟩ hf_ hs_ ⟨(), rfl, hs_.pulls [] rfl⟩
  · refine TW.skip ?_
    refine TE.next ?_
    refine TW.seq ?_
    refine TW.seq ?_
    refine TW.region ?_
    refine TO.y (Y.field_box kf203_1 rfl rfl) rfl rfl rfl ?_
    refine TO.y (Y.load_box (v := V_a1) 1 kk161 rfl rfl rfl) rfl rfl rfl ?_
    refine TO.y (Y.field_box kf203_1 rfl rfl) rfl rfl rfl ?_
    refine TO.y (Y.load_box (v := V_b1) 0 kk161 rfl rfl rfl) rfl rfl rfl ?_
    refine TO.bind fun R4 H5 => ?_
    refine TO.ef (Ef.call (rest := [.box B2 203 [.int .i64 b.Seq, V_b1], .box B1 203 [.int .i64 a.Seq, V_a1]]) [0, 0] (laws_eqKVS_con a.Map b.Map V_a1 V_b1 R4 H5) kc154 rfl rfl ⟨(Base.can HB_V_a1), (Base.can HB_V_b1), trivial⟩) rfl rfl rfl (fun _ => ?_)
    refine TO.y (Y.not rfl) rfl rfl rfl ?_
    refine TO.nil ?_
    refine TE.next ?_
    refine TW.cond rfl (fun H7 => ?_) (fun H7 => ?_)
    · refine TW.seq ?_
      refine TW.region ?_
      refine TO.y (Y.assign rfl) rfl rfl rfl ?_
      refine TO.nil ?_
      refine TE.next ?_
      refine TW.ret ?_
      refine TE.then_ret ?_
      exact TE.leaf fun _ _ hf_ hs_ => ret_any (rs := [.tmp 4]) (vs := [.bool false]) (.inl rfl) rfl ⟨rfl, trivial⟩ hf_ hs_ ⟨(), rfl, hs_.pulls [] rfl⟩
    · refine TW.skip ?_
      refine TE.next ?_
      refine TW.seq ?_
      refine TW.region ?_
      refine TO.y (Y.assign rfl) rfl rfl rfl ?_
      refine TO.nil ?_
      refine TE.next ?_
      refine TW.ret ?_
      exact TE.leaf fun _ _ hf_ hs_ => ret_any (rs := [.tmp 4]) (vs := [.bool true]) (.inl rfl) rfl ⟨rfl, trivial⟩ hf_ hs_ ⟨(), rfl, hs_.pulls [] rfl⟩

/-- loop.example/g00950/laws.eqMSnapS -/
noncomputable def laws_eqMSnapS (a : List MSnap) (b : List MSnap) : Option Bool :=
  if (!(decide (((a.length : Nat) : Int) = ((b.length : Nat) : Int)))) = true then (some false)
  else (bindC (loopO (fun (S2 : Int) => if (decide (S2 < ((a.length : Nat) : Int))) = true then ((idx a S2).bind fun E7 =>
  (idx b S2).bind fun E10 =>
  (laws_eqMSnap E7 E10).bind fun R13 =>
  if (!R13) = true then (some (.done (.done false)))
  else (some (.go (IntKind.i64.wrap (S2 + (1 : Int))))))
  else (some (.done (.go ()))))
  (0 : Int))
  (fun (T4 : Unit) => some true))

theorem laws_eqMSnapS_con (a : List MSnap) (b : List MSnap) (V_a0 : Value) (V_b0 : Value) (r : Bool) (hm : laws_eqMSnapS a b = some r) :
    Con Try.prog 155 [V_a0, V_b0] [] [(V_a0, lc a), (V_b0, lc b)] (fun _ : Unit => .bool r) (fun _ => []) := by
  refine Con.intro (args := [V_a0, V_b0]) (n := 27) (val := fun r (_ : Unit) => .bool r) (post := fun _ _ => []) (m := laws_eqMSnapS a b) Try.func155 rfl rfl rfl hm ?_
  intro w S hrd
  have HB_V_a0 := hrd _ (.head _)
  have HB_V_b0 := hrd _ (.tail _ (.head _))
  clear hrd
  unfold laws_eqMSnapS
  refine TW.seq ?_
  refine TW.region ?_
  refine TO.y (Y.assign rfl) rfl rfl rfl ?_
  refine TO.nil ?_
  refine TE.next ?_
  refine TW.seq ?_
  refine TW.seq ?_
  refine TW.region ?_
  refine TO.y (Y.move rfl) rfl rfl rfl ?_
  refine TO.y (Y.len (l := a) ke162 (Base.can HB_V_a0) rfl) rfl rfl rfl ?_
  refine TO.y (Y.move rfl) rfl rfl rfl ?_
  refine TO.y (Y.len (l := b) ke162 (Base.can HB_V_b0) rfl) rfl rfl rfl ?_
  refine TO.y (Y.neq rfl rfl) rfl rfl rfl ?_
  refine TO.nil ?_
  refine TE.next ?_
  refine TW.cond rfl (fun H1 => ?_) (fun H1 => ?_)
  · refine TW.seq ?_
    refine TW.region ?_
    refine TO.y (Y.assign rfl) rfl rfl rfl ?_
    refine TO.nil ?_
    refine TE.next ?_
    refine TW.ret ?_
    refine TE.then_ret ?_
    exact TE.leaf fun _ _ hf_ hs_ => ret_any (rs := [.tmp 4]) (vs := [.bool false]) (.inl rfl) rfl ⟨rfl, trivial⟩ hf_ hs_ ⟨(), rfl, hs_.pulls [] rfl⟩
  · refine TW.skip ?_
    refine TE.next ?_
    refine TW.seq ?_
    refine TW.seq ?_
    refine TW.region ?_
    refine TO.y (Y.assign rfl) rfl rfl rfl ?_
    refine TO.nil ?_
    refine TE.next ?_
    refine TW.joinX (τ := Unit) (X := Unit) (fun _ _ => []) (fun _ _ => []) ?_ (fun T4 X5 => ?_)
    · refine TW.block ?_
      refine TW.loopX (σ := Int) (X := Unit) (fun T _ => [(0, V_a0), (1, V_b0), (5, .int .i64 T)]) (fun _ _ => []) () [] ⟨rfl, rfl, rfl, trivial⟩ rfl (fun S2 X3 => ?_)
      refine TW.seq ?_
      refine TW.seq ?_
      refine TW.region ?_
      refine TO.y (Y.move rfl) rfl rfl rfl ?_
      refine TO.y (Y.move rfl) rfl rfl rfl ?_
      refine TO.y (Y.len (l := a) ke162 (Base.can HB_V_a0) rfl) rfl rfl rfl ?_
      refine TO.y (Y.lss rfl rfl) rfl rfl rfl ?_
      refine TO.nil ?_
      refine TE.next ?_
      refine TW.cond rfl (fun H6 => ?_) (fun H6 => ?_)
      · refine TW.skip ?_
        refine TE.next ?_
        refine TW.seq ?_
        refine TW.block ?_
        refine TW.seq ?_
        refine TW.draw (isH := []) hMix ?_
        refine TA.y (listed' := #[true, false, false, false, false, false, false, false, false, false]) 0 [] rfl (Y.move rfl) rfl rfl rfl (by kernel_rfl) (by kernel_rfl) (by kernel_rfl) rfl rfl ?_
        refine TA.y (listed' := #[true, true, false, false, false, false, false, false, false, false]) 1 [] rfl (Y.move rfl) rfl rfl rfl (by kernel_rfl) (by kernel_rfl) (by kernel_rfl) rfl rfl ?_
        refine TA.bind fun E7 H8 => ?_
        refine TA.y (listed' := #[true, true, true, false, false, false, false, false, false, false]) 2 [] rfl (Y.index ke162 (Base.can HB_V_a0) H8 rfl rfl) rfl rfl rfl (by kernel_rfl) (by kernel_rfl) (by kernel_rfl) rfl rfl ?_
        have Q9 : Base w S (elv w V_a0 (S2.toNat * 2 + 1)) (lc E7.Map) := Base.el HB_V_a0 (idx_get H8).2.2 rfl rfl
        refine TA.y (listed' := #[true, true, true, true, false, false, false, false, false, false]) 3 [] rfl (Y.load_base (α := MSnap) (u := .agg #[.int .i64 E7.Seq, (elv w V_a0 (S2.toNat * 2 + 1))]) kk203 rfl HB_V_a0 (idx_get H8).2.2 rfl rfl rfl rfl rfl) rfl rfl rfl (by kernel_rfl) (by kernel_rfl) (by kernel_rfl) rfl rfl ?_
        refine TA.y (listed' := #[true, true, true, true, true, false, false, false, false, false]) 4 [] rfl (Y.move rfl) rfl rfl rfl (by kernel_rfl) (by kernel_rfl) (by kernel_rfl) rfl rfl ?_
        refine TA.y (listed' := #[true, true, true, true, true, true, false, false, false, false]) 5 [] rfl (Y.move rfl) rfl rfl rfl (by kernel_rfl) (by kernel_rfl) (by kernel_rfl) rfl rfl ?_
        refine TA.bind fun E10 H11 => ?_
        refine TA.y (listed' := #[true, true, true, true, true, true, true, false, false, false]) 6 [] rfl (Y.index ke162 (Base.can HB_V_b0) H11 rfl rfl) rfl rfl rfl (by kernel_rfl) (by kernel_rfl) (by kernel_rfl) rfl rfl ?_
        have Q12 : Base w S (elv w V_b0 (S2.toNat * 2 + 1)) (lc E10.Map) := Base.el HB_V_b0 (idx_get H11).2.2 rfl rfl
        refine TA.y (listed' := #[true, true, true, true, true, true, true, true, false, false]) 7 [] rfl (Y.load_base (α := MSnap) (u := .agg #[.int .i64 E10.Seq, (elv w V_b0 (S2.toNat * 2 + 1))]) kk203 rfl HB_V_b0 (idx_get H11).2.2 rfl rfl rfl rfl rfl) rfl rfl rfl (by kernel_rfl) (by kernel_rfl) (by kernel_rfl) rfl rfl ?_
        refine TA.bind fun R13 H14 => ?_
        refine TA.one 8 (by kernel_rfl) ?_
        refine TX.ef (listed' := #[true, true, true, true, true, true, true, true, true, false]) [] rfl (Ef.call (rest := []) [] (laws_eqMSnap_con E7 E10 (elv w V_a0 (S2.toNat * 2 + 1)) (elv w V_b0 (S2.toNat * 2 + 1)) R13 H14) kc169 rfl rfl ⟨(Base.can Q9), (Base.can Q12), trivial⟩) rfl rfl rfl rfl (fun _ => rfl) (fun _ => ?_)
        refine TA.y (listed' := #[true, true, true, true, true, true, true, true, true, true]) 9 [] rfl (Y.not rfl) rfl rfl rfl (by kernel_rfl) (by kernel_rfl) (by kernel_rfl) rfl rfl ?_
        refine TA.nil (by kernel_rfl) ?_
        refine TE.next ?_
        refine TW.cond rfl (fun H16 => ?_) (fun H16 => ?_)
        · refine TW.seq ?_
          refine TW.region ?_
          refine TO.y (Y.assign rfl) rfl rfl rfl ?_
          refine TO.nil ?_
          refine TE.next ?_
          refine TW.ret ?_
          refine TE.block_ret ?_
          refine TE.then_ret ?_
          refine TE.lp_ret ?_
          refine TE.block_ret ?_
          refine TE.jn_done ?_
          refine TE.then_ret ?_
          exact TE.leaf fun _ _ hf_ hs_ => ret_any (rs := [.tmp 4]) (vs := [.bool false]) (.inl rfl) rfl ⟨rfl, trivial⟩ hf_ hs_ ⟨(), rfl, hs_.pulls [] rfl⟩
        · refine TW.skip ?_
          refine TE.block_normal ?_
          refine TE.next ?_
          refine TW.region ?_
          refine TO.y (Y.move rfl) rfl rfl rfl ?_
          refine TO.y (Y.add rfl rfl) rfl rfl rfl ?_
          refine TO.y (Y.assign rfl) rfl rfl rfl ?_
          refine TO.nil ?_
          exact TE.lp_go () [] ⟨rfl, rfl, rfl, trivial⟩ rfl
      · refine TW.exit ?_
        refine TE.then_exit ?_
        refine TE.lp_exit ?_
        refine TE.block_exit ?_
        exact TE.jn_go () [] trivial rfl
    · refine TE.next ?_
      refine TW.seq ?_
      refine TW.region ?_
      refine TO.y (Y.assign rfl) rfl rfl rfl ?_
      refine TO.nil ?_
      refine TE.next ?_
      refine TW.ret ?_
      exact TE.leaf fun _ _ hf_ hs_ => ret_any (rs := [.tmp 4]) (vs := [.bool true]) (.inl rfl) rfl ⟨rfl, trivial⟩ hf_ hs_ ⟨(), rfl, hs_.pulls [] rfl⟩

/-- loop.example/g00950/laws.eqMTen -/
noncomputable def laws_eqMTen (a : MTen) (b : MTen) : Option Bool :=
  if (!(decide (a.Id = b.Id))) = true then (some false)
  else (if (!(decide (a.Epoch = b.Epoch))) = true then (some false)
  else (if (!(decide (a.Seq = b.Seq))) = true then (some false)
  else ((laws_eqKVS a.Map b.Map).bind fun R6 =>
  if (!R6) = true then (some false)
  else ((laws_eqMSnapS a.Snaps b.Snaps).bind fun R10 =>
  if (!R10) = true then (some false)
  else (some true)))))

theorem laws_eqMTen_con (a : MTen) (b : MTen) (V_a3 : Value) (V_a4 : Value) (V_b3 : Value) (V_b4 : Value) (r : Bool) (hm : laws_eqMTen a b = some r) :
    Con Try.prog 123 [.agg #[.int .i64 a.Id, .int .i64 a.Epoch, .int .i64 a.Seq, V_a3, V_a4], .agg #[.int .i64 b.Id, .int .i64 b.Epoch, .int .i64 b.Seq, V_b3, V_b4]] [] [(V_a3, lc a.Map), (V_a4, lc a.Snaps), (V_b3, lc b.Map), (V_b4, lc b.Snaps)] (fun _ : Unit => .bool r) (fun _ => []) := by
  refine Con.intro (args := [.agg #[.int .i64 a.Id, .int .i64 a.Epoch, .int .i64 a.Seq, V_a3, V_a4], .agg #[.int .i64 b.Id, .int .i64 b.Epoch, .int .i64 b.Seq, V_b3, V_b4]]) (n := 32) (val := fun r (_ : Unit) => .bool r) (post := fun _ _ => []) (m := laws_eqMTen a b) Try.func123 rfl rfl rfl hm ?_
  intro w S hrd
  have HB_V_a3 := hrd _ (.head _)
  have HB_V_a4 := hrd _ (.tail _ (.head _))
  have HB_V_b3 := hrd _ (.tail _ (.tail _ (.head _)))
  have HB_V_b4 := hrd _ (.tail _ (.tail _ (.tail _ (.head _))))
  clear hrd
  unfold laws_eqMTen
  refine TW.seq ?_
  refine TW.region ?_
  refine TO.ef (Ef.box rfl (Cel.agg ⟨(One.plain rfl), (One.plain rfl), (One.plain rfl), (One.can (Base.can HB_V_a3)), (One.can (Base.can HB_V_a4)), trivial⟩)) rfl rfl rfl (fun B1 => ?_)
  refine TO.ef (Ef.box rfl (Cel.agg ⟨(One.plain rfl), (One.plain rfl), (One.plain rfl), (One.can (Base.can HB_V_b3)), (One.can (Base.can HB_V_b4)), trivial⟩)) rfl rfl rfl (fun B2 => ?_)
  refine TO.y (Y.assign rfl) rfl rfl rfl ?_
  refine TO.nil ?_
  refine TE.next ?_
  refine TW.seq ?_
  refine TW.seq ?_
  refine TW.region ?_
  refine TO.y (Y.field_box kf164_0 rfl rfl) rfl rfl rfl ?_
  refine TO.y (Y.load_box (v := .int .i64 a.Id) 1 kk3 rfl rfl rfl) rfl rfl rfl ?_
  refine TO.y (Y.field_box kf164_0 rfl rfl) rfl rfl rfl ?_
  refine TO.y (Y.load_box (v := .int .i64 b.Id) 0 kk3 rfl rfl rfl) rfl rfl rfl ?_
  refine TO.y (Y.neq rfl rfl) rfl rfl rfl ?_
  refine TO.nil ?_
  refine TE.next ?_
  refine TW.cond rfl (fun H3 => ?_) (fun H3 => ?_)
  · refine TW.seq ?_
    refine TW.region ?_
    refine TO.y (Y.assign rfl) rfl rfl rfl ?_
    refine TO.nil ?_
    refine TE.next ?_
    refine TW.ret ?_
    refine TE.then_ret ?_
    exact TE.leaf fun _ _ hf_ hs_ => ret_any (rs := [.tmp 4]) (vs := [.bool false]) (.inl rfl) rfl ⟨rfl, trivial⟩ hf_ hs_ ⟨(), rfl, hs_.pulls [] rfl⟩
  · refine TW.skip ?_
    refine TE.next ?_
    refine TW.seq ?_
    refine TW.seq ?_
    refine TW.region ?_
    refine TO.y (Y.field_box kf164_1 rfl rfl) rfl rfl rfl ?_
    refine TO.y (Y.load_box (v := .int .i64 a.Epoch) 1 kk3 rfl rfl rfl) rfl rfl rfl ?_
    refine TO.y (Y.field_box kf164_1 rfl rfl) rfl rfl rfl ?_
    refine TO.y (Y.load_box (v := .int .i64 b.Epoch) 0 kk3 rfl rfl rfl) rfl rfl rfl ?_
    refine TO.y (Y.neq rfl rfl) rfl rfl rfl ?_
    refine TO.nil ?_
    refine TE.next ?_
    refine TW.cond rfl (fun H4 => ?_) (fun H4 => ?_)
    · refine TW.seq ?_
      refine TW.region ?_
      refine TO.y (Y.assign rfl) rfl rfl rfl ?_
      refine TO.nil ?_
      refine TE.next ?_
      refine TW.ret ?_
      refine TE.then_ret ?_
      exact TE.leaf fun _ _ hf_ hs_ => ret_any (rs := [.tmp 4]) (vs := [.bool false]) (.inl rfl) rfl ⟨rfl, trivial⟩ hf_ hs_ ⟨(), rfl, hs_.pulls [] rfl⟩
    · refine TW.skip ?_
      refine TE.next ?_
      refine TW.seq ?_
      refine TW.seq ?_
      refine TW.region ?_
      refine TO.y (Y.field_box kf164_2 rfl rfl) rfl rfl rfl ?_
      refine TO.y (Y.load_box (v := .int .i64 a.Seq) 1 kk3 rfl rfl rfl) rfl rfl rfl ?_
      refine TO.y (Y.field_box kf164_2 rfl rfl) rfl rfl rfl ?_
      refine TO.y (Y.load_box (v := .int .i64 b.Seq) 0 kk3 rfl rfl rfl) rfl rfl rfl ?_
      refine TO.y (Y.neq rfl rfl) rfl rfl rfl ?_
      refine TO.nil ?_
      refine TE.next ?_
      refine TW.cond rfl (fun H5 => ?_) (fun H5 => ?_)
      · refine TW.seq ?_
        refine TW.region ?_
        refine TO.y (Y.assign rfl) rfl rfl rfl ?_
        refine TO.nil ?_
        refine TE.next ?_
        refine TW.ret ?_
        refine TE.then_ret ?_
        exact TE.leaf fun _ _ hf_ hs_ => ret_any (rs := [.tmp 4]) (vs := [.bool false]) (.inl rfl) rfl ⟨rfl, trivial⟩ hf_ hs_ ⟨(), rfl, hs_.pulls [] rfl⟩
      · refine TW.skip ?_
        refine TE.next ?_
        refine TW.seq ?_
        refine TW.seq ?_
        refine TW.region ?_
        refine TO.y (Y.field_box kf164_3 rfl rfl) rfl rfl rfl ?_
        refine TO.y (Y.load_box (v := V_a3) 1 kk161 rfl rfl rfl) rfl rfl rfl ?_
        refine TO.y (Y.field_box kf164_3 rfl rfl) rfl rfl rfl ?_
        refine TO.y (Y.load_box (v := V_b3) 0 kk161 rfl rfl rfl) rfl rfl rfl ?_
        refine TO.bind fun R6 H7 => ?_
        refine TO.ef (Ef.call (rest := [.box B2 164 [.int .i64 b.Id, .int .i64 b.Epoch, .int .i64 b.Seq, V_b3, V_b4], .box B1 164 [.int .i64 a.Id, .int .i64 a.Epoch, .int .i64 a.Seq, V_a3, V_a4]]) [0, 0] (laws_eqKVS_con a.Map b.Map V_a3 V_b3 R6 H7) kc154 rfl rfl ⟨(Base.can HB_V_a3), (Base.can HB_V_b3), trivial⟩) rfl rfl rfl (fun _ => ?_)
        refine TO.y (Y.not rfl) rfl rfl rfl ?_
        refine TO.nil ?_
        refine TE.next ?_
        refine TW.cond rfl (fun H9 => ?_) (fun H9 => ?_)
        · refine TW.seq ?_
          refine TW.region ?_
          refine TO.y (Y.assign rfl) rfl rfl rfl ?_
          refine TO.nil ?_
          refine TE.next ?_
          refine TW.ret ?_
          refine TE.then_ret ?_
          exact TE.leaf fun _ _ hf_ hs_ => ret_any (rs := [.tmp 4]) (vs := [.bool false]) (.inl rfl) rfl ⟨rfl, trivial⟩ hf_ hs_ ⟨(), rfl, hs_.pulls [] rfl⟩
        · refine TW.skip ?_
          refine TE.next ?_
          refine TW.seq ?_
          refine TW.seq ?_
          refine TW.region ?_
          refine TO.y (Y.field_box kf164_4 rfl rfl) rfl rfl rfl ?_
          refine TO.y (Y.load_box (v := V_a4) 1 kk162 rfl rfl rfl) rfl rfl rfl ?_
          refine TO.y (Y.field_box kf164_4 rfl rfl) rfl rfl rfl ?_
          refine TO.y (Y.load_box (v := V_b4) 0 kk162 rfl rfl rfl) rfl rfl rfl ?_
          refine TO.bind fun R10 H11 => ?_
          refine TO.ef (Ef.call (rest := [.box B2 164 [.int .i64 b.Id, .int .i64 b.Epoch, .int .i64 b.Seq, V_b3, V_b4], .box B1 164 [.int .i64 a.Id, .int .i64 a.Epoch, .int .i64 a.Seq, V_a3, V_a4]]) [0, 0] (laws_eqMSnapS_con a.Snaps b.Snaps V_a4 V_b4 R10 H11) kc155 rfl rfl ⟨(Base.can HB_V_a4), (Base.can HB_V_b4), trivial⟩) rfl rfl rfl (fun _ => ?_)
          refine TO.y (Y.not rfl) rfl rfl rfl ?_
          refine TO.nil ?_
          refine TE.next ?_
          refine TW.cond rfl (fun H13 => ?_) (fun H13 => ?_)
          · refine TW.seq ?_
            refine TW.region ?_
            refine TO.y (Y.assign rfl) rfl rfl rfl ?_
            refine TO.nil ?_
            refine TE.next ?_
            refine TW.ret ?_
            refine TE.then_ret ?_
            exact TE.leaf fun _ _ hf_ hs_ => ret_any (rs := [.tmp 4]) (vs := [.bool false]) (.inl rfl) rfl ⟨rfl, trivial⟩ hf_ hs_ ⟨(), rfl, hs_.pulls [] rfl⟩
          · refine TW.skip ?_
            refine TE.next ?_
            refine TW.seq ?_
            refine TW.region ?_
            refine TO.y (Y.assign rfl) rfl rfl rfl ?_
            refine TO.nil ?_
            refine TE.next ?_
            refine TW.ret ?_
            exact TE.leaf fun _ _ hf_ hs_ => ret_any (rs := [.tmp 4]) (vs := [.bool true]) (.inl rfl) rfl ⟨rfl, trivial⟩ hf_ hs_ ⟨(), rfl, hs_.pulls [] rfl⟩

/-- loop.example/g00950/laws.eqMTenS -/
noncomputable def laws_eqMTenS (a : List MTen) (b : List MTen) : Option Bool :=
  if (!(decide (((a.length : Nat) : Int) = ((b.length : Nat) : Int)))) = true then (some false)
  else (bindC (loopO (fun (S2 : Int) => if (decide (S2 < ((a.length : Nat) : Int))) = true then ((idx a S2).bind fun E7 =>
  (idx b S2).bind fun E11 =>
  (laws_eqMTen E7 E11).bind fun R15 =>
  if (!R15) = true then (some (.done (.done false)))
  else (some (.go (IntKind.i64.wrap (S2 + (1 : Int))))))
  else (some (.done (.go ()))))
  (0 : Int))
  (fun (T4 : Unit) => some true))

theorem laws_eqMTenS_con (a : List MTen) (b : List MTen) (V_a0 : Value) (V_b0 : Value) (r : Bool) (hm : laws_eqMTenS a b = some r) :
    Con Try.prog 75 [V_a0, V_b0] [] [(V_a0, lc a), (V_b0, lc b)] (fun _ : Unit => .bool r) (fun _ => []) := by
  refine Con.intro (args := [V_a0, V_b0]) (n := 27) (val := fun r (_ : Unit) => .bool r) (post := fun _ _ => []) (m := laws_eqMTenS a b) Try.func75 rfl rfl rfl hm ?_
  intro w S hrd
  have HB_V_a0 := hrd _ (.head _)
  have HB_V_b0 := hrd _ (.tail _ (.head _))
  clear hrd
  unfold laws_eqMTenS
  refine TW.seq ?_
  refine TW.region ?_
  refine TO.y (Y.assign rfl) rfl rfl rfl ?_
  refine TO.nil ?_
  refine TE.next ?_
  refine TW.seq ?_
  refine TW.seq ?_
  refine TW.region ?_
  refine TO.y (Y.move rfl) rfl rfl rfl ?_
  refine TO.y (Y.len (l := a) ke57 (Base.can HB_V_a0) rfl) rfl rfl rfl ?_
  refine TO.y (Y.move rfl) rfl rfl rfl ?_
  refine TO.y (Y.len (l := b) ke57 (Base.can HB_V_b0) rfl) rfl rfl rfl ?_
  refine TO.y (Y.neq rfl rfl) rfl rfl rfl ?_
  refine TO.nil ?_
  refine TE.next ?_
  refine TW.cond rfl (fun H1 => ?_) (fun H1 => ?_)
  · refine TW.seq ?_
    refine TW.region ?_
    refine TO.y (Y.assign rfl) rfl rfl rfl ?_
    refine TO.nil ?_
    refine TE.next ?_
    refine TW.ret ?_
    refine TE.then_ret ?_
    exact TE.leaf fun _ _ hf_ hs_ => ret_any (rs := [.tmp 4]) (vs := [.bool false]) (.inl rfl) rfl ⟨rfl, trivial⟩ hf_ hs_ ⟨(), rfl, hs_.pulls [] rfl⟩
  · refine TW.skip ?_
    refine TE.next ?_
    refine TW.seq ?_
    refine TW.seq ?_
    refine TW.region ?_
    refine TO.y (Y.assign rfl) rfl rfl rfl ?_
    refine TO.nil ?_
    refine TE.next ?_
    refine TW.joinX (τ := Unit) (X := Unit) (fun _ _ => []) (fun _ _ => []) ?_ (fun T4 X5 => ?_)
    · refine TW.block ?_
      refine TW.loopX (σ := Int) (X := Unit) (fun T _ => [(0, V_a0), (1, V_b0), (5, .int .i64 T)]) (fun _ _ => []) () [] ⟨rfl, rfl, rfl, trivial⟩ rfl (fun S2 X3 => ?_)
      refine TW.seq ?_
      refine TW.seq ?_
      refine TW.region ?_
      refine TO.y (Y.move rfl) rfl rfl rfl ?_
      refine TO.y (Y.move rfl) rfl rfl rfl ?_
      refine TO.y (Y.len (l := a) ke57 (Base.can HB_V_a0) rfl) rfl rfl rfl ?_
      refine TO.y (Y.lss rfl rfl) rfl rfl rfl ?_
      refine TO.nil ?_
      refine TE.next ?_
      refine TW.cond rfl (fun H6 => ?_) (fun H6 => ?_)
      · refine TW.skip ?_
        refine TE.next ?_
        refine TW.seq ?_
        refine TW.block ?_
        refine TW.seq ?_
        refine TW.draw (isH := []) hMix ?_
        refine TA.y (listed' := #[true, false, false, false, false, false, false, false, false, false]) 0 [] rfl (Y.move rfl) rfl rfl rfl (by kernel_rfl) (by kernel_rfl) (by kernel_rfl) rfl rfl ?_
        refine TA.y (listed' := #[true, true, false, false, false, false, false, false, false, false]) 1 [] rfl (Y.move rfl) rfl rfl rfl (by kernel_rfl) (by kernel_rfl) (by kernel_rfl) rfl rfl ?_
        refine TA.bind fun E7 H8 => ?_
        refine TA.y (listed' := #[true, true, true, false, false, false, false, false, false, false]) 2 [] rfl (Y.index ke57 (Base.can HB_V_a0) H8 rfl rfl) rfl rfl rfl (by kernel_rfl) (by kernel_rfl) (by kernel_rfl) rfl rfl ?_
        have Q9 : Base w S (elv w V_a0 (S2.toNat * 5 + 3)) (lc E7.Map) := Base.el HB_V_a0 (idx_get H8).2.2 rfl rfl
        have Q10 : Base w S (elv w V_a0 (S2.toNat * 5 + 4)) (lc E7.Snaps) := Base.el HB_V_a0 (idx_get H8).2.2 rfl rfl
        refine TA.y (listed' := #[true, true, true, true, false, false, false, false, false, false]) 3 [] rfl (Y.load_base (α := MTen) (u := .agg #[.int .i64 E7.Id, .int .i64 E7.Epoch, .int .i64 E7.Seq, (elv w V_a0 (S2.toNat * 5 + 3)), (elv w V_a0 (S2.toNat * 5 + 4))]) kk164 rfl HB_V_a0 (idx_get H8).2.2 rfl rfl rfl rfl rfl) rfl rfl rfl (by kernel_rfl) (by kernel_rfl) (by kernel_rfl) rfl rfl ?_
        refine TA.y (listed' := #[true, true, true, true, true, false, false, false, false, false]) 4 [] rfl (Y.move rfl) rfl rfl rfl (by kernel_rfl) (by kernel_rfl) (by kernel_rfl) rfl rfl ?_
        refine TA.y (listed' := #[true, true, true, true, true, true, false, false, false, false]) 5 [] rfl (Y.move rfl) rfl rfl rfl (by kernel_rfl) (by kernel_rfl) (by kernel_rfl) rfl rfl ?_
        refine TA.bind fun E11 H12 => ?_
        refine TA.y (listed' := #[true, true, true, true, true, true, true, false, false, false]) 6 [] rfl (Y.index ke57 (Base.can HB_V_b0) H12 rfl rfl) rfl rfl rfl (by kernel_rfl) (by kernel_rfl) (by kernel_rfl) rfl rfl ?_
        have Q13 : Base w S (elv w V_b0 (S2.toNat * 5 + 3)) (lc E11.Map) := Base.el HB_V_b0 (idx_get H12).2.2 rfl rfl
        have Q14 : Base w S (elv w V_b0 (S2.toNat * 5 + 4)) (lc E11.Snaps) := Base.el HB_V_b0 (idx_get H12).2.2 rfl rfl
        refine TA.y (listed' := #[true, true, true, true, true, true, true, true, false, false]) 7 [] rfl (Y.load_base (α := MTen) (u := .agg #[.int .i64 E11.Id, .int .i64 E11.Epoch, .int .i64 E11.Seq, (elv w V_b0 (S2.toNat * 5 + 3)), (elv w V_b0 (S2.toNat * 5 + 4))]) kk164 rfl HB_V_b0 (idx_get H12).2.2 rfl rfl rfl rfl rfl) rfl rfl rfl (by kernel_rfl) (by kernel_rfl) (by kernel_rfl) rfl rfl ?_
        refine TA.bind fun R15 H16 => ?_
        refine TA.one 8 (by kernel_rfl) ?_
        refine TX.ef (listed' := #[true, true, true, true, true, true, true, true, true, false]) [] rfl (Ef.call (rest := []) [] (laws_eqMTen_con E7 E11 (elv w V_a0 (S2.toNat * 5 + 3)) (elv w V_a0 (S2.toNat * 5 + 4)) (elv w V_b0 (S2.toNat * 5 + 3)) (elv w V_b0 (S2.toNat * 5 + 4)) R15 H16) kc123 rfl rfl ⟨(Base.can Q9), (Base.can Q10), (Base.can Q13), (Base.can Q14), trivial⟩) rfl rfl rfl rfl (fun _ => rfl) (fun _ => ?_)
        refine TA.y (listed' := #[true, true, true, true, true, true, true, true, true, true]) 9 [] rfl (Y.not rfl) rfl rfl rfl (by kernel_rfl) (by kernel_rfl) (by kernel_rfl) rfl rfl ?_
        refine TA.nil (by kernel_rfl) ?_
        refine TE.next ?_
        refine TW.cond rfl (fun H18 => ?_) (fun H18 => ?_)
        · refine TW.seq ?_
          refine TW.region ?_
          refine TO.y (Y.assign rfl) rfl rfl rfl ?_
          refine TO.nil ?_
          refine TE.next ?_
          refine TW.ret ?_
          refine TE.block_ret ?_
          refine TE.then_ret ?_
          refine TE.lp_ret ?_
          refine TE.block_ret ?_
          refine TE.jn_done ?_
          refine TE.then_ret ?_
          exact TE.leaf fun _ _ hf_ hs_ => ret_any (rs := [.tmp 4]) (vs := [.bool false]) (.inl rfl) rfl ⟨rfl, trivial⟩ hf_ hs_ ⟨(), rfl, hs_.pulls [] rfl⟩
        · refine TW.skip ?_
          refine TE.block_normal ?_
          refine TE.next ?_
          refine TW.region ?_
          refine TO.y (Y.move rfl) rfl rfl rfl ?_
          refine TO.y (Y.add rfl rfl) rfl rfl rfl ?_
          refine TO.y (Y.assign rfl) rfl rfl rfl ?_
          refine TO.nil ?_
          exact TE.lp_go () [] ⟨rfl, rfl, rfl, trivial⟩ rfl
      · refine TW.exit ?_
        refine TE.then_exit ?_
        refine TE.lp_exit ?_
        refine TE.block_exit ?_
        exact TE.jn_go () [] trivial rfl
    · refine TE.next ?_
      refine TW.seq ?_
      refine TW.region ?_
      refine TO.y (Y.assign rfl) rfl rfl rfl ?_
      refine TO.nil ?_
      refine TE.next ?_
      refine TW.ret ?_
      exact TE.leaf fun _ _ hf_ hs_ => ret_any (rs := [.tmp 4]) (vs := [.bool true]) (.inl rfl) rfl ⟨rfl, trivial⟩ hf_ hs_ ⟨(), rfl, hs_.pulls [] rfl⟩

/-- loop.example/g00950/laws.eqOp -/
noncomputable def laws_eqOp (a : Op) (b : Op) : Option Bool :=
  if (!(decide (a.Key = b.Key))) = true then (some false)
  else (if (!(decide (a.Del = b.Del))) = true then (some false)
  else (if (!(decide (a.Val = b.Val))) = true then (some false)
  else (some true)))

theorem laws_eqOp_con (a : Op) (b : Op)  (r : Bool) (hm : laws_eqOp a b = some r) :
    Con Try.prog 138 [.agg #[strV a.Key, .bool a.Del, strV a.Val], .agg #[strV b.Key, .bool b.Del, strV b.Val]] [] [] (fun _ : Unit => .bool r) (fun _ => []) := by
  refine Con.intro (args := [.agg #[strV a.Key, .bool a.Del, strV a.Val], .agg #[strV b.Key, .bool b.Del, strV b.Val]]) (n := 20) (val := fun r (_ : Unit) => .bool r) (post := fun _ _ => []) (m := laws_eqOp a b) Try.func138 rfl rfl rfl hm ?_
  intro w S _
  unfold laws_eqOp
  refine TW.seq ?_
  refine TW.region ?_
  refine TO.ef (Ef.box rfl (Cel.plain rfl rfl)) rfl rfl rfl (fun B1 => ?_)
  refine TO.ef (Ef.box rfl (Cel.plain rfl rfl)) rfl rfl rfl (fun B2 => ?_)
  refine TO.y (Y.assign rfl) rfl rfl rfl ?_
  refine TO.nil ?_
  refine TE.next ?_
  refine TW.seq ?_
  refine TW.seq ?_
  refine TW.region ?_
  refine TO.y (Y.field_box kf176_0 rfl rfl) rfl rfl rfl ?_
  refine TO.y (Y.load_box (v := strV a.Key) 1 kk9 rfl rfl rfl) rfl rfl rfl ?_
  refine TO.y (Y.field_box kf176_0 rfl rfl) rfl rfl rfl ?_
  refine TO.y (Y.load_box (v := strV b.Key) 0 kk9 rfl rfl rfl) rfl rfl rfl ?_
  refine TO.y (Y.sneq rfl rfl) rfl rfl rfl ?_
  refine TO.nil ?_
  refine TE.next ?_
  refine TW.cond rfl (fun H3 => ?_) (fun H3 => ?_)
  · refine TW.seq ?_
    refine TW.region ?_
    refine TO.y (Y.assign rfl) rfl rfl rfl ?_
    refine TO.nil ?_
    refine TE.next ?_
    refine TW.ret ?_
    refine TE.then_ret ?_
    exact TE.leaf fun _ _ hf_ hs_ => ret_any (rs := [.tmp 4]) (vs := [.bool false]) (.inl rfl) rfl ⟨rfl, trivial⟩ hf_ hs_ ⟨(), rfl, hs_.pulls [] rfl⟩
  · refine TW.skip ?_
    refine TE.next ?_
    refine TW.seq ?_
    refine TW.seq ?_
    refine TW.region ?_
    refine TO.y (Y.field_box kf176_1 rfl rfl) rfl rfl rfl ?_
    refine TO.y (Y.load_box (v := .bool a.Del) 1 kk4 rfl rfl rfl) rfl rfl rfl ?_
    refine TO.y (Y.field_box kf176_1 rfl rfl) rfl rfl rfl ?_
    refine TO.y (Y.load_box (v := .bool b.Del) 0 kk4 rfl rfl rfl) rfl rfl rfl ?_
    refine TO.y (Y.neb kb4 rfl rfl) rfl rfl rfl ?_
    refine TO.nil ?_
    refine TE.next ?_
    refine TW.cond rfl (fun H4 => ?_) (fun H4 => ?_)
    · refine TW.seq ?_
      refine TW.region ?_
      refine TO.y (Y.assign rfl) rfl rfl rfl ?_
      refine TO.nil ?_
      refine TE.next ?_
      refine TW.ret ?_
      refine TE.then_ret ?_
      exact TE.leaf fun _ _ hf_ hs_ => ret_any (rs := [.tmp 4]) (vs := [.bool false]) (.inl rfl) rfl ⟨rfl, trivial⟩ hf_ hs_ ⟨(), rfl, hs_.pulls [] rfl⟩
    · refine TW.skip ?_
      refine TE.next ?_
      refine TW.seq ?_
      refine TW.seq ?_
      refine TW.region ?_
      refine TO.y (Y.field_box kf176_2 rfl rfl) rfl rfl rfl ?_
      refine TO.y (Y.load_box (v := strV a.Val) 1 kk9 rfl rfl rfl) rfl rfl rfl ?_
      refine TO.y (Y.field_box kf176_2 rfl rfl) rfl rfl rfl ?_
      refine TO.y (Y.load_box (v := strV b.Val) 0 kk9 rfl rfl rfl) rfl rfl rfl ?_
      refine TO.y (Y.sneq rfl rfl) rfl rfl rfl ?_
      refine TO.nil ?_
      refine TE.next ?_
      refine TW.cond rfl (fun H5 => ?_) (fun H5 => ?_)
      · refine TW.seq ?_
        refine TW.region ?_
        refine TO.y (Y.assign rfl) rfl rfl rfl ?_
        refine TO.nil ?_
        refine TE.next ?_
        refine TW.ret ?_
        refine TE.then_ret ?_
        exact TE.leaf fun _ _ hf_ hs_ => ret_any (rs := [.tmp 4]) (vs := [.bool false]) (.inl rfl) rfl ⟨rfl, trivial⟩ hf_ hs_ ⟨(), rfl, hs_.pulls [] rfl⟩
      · refine TW.skip ?_
        refine TE.next ?_
        refine TW.seq ?_
        refine TW.region ?_
        refine TO.y (Y.assign rfl) rfl rfl rfl ?_
        refine TO.nil ?_
        refine TE.next ?_
        refine TW.ret ?_
        exact TE.leaf fun _ _ hf_ hs_ => ret_any (rs := [.tmp 4]) (vs := [.bool true]) (.inl rfl) rfl ⟨rfl, trivial⟩ hf_ hs_ ⟨(), rfl, hs_.pulls [] rfl⟩

/-- loop.example/g00950/laws.eqOpS -/
noncomputable def laws_eqOpS (a : List Op) (b : List Op) : Option Bool :=
  if (!(decide (((a.length : Nat) : Int) = ((b.length : Nat) : Int)))) = true then (some false)
  else (bindC (loopO (fun (S2 : Int) => if (decide (S2 < ((a.length : Nat) : Int))) = true then ((idx a S2).bind fun E7 =>
  (idx b S2).bind fun E9 =>
  (laws_eqOp E7 E9).bind fun R11 =>
  if (!R11) = true then (some (.done (.done false)))
  else (some (.go (IntKind.i64.wrap (S2 + (1 : Int))))))
  else (some (.done (.go ()))))
  (0 : Int))
  (fun (T4 : Unit) => some true))

theorem laws_eqOpS_con (a : List Op) (b : List Op) (V_a0 : Value) (V_b0 : Value) (r : Bool) (hm : laws_eqOpS a b = some r) :
    Con Try.prog 88 [V_a0, V_b0] [] [(V_a0, lc a), (V_b0, lc b)] (fun _ : Unit => .bool r) (fun _ => []) := by
  refine Con.intro (args := [V_a0, V_b0]) (n := 27) (val := fun r (_ : Unit) => .bool r) (post := fun _ _ => []) (m := laws_eqOpS a b) Try.func88 rfl rfl rfl hm ?_
  intro w S hrd
  have HB_V_a0 := hrd _ (.head _)
  have HB_V_b0 := hrd _ (.tail _ (.head _))
  clear hrd
  unfold laws_eqOpS
  refine TW.seq ?_
  refine TW.region ?_
  refine TO.y (Y.assign rfl) rfl rfl rfl ?_
  refine TO.nil ?_
  refine TE.next ?_
  refine TW.seq ?_
  refine TW.seq ?_
  refine TW.region ?_
  refine TO.y (Y.move rfl) rfl rfl rfl ?_
  refine TO.y (Y.len (l := a) ke71 (Base.can HB_V_a0) rfl) rfl rfl rfl ?_
  refine TO.y (Y.move rfl) rfl rfl rfl ?_
  refine TO.y (Y.len (l := b) ke71 (Base.can HB_V_b0) rfl) rfl rfl rfl ?_
  refine TO.y (Y.neq rfl rfl) rfl rfl rfl ?_
  refine TO.nil ?_
  refine TE.next ?_
  refine TW.cond rfl (fun H1 => ?_) (fun H1 => ?_)
  · refine TW.seq ?_
    refine TW.region ?_
    refine TO.y (Y.assign rfl) rfl rfl rfl ?_
    refine TO.nil ?_
    refine TE.next ?_
    refine TW.ret ?_
    refine TE.then_ret ?_
    exact TE.leaf fun _ _ hf_ hs_ => ret_any (rs := [.tmp 4]) (vs := [.bool false]) (.inl rfl) rfl ⟨rfl, trivial⟩ hf_ hs_ ⟨(), rfl, hs_.pulls [] rfl⟩
  · refine TW.skip ?_
    refine TE.next ?_
    refine TW.seq ?_
    refine TW.seq ?_
    refine TW.region ?_
    refine TO.y (Y.assign rfl) rfl rfl rfl ?_
    refine TO.nil ?_
    refine TE.next ?_
    refine TW.joinX (τ := Unit) (X := Unit) (fun _ _ => []) (fun _ _ => []) ?_ (fun T4 X5 => ?_)
    · refine TW.block ?_
      refine TW.loopX (σ := Int) (X := Unit) (fun T _ => [(0, V_a0), (1, V_b0), (5, .int .i64 T)]) (fun _ _ => []) () [] ⟨rfl, rfl, rfl, trivial⟩ rfl (fun S2 X3 => ?_)
      refine TW.seq ?_
      refine TW.seq ?_
      refine TW.region ?_
      refine TO.y (Y.move rfl) rfl rfl rfl ?_
      refine TO.y (Y.move rfl) rfl rfl rfl ?_
      refine TO.y (Y.len (l := a) ke71 (Base.can HB_V_a0) rfl) rfl rfl rfl ?_
      refine TO.y (Y.lss rfl rfl) rfl rfl rfl ?_
      refine TO.nil ?_
      refine TE.next ?_
      refine TW.cond rfl (fun H6 => ?_) (fun H6 => ?_)
      · refine TW.skip ?_
        refine TE.next ?_
        refine TW.seq ?_
        refine TW.block ?_
        refine TW.seq ?_
        refine TW.draw (isH := []) hMix ?_
        refine TA.y (listed' := #[true, false, false, false, false, false, false, false, false, false]) 0 [] rfl (Y.move rfl) rfl rfl rfl (by kernel_rfl) (by kernel_rfl) (by kernel_rfl) rfl rfl ?_
        refine TA.y (listed' := #[true, true, false, false, false, false, false, false, false, false]) 1 [] rfl (Y.move rfl) rfl rfl rfl (by kernel_rfl) (by kernel_rfl) (by kernel_rfl) rfl rfl ?_
        refine TA.bind fun E7 H8 => ?_
        refine TA.y (listed' := #[true, true, true, false, false, false, false, false, false, false]) 2 [] rfl (Y.index ke71 (Base.can HB_V_a0) H8 rfl rfl) rfl rfl rfl (by kernel_rfl) (by kernel_rfl) (by kernel_rfl) rfl rfl ?_
        refine TA.y (listed' := #[true, true, true, true, false, false, false, false, false, false]) 3 [] rfl (Y.load_el (us := [strV E7.Key, .bool E7.Del, strV E7.Val]) (u := .agg #[strV E7.Key, .bool E7.Del, strV E7.Val]) kk176 rfl (Base.can HB_V_a0) (idx_get H8).2.2 rfl rfl rfl rfl rfl) rfl rfl rfl (by kernel_rfl) (by kernel_rfl) (by kernel_rfl) rfl rfl ?_
        refine TA.y (listed' := #[true, true, true, true, true, false, false, false, false, false]) 4 [] rfl (Y.move rfl) rfl rfl rfl (by kernel_rfl) (by kernel_rfl) (by kernel_rfl) rfl rfl ?_
        refine TA.y (listed' := #[true, true, true, true, true, true, false, false, false, false]) 5 [] rfl (Y.move rfl) rfl rfl rfl (by kernel_rfl) (by kernel_rfl) (by kernel_rfl) rfl rfl ?_
        refine TA.bind fun E9 H10 => ?_
        refine TA.y (listed' := #[true, true, true, true, true, true, true, false, false, false]) 6 [] rfl (Y.index ke71 (Base.can HB_V_b0) H10 rfl rfl) rfl rfl rfl (by kernel_rfl) (by kernel_rfl) (by kernel_rfl) rfl rfl ?_
        refine TA.y (listed' := #[true, true, true, true, true, true, true, true, false, false]) 7 [] rfl (Y.load_el (us := [strV E9.Key, .bool E9.Del, strV E9.Val]) (u := .agg #[strV E9.Key, .bool E9.Del, strV E9.Val]) kk176 rfl (Base.can HB_V_b0) (idx_get H10).2.2 rfl rfl rfl rfl rfl) rfl rfl rfl (by kernel_rfl) (by kernel_rfl) (by kernel_rfl) rfl rfl ?_
        refine TA.bind fun R11 H12 => ?_
        refine TA.one 8 (by kernel_rfl) ?_
        refine TX.ef (listed' := #[true, true, true, true, true, true, true, true, true, false]) [] rfl (Ef.call (rest := []) [] (laws_eqOp_con E7 E9  R11 H12) kc138 rfl rfl trivial) rfl rfl rfl rfl (fun _ => rfl) (fun _ => ?_)
        refine TA.y (listed' := #[true, true, true, true, true, true, true, true, true, true]) 9 [] rfl (Y.not rfl) rfl rfl rfl (by kernel_rfl) (by kernel_rfl) (by kernel_rfl) rfl rfl ?_
        refine TA.nil (by kernel_rfl) ?_
        refine TE.next ?_
        refine TW.cond rfl (fun H14 => ?_) (fun H14 => ?_)
        · refine TW.seq ?_
          refine TW.region ?_
          refine TO.y (Y.assign rfl) rfl rfl rfl ?_
          refine TO.nil ?_
          refine TE.next ?_
          refine TW.ret ?_
          refine TE.block_ret ?_
          refine TE.then_ret ?_
          refine TE.lp_ret ?_
          refine TE.block_ret ?_
          refine TE.jn_done ?_
          refine TE.then_ret ?_
          exact TE.leaf fun _ _ hf_ hs_ => ret_any (rs := [.tmp 4]) (vs := [.bool false]) (.inl rfl) rfl ⟨rfl, trivial⟩ hf_ hs_ ⟨(), rfl, hs_.pulls [] rfl⟩
        · refine TW.skip ?_
          refine TE.block_normal ?_
          refine TE.next ?_
          refine TW.region ?_
          refine TO.y (Y.move rfl) rfl rfl rfl ?_
          refine TO.y (Y.add rfl rfl) rfl rfl rfl ?_
          refine TO.y (Y.assign rfl) rfl rfl rfl ?_
          refine TO.nil ?_
          exact TE.lp_go () [] ⟨rfl, rfl, rfl, trivial⟩ rfl
      · refine TW.exit ?_
        refine TE.then_exit ?_
        refine TE.lp_exit ?_
        refine TE.block_exit ?_
        exact TE.jn_go () [] trivial rfl
    · refine TE.next ?_
      refine TW.seq ?_
      refine TW.region ?_
      refine TO.y (Y.assign rfl) rfl rfl rfl ?_
      refine TO.nil ?_
      refine TE.next ?_
      refine TW.ret ?_
      exact TE.leaf fun _ _ hf_ hs_ => ret_any (rs := [.tmp 4]) (vs := [.bool true]) (.inl rfl) rfl ⟨rfl, trivial⟩ hf_ hs_ ⟨(), rfl, hs_.pulls [] rfl⟩

end Go.Proofs.Ytamgnhkgcggbhaa
