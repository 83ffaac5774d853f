/-
  The functions that a law reaches, each as a pure function, with the proof that the program computes it, and the step from a pure law to the given statement. Conditions: none.
-/
import Derived.Test.YtahennbogdbnmaaK1
set_option linter.unusedVariables false
set_option maxRecDepth 100000
set_option maxHeartbeats 4000000
namespace Go.Proofs.Ytahennbogdbnmaa
open Go Sl

/-- loop.example/g00950/impl.inOrder -/
noncomputable def impl_inOrder (l : List Ent) : Option Bool :=
  bindC (loopO (fun (S1 : Int) => if (decide (S1 < ((l.length : Nat) : Int))) = true then ((idx l S1).bind fun E6 =>
  ((impl_entOk E6).bind fun R11 =>
  if (!R11) = true then (some true)
  else (if (decide (S1 > (0 : Int))) = true then ((idx l (IntKind.i64.wrap (S1 - (1 : Int)))).bind fun E16 =>
  (impl_compareEnts E16 E6).bind fun R18 =>
  some (decide (R18 ≥ (0 : Int))))
  else (some false))).bind (fun (T9 : Bool) =>
  if T9 = true then (some (.done (.done false)))
  else (some (.go (IntKind.i64.wrap (S1 + (1 : Int)))))))
  else (some (.done (.go ()))))
  (0 : Int))
  (fun (T3 : Unit) => some true)

theorem impl_inOrder_con (l : List Ent) (V_l0 : Value) (r : Bool) (hm : impl_inOrder l = some r) :
    Con Try.prog 47 [V_l0] [] [(V_l0, lc l)] (fun _ : Unit => .bool r) (fun _ => []) := by
  refine Con.intro (args := [V_l0]) (n := 30) (val := fun r (_ : Unit) => .bool r) (post := fun _ _ => []) (m := impl_inOrder l) Try.func47 rfl rfl rfl hm ?_
  intro w S hrd
  have HB_V_l0 := hrd _ (.head _)
  clear hrd
  unfold impl_inOrder
  refine TW.seq ?_
  refine TW.region ?_
  refine TO.y (Y.assign rfl) rfl rfl rfl ?_
  refine TO.nil ?_
  refine TE.next ?_
  refine TW.seq ?_
  refine TW.seq ?_
  refine TW.region ?_
  refine TO.y (Y.move rfl) rfl rfl rfl ?_
  refine TO.y (Y.len (l := l) ke40 (Base.can HB_V_l0) rfl) rfl rfl rfl ?_
  refine TO.y (Y.move rfl) rfl rfl rfl ?_
  refine TO.nil ?_
  refine TE.next ?_
  refine TW.joinX (τ := Unit) (X := Unit) (fun _ _ => []) (fun _ _ => []) ?_ (fun T3 X4 => ?_)
  · refine TW.block ?_
    refine TW.loopX (σ := Int) (X := Unit) (fun T _ => [(0, V_l0), (5, V_l0), (6, .int .i64 ((l.length : Nat) : Int)), (7, .int .i64 T)]) (fun _ _ => []) () [] ⟨rfl, rfl, rfl, rfl, trivial⟩ rfl (fun S1 X2 => ?_)
    refine TW.seq ?_
    refine TW.region ?_
    refine TO.y (Y.lss rfl rfl) rfl rfl rfl ?_
    refine TO.nil ?_
    refine TE.next ?_
    refine TW.seq ?_
    refine TW.cond rfl (fun H5 => ?_) (fun H5 => ?_)
    · refine TW.skip ?_
      refine TE.next ?_
      refine TW.seq ?_
      refine TW.block ?_
      refine TW.seq ?_
      refine TW.region ?_
      refine TO.y (Y.move rfl) rfl rfl rfl ?_
      refine TO.bind fun E6 H7 => ?_
      refine TO.y (Y.index ke40 (Base.can HB_V_l0) H7 rfl rfl) rfl rfl rfl ?_
      refine TO.y (Y.load_el (us := [strV E6.Key, .int .i64 E6.Seq, .bool E6.Del, strV E6.Val]) (u := .agg #[strV E6.Key, .int .i64 E6.Seq, .bool E6.Del, strV E6.Val]) kk81 rfl (Base.can HB_V_l0) (idx_get H7).2.2 rfl rfl rfl rfl rfl) rfl rfl rfl ?_
      refine TO.ef (Ef.alloc kz81 rfl) rfl rfl rfl (fun B8 => ?_)
      refine TO.y (Y.assign rfl) rfl rfl rfl ?_
      refine TO.ef0 (Ef.store_box (us := [strV E6.Key, .int .i64 E6.Seq, .bool E6.Del, strV E6.Val]) (vs' := [strV E6.Key, .int .i64 E6.Seq, .bool E6.Del, strV E6.Val]) (is' := [.box B8 81 [strV E6.Key, .int .i64 E6.Seq, .bool E6.Del, strV E6.Val]]) 0 kk81 rfl rfl rfl (Cel.plain rfl rfl) rfl rfl rfl rfl) rfl rfl (fun _ => ?_)
      refine TO.nil ?_
      refine TE.next ?_
      refine TW.seq ?_
      refine TW.joinBX (τ := Bool) (X := Unit) (fun T _ => [(0, V_l0), (5, V_l0), (6, .int .i64 ((l.length : Nat) : Int)), (7, .int .i64 S1), (28, .bool T)]) (fun _ _ => []) ?_ (fun T9 X10 => ?_)
      · refine TW.draw (isH := [.box B8 81 [strV E6.Key, .int .i64 E6.Seq, .bool E6.Del, strV E6.Val]]) hMix ?_
        refine TA.y (listed' := #[true, false, false, false, false, false, false, false, false, false, false, false, false, false, false, false, false]) 0 [0] rfl (Y.load_box (v := .agg #[strV E6.Key, .int .i64 E6.Seq, .bool E6.Del, strV E6.Val]) 0 kk81 rfl rfl rfl) rfl rfl rfl (by kernel_rfl) (by kernel_rfl) (by kernel_rfl) rfl rfl ?_
        refine TA.bind fun R11 H12 => ?_
        refine TA.one 1 (by kernel_rfl) ?_
        refine TX.ef (listed' := #[true, true, false, false, false, false, false, false, false, false, false, false, false, false, false, false, false]) [0] rfl (Ef.call (rest := [.box B8 81 [strV E6.Key, .int .i64 E6.Seq, .bool E6.Del, strV E6.Val]]) [0] (impl_entOk_con E6  R11 H12) kc74 rfl rfl trivial) rfl rfl rfl rfl (fun _ => rfl) (fun _ => ?_)
        refine TA.y (listed' := #[true, true, true, false, false, false, false, false, false, false, false, false, false, false, false, false, false]) 2 [0] rfl (Y.not rfl) rfl rfl rfl (by kernel_rfl) (by kernel_rfl) (by kernel_rfl) rfl rfl ?_
        refine TA.y (listed' := #[true, true, true, true, false, false, false, false, false, false, false, false, false, false, false, false, false]) 3 [0] rfl (Y.move rfl) rfl rfl rfl (by kernel_rfl) (by kernel_rfl) (by kernel_rfl) rfl rfl ?_
        refine TA.ite (b := !R11) (fun H14 => ?_) (fun H14 => ?_)
        · refine TA.off (listed' := #[true, true, true, true, true, false, false, false, false, false, false, false, false, false, false, false, false]) 4 [0] rfl (Gd.at 3 false 15 (!R11) rfl rfl rfl (beq_tf H14)) rfl rfl (by kernel_rfl) (by kernel_rfl) (by kernel_rfl) rfl rfl ?_
          refine TA.off (listed' := #[true, true, true, true, true, true, false, false, false, false, false, false, false, false, false, false, false]) 5 [0] rfl (Gd.at 3 false 15 (!R11) rfl rfl rfl (beq_tf H14)) rfl rfl (by kernel_rfl) (by kernel_rfl) (by kernel_rfl) rfl rfl ?_
          refine TA.off (listed' := #[true, true, true, true, true, true, true, false, false, false, false, false, false, false, false, false, false]) 6 [0] rfl (Gd.at 3 false 15 (!R11) rfl rfl rfl (beq_tf H14)) rfl rfl (by kernel_rfl) (by kernel_rfl) (by kernel_rfl) rfl rfl ?_
          refine TA.off (listed' := #[true, true, true, true, true, true, true, true, false, false, false, false, false, false, false, false, false]) 7 [0] rfl (Gd.un 6 true 18 rfl rfl rfl) rfl rfl (by kernel_rfl) (by kernel_rfl) (by kernel_rfl) rfl rfl ?_
          refine TA.off (listed' := #[true, true, true, true, true, true, true, true, true, false, false, false, false, false, false, false, false]) 8 [0] rfl (Gd.un 6 true 18 rfl rfl rfl) rfl rfl (by kernel_rfl) (by kernel_rfl) (by kernel_rfl) rfl rfl ?_
          refine TA.off (listed' := #[true, true, true, true, true, true, true, true, true, true, false, false, false, false, false, false, false]) 9 [0] rfl (Gd.un 6 true 18 rfl rfl rfl) rfl rfl (by kernel_rfl) (by kernel_rfl) (by kernel_rfl) rfl rfl ?_
          refine TA.off (listed' := #[true, true, true, true, true, true, true, true, true, true, true, false, false, false, false, false, false]) 10 [0] rfl (Gd.un 6 true 18 rfl rfl rfl) rfl rfl (by kernel_rfl) (by kernel_rfl) (by kernel_rfl) rfl rfl ?_
          refine TA.off (listed' := #[true, true, true, true, true, true, true, true, true, true, true, true, false, false, false, false, false]) 11 [0] rfl (Gd.un 6 true 18 rfl rfl rfl) rfl rfl (by kernel_rfl) (by kernel_rfl) (by kernel_rfl) rfl rfl ?_
          refine TA.off (listed' := #[true, true, true, true, true, true, true, true, true, true, true, true, true, false, false, false, false]) 12 [0] rfl (Gd.un 6 true 18 rfl rfl rfl) rfl rfl (by kernel_rfl) (by kernel_rfl) (by kernel_rfl) rfl rfl ?_
          refine TA.off (listed' := #[true, true, true, true, true, true, true, true, true, true, true, true, true, true, false, false, false]) 13 [0] rfl (Gd.un 6 true 18 rfl rfl rfl) rfl rfl (by kernel_rfl) (by kernel_rfl) (by kernel_rfl) rfl rfl ?_
          refine TA.off (listed' := #[true, true, true, true, true, true, true, true, true, true, true, true, true, true, true, false, false]) 14 [0] rfl (Gd.un 6 true 18 rfl rfl rfl) rfl rfl (by kernel_rfl) (by kernel_rfl) (by kernel_rfl) rfl rfl ?_
          refine TA.off (listed' := #[true, true, true, true, true, true, true, true, true, true, true, true, true, true, true, true, false]) 15 [0] rfl (Gd.at 3 false 15 (!R11) rfl rfl rfl (beq_tf H14)) rfl rfl (by kernel_rfl) (by kernel_rfl) (by kernel_rfl) rfl rfl ?_
          refine TA.y (listed' := #[true, true, true, true, true, true, true, true, true, true, true, true, true, true, true, true, true]) 16 [0] rfl (Y.pick_t H14 rfl rfl) rfl rfl rfl (by kernel_rfl) (by kernel_rfl) (by kernel_rfl) rfl rfl ?_
          refine TA.nil (by kernel_rfl) ?_
          exact TE.jb_go () [] ⟨rfl, rfl, rfl, rfl, rfl, trivial⟩ rfl
        · refine TA.y (listed' := #[true, true, true, true, true, false, false, false, false, false, false, false, false, false, false, false, false]) 4 [0] rfl (Y.move rfl) (Gd.at 3 false 15 (!R11) rfl rfl rfl (beq_ff H14)) rfl rfl (by kernel_rfl) (by kernel_rfl) (by kernel_rfl) rfl rfl ?_
          refine TA.y (listed' := #[true, true, true, true, true, true, false, false, false, false, false, false, false, false, false, false, false]) 5 [0] rfl (Y.gtr rfl rfl) (Gd.at 3 false 15 (!R11) rfl rfl rfl (beq_ff H14)) rfl rfl (by kernel_rfl) (by kernel_rfl) (by kernel_rfl) rfl rfl ?_
          refine TA.y (listed' := #[true, true, true, true, true, true, true, false, false, false, false, false, false, false, false, false, false]) 6 [0] rfl (Y.move rfl) (Gd.at 3 false 15 (!R11) rfl rfl rfl (beq_ff H14)) rfl rfl (by kernel_rfl) (by kernel_rfl) (by kernel_rfl) rfl rfl ?_
          refine TA.ite (b := decide (S1 > (0 : Int))) (fun H15 => ?_) (fun H15 => ?_)
          · refine TA.y (listed' := #[true, true, true, true, true, true, true, true, false, false, false, false, false, false, false, false, false]) 7 [0] rfl (Y.move rfl) (Gd.at 6 true 18 (decide (S1 > (0 : Int))) rfl rfl rfl (beq_tt H15)) rfl rfl (by kernel_rfl) (by kernel_rfl) (by kernel_rfl) rfl rfl ?_
            refine TA.y (listed' := #[true, true, true, true, true, true, true, true, true, false, false, false, false, false, false, false, false]) 8 [0] rfl (Y.move rfl) (Gd.at 6 true 18 (decide (S1 > (0 : Int))) rfl rfl rfl (beq_tt H15)) rfl rfl (by kernel_rfl) (by kernel_rfl) (by kernel_rfl) rfl rfl ?_
            refine TA.y (listed' := #[true, true, true, true, true, true, true, true, true, true, false, false, false, false, false, false, false]) 9 [0] rfl (Y.sub rfl rfl) (Gd.at 6 true 18 (decide (S1 > (0 : Int))) rfl rfl rfl (beq_tt H15)) rfl rfl (by kernel_rfl) (by kernel_rfl) (by kernel_rfl) rfl rfl ?_
            refine TA.bind fun E16 H17 => ?_
            refine TA.y (listed' := #[true, true, true, true, true, true, true, true, true, true, true, false, false, false, false, false, false]) 10 [0] rfl (Y.index ke40 (Base.can HB_V_l0) H17 rfl rfl) (Gd.at 6 true 18 (decide (S1 > (0 : Int))) rfl rfl rfl (beq_tt H15)) rfl rfl (by kernel_rfl) (by kernel_rfl) (by kernel_rfl) rfl rfl ?_
            refine TA.y (listed' := #[true, true, true, true, true, true, true, true, true, true, true, true, false, false, false, false, false]) 11 [0] rfl (Y.load_el (us := [strV E16.Key, .int .i64 E16.Seq, .bool E16.Del, strV E16.Val]) (u := .agg #[strV E16.Key, .int .i64 E16.Seq, .bool E16.Del, strV E16.Val]) kk81 rfl (Base.can HB_V_l0) (idx_get H17).2.2 rfl rfl rfl rfl rfl) (Gd.at 6 true 18 (decide (S1 > (0 : Int))) rfl rfl rfl (beq_tt H15)) rfl rfl (by kernel_rfl) (by kernel_rfl) (by kernel_rfl) rfl rfl ?_
            refine TA.y (listed' := #[true, true, true, true, true, true, true, true, true, true, true, true, true, false, false, false, false]) 12 [0] rfl (Y.load_box (v := .agg #[strV E6.Key, .int .i64 E6.Seq, .bool E6.Del, strV E6.Val]) 0 kk81 rfl rfl rfl) (Gd.at 6 true 18 (decide (S1 > (0 : Int))) rfl rfl rfl (beq_tt H15)) rfl rfl (by kernel_rfl) (by kernel_rfl) (by kernel_rfl) rfl rfl ?_
            refine TA.bind fun R18 H19 => ?_
            refine TA.one 13 (by kernel_rfl) ?_
            refine TX.ef (listed' := #[true, true, true, true, true, true, true, true, true, true, true, true, true, true, false, false, false]) [0] rfl (Ef.call (rest := [.box B8 81 [strV E6.Key, .int .i64 E6.Seq, .bool E6.Del, strV E6.Val]]) [0] (impl_compareEnts_con E16 E6  R18 H19) kc75 rfl rfl trivial) (Gd.at 6 true 18 (decide (S1 > (0 : Int))) rfl rfl rfl (beq_tt H15)) rfl rfl rfl (fun _ => rfl) (fun _ => ?_)
            refine TA.y (listed' := #[true, true, true, true, true, true, true, true, true, true, true, true, true, true, true, false, false]) 14 [0] rfl (Y.geq rfl rfl) (Gd.at 6 true 18 (decide (S1 > (0 : Int))) rfl rfl rfl (beq_tt H15)) rfl rfl (by kernel_rfl) (by kernel_rfl) (by kernel_rfl) rfl rfl ?_
            refine TA.y (listed' := #[true, true, true, true, true, true, true, true, true, true, true, true, true, true, true, true, false]) 15 [0] rfl (Y.pick_t H15 rfl rfl) (Gd.at 3 false 15 (!R11) rfl rfl rfl (beq_ff H14)) rfl rfl (by kernel_rfl) (by kernel_rfl) (by kernel_rfl) rfl rfl ?_
            refine TA.y (listed' := #[true, true, true, true, true, true, true, true, true, true, true, true, true, true, true, true, true]) 16 [0] rfl (Y.pick_f H14 rfl rfl) rfl rfl rfl (by kernel_rfl) (by kernel_rfl) (by kernel_rfl) rfl rfl ?_
            refine TA.nil (by kernel_rfl) ?_
            exact TE.jb_go () [] ⟨rfl, rfl, rfl, rfl, rfl, trivial⟩ rfl
          · refine TA.off (listed' := #[true, true, true, true, true, true, true, true, false, false, false, false, false, false, false, false, false]) 7 [0] rfl (Gd.at 6 true 18 (decide (S1 > (0 : Int))) rfl rfl rfl (beq_ft H15)) rfl rfl (by kernel_rfl) (by kernel_rfl) (by kernel_rfl) rfl rfl ?_
            refine TA.off (listed' := #[true, true, true, true, true, true, true, true, true, false, false, false, false, false, false, false, false]) 8 [0] rfl (Gd.at 6 true 18 (decide (S1 > (0 : Int))) rfl rfl rfl (beq_ft H15)) rfl rfl (by kernel_rfl) (by kernel_rfl) (by kernel_rfl) rfl rfl ?_
            refine TA.off (listed' := #[true, true, true, true, true, true, true, true, true, true, false, false, false, false, false, false, false]) 9 [0] rfl (Gd.at 6 true 18 (decide (S1 > (0 : Int))) rfl rfl rfl (beq_ft H15)) rfl rfl (by kernel_rfl) (by kernel_rfl) (by kernel_rfl) rfl rfl ?_
            refine TA.off (listed' := #[true, true, true, true, true, true, true, true, true, true, true, false, false, false, false, false, false]) 10 [0] rfl (Gd.at 6 true 18 (decide (S1 > (0 : Int))) rfl rfl rfl (beq_ft H15)) rfl rfl (by kernel_rfl) (by kernel_rfl) (by kernel_rfl) rfl rfl ?_
            refine TA.off (listed' := #[true, true, true, true, true, true, true, true, true, true, true, true, false, false, false, false, false]) 11 [0] rfl (Gd.at 6 true 18 (decide (S1 > (0 : Int))) rfl rfl rfl (beq_ft H15)) rfl rfl (by kernel_rfl) (by kernel_rfl) (by kernel_rfl) rfl rfl ?_
            refine TA.off (listed' := #[true, true, true, true, true, true, true, true, true, true, true, true, true, false, false, false, false]) 12 [0] rfl (Gd.at 6 true 18 (decide (S1 > (0 : Int))) rfl rfl rfl (beq_ft H15)) rfl rfl (by kernel_rfl) (by kernel_rfl) (by kernel_rfl) rfl rfl ?_
            refine TA.off (listed' := #[true, true, true, true, true, true, true, true, true, true, true, true, true, true, false, false, false]) 13 [0] rfl (Gd.at 6 true 18 (decide (S1 > (0 : Int))) rfl rfl rfl (beq_ft H15)) rfl rfl (by kernel_rfl) (by kernel_rfl) (by kernel_rfl) rfl rfl ?_
            refine TA.off (listed' := #[true, true, true, true, true, true, true, true, true, true, true, true, true, true, true, false, false]) 14 [0] rfl (Gd.at 6 true 18 (decide (S1 > (0 : Int))) rfl rfl rfl (beq_ft H15)) rfl rfl (by kernel_rfl) (by kernel_rfl) (by kernel_rfl) rfl rfl ?_
            refine TA.y (listed' := #[true, true, true, true, true, true, true, true, true, true, true, true, true, true, true, true, false]) 15 [0] rfl (Y.pick_f H15 rfl rfl) (Gd.at 3 false 15 (!R11) rfl rfl rfl (beq_ff H14)) rfl rfl (by kernel_rfl) (by kernel_rfl) (by kernel_rfl) rfl rfl ?_
            refine TA.y (listed' := #[true, true, true, true, true, true, true, true, true, true, true, true, true, true, true, true, true]) 16 [0] rfl (Y.pick_f H14 rfl rfl) rfl rfl rfl (by kernel_rfl) (by kernel_rfl) (by kernel_rfl) rfl rfl ?_
            refine TA.nil (by kernel_rfl) ?_
            exact TE.jb_go () [] ⟨rfl, rfl, rfl, rfl, rfl, trivial⟩ rfl
      · refine TE.next ?_
        refine TW.cond rfl (fun H21 => ?_) (fun H21 => ?_)
        · refine TW.seq ?_
          refine TW.region ?_
          refine TO.y (Y.assign rfl) rfl rfl rfl ?_
          refine TO.nil ?_
          refine TE.next ?_
          refine TW.ret ?_
          refine TE.block_ret ?_
          refine TE.then_ret ?_
          refine TE.lp_ret ?_
          refine TE.block_ret ?_
          refine TE.jn_done ?_
          refine TE.then_ret ?_
          exact TE.leaf fun _ _ hf_ hs_ => ret_any (rs := [.tmp 2]) (vs := [.bool false]) (.inl rfl) rfl ⟨rfl, trivial⟩ hf_ hs_ ⟨(), rfl, hs_.pulls [] rfl⟩
        · refine TW.skip ?_
          refine TE.block_normal ?_
          refine TE.next ?_
          refine TW.region ?_
          refine TO.y (Y.add rfl rfl) rfl rfl rfl ?_
          refine TO.y (Y.move rfl) rfl rfl rfl ?_
          refine TO.nil ?_
          exact TE.lp_go () [] ⟨rfl, rfl, rfl, rfl, trivial⟩ rfl
    · refine TW.exit ?_
      refine TE.then_exit ?_
      refine TE.lp_exit ?_
      refine TE.block_exit ?_
      exact TE.jn_go () [] trivial rfl
  · refine TE.next ?_
    refine TW.seq ?_
    refine TW.region ?_
    refine TO.y (Y.assign rfl) rfl rfl rfl ?_
    refine TO.nil ?_
    refine TE.next ?_
    refine TW.ret ?_
    exact TE.leaf fun _ _ hf_ hs_ => ret_any (rs := [.tmp 2]) (vs := [.bool true]) (.inl rfl) rfl ⟨rfl, trivial⟩ hf_ hs_ ⟨(), rfl, hs_.pulls [] rfl⟩

/-- loop.example/g00950/impl.isSeen -/
noncomputable def impl_isSeen (l : List Ent) (i : Int) (snaps : List Int) : Option Bool :=
  (if (decide (i = (0 : Int))) = true then (some true)
  else ((idx l (IntKind.i64.wrap (i - (1 : Int)))).bind fun E4 =>
  (idx l i).bind fun E6 =>
  some (!(decide (E4.Key = E6.Key))))).bind (fun (T1 : Bool) =>
  if T1 = true then (some true)
  else (bindC (loopO (fun (S9 : Int) => if (decide (S9 < ((snaps.length : Nat) : Int))) = true then ((idx snaps S9).bind fun E14 =>
  ((idx l i).bind fun E18 =>
  if (decide (E18.Seq ≤ E14)) = true then ((idx l (IntKind.i64.wrap (i - (1 : Int)))).bind fun E21 =>
  some (decide (E14 < E21.Seq)))
  else (some false)).bind (fun (T16 : Bool) =>
  if T16 = true then (some (.done (.done true)))
  else (some (.go (IntKind.i64.wrap (S9 + (1 : Int)))))))
  else (some (.done (.go ()))))
  (0 : Int))
  (fun (T11 : Unit) => some false)))

theorem impl_isSeen_con (l : List Ent) (i : Int) (snaps : List Int) (V_l0 : Value) (V_snaps0 : Value) (r : Bool) (hm : impl_isSeen l i snaps = some r) :
    Con Try.prog 76 [V_l0, .int .i64 i, V_snaps0] [] [(V_l0, lc l), (V_snaps0, lc snaps)] (fun _ : Unit => .bool r) (fun _ => []) := by
  refine Con.intro (args := [V_l0, .int .i64 i, V_snaps0]) (n := 51) (val := fun r (_ : Unit) => .bool r) (post := fun _ _ => []) (m := impl_isSeen l i snaps) Try.func76 rfl rfl rfl hm ?_
  intro w S hrd
  have HB_V_l0 := hrd _ (.head _)
  have HB_V_snaps0 := hrd _ (.tail _ (.head _))
  clear hrd
  unfold impl_isSeen
  refine TW.seq ?_
  refine TW.region ?_
  refine TO.y (Y.assign rfl) rfl rfl rfl ?_
  refine TO.nil ?_
  refine TE.next ?_
  refine TW.seq ?_
  refine TW.joinBX (τ := Bool) (X := Unit) (fun T _ => [(0, V_l0), (1, .int .i64 i), (2, V_snaps0), (7, .bool T)]) (fun _ _ => []) ?_ (fun T1 X2 => ?_)
  · refine TW.draw (isH := []) hMix ?_
    refine TA.y (listed' := #[true, false, false, false, false, false, false, false, false, false, false, false, false, false, false, false, false]) 0 [] rfl (Y.move rfl) rfl rfl rfl (by kernel_rfl) (by kernel_rfl) (by kernel_rfl) rfl rfl ?_
    refine TA.y (listed' := #[true, true, false, false, false, false, false, false, false, false, false, false, false, false, false, false, false]) 1 [] rfl (Y.eql rfl rfl) rfl rfl rfl (by kernel_rfl) (by kernel_rfl) (by kernel_rfl) rfl rfl ?_
    refine TA.y (listed' := #[true, true, true, false, false, false, false, false, false, false, false, false, false, false, false, false, false]) 2 [] rfl (Y.move rfl) rfl rfl rfl (by kernel_rfl) (by kernel_rfl) (by kernel_rfl) rfl rfl ?_
    refine TA.ite (b := decide (i = (0 : Int))) (fun H3 => ?_) (fun H3 => ?_)
    · refine TA.off (listed' := #[true, true, true, true, false, false, false, false, false, false, false, false, false, false, false, false, false]) 3 [] rfl (Gd.at 2 false 12 (decide (i = (0 : Int))) rfl rfl rfl (beq_tf H3)) rfl rfl (by kernel_rfl) (by kernel_rfl) (by kernel_rfl) rfl rfl ?_
      refine TA.off (listed' := #[true, true, true, true, true, false, false, false, false, false, false, false, false, false, false, false, false]) 4 [] rfl (Gd.at 2 false 12 (decide (i = (0 : Int))) rfl rfl rfl (beq_tf H3)) rfl rfl (by kernel_rfl) (by kernel_rfl) (by kernel_rfl) rfl rfl ?_
      refine TA.off (listed' := #[true, true, true, true, true, true, false, false, false, false, false, false, false, false, false, false, false]) 5 [] rfl (Gd.at 2 false 12 (decide (i = (0 : Int))) rfl rfl rfl (beq_tf H3)) rfl rfl (by kernel_rfl) (by kernel_rfl) (by kernel_rfl) rfl rfl ?_
      refine TA.off (listed' := #[true, true, true, true, true, true, true, false, false, false, false, false, false, false, false, false, false]) 6 [] rfl (Gd.at 2 false 12 (decide (i = (0 : Int))) rfl rfl rfl (beq_tf H3)) rfl rfl (by kernel_rfl) (by kernel_rfl) (by kernel_rfl) rfl rfl ?_
      refine TA.off (listed' := #[true, true, true, true, true, true, true, true, false, false, false, false, false, false, false, false, false]) 7 [] rfl (Gd.at 2 false 12 (decide (i = (0 : Int))) rfl rfl rfl (beq_tf H3)) rfl rfl (by kernel_rfl) (by kernel_rfl) (by kernel_rfl) rfl rfl ?_
      refine TA.off (listed' := #[true, true, true, true, true, true, true, true, true, false, false, false, false, false, false, false, false]) 8 [] rfl (Gd.at 2 false 12 (decide (i = (0 : Int))) rfl rfl rfl (beq_tf H3)) rfl rfl (by kernel_rfl) (by kernel_rfl) (by kernel_rfl) rfl rfl ?_
      refine TA.off (listed' := #[true, true, true, true, true, true, true, true, true, true, false, false, false, false, false, false, false]) 9 [] rfl (Gd.at 2 false 12 (decide (i = (0 : Int))) rfl rfl rfl (beq_tf H3)) rfl rfl (by kernel_rfl) (by kernel_rfl) (by kernel_rfl) rfl rfl ?_
      refine TA.off (listed' := #[true, true, true, true, true, true, true, true, true, true, true, false, false, false, false, false, false]) 10 [] rfl (Gd.at 2 false 12 (decide (i = (0 : Int))) rfl rfl rfl (beq_tf H3)) rfl rfl (by kernel_rfl) (by kernel_rfl) (by kernel_rfl) rfl rfl ?_
      refine TA.off (listed' := #[true, true, true, true, true, true, true, true, true, true, true, true, false, false, false, false, false]) 11 [] rfl (Gd.at 2 false 12 (decide (i = (0 : Int))) rfl rfl rfl (beq_tf H3)) rfl rfl (by kernel_rfl) (by kernel_rfl) (by kernel_rfl) rfl rfl ?_
      refine TA.off (listed' := #[true, true, true, true, true, true, true, true, true, true, true, true, true, false, false, false, false]) 12 [] rfl (Gd.at 2 false 12 (decide (i = (0 : Int))) rfl rfl rfl (beq_tf H3)) rfl rfl (by kernel_rfl) (by kernel_rfl) (by kernel_rfl) rfl rfl ?_
      refine TA.off (listed' := #[true, true, true, true, true, true, true, true, true, true, true, true, true, true, false, false, false]) 13 [] rfl (Gd.at 2 false 12 (decide (i = (0 : Int))) rfl rfl rfl (beq_tf H3)) rfl rfl (by kernel_rfl) (by kernel_rfl) (by kernel_rfl) rfl rfl ?_
      refine TA.off (listed' := #[true, true, true, true, true, true, true, true, true, true, true, true, true, true, true, false, false]) 14 [] rfl (Gd.at 2 false 12 (decide (i = (0 : Int))) rfl rfl rfl (beq_tf H3)) rfl rfl (by kernel_rfl) (by kernel_rfl) (by kernel_rfl) rfl rfl ?_
      refine TA.y (listed' := #[true, true, true, true, true, true, true, true, true, true, true, true, true, true, true, true, false]) 15 [] rfl (Y.pick_t H3 rfl rfl) rfl rfl rfl (by kernel_rfl) (by kernel_rfl) (by kernel_rfl) rfl rfl ?_
      refine TA.y (listed' := #[true, true, true, true, true, true, true, true, true, true, true, true, true, true, true, true, true]) 16 [] rfl (Y.assign rfl) rfl rfl rfl (by kernel_rfl) (by kernel_rfl) (by kernel_rfl) rfl rfl ?_
      refine TA.nil (by kernel_rfl) ?_
      exact TE.jb_go () [] ⟨rfl, rfl, rfl, rfl, trivial⟩ rfl
    · refine TA.y (listed' := #[true, true, true, true, false, false, false, false, false, false, false, false, false, false, false, false, false]) 3 [] rfl (Y.move rfl) (Gd.at 2 false 12 (decide (i = (0 : Int))) rfl rfl rfl (beq_ff H3)) rfl rfl (by kernel_rfl) (by kernel_rfl) (by kernel_rfl) rfl rfl ?_
      refine TA.y (listed' := #[true, true, true, true, true, false, false, false, false, false, false, false, false, false, false, false, false]) 4 [] rfl (Y.move rfl) (Gd.at 2 false 12 (decide (i = (0 : Int))) rfl rfl rfl (beq_ff H3)) rfl rfl (by kernel_rfl) (by kernel_rfl) (by kernel_rfl) rfl rfl ?_
      refine TA.y (listed' := #[true, true, true, true, true, true, false, false, false, false, false, false, false, false, false, false, false]) 5 [] rfl (Y.sub rfl rfl) (Gd.at 2 false 12 (decide (i = (0 : Int))) rfl rfl rfl (beq_ff H3)) rfl rfl (by kernel_rfl) (by kernel_rfl) (by kernel_rfl) rfl rfl ?_
      refine TA.bind fun E4 H5 => ?_
      refine TA.y (listed' := #[true, true, true, true, true, true, true, false, false, false, false, false, false, false, false, false, false]) 6 [] rfl (Y.index ke40 (Base.can HB_V_l0) H5 rfl rfl) (Gd.at 2 false 12 (decide (i = (0 : Int))) rfl rfl rfl (beq_ff H3)) rfl rfl (by kernel_rfl) (by kernel_rfl) (by kernel_rfl) rfl rfl ?_
      refine TA.y (listed' := #[true, true, true, true, true, true, true, true, false, false, false, false, false, false, false, false, false]) 7 [] rfl (Y.field_el kf81_0 (Base.can HB_V_l0) (idx_get H5).2.2 rfl rfl) (Gd.at 2 false 12 (decide (i = (0 : Int))) rfl rfl rfl (beq_ff H3)) rfl rfl (by kernel_rfl) (by kernel_rfl) (by kernel_rfl) rfl rfl ?_
      refine TA.y (listed' := #[true, true, true, true, true, true, true, true, true, false, false, false, false, false, false, false, false]) 8 [] rfl (Y.load_el (us := [strV E4.Key]) (u := strV E4.Key) kk9 rfl (Base.can HB_V_l0) (idx_get H5).2.2 rfl rfl rfl rfl rfl) (Gd.at 2 false 12 (decide (i = (0 : Int))) rfl rfl rfl (beq_ff H3)) rfl rfl (by kernel_rfl) (by kernel_rfl) (by kernel_rfl) rfl rfl ?_
      refine TA.y (listed' := #[true, true, true, true, true, true, true, true, true, true, false, false, false, false, false, false, false]) 9 [] rfl (Y.move rfl) (Gd.at 2 false 12 (decide (i = (0 : Int))) rfl rfl rfl (beq_ff H3)) rfl rfl (by kernel_rfl) (by kernel_rfl) (by kernel_rfl) rfl rfl ?_
      refine TA.y (listed' := #[true, true, true, true, true, true, true, true, true, true, true, false, false, false, false, false, false]) 10 [] rfl (Y.move rfl) (Gd.at 2 false 12 (decide (i = (0 : Int))) rfl rfl rfl (beq_ff H3)) rfl rfl (by kernel_rfl) (by kernel_rfl) (by kernel_rfl) rfl rfl ?_
      refine TA.bind fun E6 H7 => ?_
      refine TA.y (listed' := #[true, true, true, true, true, true, true, true, true, true, true, true, false, false, false, false, false]) 11 [] rfl (Y.index ke40 (Base.can HB_V_l0) H7 rfl rfl) (Gd.at 2 false 12 (decide (i = (0 : Int))) rfl rfl rfl (beq_ff H3)) rfl rfl (by kernel_rfl) (by kernel_rfl) (by kernel_rfl) rfl rfl ?_
      refine TA.y (listed' := #[true, true, true, true, true, true, true, true, true, true, true, true, true, false, false, false, false]) 12 [] rfl (Y.field_el kf81_0 (Base.can HB_V_l0) (idx_get H7).2.2 rfl rfl) (Gd.at 2 false 12 (decide (i = (0 : Int))) rfl rfl rfl (beq_ff H3)) rfl rfl (by kernel_rfl) (by kernel_rfl) (by kernel_rfl) rfl rfl ?_
      refine TA.y (listed' := #[true, true, true, true, true, true, true, true, true, true, true, true, true, true, false, false, false]) 13 [] rfl (Y.load_el (us := [strV E6.Key]) (u := strV E6.Key) kk9 rfl (Base.can HB_V_l0) (idx_get H7).2.2 rfl rfl rfl rfl rfl) (Gd.at 2 false 12 (decide (i = (0 : Int))) rfl rfl rfl (beq_ff H3)) rfl rfl (by kernel_rfl) (by kernel_rfl) (by kernel_rfl) rfl rfl ?_
      refine TA.y (listed' := #[true, true, true, true, true, true, true, true, true, true, true, true, true, true, true, false, false]) 14 [] rfl (Y.sneq rfl rfl) (Gd.at 2 false 12 (decide (i = (0 : Int))) rfl rfl rfl (beq_ff H3)) rfl rfl (by kernel_rfl) (by kernel_rfl) (by kernel_rfl) rfl rfl ?_
      refine TA.y (listed' := #[true, true, true, true, true, true, true, true, true, true, true, true, true, true, true, true, false]) 15 [] rfl (Y.pick_f H3 rfl rfl) rfl rfl rfl (by kernel_rfl) (by kernel_rfl) (by kernel_rfl) rfl rfl ?_
      refine TA.y (listed' := #[true, true, true, true, true, true, true, true, true, true, true, true, true, true, true, true, true]) 16 [] rfl (Y.assign rfl) rfl rfl rfl (by kernel_rfl) (by kernel_rfl) (by kernel_rfl) rfl rfl ?_
      refine TA.nil (by kernel_rfl) ?_
      exact TE.jb_go () [] ⟨rfl, rfl, rfl, rfl, trivial⟩ rfl
  · refine TE.next ?_
    refine TW.seq ?_
    refine TW.seq ?_
    refine TW.region ?_
    refine TO.y (Y.move rfl) rfl rfl rfl ?_
    refine TO.nil ?_
    refine TE.next ?_
    refine TW.cond rfl (fun H8 => ?_) (fun H8 => ?_)
    · refine TW.seq ?_
      refine TW.region ?_
      refine TO.y (Y.assign rfl) rfl rfl rfl ?_
      refine TO.nil ?_
      refine TE.next ?_
      refine TW.ret ?_
      refine TE.then_ret ?_
      exact TE.leaf fun _ _ hf_ hs_ => ret_any (rs := [.tmp 6]) (vs := [.bool true]) (.inl rfl) rfl ⟨rfl, trivial⟩ hf_ hs_ ⟨(), rfl, hs_.pulls [] rfl⟩
    · refine TW.skip ?_
      refine TE.next ?_
      refine TW.seq ?_
      refine TW.seq ?_
      refine TW.region ?_
      refine TO.y (Y.move rfl) rfl rfl rfl ?_
      refine TO.y (Y.len (l := snaps) ke41 (Base.can HB_V_snaps0) rfl) rfl rfl rfl ?_
      refine TO.y (Y.move rfl) rfl rfl rfl ?_
      refine TO.nil ?_
      refine TE.next ?_
      refine TW.joinX (τ := Unit) (X := Unit) (fun _ _ => []) (fun _ _ => []) ?_ (fun T11 X12 => ?_)
      · refine TW.block ?_
        refine TW.loopX (σ := Int) (X := Unit) (fun T _ => [(0, V_l0), (1, .int .i64 i), (27, V_snaps0), (28, .int .i64 ((snaps.length : Nat) : Int)), (29, .int .i64 T)]) (fun _ _ => []) () [] ⟨rfl, rfl, rfl, rfl, rfl, trivial⟩ rfl (fun S9 X10 => ?_)
        refine TW.seq ?_
        refine TW.region ?_
        refine TO.y (Y.lss rfl rfl) rfl rfl rfl ?_
        refine TO.nil ?_
        refine TE.next ?_
        refine TW.seq ?_
        refine TW.cond rfl (fun H13 => ?_) (fun H13 => ?_)
        · refine TW.skip ?_
          refine TE.next ?_
          refine TW.seq ?_
          refine TW.block ?_
          refine TW.seq ?_
          refine TW.region ?_
          refine TO.bind fun E14 H15 => ?_
          refine TO.y (Y.index ke41 (Base.can HB_V_snaps0) H15 rfl rfl) rfl rfl rfl ?_
          refine TO.y (Y.load_el (us := [.int .i64 E14]) (u := .int .i64 E14) kk3 rfl (Base.can HB_V_snaps0) (idx_get H15).2.2 rfl rfl rfl rfl rfl) rfl rfl rfl ?_
          refine TO.y (Y.assign rfl) rfl rfl rfl ?_
          refine TO.nil ?_
          refine TE.next ?_
          refine TW.seq ?_
          refine TW.joinBX (τ := Bool) (X := Unit) (fun T _ => [(0, V_l0), (1, .int .i64 i), (27, V_snaps0), (28, .int .i64 ((snaps.length : Nat) : Int)), (29, .int .i64 S9), (49, .bool T)]) (fun _ _ => []) ?_ (fun T16 X17 => ?_)
          · refine TW.region ?_
            refine TO.y (Y.move rfl) rfl rfl rfl ?_
            refine TO.y (Y.move rfl) rfl rfl rfl ?_
            refine TO.bind fun E18 H19 => ?_
            refine TO.y (Y.index ke40 (Base.can HB_V_l0) H19 rfl rfl) rfl rfl rfl ?_
            refine TO.y (Y.field_el kf81_1 (Base.can HB_V_l0) (idx_get H19).2.2 rfl rfl) rfl rfl rfl ?_
            refine TO.y (Y.load_el (us := [.int .i64 E18.Seq]) (u := .int .i64 E18.Seq) kk3 rfl (Base.can HB_V_l0) (idx_get H19).2.2 rfl rfl rfl rfl rfl) rfl rfl rfl ?_
            refine TO.y (Y.move rfl) rfl rfl rfl ?_
            refine TO.y (Y.leq rfl rfl) rfl rfl rfl ?_
            refine TO.y (Y.move rfl) rfl rfl rfl ?_
            refine TO.ite (b := decide (E18.Seq ≤ E14)) (fun H20 => ?_) (fun H20 => ?_)
            · refine TO.y (Y.move rfl) (Gd.at 7 true 40 (decide (E18.Seq ≤ E14)) rfl rfl rfl (beq_tt H20)) rfl rfl ?_
              refine TO.y (Y.move rfl) (Gd.at 7 true 40 (decide (E18.Seq ≤ E14)) rfl rfl rfl (beq_tt H20)) rfl rfl ?_
              refine TO.y (Y.move rfl) (Gd.at 7 true 40 (decide (E18.Seq ≤ E14)) rfl rfl rfl (beq_tt H20)) rfl rfl ?_
              refine TO.y (Y.sub rfl rfl) (Gd.at 7 true 40 (decide (E18.Seq ≤ E14)) rfl rfl rfl (beq_tt H20)) rfl rfl ?_
              refine TO.bind fun E21 H22 => ?_
              refine TO.y (Y.index ke40 (Base.can HB_V_l0) H22 rfl rfl) (Gd.at 7 true 40 (decide (E18.Seq ≤ E14)) rfl rfl rfl (beq_tt H20)) rfl rfl ?_
              refine TO.y (Y.field_el kf81_1 (Base.can HB_V_l0) (idx_get H22).2.2 rfl rfl) (Gd.at 7 true 40 (decide (E18.Seq ≤ E14)) rfl rfl rfl (beq_tt H20)) rfl rfl ?_
              refine TO.y (Y.load_el (us := [.int .i64 E21.Seq]) (u := .int .i64 E21.Seq) kk3 rfl (Base.can HB_V_l0) (idx_get H22).2.2 rfl rfl rfl rfl rfl) (Gd.at 7 true 40 (decide (E18.Seq ≤ E14)) rfl rfl rfl (beq_tt H20)) rfl rfl ?_
              refine TO.y (Y.lss rfl rfl) (Gd.at 7 true 40 (decide (E18.Seq ≤ E14)) rfl rfl rfl (beq_tt H20)) rfl rfl ?_
              refine TO.y (Y.pick_t H20 rfl rfl) rfl rfl rfl ?_
              refine TO.nil ?_
              exact TE.jb_go () [] ⟨rfl, rfl, rfl, rfl, rfl, rfl, trivial⟩ rfl
            · refine TO.off (Gd.at 7 true 40 (decide (E18.Seq ≤ E14)) rfl rfl rfl (beq_ft H20)) rfl rfl ?_
              refine TO.off (Gd.at 7 true 40 (decide (E18.Seq ≤ E14)) rfl rfl rfl (beq_ft H20)) rfl rfl ?_
              refine TO.off (Gd.at 7 true 40 (decide (E18.Seq ≤ E14)) rfl rfl rfl (beq_ft H20)) rfl rfl ?_
              refine TO.off (Gd.at 7 true 40 (decide (E18.Seq ≤ E14)) rfl rfl rfl (beq_ft H20)) rfl rfl ?_
              refine TO.off (Gd.at 7 true 40 (decide (E18.Seq ≤ E14)) rfl rfl rfl (beq_ft H20)) rfl rfl ?_
              refine TO.off (Gd.at 7 true 40 (decide (E18.Seq ≤ E14)) rfl rfl rfl (beq_ft H20)) rfl rfl ?_
              refine TO.off (Gd.at 7 true 40 (decide (E18.Seq ≤ E14)) rfl rfl rfl (beq_ft H20)) rfl rfl ?_
              refine TO.off (Gd.at 7 true 40 (decide (E18.Seq ≤ E14)) rfl rfl rfl (beq_ft H20)) rfl rfl ?_
              refine TO.y (Y.pick_f H20 rfl rfl) rfl rfl rfl ?_
              refine TO.nil ?_
              exact TE.jb_go () [] ⟨rfl, rfl, rfl, rfl, rfl, rfl, trivial⟩ rfl
          · refine TE.next ?_
            refine TW.cond rfl (fun H23 => ?_) (fun H23 => ?_)
            · refine TW.seq ?_
              refine TW.region ?_
              refine TO.y (Y.assign rfl) rfl rfl rfl ?_
              refine TO.nil ?_
              refine TE.next ?_
              refine TW.ret ?_
              refine TE.block_ret ?_
              refine TE.then_ret ?_
              refine TE.lp_ret ?_
              refine TE.block_ret ?_
              refine TE.jn_done ?_
              refine TE.then_ret ?_
              exact TE.leaf fun _ _ hf_ hs_ => ret_any (rs := [.tmp 6]) (vs := [.bool true]) (.inl rfl) rfl ⟨rfl, trivial⟩ hf_ hs_ ⟨(), rfl, hs_.pulls [] rfl⟩
            · refine TW.skip ?_
              refine TE.block_normal ?_
              refine TE.next ?_
              refine TW.region ?_
              refine TO.y (Y.add rfl rfl) rfl rfl rfl ?_
              refine TO.y (Y.move rfl) rfl rfl rfl ?_
              refine TO.nil ?_
              exact TE.lp_go () [] ⟨rfl, rfl, rfl, rfl, rfl, trivial⟩ rfl
        · refine TW.exit ?_
          refine TE.then_exit ?_
          refine TE.lp_exit ?_
          refine TE.block_exit ?_
          exact TE.jn_go () [] trivial rfl
      · refine TE.next ?_
        refine TW.seq ?_
        refine TW.region ?_
        refine TO.y (Y.assign rfl) rfl rfl rfl ?_
        refine TO.nil ?_
        refine TE.next ?_
        refine TW.ret ?_
        exact TE.leaf fun _ _ hf_ hs_ => ret_any (rs := [.tmp 6]) (vs := [.bool false]) (.inl rfl) rfl ⟨rfl, trivial⟩ hf_ hs_ ⟨(), rfl, hs_.pulls [] rfl⟩

/-- slices.Reverse[[]loop.example/g00950/impl.Ent,loop.example/g00950/impl.Ent] -/
noncomputable def slices_Reverse_94167 (s : List Ent) : Option (List Ent) :=
  bindC (loopO (fun (S1 : Int × Int × List Ent) => if (decide (S1.1 < S1.2.1)) = true then ((idx S1.2.2 S1.2.1).bind fun E6 =>
  (idx S1.2.2 S1.1).bind fun E8 =>
  (idx (S1.2.2.set S1.1.toNat E6) S1.2.1).bind fun E10 =>
  some (.go (IntKind.i64.wrap (S1.1 + (1 : Int)), IntKind.i64.wrap (S1.2.1 - (1 : Int)), ((S1.2.2.set S1.1.toNat E6).set S1.2.1.toNat E8))))
  else (some (.done (.go S1.2.2))))
  ((0 : Int), IntKind.i64.wrap (((s.length : Nat) : Int) - (1 : Int)), s))
  (fun (T3 : List Ent) => some T3)

theorem slices_Reverse_94167_con (s : List Ent) (V_s0 : Value) (r : List Ent) (hm : slices_Reverse_94167 s = some r) :
    Con Try.prog 77 [V_s0] [.own V_s0 (lc s)] [] (fun _ : Unit => .tuple #[]) (fun _ => [.own V_s0 (lc r)]) := by
  refine Con.intro (args := [V_s0]) (n := 28) (val := fun _ (_ : Unit) => .tuple #[]) (post := fun r _ => [.own V_s0 (lc r)]) (m := slices_Reverse_94167 s) Try.func77 rfl rfl rfl hm ?_
  intro w S _
  unfold slices_Reverse_94167
  refine TW.seq ?_
  refine TW.region ?_
  refine TO.y (Y.move rfl) rfl rfl rfl ?_
  refine TO.y (Y.len (l := s) ke40 (Can.own 0 rfl) rfl) rfl rfl rfl ?_
  refine TO.y (Y.sub rfl rfl) rfl rfl rfl ?_
  refine TO.y (Y.assign rfl) rfl rfl rfl ?_
  refine TO.y (Y.assign rfl) rfl rfl rfl ?_
  refine TO.nil ?_
  refine TE.next ?_
  refine TW.joinX (τ := List Ent) (X := Unit) (fun _ _ => []) (fun T _ => [.own V_s0 (lc T)]) ?_ (fun T3 X4 => ?_)
  · refine TW.block ?_
    refine TW.loopX (σ := Int × Int × List Ent) (X := Unit) (fun T _ => [(0, V_s0), (2, .int .i64 T.1), (3, .int .i64 T.2.1)]) (fun T _ => [.own V_s0 (lc T.2.2)]) () [0] ⟨rfl, rfl, rfl, trivial⟩ rfl (fun S1 X2 => ?_)
    refine TW.seq ?_
    refine TW.seq ?_
    refine TW.region ?_
    refine TO.y (Y.move rfl) rfl rfl rfl ?_
    refine TO.y (Y.move rfl) rfl rfl rfl ?_
    refine TO.y (Y.lss rfl rfl) rfl rfl rfl ?_
    refine TO.nil ?_
    refine TE.next ?_
    refine TW.cond rfl (fun H5 => ?_) (fun H5 => ?_)
    · refine TW.skip ?_
      refine TE.next ?_
      refine TW.seq ?_
      refine TW.block ?_
      refine TW.bind fun E6 H7 => ?_
      refine TW.bind fun E8 H9 => ?_
      refine TW.bind fun E10 H11 => ?_
      refine TW.joinU (X := Unit) (fun _ _ => [(0, V_s0), (2, .int .i64 S1.1), (3, .int .i64 S1.2.1)]) (fun _ _ => [.own V_s0 (lc ((S1.2.2.set S1.1.toNat E6).set S1.2.1.toNat E8))]) ?_ (fun _ X13 => ?_)
      · refine TW.draw (isH := []) hMix ?_
        refine TA.y (listed' := #[true, false, false, false, false, false, false, false, false, false, false, false, false, false, false, false]) 0 [] rfl (Y.move rfl) rfl rfl rfl (by kernel_rfl) (by kernel_rfl) (by kernel_rfl) rfl rfl ?_
        refine TA.y (listed' := #[true, true, false, false, false, false, false, false, false, false, false, false, false, false, false, false]) 1 [] rfl (Y.move rfl) rfl rfl rfl (by kernel_rfl) (by kernel_rfl) (by kernel_rfl) rfl rfl ?_
        refine TA.y (listed' := #[true, true, true, false, false, false, false, false, false, false, false, false, false, false, false, false]) 2 [] rfl (Y.move rfl) rfl rfl rfl (by kernel_rfl) (by kernel_rfl) (by kernel_rfl) rfl rfl ?_
        refine TA.y (listed' := #[true, true, true, true, false, false, false, false, false, false, false, false, false, false, false, false]) 3 [] rfl (Y.move rfl) rfl rfl rfl (by kernel_rfl) (by kernel_rfl) (by kernel_rfl) rfl rfl ?_
        refine TA.y (listed' := #[true, true, true, true, true, false, false, false, false, false, false, false, false, false, false, false]) 4 [] rfl (Y.move rfl) rfl rfl rfl (by kernel_rfl) (by kernel_rfl) (by kernel_rfl) rfl rfl ?_
        refine TA.y (listed' := #[true, true, true, true, true, true, false, false, false, false, false, false, false, false, false, false]) 5 [] rfl (Y.move rfl) rfl rfl rfl (by kernel_rfl) (by kernel_rfl) (by kernel_rfl) rfl rfl ?_
        refine TA.y (listed' := #[true, true, true, true, true, true, false, false, true, false, false, false, false, false, false, false]) 8 [] rfl (Y.move rfl) rfl rfl rfl (by kernel_rfl) (by kernel_rfl) (by kernel_rfl) rfl rfl ?_
        refine TA.y (listed' := #[true, true, true, true, true, true, false, false, true, true, false, false, false, false, false, false]) 9 [] rfl (Y.move rfl) rfl rfl rfl (by kernel_rfl) (by kernel_rfl) (by kernel_rfl) rfl rfl ?_
        refine TA.two 6 10 (by kernel_rfl) ?_ ?_
        · refine TX.y (listed' := #[true, true, true, true, true, true, true, false, true, true, false, false, false, false, false, false]) [] rfl (Y.index ke40 (Can.own 0 rfl) H7 rfl rfl) rfl rfl rfl rfl rfl ?_
          refine TA.two 7 10 (by kernel_rfl) ?_ ?_
          · refine TX.y (listed' := #[true, true, true, true, true, true, true, true, true, true, false, false, false, false, false, false]) [] rfl (Y.load_el (us := [strV E6.Key, .int .i64 E6.Seq, .bool E6.Del, strV E6.Val]) (u := .agg #[strV E6.Key, .int .i64 E6.Seq, .bool E6.Del, strV E6.Val]) kk81 rfl (Can.own 0 rfl) (idx_get H7).2.2 rfl rfl rfl rfl rfl) rfl rfl rfl rfl rfl ?_
            refine TA.one 10 (by kernel_rfl) ?_
            refine TX.y (listed' := #[true, true, true, true, true, true, true, true, true, true, true, false, false, false, false, false]) [] rfl (Y.index ke40 (Can.own 0 rfl) H9 rfl rfl) rfl rfl rfl rfl rfl ?_
            refine TA.one 11 (by kernel_rfl) ?_
            refine TX.y (listed' := #[true, true, true, true, true, true, true, true, true, true, true, true, false, false, false, false]) [] rfl (Y.load_el (us := [strV E8.Key, .int .i64 E8.Seq, .bool E8.Del, strV E8.Val]) (u := .agg #[strV E8.Key, .int .i64 E8.Seq, .bool E8.Del, strV E8.Val]) kk81 rfl (Can.own 0 rfl) (idx_get H9).2.2 rfl rfl rfl rfl rfl) rfl rfl rfl rfl rfl ?_
            refine TA.one 12 (by kernel_rfl) ?_
            refine TX.y (listed' := #[true, true, true, true, true, true, true, true, true, true, true, true, true, false, false, false]) [] rfl (Y.index ke40 (Can.own 0 rfl) H9 rfl rfl) rfl rfl rfl rfl rfl ?_
            refine TA.one 13 (by kernel_rfl) ?_
            refine TX.ef0 (listed' := #[true, true, true, true, true, true, true, true, true, true, true, true, true, true, false, false]) [] rfl (Ef.store_el (us := [strV E6.Key, .int .i64 E6.Seq, .bool E6.Del, strV E6.Val]) (is' := [.own V_s0 (lc (S1.2.2.set S1.1.toNat E6))]) E6 0 kk81 rfl rfl (idx_get H9).2.2 rfl rfl (Cel.plain rfl rfl) rfl rfl rfl rfl) rfl rfl rfl (fun _ => rfl) (fun _ => ?_)
            refine TA.one 14 (by kernel_rfl) ?_
            refine TX.y (listed' := #[true, true, true, true, true, true, true, true, true, true, true, true, true, true, true, false]) [] rfl (Y.index ke40 (Can.own 0 rfl) H11 rfl rfl) rfl rfl rfl rfl rfl ?_
            refine TA.one 15 (by kernel_rfl) ?_
            refine TX.ef0 (listed' := #[true, true, true, true, true, true, true, true, true, true, true, true, true, true, true, true]) [] rfl (Ef.store_el (us := [strV E8.Key, .int .i64 E8.Seq, .bool E8.Del, strV E8.Val]) (is' := [.own V_s0 (lc ((S1.2.2.set S1.1.toNat E6).set S1.2.1.toNat E8))]) E8 0 kk81 rfl rfl (idx_get H11).2.2 rfl rfl (Cel.plain rfl rfl) rfl rfl rfl rfl) rfl rfl rfl (fun _ => rfl) (fun _ => ?_)
            refine TA.nil (by kernel_rfl) ?_
            exact TE.jb_go () [0] ⟨rfl, rfl, rfl, trivial⟩ rfl
          · refine TX.y (listed' := #[true, true, true, true, true, true, true, false, true, true, true, false, false, false, false, false]) [] rfl (Y.index ke40 (Can.own 0 rfl) H9 rfl rfl) rfl rfl rfl rfl rfl ?_
            refine TA.two 7 11 (by kernel_rfl) ?_ ?_
            · refine TX.y (listed' := #[true, true, true, true, true, true, true, true, true, true, true, false, false, false, false, false]) [] rfl (Y.load_el (us := [strV E6.Key, .int .i64 E6.Seq, .bool E6.Del, strV E6.Val]) (u := .agg #[strV E6.Key, .int .i64 E6.Seq, .bool E6.Del, strV E6.Val]) kk81 rfl (Can.own 0 rfl) (idx_get H7).2.2 rfl rfl rfl rfl rfl) rfl rfl rfl rfl rfl ?_
              refine TA.one 11 (by kernel_rfl) ?_
              refine TX.y (listed' := #[true, true, true, true, true, true, true, true, true, true, true, true, false, false, false, false]) [] rfl (Y.load_el (us := [strV E8.Key, .int .i64 E8.Seq, .bool E8.Del, strV E8.Val]) (u := .agg #[strV E8.Key, .int .i64 E8.Seq, .bool E8.Del, strV E8.Val]) kk81 rfl (Can.own 0 rfl) (idx_get H9).2.2 rfl rfl rfl rfl rfl) rfl rfl rfl rfl rfl ?_
              refine TA.one 12 (by kernel_rfl) ?_
              refine TX.y (listed' := #[true, true, true, true, true, true, true, true, true, true, true, true, true, false, false, false]) [] rfl (Y.index ke40 (Can.own 0 rfl) H9 rfl rfl) rfl rfl rfl rfl rfl ?_
              refine TA.one 13 (by kernel_rfl) ?_
              refine TX.ef0 (listed' := #[true, true, true, true, true, true, true, true, true, true, true, true, true, true, false, false]) [] rfl (Ef.store_el (us := [strV E6.Key, .int .i64 E6.Seq, .bool E6.Del, strV E6.Val]) (is' := [.own V_s0 (lc (S1.2.2.set S1.1.toNat E6))]) E6 0 kk81 rfl rfl (idx_get H9).2.2 rfl rfl (Cel.plain rfl rfl) rfl rfl rfl rfl) rfl rfl rfl (fun _ => rfl) (fun _ => ?_)
              refine TA.one 14 (by kernel_rfl) ?_
              refine TX.y (listed' := #[true, true, true, true, true, true, true, true, true, true, true, true, true, true, true, false]) [] rfl (Y.index ke40 (Can.own 0 rfl) H11 rfl rfl) rfl rfl rfl rfl rfl ?_
              refine TA.one 15 (by kernel_rfl) ?_
              refine TX.ef0 (listed' := #[true, true, true, true, true, true, true, true, true, true, true, true, true, true, true, true]) [] rfl (Ef.store_el (us := [strV E8.Key, .int .i64 E8.Seq, .bool E8.Del, strV E8.Val]) (is' := [.own V_s0 (lc ((S1.2.2.set S1.1.toNat E6).set S1.2.1.toNat E8))]) E8 0 kk81 rfl rfl (idx_get H11).2.2 rfl rfl (Cel.plain rfl rfl) rfl rfl rfl rfl) rfl rfl rfl (fun _ => rfl) (fun _ => ?_)
              refine TA.nil (by kernel_rfl) ?_
              exact TE.jb_go () [0] ⟨rfl, rfl, rfl, trivial⟩ rfl
            · refine TX.y (listed' := #[true, true, true, true, true, true, true, false, true, true, true, true, false, false, false, false]) [] rfl (Y.load_el (us := [strV E8.Key, .int .i64 E8.Seq, .bool E8.Del, strV E8.Val]) (u := .agg #[strV E8.Key, .int .i64 E8.Seq, .bool E8.Del, strV E8.Val]) kk81 rfl (Can.own 0 rfl) (idx_get H9).2.2 rfl rfl rfl rfl rfl) rfl rfl rfl rfl rfl ?_
              refine TA.one 7 (by kernel_rfl) ?_
              refine TX.y (listed' := #[true, true, true, true, true, true, true, true, true, true, true, true, false, false, false, false]) [] rfl (Y.load_el (us := [strV E6.Key, .int .i64 E6.Seq, .bool E6.Del, strV E6.Val]) (u := .agg #[strV E6.Key, .int .i64 E6.Seq, .bool E6.Del, strV E6.Val]) kk81 rfl (Can.own 0 rfl) (idx_get H7).2.2 rfl rfl rfl rfl rfl) rfl rfl rfl rfl rfl ?_
              refine TA.one 12 (by kernel_rfl) ?_
              refine TX.y (listed' := #[true, true, true, true, true, true, true, true, true, true, true, true, true, false, false, false]) [] rfl (Y.index ke40 (Can.own 0 rfl) H9 rfl rfl) rfl rfl rfl rfl rfl ?_
              refine TA.one 13 (by kernel_rfl) ?_
              refine TX.ef0 (listed' := #[true, true, true, true, true, true, true, true, true, true, true, true, true, true, false, false]) [] rfl (Ef.store_el (us := [strV E6.Key, .int .i64 E6.Seq, .bool E6.Del, strV E6.Val]) (is' := [.own V_s0 (lc (S1.2.2.set S1.1.toNat E6))]) E6 0 kk81 rfl rfl (idx_get H9).2.2 rfl rfl (Cel.plain rfl rfl) rfl rfl rfl rfl) rfl rfl rfl (fun _ => rfl) (fun _ => ?_)
              refine TA.one 14 (by kernel_rfl) ?_
              refine TX.y (listed' := #[true, true, true, true, true, true, true, true, true, true, true, true, true, true, true, false]) [] rfl (Y.index ke40 (Can.own 0 rfl) H11 rfl rfl) rfl rfl rfl rfl rfl ?_
              refine TA.one 15 (by kernel_rfl) ?_
              refine TX.ef0 (listed' := #[true, true, true, true, true, true, true, true, true, true, true, true, true, true, true, true]) [] rfl (Ef.store_el (us := [strV E8.Key, .int .i64 E8.Seq, .bool E8.Del, strV E8.Val]) (is' := [.own V_s0 (lc ((S1.2.2.set S1.1.toNat E6).set S1.2.1.toNat E8))]) E8 0 kk81 rfl rfl (idx_get H11).2.2 rfl rfl (Cel.plain rfl rfl) rfl rfl rfl rfl) rfl rfl rfl (fun _ => rfl) (fun _ => ?_)
              refine TA.nil (by kernel_rfl) ?_
              exact TE.jb_go () [0] ⟨rfl, rfl, rfl, trivial⟩ rfl
        · refine TX.y (listed' := #[true, true, true, true, true, true, false, false, true, true, true, false, false, false, false, false]) [] rfl (Y.index ke40 (Can.own 0 rfl) H9 rfl rfl) rfl rfl rfl rfl rfl ?_
          refine TA.two 6 11 (by kernel_rfl) ?_ ?_
          · refine TX.y (listed' := #[true, true, true, true, true, true, true, false, true, true, true, false, false, false, false, false]) [] rfl (Y.index ke40 (Can.own 0 rfl) H7 rfl rfl) rfl rfl rfl rfl rfl ?_
            refine TA.two 7 11 (by kernel_rfl) ?_ ?_
            · refine TX.y (listed' := #[true, true, true, true, true, true, true, true, true, true, true, false, false, false, false, false]) [] rfl (Y.load_el (us := [strV E6.Key, .int .i64 E6.Seq, .bool E6.Del, strV E6.Val]) (u := .agg #[strV E6.Key, .int .i64 E6.Seq, .bool E6.Del, strV E6.Val]) kk81 rfl (Can.own 0 rfl) (idx_get H7).2.2 rfl rfl rfl rfl rfl) rfl rfl rfl rfl rfl ?_
              refine TA.one 11 (by kernel_rfl) ?_
              refine TX.y (listed' := #[true, true, true, true, true, true, true, true, true, true, true, true, false, false, false, false]) [] rfl (Y.load_el (us := [strV E8.Key, .int .i64 E8.Seq, .bool E8.Del, strV E8.Val]) (u := .agg #[strV E8.Key, .int .i64 E8.Seq, .bool E8.Del, strV E8.Val]) kk81 rfl (Can.own 0 rfl) (idx_get H9).2.2 rfl rfl rfl rfl rfl) rfl rfl rfl rfl rfl ?_
              refine TA.one 12 (by kernel_rfl) ?_
              refine TX.y (listed' := #[true, true, true, true, true, true, true, true, true, true, true, true, true, false, false, false]) [] rfl (Y.index ke40 (Can.own 0 rfl) H9 rfl rfl) rfl rfl rfl rfl rfl ?_
              refine TA.one 13 (by kernel_rfl) ?_
              refine TX.ef0 (listed' := #[true, true, true, true, true, true, true, true, true, true, true, true, true, true, false, false]) [] rfl (Ef.store_el (us := [strV E6.Key, .int .i64 E6.Seq, .bool E6.Del, strV E6.Val]) (is' := [.own V_s0 (lc (S1.2.2.set S1.1.toNat E6))]) E6 0 kk81 rfl rfl (idx_get H9).2.2 rfl rfl (Cel.plain rfl rfl) rfl rfl rfl rfl) rfl rfl rfl (fun _ => rfl) (fun _ => ?_)
              refine TA.one 14 (by kernel_rfl) ?_
              refine TX.y (listed' := #[true, true, true, true, true, true, true, true, true, true, true, true, true, true, true, false]) [] rfl (Y.index ke40 (Can.own 0 rfl) H11 rfl rfl) rfl rfl rfl rfl rfl ?_
              refine TA.one 15 (by kernel_rfl) ?_
              refine TX.ef0 (listed' := #[true, true, true, true, true, true, true, true, true, true, true, true, true, true, true, true]) [] rfl (Ef.store_el (us := [strV E8.Key, .int .i64 E8.Seq, .bool E8.Del, strV E8.Val]) (is' := [.own V_s0 (lc ((S1.2.2.set S1.1.toNat E6).set S1.2.1.toNat E8))]) E8 0 kk81 rfl rfl (idx_get H11).2.2 rfl rfl (Cel.plain rfl rfl) rfl rfl rfl rfl) rfl rfl rfl (fun _ => rfl) (fun _ => ?_)
              refine TA.nil (by kernel_rfl) ?_
              exact TE.jb_go () [0] ⟨rfl, rfl, rfl, trivial⟩ rfl
            · refine TX.y (listed' := #[true, true, true, true, true, true, true, false, true, true, true, true, false, false, false, false]) [] rfl (Y.load_el (us := [strV E8.Key, .int .i64 E8.Seq, .bool E8.Del, strV E8.Val]) (u := .agg #[strV E8.Key, .int .i64 E8.Seq, .bool E8.Del, strV E8.Val]) kk81 rfl (Can.own 0 rfl) (idx_get H9).2.2 rfl rfl rfl rfl rfl) rfl rfl rfl rfl rfl ?_
              refine TA.one 7 (by kernel_rfl) ?_
              refine TX.y (listed' := #[true, true, true, true, true, true, true, true, true, true, true, true, false, false, false, false]) [] rfl (Y.load_el (us := [strV E6.Key, .int .i64 E6.Seq, .bool E6.Del, strV E6.Val]) (u := .agg #[strV E6.Key, .int .i64 E6.Seq, .bool E6.Del, strV E6.Val]) kk81 rfl (Can.own 0 rfl) (idx_get H7).2.2 rfl rfl rfl rfl rfl) rfl rfl rfl rfl rfl ?_
              refine TA.one 12 (by kernel_rfl) ?_
              refine TX.y (listed' := #[true, true, true, true, true, true, true, true, true, true, true, true, true, false, false, false]) [] rfl (Y.index ke40 (Can.own 0 rfl) H9 rfl rfl) rfl rfl rfl rfl rfl ?_
              refine TA.one 13 (by kernel_rfl) ?_
              refine TX.ef0 (listed' := #[true, true, true, true, true, true, true, true, true, true, true, true, true, true, false, false]) [] rfl (Ef.store_el (us := [strV E6.Key, .int .i64 E6.Seq, .bool E6.Del, strV E6.Val]) (is' := [.own V_s0 (lc (S1.2.2.set S1.1.toNat E6))]) E6 0 kk81 rfl rfl (idx_get H9).2.2 rfl rfl (Cel.plain rfl rfl) rfl rfl rfl rfl) rfl rfl rfl (fun _ => rfl) (fun _ => ?_)
              refine TA.one 14 (by kernel_rfl) ?_
              refine TX.y (listed' := #[true, true, true, true, true, true, true, true, true, true, true, true, true, true, true, false]) [] rfl (Y.index ke40 (Can.own 0 rfl) H11 rfl rfl) rfl rfl rfl rfl rfl ?_
              refine TA.one 15 (by kernel_rfl) ?_
              refine TX.ef0 (listed' := #[true, true, true, true, true, true, true, true, true, true, true, true, true, true, true, true]) [] rfl (Ef.store_el (us := [strV E8.Key, .int .i64 E8.Seq, .bool E8.Del, strV E8.Val]) (is' := [.own V_s0 (lc ((S1.2.2.set S1.1.toNat E6).set S1.2.1.toNat E8))]) E8 0 kk81 rfl rfl (idx_get H11).2.2 rfl rfl (Cel.plain rfl rfl) rfl rfl rfl rfl) rfl rfl rfl (fun _ => rfl) (fun _ => ?_)
              refine TA.nil (by kernel_rfl) ?_
              exact TE.jb_go () [0] ⟨rfl, rfl, rfl, trivial⟩ rfl
          · refine TX.y (listed' := #[true, true, true, true, true, true, false, false, true, true, true, true, false, false, false, false]) [] rfl (Y.load_el (us := [strV E8.Key, .int .i64 E8.Seq, .bool E8.Del, strV E8.Val]) (u := .agg #[strV E8.Key, .int .i64 E8.Seq, .bool E8.Del, strV E8.Val]) kk81 rfl (Can.own 0 rfl) (idx_get H9).2.2 rfl rfl rfl rfl rfl) rfl rfl rfl rfl rfl ?_
            refine TA.one 6 (by kernel_rfl) ?_
            refine TX.y (listed' := #[true, true, true, true, true, true, true, false, true, true, true, true, false, false, false, false]) [] rfl (Y.index ke40 (Can.own 0 rfl) H7 rfl rfl) rfl rfl rfl rfl rfl ?_
            refine TA.one 7 (by kernel_rfl) ?_
            refine TX.y (listed' := #[true, true, true, true, true, true, true, true, true, true, true, true, false, false, false, false]) [] rfl (Y.load_el (us := [strV E6.Key, .int .i64 E6.Seq, .bool E6.Del, strV E6.Val]) (u := .agg #[strV E6.Key, .int .i64 E6.Seq, .bool E6.Del, strV E6.Val]) kk81 rfl (Can.own 0 rfl) (idx_get H7).2.2 rfl rfl rfl rfl rfl) rfl rfl rfl rfl rfl ?_
            refine TA.one 12 (by kernel_rfl) ?_
            refine TX.y (listed' := #[true, true, true, true, true, true, true, true, true, true, true, true, true, false, false, false]) [] rfl (Y.index ke40 (Can.own 0 rfl) H9 rfl rfl) rfl rfl rfl rfl rfl ?_
            refine TA.one 13 (by kernel_rfl) ?_
            refine TX.ef0 (listed' := #[true, true, true, true, true, true, true, true, true, true, true, true, true, true, false, false]) [] rfl (Ef.store_el (us := [strV E6.Key, .int .i64 E6.Seq, .bool E6.Del, strV E6.Val]) (is' := [.own V_s0 (lc (S1.2.2.set S1.1.toNat E6))]) E6 0 kk81 rfl rfl (idx_get H9).2.2 rfl rfl (Cel.plain rfl rfl) rfl rfl rfl rfl) rfl rfl rfl (fun _ => rfl) (fun _ => ?_)
            refine TA.one 14 (by kernel_rfl) ?_
            refine TX.y (listed' := #[true, true, true, true, true, true, true, true, true, true, true, true, true, true, true, false]) [] rfl (Y.index ke40 (Can.own 0 rfl) H11 rfl rfl) rfl rfl rfl rfl rfl ?_
            refine TA.one 15 (by kernel_rfl) ?_
            refine TX.ef0 (listed' := #[true, true, true, true, true, true, true, true, true, true, true, true, true, true, true, true]) [] rfl (Ef.store_el (us := [strV E8.Key, .int .i64 E8.Seq, .bool E8.Del, strV E8.Val]) (is' := [.own V_s0 (lc ((S1.2.2.set S1.1.toNat E6).set S1.2.1.toNat E8))]) E8 0 kk81 rfl rfl (idx_get H11).2.2 rfl rfl (Cel.plain rfl rfl) rfl rfl rfl rfl) rfl rfl rfl (fun _ => rfl) (fun _ => ?_)
            refine TA.nil (by kernel_rfl) ?_
            exact TE.jb_go () [0] ⟨rfl, rfl, rfl, trivial⟩ rfl
      · refine TE.block_normal ?_
        refine TE.next ?_
        refine TW.region ?_
        refine TO.y (Y.move rfl) rfl rfl rfl ?_
        refine TO.y (Y.add rfl rfl) rfl rfl rfl ?_
        refine TO.y (Y.move rfl) rfl rfl rfl ?_
        refine TO.y (Y.sub rfl rfl) rfl rfl rfl ?_
        refine TO.y (Y.assign rfl) rfl rfl rfl ?_
        refine TO.y (Y.assign rfl) rfl rfl rfl ?_
        refine TO.nil ?_
        exact TE.lp_go () [0] ⟨rfl, rfl, rfl, trivial⟩ rfl
    · refine TW.exit ?_
      refine TE.then_exit ?_
      refine TE.lp_exit ?_
      refine TE.block_exit ?_
      exact TE.jn_go () [0] trivial rfl
  · exact TE.leaf fun _ _ hf_ hs_ => ret_any (rs := []) (vs := []) (.inr rfl) rfl trivial hf_ hs_ ⟨(), rfl, hs_.pulls [0] rfl⟩

/-- loop.example/g00950/impl.compacted -/
noncomputable def impl_compacted (l : List Ent) (snaps : List Int) (bottom : Bool) : Option (List Ent) :=
  bindC (loopO (fun (S1 : Int × List Ent) => if (decide (S1.1 < ((l.length : Nat) : Int))) = true then ((idx l S1.1).bind fun E6 =>
  (impl_isSeen l S1.1 snaps).bind fun R9 =>
  bindC (if R9 = true then ((app 48 S1.2 ([E6])).bind fun E17 =>
  some (.go E17))
  else (some (.go S1.2)))
  (fun (T12 : List Ent) => some (.go (IntKind.i64.wrap (S1.1 + (1 : Int)), T12))))
  else (some (.done (.go S1.2))))
  ((0 : Int), ([] : List Ent)))
  (fun (T3 : List Ent) => if (!bottom) = true then (some T3)
  else (bindC (loopO (fun (S20 : Bool × Int × List Ent) => if (decide (S20.2.1 ≥ (0 : Int))) = true then ((if (decide (S20.2.1 = IntKind.i64.wrap (((T3.length : Nat) : Int) - (1 : Int)))) = true then (some true)
  else ((idx T3 S20.2.1).bind fun E28 =>
  (idx T3 (IntKind.i64.wrap (S20.2.1 + (1 : Int)))).bind fun E30 =>
  some (!(decide (E28.Key = E30.Key))))).bind (fun (T25 : Bool) =>
  bindC (if T25 = true then (some (.go false))
  else (some (.go S20.1)))
  (fun (T32 : Bool) => (if T32 = true then (some true)
  else ((idx T3 S20.2.1).bind fun E38 =>
  some (!E38.Del))).bind (fun (T35 : Bool) =>
  bindC (if T35 = true then ((idx T3 S20.2.1).bind fun E43 =>
  (app 48 S20.2.2 ([E43])).bind fun E47 =>
  some (.go (true, E47)))
  else (some (.go (T32, S20.2.2))))
  (fun (T40 : Bool × List Ent) => some (.go (T40.1, IntKind.i64.wrap (S20.2.1 - (1 : Int)), T40.2)))))))
  else (some (.done (.go S20.2.2))))
  (false, IntKind.i64.wrap (((T3.length : Nat) : Int) - (1 : Int)), ([] : List Ent)))
  (fun (T22 : List Ent) => (slices_Reverse_94167 T22).bind fun R49 =>
  some R49)))

theorem impl_compacted_con (l : List Ent) (snaps : List Int) (bottom : Bool) (V_l0 : Value) (V_snaps0 : Value) (r : List Ent) (hm : impl_compacted l snaps bottom = some r) :
    Con Try.prog 48 [V_l0, V_snaps0, .bool bottom] [] [(V_l0, lc l), (V_snaps0, lc snaps)] (fun X : Value => X) (fun X => [.own X (lc r)]) := by
  refine Con.intro (args := [V_l0, V_snaps0, .bool bottom]) (n := 77) (val := fun _ (X : Value) => X) (post := fun r X => [.own X (lc r)]) (m := impl_compacted l snaps bottom) Try.func48 rfl rfl rfl hm ?_
  intro w S hrd
  have HB_V_l0 := hrd _ (.head _)
  have HB_V_snaps0 := hrd _ (.tail _ (.head _))
  clear hrd
  unfold impl_compacted
  refine TW.seq ?_
  refine TW.region ?_
  refine TO.y (Y.assign rfl) rfl rfl rfl ?_
  refine TO.nil ?_
  refine TE.next ?_
  refine TW.seq ?_
  refine TW.region ?_
  refine TO.y (Y.assign rfl) rfl rfl rfl ?_
  refine TO.nil ?_
  refine TE.next ?_
  refine TW.seq ?_
  refine TW.seq ?_
  refine TW.region ?_
  refine TO.y (Y.move rfl) rfl rfl rfl ?_
  refine TO.y (Y.len (l := l) ke40 (Base.can HB_V_l0) rfl) rfl rfl rfl ?_
  refine TO.y (Y.move rfl) rfl rfl rfl ?_
  refine TO.nil ?_
  refine TE.next ?_
  refine TW.joinX (τ := List Ent) (X := Value) (fun _ X => [(2, .bool bottom), (7, X)]) (fun T X => [.own X (lc T)]) ?_ (fun T3 X4 => ?_)
  · refine TW.block ?_
    refine TW.nilItem 4 ?_
    refine TW.loopX (σ := Int × List Ent) (X := Value) (fun T X => [(0, V_l0), (1, V_snaps0), (2, .bool bottom), (7, X), (13, V_l0), (14, .int .i64 ((l.length : Nat) : Int)), (15, .int .i64 T.1)]) (fun T X => [.own X (lc T.2)]) (.slice none 0 0) [0] ⟨rfl, rfl, rfl, rfl, rfl, rfl, rfl, trivial⟩ rfl (fun S1 X2 => ?_)
    refine TW.seq ?_
    refine TW.region ?_
    refine TO.y (Y.lss rfl rfl) rfl rfl rfl ?_
    refine TO.nil ?_
    refine TE.next ?_
    refine TW.seq ?_
    refine TW.cond rfl (fun H5 => ?_) (fun H5 => ?_)
    · refine TW.skip ?_
      refine TE.next ?_
      refine TW.seq ?_
      refine TW.block ?_
      refine TW.seq ?_
      refine TW.region ?_
      refine TO.y (Y.move rfl) rfl rfl rfl ?_
      refine TO.bind fun E6 H7 => ?_
      refine TO.y (Y.index ke40 (Base.can HB_V_l0) H7 rfl rfl) rfl rfl rfl ?_
      refine TO.y (Y.load_el (us := [strV E6.Key, .int .i64 E6.Seq, .bool E6.Del, strV E6.Val]) (u := .agg #[strV E6.Key, .int .i64 E6.Seq, .bool E6.Del, strV E6.Val]) kk81 rfl (Base.can HB_V_l0) (idx_get H7).2.2 rfl rfl rfl rfl rfl) rfl rfl rfl ?_
      refine TO.ef (Ef.alloc kz81 rfl) rfl rfl rfl (fun B8 => ?_)
      refine TO.y (Y.assign rfl) rfl rfl rfl ?_
      refine TO.ef0 (Ef.store_box (us := [strV E6.Key, .int .i64 E6.Seq, .bool E6.Del, strV E6.Val]) (vs' := [strV E6.Key, .int .i64 E6.Seq, .bool E6.Del, strV E6.Val]) (is' := [.box B8 81 [strV E6.Key, .int .i64 E6.Seq, .bool E6.Del, strV E6.Val], .own X2 (lc S1.2)]) 0 kk81 rfl rfl rfl (Cel.plain rfl rfl) rfl rfl rfl rfl) rfl rfl (fun _ => ?_)
      refine TO.nil ?_
      refine TE.next ?_
      refine TW.seq ?_
      refine TW.region ?_
      refine TO.y (Y.move rfl) rfl rfl rfl ?_
      refine TO.y (Y.move rfl) rfl rfl rfl ?_
      refine TO.y (Y.move rfl) rfl rfl rfl ?_
      refine TO.bind fun R9 H10 => ?_
      refine TO.ef (Ef.call (rest := [.box B8 81 [strV E6.Key, .int .i64 E6.Seq, .bool E6.Del, strV E6.Val], .own X2 (lc S1.2)]) [0, 0] (impl_isSeen_con l S1.1 snaps V_l0 V_snaps0 R9 H10) kc76 rfl rfl ⟨(Base.can HB_V_l0), (Base.can HB_V_snaps0), trivial⟩) rfl rfl rfl (fun _ => ?_)
      refine TO.nil ?_
      refine TE.next ?_
      refine TW.joinX (τ := List Ent) (X := Value) (fun _ X => [(0, V_l0), (1, V_snaps0), (2, .bool bottom), (7, X), (13, V_l0), (14, .int .i64 ((l.length : Nat) : Int)), (15, .int .i64 S1.1)]) (fun T X => [.own X (lc T)]) ?_ (fun T12 X13 => ?_)
      · refine TW.cond rfl (fun H14 => ?_) (fun H14 => ?_)
        · refine TW.region ?_
          refine TO.y (Y.move rfl) rfl rfl rfl ?_
          refine TO.y (Y.load_box (v := .agg #[strV E6.Key, .int .i64 E6.Seq, .bool E6.Del, strV E6.Val]) 0 kk81 rfl rfl rfl) rfl rfl rfl ?_
          refine TO.ef (Ef.buildSlice (α := Ent) (Vs := [.agg #[strV E6.Key, .int .i64 E6.Seq, .bool E6.Del, strV E6.Val]]) [E6] ke40 kz81 rfl rfl rfl rfl rfl) rfl rfl rfl (fun B15 => ?_)
          refine TO.bind fun E17 H18 => ?_
          refine TO.ef (Ef.append (α := Ent) (is' := [.own (.slice (some ⟨B15, 0, none⟩) 1 1) (lc ([E6])), .box B8 81 [strV E6.Key, .int .i64 E6.Seq, .bool E6.Del, strV E6.Val]]) [2, 0, 0] H18 ke40 kz81 rfl rfl rfl rfl rfl (Can.own 0 rfl)) rfl rfl rfl (fun V16 => ?_)
          refine TO.y (Y.assign rfl) rfl rfl rfl ?_
          refine TO.nil ?_
          exact TE.jn_go V16 [0] ⟨rfl, rfl, rfl, rfl, rfl, rfl, rfl, trivial⟩ rfl
        · refine TW.skip ?_
          exact TE.jn_go X2 [1] ⟨rfl, rfl, rfl, rfl, rfl, rfl, rfl, trivial⟩ rfl
      · refine TE.block_normal ?_
        refine TE.next ?_
        refine TW.region ?_
        refine TO.y (Y.add rfl rfl) rfl rfl rfl ?_
        refine TO.y (Y.move rfl) rfl rfl rfl ?_
        refine TO.nil ?_
        exact TE.lp_go X13 [0] ⟨rfl, rfl, rfl, rfl, rfl, rfl, rfl, trivial⟩ rfl
    · refine TW.exit ?_
      refine TE.then_exit ?_
      refine TE.lp_exit ?_
      refine TE.block_exit ?_
      exact TE.jn_go X2 [0] ⟨rfl, rfl, trivial⟩ rfl
  · refine TE.next ?_
    refine TW.seq ?_
    refine TW.seq ?_
    refine TW.region ?_
    refine TO.y (Y.move rfl) rfl rfl rfl ?_
    refine TO.y (Y.not rfl) rfl rfl rfl ?_
    refine TO.nil ?_
    refine TE.next ?_
    refine TW.cond rfl (fun H19 => ?_) (fun H19 => ?_)
    · refine TW.seq ?_
      refine TW.region ?_
      refine TO.y (Y.move rfl) rfl rfl rfl ?_
      refine TO.y (Y.assign rfl) rfl rfl rfl ?_
      refine TO.nil ?_
      refine TE.next ?_
      refine TW.ret ?_
      refine TE.then_ret ?_
      exact TE.leaf fun _ _ hf_ hs_ => ret_any (rs := [.tmp 6]) (vs := [X4]) (.inl rfl) rfl ⟨rfl, trivial⟩ hf_ hs_ ⟨X4, rfl, hs_.pulls [0] rfl⟩
    · refine TW.skip ?_
      refine TE.next ?_
      refine TW.seq ?_
      refine TW.region ?_
      refine TO.y (Y.assign rfl) rfl rfl rfl ?_
      refine TO.nil ?_
      refine TE.next ?_
      refine TW.seq ?_
      refine TW.region ?_
      refine TO.y (Y.assign rfl) rfl rfl rfl ?_
      refine TO.nil ?_
      refine TE.next ?_
      refine TW.seq ?_
      refine TW.seq ?_
      refine TW.region ?_
      refine TO.y (Y.move rfl) rfl rfl rfl ?_
      refine TO.y (Y.len (l := T3) ke40 (Can.own 0 rfl) rfl) rfl rfl rfl ?_
      refine TO.y (Y.sub rfl rfl) rfl rfl rfl ?_
      refine TO.y (Y.assign rfl) rfl rfl rfl ?_
      refine TO.nil ?_
      refine TE.next ?_
      refine TW.joinX (τ := List Ent) (X := Value) (fun _ X => [(10, X)]) (fun T X => [.own X (lc T)]) ?_ (fun T22 X23 => ?_)
      · refine TW.block ?_
        refine TW.nilItem 4 ?_
        refine TW.loopX (σ := Bool × Int × List Ent) (X := Value) (fun T X => [(7, X4), (10, X), (11, .bool T.1), (12, .int .i64 T.2.1)]) (fun T X => [.own X4 (lc T3), .own X (lc T.2.2)]) (.slice none 0 0) [1, 0] ⟨rfl, rfl, rfl, rfl, trivial⟩ rfl (fun S20 X21 => ?_)
        refine TW.seq ?_
        refine TW.seq ?_
        refine TW.region ?_
        refine TO.y (Y.move rfl) rfl rfl rfl ?_
        refine TO.y (Y.geq rfl rfl) rfl rfl rfl ?_
        refine TO.nil ?_
        refine TE.next ?_
        refine TW.cond rfl (fun H24 => ?_) (fun H24 => ?_)
        · refine TW.skip ?_
          refine TE.next ?_
          refine TW.seq ?_
          refine TW.block ?_
          refine TW.seq ?_
          refine TW.seq ?_
          refine TW.joinBX (τ := Bool) (X := Unit) (fun T _ => [(7, X4), (10, X21), (11, .bool S20.1), (12, .int .i64 S20.2.1), (57, .bool T)]) (fun _ _ => [.own X4 (lc T3), .own X21 (lc S20.2.2)]) ?_ (fun T25 X26 => ?_)
          · refine TW.draw (isH := [.own X4 (lc T3), .own X21 (lc S20.2.2)]) hMix ?_
            refine TA.y (listed' := #[true, false, false, false, false, false, false, false, false, false, false, false, false, false, false, false, false, false, false]) 0 [0, 0] rfl (Y.move rfl) rfl rfl rfl (by kernel_rfl) (by kernel_rfl) (by kernel_rfl) rfl rfl ?_
            refine TA.y (listed' := #[true, true, false, false, false, false, false, false, false, false, false, false, false, false, false, false, false, false, false]) 1 [0, 0] rfl (Y.move rfl) rfl rfl rfl (by kernel_rfl) (by kernel_rfl) (by kernel_rfl) rfl rfl ?_
            refine TA.y (listed' := #[true, true, true, false, false, false, false, false, false, false, false, false, false, false, false, false, false, false, false]) 2 [0, 0] rfl (Y.len (l := T3) ke40 (Can.own 0 rfl) rfl) rfl rfl rfl (by kernel_rfl) (by kernel_rfl) (by kernel_rfl) rfl rfl ?_
            refine TA.y (listed' := #[true, true, true, true, false, false, false, false, false, false, false, false, false, false, false, false, false, false, false]) 3 [0, 0] rfl (Y.sub rfl rfl) rfl rfl rfl (by kernel_rfl) (by kernel_rfl) (by kernel_rfl) rfl rfl ?_
            refine TA.y (listed' := #[true, true, true, true, true, false, false, false, false, false, false, false, false, false, false, false, false, false, false]) 4 [0, 0] rfl (Y.eql rfl rfl) rfl rfl rfl (by kernel_rfl) (by kernel_rfl) (by kernel_rfl) rfl rfl ?_
            refine TA.y (listed' := #[true, true, true, true, true, true, false, false, false, false, false, false, false, false, false, false, false, false, false]) 5 [0, 0] rfl (Y.move rfl) rfl rfl rfl (by kernel_rfl) (by kernel_rfl) (by kernel_rfl) rfl rfl ?_
            refine TA.ite (b := decide (S20.2.1 = IntKind.i64.wrap (((T3.length : Nat) : Int) - (1 : Int)))) (fun H27 => ?_) (fun H27 => ?_)
            · refine TA.off (listed' := #[true, true, true, true, true, true, true, false, false, false, false, false, false, false, false, false, false, false, false]) 6 [0, 0] rfl (Gd.at 5 false 44 (decide (S20.2.1 = IntKind.i64.wrap (((T3.length : Nat) : Int) - (1 : Int)))) rfl rfl rfl (beq_tf H27)) rfl rfl (by kernel_rfl) (by kernel_rfl) (by kernel_rfl) rfl rfl ?_
              refine TA.off (listed' := #[true, true, true, true, true, true, true, true, false, false, false, false, false, false, false, false, false, false, false]) 7 [0, 0] rfl (Gd.at 5 false 44 (decide (S20.2.1 = IntKind.i64.wrap (((T3.length : Nat) : Int) - (1 : Int)))) rfl rfl rfl (beq_tf H27)) rfl rfl (by kernel_rfl) (by kernel_rfl) (by kernel_rfl) rfl rfl ?_
              refine TA.off (listed' := #[true, true, true, true, true, true, true, true, true, false, false, false, false, false, false, false, false, false, false]) 8 [0, 0] rfl (Gd.at 5 false 44 (decide (S20.2.1 = IntKind.i64.wrap (((T3.length : Nat) : Int) - (1 : Int)))) rfl rfl rfl (beq_tf H27)) rfl rfl (by kernel_rfl) (by kernel_rfl) (by kernel_rfl) rfl rfl ?_
              refine TA.off (listed' := #[true, true, true, true, true, true, true, true, true, true, false, false, false, false, false, false, false, false, false]) 9 [0, 0] rfl (Gd.at 5 false 44 (decide (S20.2.1 = IntKind.i64.wrap (((T3.length : Nat) : Int) - (1 : Int)))) rfl rfl rfl (beq_tf H27)) rfl rfl (by kernel_rfl) (by kernel_rfl) (by kernel_rfl) rfl rfl ?_
              refine TA.off (listed' := #[true, true, true, true, true, true, true, true, true, true, true, false, false, false, false, false, false, false, false]) 10 [0, 0] rfl (Gd.at 5 false 44 (decide (S20.2.1 = IntKind.i64.wrap (((T3.length : Nat) : Int) - (1 : Int)))) rfl rfl rfl (beq_tf H27)) rfl rfl (by kernel_rfl) (by kernel_rfl) (by kernel_rfl) rfl rfl ?_
              refine TA.off (listed' := #[true, true, true, true, true, true, true, true, true, true, true, true, false, false, false, false, false, false, false]) 11 [0, 0] rfl (Gd.at 5 false 44 (decide (S20.2.1 = IntKind.i64.wrap (((T3.length : Nat) : Int) - (1 : Int)))) rfl rfl rfl (beq_tf H27)) rfl rfl (by kernel_rfl) (by kernel_rfl) (by kernel_rfl) rfl rfl ?_
              refine TA.off (listed' := #[true, true, true, true, true, true, true, true, true, true, true, true, true, false, false, false, false, false, false]) 12 [0, 0] rfl (Gd.at 5 false 44 (decide (S20.2.1 = IntKind.i64.wrap (((T3.length : Nat) : Int) - (1 : Int)))) rfl rfl rfl (beq_tf H27)) rfl rfl (by kernel_rfl) (by kernel_rfl) (by kernel_rfl) rfl rfl ?_
              refine TA.off (listed' := #[true, true, true, true, true, true, true, true, true, true, true, true, true, true, false, false, false, false, false]) 13 [0, 0] rfl (Gd.at 5 false 44 (decide (S20.2.1 = IntKind.i64.wrap (((T3.length : Nat) : Int) - (1 : Int)))) rfl rfl rfl (beq_tf H27)) rfl rfl (by kernel_rfl) (by kernel_rfl) (by kernel_rfl) rfl rfl ?_
              refine TA.off (listed' := #[true, true, true, true, true, true, true, true, true, true, true, true, true, true, true, false, false, false, false]) 14 [0, 0] rfl (Gd.at 5 false 44 (decide (S20.2.1 = IntKind.i64.wrap (((T3.length : Nat) : Int) - (1 : Int)))) rfl rfl rfl (beq_tf H27)) rfl rfl (by kernel_rfl) (by kernel_rfl) (by kernel_rfl) rfl rfl ?_
              refine TA.off (listed' := #[true, true, true, true, true, true, true, true, true, true, true, true, true, true, true, true, false, false, false]) 15 [0, 0] rfl (Gd.at 5 false 44 (decide (S20.2.1 = IntKind.i64.wrap (((T3.length : Nat) : Int) - (1 : Int)))) rfl rfl rfl (beq_tf H27)) rfl rfl (by kernel_rfl) (by kernel_rfl) (by kernel_rfl) rfl rfl ?_
              refine TA.off (listed' := #[true, true, true, true, true, true, true, true, true, true, true, true, true, true, true, true, true, false, false]) 16 [0, 0] rfl (Gd.at 5 false 44 (decide (S20.2.1 = IntKind.i64.wrap (((T3.length : Nat) : Int) - (1 : Int)))) rfl rfl rfl (beq_tf H27)) rfl rfl (by kernel_rfl) (by kernel_rfl) (by kernel_rfl) rfl rfl ?_
              refine TA.off (listed' := #[true, true, true, true, true, true, true, true, true, true, true, true, true, true, true, true, true, true, false]) 17 [0, 0] rfl (Gd.at 5 false 44 (decide (S20.2.1 = IntKind.i64.wrap (((T3.length : Nat) : Int) - (1 : Int)))) rfl rfl rfl (beq_tf H27)) rfl rfl (by kernel_rfl) (by kernel_rfl) (by kernel_rfl) rfl rfl ?_
              refine TA.y (listed' := #[true, true, true, true, true, true, true, true, true, true, true, true, true, true, true, true, true, true, true]) 18 [0, 0] rfl (Y.pick_t H27 rfl rfl) rfl rfl rfl (by kernel_rfl) (by kernel_rfl) (by kernel_rfl) rfl rfl ?_
              refine TA.nil (by kernel_rfl) ?_
              exact TE.jb_go () [0, 0] ⟨rfl, rfl, rfl, rfl, rfl, trivial⟩ rfl
            · refine TA.y (listed' := #[true, true, true, true, true, true, true, false, false, false, false, false, false, false, false, false, false, false, false]) 6 [0, 0] rfl (Y.move rfl) (Gd.at 5 false 44 (decide (S20.2.1 = IntKind.i64.wrap (((T3.length : Nat) : Int) - (1 : Int)))) rfl rfl rfl (beq_ff H27)) rfl rfl (by kernel_rfl) (by kernel_rfl) (by kernel_rfl) rfl rfl ?_
              refine TA.y (listed' := #[true, true, true, true, true, true, true, true, false, false, false, false, false, false, false, false, false, false, false]) 7 [0, 0] rfl (Y.move rfl) (Gd.at 5 false 44 (decide (S20.2.1 = IntKind.i64.wrap (((T3.length : Nat) : Int) - (1 : Int)))) rfl rfl rfl (beq_ff H27)) rfl rfl (by kernel_rfl) (by kernel_rfl) (by kernel_rfl) rfl rfl ?_
              refine TA.bind fun E28 H29 => ?_
              refine TA.y (listed' := #[true, true, true, true, true, true, true, true, true, false, false, false, false, false, false, false, false, false, false]) 8 [0, 0] rfl (Y.index ke40 (Can.own 0 rfl) H29 rfl rfl) (Gd.at 5 false 44 (decide (S20.2.1 = IntKind.i64.wrap (((T3.length : Nat) : Int) - (1 : Int)))) rfl rfl rfl (beq_ff H27)) rfl rfl (by kernel_rfl) (by kernel_rfl) (by kernel_rfl) rfl rfl ?_
              refine TA.y (listed' := #[true, true, true, true, true, true, true, true, true, true, false, false, false, false, false, false, false, false, false]) 9 [0, 0] rfl (Y.field_el kf81_0 (Can.own 0 rfl) (idx_get H29).2.2 rfl rfl) (Gd.at 5 false 44 (decide (S20.2.1 = IntKind.i64.wrap (((T3.length : Nat) : Int) - (1 : Int)))) rfl rfl rfl (beq_ff H27)) rfl rfl (by kernel_rfl) (by kernel_rfl) (by kernel_rfl) rfl rfl ?_
              refine TA.y (listed' := #[true, true, true, true, true, true, true, true, true, true, true, false, false, false, false, false, false, false, false]) 10 [0, 0] rfl (Y.load_el (us := [strV E28.Key]) (u := strV E28.Key) kk9 rfl (Can.own 0 rfl) (idx_get H29).2.2 rfl rfl rfl rfl rfl) (Gd.at 5 false 44 (decide (S20.2.1 = IntKind.i64.wrap (((T3.length : Nat) : Int) - (1 : Int)))) rfl rfl rfl (beq_ff H27)) rfl rfl (by kernel_rfl) (by kernel_rfl) (by kernel_rfl) rfl rfl ?_
              refine TA.y (listed' := #[true, true, true, true, true, true, true, true, true, true, true, true, false, false, false, false, false, false, false]) 11 [0, 0] rfl (Y.move rfl) (Gd.at 5 false 44 (decide (S20.2.1 = IntKind.i64.wrap (((T3.length : Nat) : Int) - (1 : Int)))) rfl rfl rfl (beq_ff H27)) rfl rfl (by kernel_rfl) (by kernel_rfl) (by kernel_rfl) rfl rfl ?_
              refine TA.y (listed' := #[true, true, true, true, true, true, true, true, true, true, true, true, true, false, false, false, false, false, false]) 12 [0, 0] rfl (Y.move rfl) (Gd.at 5 false 44 (decide (S20.2.1 = IntKind.i64.wrap (((T3.length : Nat) : Int) - (1 : Int)))) rfl rfl rfl (beq_ff H27)) rfl rfl (by kernel_rfl) (by kernel_rfl) (by kernel_rfl) rfl rfl ?_
              refine TA.y (listed' := #[true, true, true, true, true, true, true, true, true, true, true, true, true, true, false, false, false, false, false]) 13 [0, 0] rfl (Y.add rfl rfl) (Gd.at 5 false 44 (decide (S20.2.1 = IntKind.i64.wrap (((T3.length : Nat) : Int) - (1 : Int)))) rfl rfl rfl (beq_ff H27)) rfl rfl (by kernel_rfl) (by kernel_rfl) (by kernel_rfl) rfl rfl ?_
              refine TA.bind fun E30 H31 => ?_
              refine TA.y (listed' := #[true, true, true, true, true, true, true, true, true, true, true, true, true, true, true, false, false, false, false]) 14 [0, 0] rfl (Y.index ke40 (Can.own 0 rfl) H31 rfl rfl) (Gd.at 5 false 44 (decide (S20.2.1 = IntKind.i64.wrap (((T3.length : Nat) : Int) - (1 : Int)))) rfl rfl rfl (beq_ff H27)) rfl rfl (by kernel_rfl) (by kernel_rfl) (by kernel_rfl) rfl rfl ?_
              refine TA.y (listed' := #[true, true, true, true, true, true, true, true, true, true, true, true, true, true, true, true, false, false, false]) 15 [0, 0] rfl (Y.field_el kf81_0 (Can.own 0 rfl) (idx_get H31).2.2 rfl rfl) (Gd.at 5 false 44 (decide (S20.2.1 = IntKind.i64.wrap (((T3.length : Nat) : Int) - (1 : Int)))) rfl rfl rfl (beq_ff H27)) rfl rfl (by kernel_rfl) (by kernel_rfl) (by kernel_rfl) rfl rfl ?_
              refine TA.y (listed' := #[true, true, true, true, true, true, true, true, true, true, true, true, true, true, true, true, true, false, false]) 16 [0, 0] rfl (Y.load_el (us := [strV E30.Key]) (u := strV E30.Key) kk9 rfl (Can.own 0 rfl) (idx_get H31).2.2 rfl rfl rfl rfl rfl) (Gd.at 5 false 44 (decide (S20.2.1 = IntKind.i64.wrap (((T3.length : Nat) : Int) - (1 : Int)))) rfl rfl rfl (beq_ff H27)) rfl rfl (by kernel_rfl) (by kernel_rfl) (by kernel_rfl) rfl rfl ?_
              refine TA.y (listed' := #[true, true, true, true, true, true, true, true, true, true, true, true, true, true, true, true, true, true, false]) 17 [0, 0] rfl (Y.sneq rfl rfl) (Gd.at 5 false 44 (decide (S20.2.1 = IntKind.i64.wrap (((T3.length : Nat) : Int) - (1 : Int)))) rfl rfl rfl (beq_ff H27)) rfl rfl (by kernel_rfl) (by kernel_rfl) (by kernel_rfl) rfl rfl ?_
              refine TA.y (listed' := #[true, true, true, true, true, true, true, true, true, true, true, true, true, true, true, true, true, true, true]) 18 [0, 0] rfl (Y.pick_f H27 rfl rfl) rfl rfl rfl (by kernel_rfl) (by kernel_rfl) (by kernel_rfl) rfl rfl ?_
              refine TA.nil (by kernel_rfl) ?_
              exact TE.jb_go () [0, 0] ⟨rfl, rfl, rfl, rfl, rfl, trivial⟩ rfl
          · refine TE.next ?_
            refine TW.joinX (τ := Bool) (X := Unit) (fun T _ => [(7, X4), (10, X21), (11, .bool T), (12, .int .i64 S20.2.1)]) (fun _ _ => [.own X4 (lc T3), .own X21 (lc S20.2.2)]) ?_ (fun T32 X33 => ?_)
            · refine TW.cond rfl (fun H34 => ?_) (fun H34 => ?_)
              · refine TW.region ?_
                refine TO.y (Y.assign rfl) rfl rfl rfl ?_
                refine TO.nil ?_
                exact TE.jn_go () [0, 0] ⟨rfl, rfl, rfl, rfl, trivial⟩ rfl
              · refine TW.skip ?_
                exact TE.jn_go () [0, 0] ⟨rfl, rfl, rfl, rfl, trivial⟩ rfl
            · refine TE.next ?_
              refine TW.seq ?_
              refine TW.joinBX (τ := Bool) (X := Unit) (fun T _ => [(7, X4), (10, X21), (11, .bool T32), (12, .int .i64 S20.2.1), (66, .bool T)]) (fun _ _ => [.own X4 (lc T3), .own X21 (lc S20.2.2)]) ?_ (fun T35 X36 => ?_)
              · refine TW.region ?_
                refine TO.y (Y.move rfl) rfl rfl rfl ?_
                refine TO.y (Y.move rfl) rfl rfl rfl ?_
                refine TO.ite (b := T32) (fun H37 => ?_) (fun H37 => ?_)
                · refine TO.off (Gd.at 1 false 59 T32 rfl rfl rfl (beq_tf H37)) rfl rfl ?_
                  refine TO.off (Gd.at 1 false 59 T32 rfl rfl rfl (beq_tf H37)) rfl rfl ?_
                  refine TO.off (Gd.at 1 false 59 T32 rfl rfl rfl (beq_tf H37)) rfl rfl ?_
                  refine TO.off (Gd.at 1 false 59 T32 rfl rfl rfl (beq_tf H37)) rfl rfl ?_
                  refine TO.off (Gd.at 1 false 59 T32 rfl rfl rfl (beq_tf H37)) rfl rfl ?_
                  refine TO.off (Gd.at 1 false 59 T32 rfl rfl rfl (beq_tf H37)) rfl rfl ?_
                  refine TO.y (Y.pick_t H37 rfl rfl) rfl rfl rfl ?_
                  refine TO.nil ?_
                  exact TE.jb_go () [0, 0] ⟨rfl, rfl, rfl, rfl, rfl, trivial⟩ rfl
                · refine TO.y (Y.move rfl) (Gd.at 1 false 59 T32 rfl rfl rfl (beq_ff H37)) rfl rfl ?_
                  refine TO.y (Y.move rfl) (Gd.at 1 false 59 T32 rfl rfl rfl (beq_ff H37)) rfl rfl ?_
                  refine TO.bind fun E38 H39 => ?_
                  refine TO.y (Y.index ke40 (Can.own 0 rfl) H39 rfl rfl) (Gd.at 1 false 59 T32 rfl rfl rfl (beq_ff H37)) rfl rfl ?_
                  refine TO.y (Y.field_el kf81_2 (Can.own 0 rfl) (idx_get H39).2.2 rfl rfl) (Gd.at 1 false 59 T32 rfl rfl rfl (beq_ff H37)) rfl rfl ?_
                  refine TO.y (Y.load_el (us := [.bool E38.Del]) (u := .bool E38.Del) kk4 rfl (Can.own 0 rfl) (idx_get H39).2.2 rfl rfl rfl rfl rfl) (Gd.at 1 false 59 T32 rfl rfl rfl (beq_ff H37)) rfl rfl ?_
                  refine TO.y (Y.not rfl) (Gd.at 1 false 59 T32 rfl rfl rfl (beq_ff H37)) rfl rfl ?_
                  refine TO.y (Y.pick_f H37 rfl rfl) rfl rfl rfl ?_
                  refine TO.nil ?_
                  exact TE.jb_go () [0, 0] ⟨rfl, rfl, rfl, rfl, rfl, trivial⟩ rfl
              · refine TE.next ?_
                refine TW.joinX (τ := Bool × List Ent) (X := Value) (fun T X => [(7, X4), (10, X), (11, .bool T.1), (12, .int .i64 S20.2.1)]) (fun T X => [.own X4 (lc T3), .own X (lc T.2)]) ?_ (fun T40 X41 => ?_)
                · refine TW.cond rfl (fun H42 => ?_) (fun H42 => ?_)
                  · refine TW.seq ?_
                    refine TW.region ?_
                    refine TO.y (Y.assign rfl) rfl rfl rfl ?_
                    refine TO.nil ?_
                    refine TE.next ?_
                    refine TW.region ?_
                    refine TO.y (Y.move rfl) rfl rfl rfl ?_
                    refine TO.y (Y.move rfl) rfl rfl rfl ?_
                    refine TO.y (Y.move rfl) rfl rfl rfl ?_
                    refine TO.bind fun E43 H44 => ?_
                    refine TO.y (Y.index ke40 (Can.own 0 rfl) H44 rfl rfl) rfl rfl rfl ?_
                    refine TO.y (Y.load_el (us := [strV E43.Key, .int .i64 E43.Seq, .bool E43.Del, strV E43.Val]) (u := .agg #[strV E43.Key, .int .i64 E43.Seq, .bool E43.Del, strV E43.Val]) kk81 rfl (Can.own 0 rfl) (idx_get H44).2.2 rfl rfl rfl rfl rfl) rfl rfl rfl ?_
                    refine TO.ef (Ef.buildSlice (α := Ent) (Vs := [.agg #[strV E43.Key, .int .i64 E43.Seq, .bool E43.Del, strV E43.Val]]) [E43] ke40 kz81 rfl rfl rfl rfl rfl) rfl rfl rfl (fun B45 => ?_)
                    refine TO.bind fun E47 H48 => ?_
                    refine TO.ef (Ef.append (α := Ent) (is' := [.own (.slice (some ⟨B45, 0, none⟩) 1 1) (lc ([E43])), .own X4 (lc T3)]) [2, 0, 0] H48 ke40 kz81 rfl rfl rfl rfl rfl (Can.own 0 rfl)) rfl rfl rfl (fun V46 => ?_)
                    refine TO.y (Y.assign rfl) rfl rfl rfl ?_
                    refine TO.nil ?_
                    exact TE.jn_go V46 [2, 0] ⟨rfl, rfl, rfl, rfl, trivial⟩ rfl
                  · refine TW.skip ?_
                    exact TE.jn_go X21 [0, 0] ⟨rfl, rfl, rfl, rfl, trivial⟩ rfl
                · refine TE.block_normal ?_
                  refine TE.next ?_
                  refine TW.region ?_
                  refine TO.y (Y.move rfl) rfl rfl rfl ?_
                  refine TO.y (Y.sub rfl rfl) rfl rfl rfl ?_
                  refine TO.y (Y.assign rfl) rfl rfl rfl ?_
                  refine TO.nil ?_
                  exact TE.lp_go X41 [0, 0] ⟨rfl, rfl, rfl, rfl, trivial⟩ rfl
        · refine TW.exit ?_
          refine TE.then_exit ?_
          refine TE.lp_exit ?_
          refine TE.block_exit ?_
          exact TE.jn_go X21 [1] ⟨rfl, trivial⟩ rfl
      · refine TE.next ?_
        refine TW.seq ?_
        refine TW.region ?_
        refine TO.y (Y.move rfl) rfl rfl rfl ?_
        refine TO.bind fun R49 H50 => ?_
        refine TO.ef (Ef.call (rest := []) [0] (slices_Reverse_94167_con T22 X23 R49 H50) kc77 rfl rfl trivial) rfl rfl rfl (fun _ => ?_)
        refine TO.nil ?_
        refine TE.next ?_
        refine TW.seq ?_
        refine TW.region ?_
        refine TO.y (Y.move rfl) rfl rfl rfl ?_
        refine TO.y (Y.assign rfl) rfl rfl rfl ?_
        refine TO.nil ?_
        refine TE.next ?_
        refine TW.ret ?_
        exact TE.leaf fun _ _ hf_ hs_ => ret_any (rs := [.tmp 6]) (vs := [X23]) (.inl rfl) rfl ⟨rfl, trivial⟩ hf_ hs_ ⟨X23, rfl, hs_.pulls [0] rfl⟩

/-- loop.example/g00950/impl.CompactEnts -/
noncomputable def impl_CompactEnts (l : List Ent) (snaps : List Int) (bottom : Bool) : Option (List Ent) :=
  (if (decide (((l.length : Nat) : Int) > (400 : Int))) = true then (some true)
  else ((impl_inOrder l).bind fun R4 =>
  some (!R4))).bind (fun (T1 : Bool) =>
  if T1 = true then (some ([]))
  else ((impl_compacted l snaps bottom).bind fun R9 =>
  some R9))

theorem impl_CompactEnts_con (l : List Ent) (snaps : List Int) (bottom : Bool) (V_l0 : Value) (V_snaps0 : Value) (r : List Ent) (hm : impl_CompactEnts l snaps bottom = some r) :
    Con Try.prog 17 [V_l0, V_snaps0, .bool bottom] [] [(V_l0, lc l), (V_snaps0, lc snaps)] (fun X : Value => X) (fun X => [.own X (lc r)]) := by
  refine Con.intro (args := [V_l0, V_snaps0, .bool bottom]) (n := 19) (val := fun _ (X : Value) => X) (post := fun r X => [.own X (lc r)]) (m := impl_CompactEnts l snaps bottom) Try.func17 rfl rfl rfl hm ?_
  intro w S hrd
  have HB_V_l0 := hrd _ (.head _)
  have HB_V_snaps0 := hrd _ (.tail _ (.head _))
  clear hrd
  unfold impl_CompactEnts
  refine TW.seq ?_
  refine TW.region ?_
  refine TO.y (Y.assign rfl) rfl rfl rfl ?_
  refine TO.nil ?_
  refine TE.next ?_
  refine TW.seq ?_
  refine TW.seq ?_
  refine TW.joinBX (τ := Bool) (X := Unit) (fun T _ => [(0, V_l0), (1, V_snaps0), (2, .bool bottom), (14, .bool T)]) (fun _ _ => []) ?_ (fun T1 X2 => ?_)
  · refine TW.region ?_
    refine TO.y (Y.move rfl) rfl rfl rfl ?_
    refine TO.y (Y.len (l := l) ke40 (Base.can HB_V_l0) rfl) rfl rfl rfl ?_
    refine TO.y (Y.gtr rfl rfl) rfl rfl rfl ?_
    refine TO.y (Y.move rfl) rfl rfl rfl ?_
    refine TO.ite (b := decide (((l.length : Nat) : Int) > (400 : Int))) (fun H3 => ?_) (fun H3 => ?_)
    · refine TO.off (Gd.at 3 false 10 (decide (((l.length : Nat) : Int) > (400 : Int))) rfl rfl rfl (beq_tf H3)) rfl rfl ?_
      refine TO.off (Gd.at 3 false 10 (decide (((l.length : Nat) : Int) > (400 : Int))) rfl rfl rfl (beq_tf H3)) rfl rfl ?_
      refine TO.off (Gd.at 3 false 10 (decide (((l.length : Nat) : Int) > (400 : Int))) rfl rfl rfl (beq_tf H3)) rfl rfl ?_
      refine TO.y (Y.pick_t H3 rfl rfl) rfl rfl rfl ?_
      refine TO.nil ?_
      exact TE.jb_go () [] ⟨rfl, rfl, rfl, rfl, trivial⟩ rfl
    · refine TO.y (Y.move rfl) (Gd.at 3 false 10 (decide (((l.length : Nat) : Int) > (400 : Int))) rfl rfl rfl (beq_ff H3)) rfl rfl ?_
      refine TO.bind fun R4 H5 => ?_
      refine TO.ef (Ef.call (rest := []) [] (impl_inOrder_con l V_l0 R4 H5) kc47 rfl rfl ⟨(Base.can HB_V_l0), trivial⟩) (Gd.at 3 false 10 (decide (((l.length : Nat) : Int) > (400 : Int))) rfl rfl rfl (beq_ff H3)) rfl rfl (fun _ => ?_)
      refine TO.y (Y.not rfl) (Gd.at 3 false 10 (decide (((l.length : Nat) : Int) > (400 : Int))) rfl rfl rfl (beq_ff H3)) rfl rfl ?_
      refine TO.y (Y.pick_f H3 rfl rfl) rfl rfl rfl ?_
      refine TO.nil ?_
      exact TE.jb_go () [] ⟨rfl, rfl, rfl, rfl, trivial⟩ rfl
  · refine TE.next ?_
    refine TW.cond rfl (fun H7 => ?_) (fun H7 => ?_)
    · refine TW.seq ?_
      refine TW.region ?_
      refine TO.y (Y.assign rfl) rfl rfl rfl ?_
      refine TO.nil ?_
      refine TE.next ?_
      refine TW.ret ?_
      refine TE.then_ret ?_
      exact TE.leaf fun _ _ hf_ hs_ => ret_any (rs := [.tmp 6]) (vs := [.slice none 0 0]) (.inl rfl) rfl ⟨rfl, trivial⟩ hf_ hs_ ⟨(.slice none 0 0), rfl, (hs_.nilItem 4).pulls [0] rfl⟩
    · refine TW.skip ?_
      refine TE.next ?_
      refine TW.seq ?_
      refine TW.region ?_
      refine TO.y (Y.move rfl) rfl rfl rfl ?_
      refine TO.y (Y.move rfl) rfl rfl rfl ?_
      refine TO.y (Y.move rfl) rfl rfl rfl ?_
      refine TO.bind fun R9 H10 => ?_
      refine TO.ef (Ef.call (rest := []) [] (impl_compacted_con l snaps bottom V_l0 V_snaps0 R9 H10) kc48 rfl rfl ⟨(Base.can HB_V_l0), (Base.can HB_V_snaps0), trivial⟩) rfl rfl rfl (fun Y11 => ?_)
      refine TO.y (Y.assign rfl) rfl rfl rfl ?_
      refine TO.nil ?_
      refine TE.next ?_
      refine TW.ret ?_
      exact TE.leaf fun _ _ hf_ hs_ => ret_any (rs := [.tmp 6]) (vs := [Y11]) (.inl rfl) rfl ⟨rfl, trivial⟩ hf_ hs_ ⟨Y11, rfl, hs_.pulls [0] rfl⟩

/-- loop.example/g00950/spec.l15Last -/
noncomputable def spec_l15Last (l : List Ent) (at_ : Int) : Option Int :=
  bindC (loopO (fun (S1 : Int) => (if (decide (S1 < ((l.length : Nat) : Int))) = true then ((idx l S1).bind fun E8 =>
  (idx l at_).bind fun E10 =>
  some (decide (E8.Key = E10.Key)))
  else (some false)).bind (fun (T5 : Bool) =>
  if T5 = true then (some (.go (IntKind.i64.wrap (S1 + (1 : Int)))))
  else (some (.done (.go S1)))))
  at_)
  (fun (T3 : Int) => some T3)

theorem spec_l15Last_con (l : List Ent) (at_ : Int) (V_l0 : Value) (r : Int) (hm : spec_l15Last l at_ = some r) :
    Con Try.prog 50 [V_l0, .int .i64 at_] [] [(V_l0, lc l)] (fun _ : Unit => .int .i64 r) (fun _ => []) := by
  refine Con.intro (args := [V_l0, .int .i64 at_]) (n := 27) (val := fun r (_ : Unit) => .int .i64 r) (post := fun _ _ => []) (m := spec_l15Last l at_) Try.func50 rfl rfl rfl hm ?_
  intro w S hrd
  have HB_V_l0 := hrd _ (.head _)
  clear hrd
  unfold spec_l15Last
  refine TW.seq ?_
  refine TW.region ?_
  refine TO.y (Y.assign rfl) rfl rfl rfl ?_
  refine TO.nil ?_
  refine TE.next ?_
  refine TW.seq ?_
  refine TW.region ?_
  refine TO.y (Y.move rfl) rfl rfl rfl ?_
  refine TO.y (Y.assign rfl) rfl rfl rfl ?_
  refine TO.nil ?_
  refine TE.next ?_
  refine TW.seq ?_
  refine TW.joinX (τ := Int) (X := Unit) (fun T _ => [(5, .int .i64 T)]) (fun _ _ => []) ?_ (fun T3 X4 => ?_)
  · refine TW.block ?_
    refine TW.loopX (σ := Int) (X := Unit) (fun T _ => [(0, V_l0), (1, .int .i64 at_), (5, .int .i64 T)]) (fun _ _ => []) () [] ⟨rfl, rfl, rfl, trivial⟩ rfl (fun S1 X2 => ?_)
    refine TW.seq ?_
    refine TW.seq ?_
    refine TW.joinBX (τ := Bool) (X := Unit) (fun T _ => [(0, V_l0), (1, .int .i64 at_), (5, .int .i64 S1), (23, .bool T)]) (fun _ _ => []) ?_ (fun T5 X6 => ?_)
    · refine TW.draw (isH := []) hMix ?_
      refine TA.y (listed' := #[true, false, false, false, false, false, false, false, false, false, false, false, false, false, false, false, false]) 0 [] rfl (Y.move rfl) rfl rfl rfl (by kernel_rfl) (by kernel_rfl) (by kernel_rfl) rfl rfl ?_
      refine TA.y (listed' := #[true, true, false, false, false, false, false, false, false, false, false, false, false, false, false, false, false]) 1 [] rfl (Y.move rfl) rfl rfl rfl (by kernel_rfl) (by kernel_rfl) (by kernel_rfl) rfl rfl ?_
      refine TA.y (listed' := #[true, true, true, false, false, false, false, false, false, false, false, false, false, false, false, false, false]) 2 [] rfl (Y.len (l := l) ke40 (Base.can HB_V_l0) rfl) rfl rfl rfl (by kernel_rfl) (by kernel_rfl) (by kernel_rfl) rfl rfl ?_
      refine TA.y (listed' := #[true, true, true, true, false, false, false, false, false, false, false, false, false, false, false, false, false]) 3 [] rfl (Y.lss rfl rfl) rfl rfl rfl (by kernel_rfl) (by kernel_rfl) (by kernel_rfl) rfl rfl ?_
      refine TA.y (listed' := #[true, true, true, true, true, false, false, false, false, false, false, false, false, false, false, false, false]) 4 [] rfl (Y.move rfl) rfl rfl rfl (by kernel_rfl) (by kernel_rfl) (by kernel_rfl) rfl rfl ?_
      refine TA.ite (b := decide (S1 < ((l.length : Nat) : Int))) (fun H7 => ?_) (fun H7 => ?_)
      · refine TA.y (listed' := #[true, true, true, true, true, true, false, false, false, false, false, false, false, false, false, false, false]) 5 [] rfl (Y.move rfl) (Gd.at 4 true 11 (decide (S1 < ((l.length : Nat) : Int))) rfl rfl rfl (beq_tt H7)) rfl rfl (by kernel_rfl) (by kernel_rfl) (by kernel_rfl) rfl rfl ?_
        refine TA.y (listed' := #[true, true, true, true, true, true, true, false, false, false, false, false, false, false, false, false, false]) 6 [] rfl (Y.move rfl) (Gd.at 4 true 11 (decide (S1 < ((l.length : Nat) : Int))) rfl rfl rfl (beq_tt H7)) rfl rfl (by kernel_rfl) (by kernel_rfl) (by kernel_rfl) rfl rfl ?_
        refine TA.bind fun E8 H9 => ?_
        refine TA.y (listed' := #[true, true, true, true, true, true, true, true, false, false, false, false, false, false, false, false, false]) 7 [] rfl (Y.index ke40 (Base.can HB_V_l0) H9 rfl rfl) (Gd.at 4 true 11 (decide (S1 < ((l.length : Nat) : Int))) rfl rfl rfl (beq_tt H7)) rfl rfl (by kernel_rfl) (by kernel_rfl) (by kernel_rfl) rfl rfl ?_
        refine TA.y (listed' := #[true, true, true, true, true, true, true, true, true, false, false, false, false, false, false, false, false]) 8 [] rfl (Y.field_el kf81_0 (Base.can HB_V_l0) (idx_get H9).2.2 rfl rfl) (Gd.at 4 true 11 (decide (S1 < ((l.length : Nat) : Int))) rfl rfl rfl (beq_tt H7)) rfl rfl (by kernel_rfl) (by kernel_rfl) (by kernel_rfl) rfl rfl ?_
        refine TA.y (listed' := #[true, true, true, true, true, true, true, true, true, true, false, false, false, false, false, false, false]) 9 [] rfl (Y.load_el (us := [strV E8.Key]) (u := strV E8.Key) kk9 rfl (Base.can HB_V_l0) (idx_get H9).2.2 rfl rfl rfl rfl rfl) (Gd.at 4 true 11 (decide (S1 < ((l.length : Nat) : Int))) rfl rfl rfl (beq_tt H7)) rfl rfl (by kernel_rfl) (by kernel_rfl) (by kernel_rfl) rfl rfl ?_
        refine TA.y (listed' := #[true, true, true, true, true, true, true, true, true, true, true, false, false, false, false, false, false]) 10 [] rfl (Y.move rfl) (Gd.at 4 true 11 (decide (S1 < ((l.length : Nat) : Int))) rfl rfl rfl (beq_tt H7)) rfl rfl (by kernel_rfl) (by kernel_rfl) (by kernel_rfl) rfl rfl ?_
        refine TA.y (listed' := #[true, true, true, true, true, true, true, true, true, true, true, true, false, false, false, false, false]) 11 [] rfl (Y.move rfl) (Gd.at 4 true 11 (decide (S1 < ((l.length : Nat) : Int))) rfl rfl rfl (beq_tt H7)) rfl rfl (by kernel_rfl) (by kernel_rfl) (by kernel_rfl) rfl rfl ?_
        refine TA.bind fun E10 H11 => ?_
        refine TA.y (listed' := #[true, true, true, true, true, true, true, true, true, true, true, true, true, false, false, false, false]) 12 [] rfl (Y.index ke40 (Base.can HB_V_l0) H11 rfl rfl) (Gd.at 4 true 11 (decide (S1 < ((l.length : Nat) : Int))) rfl rfl rfl (beq_tt H7)) rfl rfl (by kernel_rfl) (by kernel_rfl) (by kernel_rfl) rfl rfl ?_
        refine TA.y (listed' := #[true, true, true, true, true, true, true, true, true, true, true, true, true, true, false, false, false]) 13 [] rfl (Y.field_el kf81_0 (Base.can HB_V_l0) (idx_get H11).2.2 rfl rfl) (Gd.at 4 true 11 (decide (S1 < ((l.length : Nat) : Int))) rfl rfl rfl (beq_tt H7)) rfl rfl (by kernel_rfl) (by kernel_rfl) (by kernel_rfl) rfl rfl ?_
        refine TA.y (listed' := #[true, true, true, true, true, true, true, true, true, true, true, true, true, true, true, false, false]) 14 [] rfl (Y.load_el (us := [strV E10.Key]) (u := strV E10.Key) kk9 rfl (Base.can HB_V_l0) (idx_get H11).2.2 rfl rfl rfl rfl rfl) (Gd.at 4 true 11 (decide (S1 < ((l.length : Nat) : Int))) rfl rfl rfl (beq_tt H7)) rfl rfl (by kernel_rfl) (by kernel_rfl) (by kernel_rfl) rfl rfl ?_
        refine TA.y (listed' := #[true, true, true, true, true, true, true, true, true, true, true, true, true, true, true, true, false]) 15 [] rfl (Y.seql rfl rfl) (Gd.at 4 true 11 (decide (S1 < ((l.length : Nat) : Int))) rfl rfl rfl (beq_tt H7)) rfl rfl (by kernel_rfl) (by kernel_rfl) (by kernel_rfl) rfl rfl ?_
        refine TA.y (listed' := #[true, true, true, true, true, true, true, true, true, true, true, true, true, true, true, true, true]) 16 [] rfl (Y.pick_t H7 rfl rfl) rfl rfl rfl (by kernel_rfl) (by kernel_rfl) (by kernel_rfl) rfl rfl ?_
        refine TA.nil (by kernel_rfl) ?_
        exact TE.jb_go () [] ⟨rfl, rfl, rfl, rfl, trivial⟩ rfl
      · refine TA.off (listed' := #[true, true, true, true, true, true, false, false, false, false, false, false, false, false, false, false, false]) 5 [] rfl (Gd.at 4 true 11 (decide (S1 < ((l.length : Nat) : Int))) rfl rfl rfl (beq_ft H7)) rfl rfl (by kernel_rfl) (by kernel_rfl) (by kernel_rfl) rfl rfl ?_
        refine TA.off (listed' := #[true, true, true, true, true, true, true, false, false, false, false, false, false, false, false, false, false]) 6 [] rfl (Gd.at 4 true 11 (decide (S1 < ((l.length : Nat) : Int))) rfl rfl rfl (beq_ft H7)) rfl rfl (by kernel_rfl) (by kernel_rfl) (by kernel_rfl) rfl rfl ?_
        refine TA.off (listed' := #[true, true, true, true, true, true, true, true, false, false, false, false, false, false, false, false, false]) 7 [] rfl (Gd.at 4 true 11 (decide (S1 < ((l.length : Nat) : Int))) rfl rfl rfl (beq_ft H7)) rfl rfl (by kernel_rfl) (by kernel_rfl) (by kernel_rfl) rfl rfl ?_
        refine TA.off (listed' := #[true, true, true, true, true, true, true, true, true, false, false, false, false, false, false, false, false]) 8 [] rfl (Gd.at 4 true 11 (decide (S1 < ((l.length : Nat) : Int))) rfl rfl rfl (beq_ft H7)) rfl rfl (by kernel_rfl) (by kernel_rfl) (by kernel_rfl) rfl rfl ?_
        refine TA.off (listed' := #[true, true, true, true, true, true, true, true, true, true, false, false, false, false, false, false, false]) 9 [] rfl (Gd.at 4 true 11 (decide (S1 < ((l.length : Nat) : Int))) rfl rfl rfl (beq_ft H7)) rfl rfl (by kernel_rfl) (by kernel_rfl) (by kernel_rfl) rfl rfl ?_
        refine TA.off (listed' := #[true, true, true, true, true, true, true, true, true, true, true, false, false, false, false, false, false]) 10 [] rfl (Gd.at 4 true 11 (decide (S1 < ((l.length : Nat) : Int))) rfl rfl rfl (beq_ft H7)) rfl rfl (by kernel_rfl) (by kernel_rfl) (by kernel_rfl) rfl rfl ?_
        refine TA.off (listed' := #[true, true, true, true, true, true, true, true, true, true, true, true, false, false, false, false, false]) 11 [] rfl (Gd.at 4 true 11 (decide (S1 < ((l.length : Nat) : Int))) rfl rfl rfl (beq_ft H7)) rfl rfl (by kernel_rfl) (by kernel_rfl) (by kernel_rfl) rfl rfl ?_
        refine TA.off (listed' := #[true, true, true, true, true, true, true, true, true, true, true, true, true, false, false, false, false]) 12 [] rfl (Gd.at 4 true 11 (decide (S1 < ((l.length : Nat) : Int))) rfl rfl rfl (beq_ft H7)) rfl rfl (by kernel_rfl) (by kernel_rfl) (by kernel_rfl) rfl rfl ?_
        refine TA.off (listed' := #[true, true, true, true, true, true, true, true, true, true, true, true, true, true, false, false, false]) 13 [] rfl (Gd.at 4 true 11 (decide (S1 < ((l.length : Nat) : Int))) rfl rfl rfl (beq_ft H7)) rfl rfl (by kernel_rfl) (by kernel_rfl) (by kernel_rfl) rfl rfl ?_
        refine TA.off (listed' := #[true, true, true, true, true, true, true, true, true, true, true, true, true, true, true, false, false]) 14 [] rfl (Gd.at 4 true 11 (decide (S1 < ((l.length : Nat) : Int))) rfl rfl rfl (beq_ft H7)) rfl rfl (by kernel_rfl) (by kernel_rfl) (by kernel_rfl) rfl rfl ?_
        refine TA.off (listed' := #[true, true, true, true, true, true, true, true, true, true, true, true, true, true, true, true, false]) 15 [] rfl (Gd.at 4 true 11 (decide (S1 < ((l.length : Nat) : Int))) rfl rfl rfl (beq_ft H7)) rfl rfl (by kernel_rfl) (by kernel_rfl) (by kernel_rfl) rfl rfl ?_
        refine TA.y (listed' := #[true, true, true, true, true, true, true, true, true, true, true, true, true, true, true, true, true]) 16 [] rfl (Y.pick_f H7 rfl rfl) rfl rfl rfl (by kernel_rfl) (by kernel_rfl) (by kernel_rfl) rfl rfl ?_
        refine TA.nil (by kernel_rfl) ?_
        exact TE.jb_go () [] ⟨rfl, rfl, rfl, rfl, trivial⟩ rfl
    · refine TE.next ?_
      refine TW.cond rfl (fun H12 => ?_) (fun H12 => ?_)
      · refine TW.skip ?_
        refine TE.next ?_
        refine TW.block ?_
        refine TW.region ?_
        refine TO.y (Y.move rfl) rfl rfl rfl ?_
        refine TO.y (Y.add rfl rfl) rfl rfl rfl ?_
        refine TO.y (Y.assign rfl) rfl rfl rfl ?_
        refine TO.nil ?_
        refine TE.block_normal ?_
        exact TE.lp_go () [] ⟨rfl, rfl, rfl, trivial⟩ rfl
      · refine TW.exit ?_
        refine TE.then_exit ?_
        refine TE.lp_exit ?_
        refine TE.block_exit ?_
        exact TE.jn_go () [] ⟨rfl, trivial⟩ rfl
  · refine TE.next ?_
    refine TW.seq ?_
    refine TW.region ?_
    refine TO.y (Y.move rfl) rfl rfl rfl ?_
    refine TO.y (Y.assign rfl) rfl rfl rfl ?_
    refine TO.nil ?_
    refine TE.next ?_
    refine TW.ret ?_
    exact TE.leaf fun _ _ hf_ hs_ => ret_any (rs := [.tmp 4]) (vs := [.int .i64 T3]) (.inl rfl) rfl ⟨rfl, trivial⟩ hf_ hs_ ⟨(), rfl, hs_.pulls [] rfl⟩

/-- loop.example/g00950/spec.l9Get -/
noncomputable def spec_l9Get (l : List Ent) (key : List UInt8) (seq : Int) : Option (Ent × Bool) :=
  bindC (loopO (fun (S2 : Int) => if (decide (S2 < ((l.length : Nat) : Int))) = true then (((idx l S2).bind fun E9 =>
  if (decide (E9.Key = key)) = true then (some (decide (E9.Seq ≤ seq)))
  else (some false)).bind (fun (T7 : Bool) =>
  if T7 = true then ((idx l S2).bind fun E13 =>
  some (.done (.done (E13, true))))
  else (some (.go (IntKind.i64.wrap (S2 + (1 : Int)))))))
  else (some (.done (.go ()))))
  (0 : Int))
  (fun (T4 : Unit) => some ({ Key := [], Seq := (0 : Int), Del := false, Val := [] : Ent }, false))

theorem spec_l9Get_con (l : List Ent) (key : List UInt8) (seq : Int) (V_l0 : Value) (r : Ent × Bool) (hm : spec_l9Get l key seq = some r) :
    Con Try.prog 80 [V_l0, strV key, .int .i64 seq] [] [(V_l0, lc l)] (fun _ : Unit => .tuple #[.agg #[strV r.1.Key, .int .i64 r.1.Seq, .bool r.1.Del, strV r.1.Val], .bool r.2]) (fun _ => []) := by
  refine Con.intro (args := [V_l0, strV key, .int .i64 seq]) (n := 36) (val := fun r (_ : Unit) => .tuple #[.agg #[strV r.1.Key, .int .i64 r.1.Seq, .bool r.1.Del, strV r.1.Val], .bool r.2]) (post := fun _ _ => []) (m := spec_l9Get l key seq) Try.func80 rfl rfl rfl hm ?_
  intro w S hrd
  have HB_V_l0 := hrd _ (.head _)
  clear hrd
  unfold spec_l9Get
  refine TW.seq ?_
  refine TW.region ?_
  refine TO.ef (Ef.alloc kz81 rfl) rfl rfl rfl (fun B1 => ?_)
  refine TO.y (Y.assign rfl) rfl rfl rfl ?_
  refine TO.nil ?_
  refine TE.next ?_
  refine TW.seq ?_
  refine TW.seq ?_
  refine TW.region ?_
  refine TO.y (Y.assign rfl) rfl rfl rfl ?_
  refine TO.nil ?_
  refine TE.next ?_
  refine TW.joinX (τ := Unit) (X := Unit) (fun _ _ => [(6, .pointer (some ⟨B1, 0, none⟩))]) (fun _ _ => [.box B1 81 [strV ([]), .int .i64 (0 : Int), .bool false, strV ([])]]) ?_ (fun T4 X5 => ?_)
  · refine TW.block ?_
    refine TW.loopX (σ := Int) (X := Unit) (fun T _ => [(0, V_l0), (1, strV key), (2, .int .i64 seq), (6, .pointer (some ⟨B1, 0, none⟩)), (8, .int .i64 T)]) (fun _ _ => [.box B1 81 [strV ([]), .int .i64 (0 : Int), .bool false, strV ([])]]) () [0] ⟨rfl, rfl, rfl, rfl, rfl, trivial⟩ rfl (fun S2 X3 => ?_)
    refine TW.seq ?_
    refine TW.seq ?_
    refine TW.region ?_
    refine TO.y (Y.move rfl) rfl rfl rfl ?_
    refine TO.y (Y.move rfl) rfl rfl rfl ?_
    refine TO.y (Y.len (l := l) ke40 (Base.can HB_V_l0) rfl) rfl rfl rfl ?_
    refine TO.y (Y.lss rfl rfl) rfl rfl rfl ?_
    refine TO.nil ?_
    refine TE.next ?_
    refine TW.cond rfl (fun H6 => ?_) (fun H6 => ?_)
    · refine TW.skip ?_
      refine TE.next ?_
      refine TW.seq ?_
      refine TW.block ?_
      refine TW.seq ?_
      refine TW.joinBX (τ := Bool) (X := Unit) (fun T _ => [(0, V_l0), (1, strV key), (2, .int .i64 seq), (6, .pointer (some ⟨B1, 0, none⟩)), (8, .int .i64 S2), (30, .bool T)]) (fun _ _ => [.box B1 81 [strV ([]), .int .i64 (0 : Int), .bool false, strV ([])]]) ?_ (fun T7 X8 => ?_)
      · refine TW.region ?_
        refine TO.y (Y.move rfl) rfl rfl rfl ?_
        refine TO.y (Y.move rfl) rfl rfl rfl ?_
        refine TO.bind fun E9 H10 => ?_
        refine TO.y (Y.index ke40 (Base.can HB_V_l0) H10 rfl rfl) rfl rfl rfl ?_
        refine TO.y (Y.field_el kf81_0 (Base.can HB_V_l0) (idx_get H10).2.2 rfl rfl) rfl rfl rfl ?_
        refine TO.y (Y.load_el (us := [strV E9.Key]) (u := strV E9.Key) kk9 rfl (Base.can HB_V_l0) (idx_get H10).2.2 rfl rfl rfl rfl rfl) rfl rfl rfl ?_
        refine TO.y (Y.move rfl) rfl rfl rfl ?_
        refine TO.y (Y.seql rfl rfl) rfl rfl rfl ?_
        refine TO.y (Y.move rfl) rfl rfl rfl ?_
        refine TO.ite (b := decide (E9.Key = key)) (fun H11 => ?_) (fun H11 => ?_)
        · refine TO.y (Y.move rfl) (Gd.at 7 true 22 (decide (E9.Key = key)) rfl rfl rfl (beq_tt H11)) rfl rfl ?_
          refine TO.y (Y.move rfl) (Gd.at 7 true 22 (decide (E9.Key = key)) rfl rfl rfl (beq_tt H11)) rfl rfl ?_
          refine TO.y (Y.index ke40 (Base.can HB_V_l0) H10 rfl rfl) (Gd.at 7 true 22 (decide (E9.Key = key)) rfl rfl rfl (beq_tt H11)) rfl rfl ?_
          refine TO.y (Y.field_el kf81_1 (Base.can HB_V_l0) (idx_get H10).2.2 rfl rfl) (Gd.at 7 true 22 (decide (E9.Key = key)) rfl rfl rfl (beq_tt H11)) rfl rfl ?_
          refine TO.y (Y.load_el (us := [.int .i64 E9.Seq]) (u := .int .i64 E9.Seq) kk3 rfl (Base.can HB_V_l0) (idx_get H10).2.2 rfl rfl rfl rfl rfl) (Gd.at 7 true 22 (decide (E9.Key = key)) rfl rfl rfl (beq_tt H11)) rfl rfl ?_
          refine TO.y (Y.move rfl) (Gd.at 7 true 22 (decide (E9.Key = key)) rfl rfl rfl (beq_tt H11)) rfl rfl ?_
          refine TO.y (Y.leq rfl rfl) (Gd.at 7 true 22 (decide (E9.Key = key)) rfl rfl rfl (beq_tt H11)) rfl rfl ?_
          refine TO.y (Y.pick_t H11 rfl rfl) rfl rfl rfl ?_
          refine TO.nil ?_
          exact TE.jb_go () [0] ⟨rfl, rfl, rfl, rfl, rfl, rfl, trivial⟩ rfl
        · refine TO.off (Gd.at 7 true 22 (decide (E9.Key = key)) rfl rfl rfl (beq_ft H11)) rfl rfl ?_
          refine TO.off (Gd.at 7 true 22 (decide (E9.Key = key)) rfl rfl rfl (beq_ft H11)) rfl rfl ?_
          refine TO.off (Gd.at 7 true 22 (decide (E9.Key = key)) rfl rfl rfl (beq_ft H11)) rfl rfl ?_
          refine TO.off (Gd.at 7 true 22 (decide (E9.Key = key)) rfl rfl rfl (beq_ft H11)) rfl rfl ?_
          refine TO.off (Gd.at 7 true 22 (decide (E9.Key = key)) rfl rfl rfl (beq_ft H11)) rfl rfl ?_
          refine TO.off (Gd.at 7 true 22 (decide (E9.Key = key)) rfl rfl rfl (beq_ft H11)) rfl rfl ?_
          refine TO.off (Gd.at 7 true 22 (decide (E9.Key = key)) rfl rfl rfl (beq_ft H11)) rfl rfl ?_
          refine TO.y (Y.pick_f H11 rfl rfl) rfl rfl rfl ?_
          refine TO.nil ?_
          exact TE.jb_go () [0] ⟨rfl, rfl, rfl, rfl, rfl, rfl, trivial⟩ rfl
      · refine TE.next ?_
        refine TW.cond rfl (fun H12 => ?_) (fun H12 => ?_)
        · refine TW.seq ?_
          refine TW.region ?_
          refine TO.y (Y.move rfl) rfl rfl rfl ?_
          refine TO.y (Y.move rfl) rfl rfl rfl ?_
          refine TO.bind fun E13 H14 => ?_
          refine TO.y (Y.index ke40 (Base.can HB_V_l0) H14 rfl rfl) rfl rfl rfl ?_
          refine TO.y (Y.load_el (us := [strV E13.Key, .int .i64 E13.Seq, .bool E13.Del, strV E13.Val]) (u := .agg #[strV E13.Key, .int .i64 E13.Seq, .bool E13.Del, strV E13.Val]) kk81 rfl (Base.can HB_V_l0) (idx_get H14).2.2 rfl rfl rfl rfl rfl) rfl rfl rfl ?_
          refine TO.ef0 (Ef.store_box (us := [strV E13.Key, .int .i64 E13.Seq, .bool E13.Del, strV E13.Val]) (vs' := [strV E13.Key, .int .i64 E13.Seq, .bool E13.Del, strV E13.Val]) (is' := [.box B1 81 [strV E13.Key, .int .i64 E13.Seq, .bool E13.Del, strV E13.Val]]) 0 kk81 rfl rfl rfl (Cel.plain rfl rfl) rfl rfl rfl rfl) rfl rfl (fun _ => ?_)
          refine TO.y (Y.assign rfl) rfl rfl rfl ?_
          refine TO.nil ?_
          refine TE.next ?_
          refine TW.ret ?_
          refine TE.block_ret ?_
          refine TE.then_ret ?_
          refine TE.lp_ret ?_
          refine TE.block_ret ?_
          refine TE.jn_done ?_
          refine TE.then_ret ?_
          exact TE.leaf fun _ _ hf_ hs_ => ret_any (rs := [.cell 6 81, .tmp 7]) (vs := [.agg #[strV E13.Key, .int .i64 E13.Seq, .bool E13.Del, strV E13.Val], .bool true]) (.inl rfl) rfl (RV.cell 0 rfl rfl kk81 rfl ⟨rfl, trivial⟩) hf_ hs_ ⟨(), rfl, hs_.pulls [] rfl⟩
        · refine TW.skip ?_
          refine TE.block_normal ?_
          refine TE.next ?_
          refine TW.region ?_
          refine TO.y (Y.move rfl) rfl rfl rfl ?_
          refine TO.y (Y.add rfl rfl) rfl rfl rfl ?_
          refine TO.y (Y.assign rfl) rfl rfl rfl ?_
          refine TO.nil ?_
          exact TE.lp_go () [0] ⟨rfl, rfl, rfl, rfl, rfl, trivial⟩ rfl
    · refine TW.exit ?_
      refine TE.then_exit ?_
      refine TE.lp_exit ?_
      refine TE.block_exit ?_
      exact TE.jn_go () [0] ⟨rfl, trivial⟩ rfl
  · refine TE.next ?_
    refine TW.seq ?_
    refine TW.region ?_
    refine TO.y (Y.build (cells := [strV ([]), .int .i64 (0 : Int), .bool false, strV ([])]) [] kp81 kz81 trivial rfl) rfl rfl rfl ?_
    refine TO.ef0 (Ef.store_box (us := [strV ([]), .int .i64 (0 : Int), .bool false, strV ([])]) (vs' := [strV ([]), .int .i64 (0 : Int), .bool false, strV ([])]) (is' := [.box B1 81 [strV ([]), .int .i64 (0 : Int), .bool false, strV ([])]]) 0 kk81 rfl rfl rfl (Cel.plain rfl rfl) rfl rfl rfl rfl) rfl rfl (fun _ => ?_)
    refine TO.y (Y.assign rfl) rfl rfl rfl ?_
    refine TO.nil ?_
    refine TE.next ?_
    refine TW.ret ?_
    exact TE.leaf fun _ _ hf_ hs_ => ret_any (rs := [.cell 6 81, .tmp 7]) (vs := [.agg #[strV ([]), .int .i64 (0 : Int), .bool false, strV ([])], .bool false]) (.inl rfl) rfl (RV.cell 0 rfl rfl kk81 rfl ⟨rfl, trivial⟩) hf_ hs_ ⟨(), rfl, hs_.pulls [] rfl⟩

/-- loop.example/g00950/spec.l15Key -/
noncomputable def spec_l15Key (l : List Ent) (snaps : List Int) (bottom : Bool) : Option (List Ent) :=
  bindC (loopO (fun (S2 : Int × List Ent) => if (decide (S2.1 < ((l.length : Nat) : Int))) = true then (bindC (loopO (fun (S7 : Bool × Int) => if (decide (S7.2 < ((snaps.length : Nat) : Int))) = true then ((idx l S2.1).bind fun E12 =>
  (idx snaps S7.2).bind fun E14 =>
  (spec_l9Get l E12.Key E14).bind fun R16 =>
  (if S7.1 = true then (some true)
  else (if R16.2 = true then (some (decide (R16.1.Seq = E12.Seq)))
  else (some false))).bind (fun (T25 : Bool) =>
  some (.go (T25, IntKind.i64.wrap (S7.2 + (1 : Int))))))
  else (some (.done (.go S7.1))))
  (decide (S2.1 = (0 : Int)), (0 : Int)))
  (fun (T9 : Bool) => bindC (if T9 = true then ((idx l S2.1).bind fun E32 =>
  (app 48 S2.2 ([E32])).bind fun E36 =>
  some (.go E36))
  else (some (.go S2.2)))
  (fun (T29 : List Ent) => some (.go (IntKind.i64.wrap (S2.1 + (1 : Int)), T29)))))
  else (some (.done (.go S2.2))))
  ((0 : Int), ([] : List Ent)))
  (fun (T4 : List Ent) => bindC (loopO (fun (S38 : List Ent) => (if bottom = true then (if (decide (((S38.length : Nat) : Int) > (0 : Int))) = true then ((idx S38 (IntKind.i64.wrap (((S38.length : Nat) : Int) - (1 : Int)))).bind fun E46 =>
  some E46.Del)
  else (some false))
  else (some false)).bind (fun (T42 : Bool) =>
  if T42 = true then ((piece S38 (0 : Int) (IntKind.i64.wrap (((S38.length : Nat) : Int) - (1 : Int)))).bind fun E50 =>
  (app 48 ([] : List Ent) E50).bind fun E53 =>
  some (.go E53))
  else (some (.done (.go S38)))))
  T4)
  (fun (T40 : List Ent) => some T40))

theorem spec_l15Key_con (l : List Ent) (snaps : List Int) (bottom : Bool) (V_l0 : Value) (V_snaps0 : Value) (r : List Ent) (hm : spec_l15Key l snaps bottom = some r) :
    Con Try.prog 51 [V_l0, V_snaps0, .bool bottom] [] [(V_l0, lc l), (V_snaps0, lc snaps)] (fun X : Value => X) (fun X => [.own X (lc r)]) := by
  refine Con.intro (args := [V_l0, V_snaps0, .bool bottom]) (n := 87) (val := fun _ (X : Value) => X) (post := fun r X => [.own X (lc r)]) (m := spec_l15Key l snaps bottom) Try.func51 rfl rfl rfl hm ?_
  intro w S hrd
  have HB_V_l0 := hrd _ (.head _)
  have HB_V_snaps0 := hrd _ (.tail _ (.head _))
  clear hrd
  unfold spec_l15Key
  refine TW.seq ?_
  refine TW.region ?_
  refine TO.y (Y.assign rfl) rfl rfl rfl ?_
  refine TO.nil ?_
  refine TE.next ?_
  refine TW.seq ?_
  refine TW.region ?_
  refine TO.ef (Ef.buildSlice (α := Ent) (Vs := []) ([] : List Ent) ke40 kz81 rfl rfl rfl rfl rfl) rfl rfl rfl (fun B1 => ?_)
  refine TO.y (Y.assign rfl) rfl rfl rfl ?_
  refine TO.nil ?_
  refine TE.next ?_
  refine TW.seq ?_
  refine TW.seq ?_
  refine TW.region ?_
  refine TO.y (Y.assign rfl) rfl rfl rfl ?_
  refine TO.nil ?_
  refine TE.next ?_
  refine TW.joinX (τ := List Ent) (X := Value) (fun _ X => [(2, .bool bottom), (7, X)]) (fun T X => [.own X (lc T)]) ?_ (fun T4 X5 => ?_)
  · refine TW.block ?_
    refine TW.loopX (σ := Int × List Ent) (X := Value) (fun T X => [(0, V_l0), (1, V_snaps0), (2, .bool bottom), (7, X), (8, .int .i64 T.1)]) (fun T X => [.own X (lc T.2)]) (.slice (some ⟨B1, 0, none⟩) 0 0) [0] ⟨rfl, rfl, rfl, rfl, rfl, trivial⟩ rfl (fun S2 X3 => ?_)
    refine TW.seq ?_
    refine TW.seq ?_
    refine TW.region ?_
    refine TO.y (Y.move rfl) rfl rfl rfl ?_
    refine TO.y (Y.move rfl) rfl rfl rfl ?_
    refine TO.y (Y.len (l := l) ke40 (Base.can HB_V_l0) rfl) rfl rfl rfl ?_
    refine TO.y (Y.lss rfl rfl) rfl rfl rfl ?_
    refine TO.nil ?_
    refine TE.next ?_
    refine TW.cond rfl (fun H6 => ?_) (fun H6 => ?_)
    · refine TW.skip ?_
      refine TE.next ?_
      refine TW.seq ?_
      refine TW.block ?_
      refine TW.seq ?_
      refine TW.region ?_
      refine TO.y (Y.move rfl) rfl rfl rfl ?_
      refine TO.y (Y.eql rfl rfl) rfl rfl rfl ?_
      refine TO.y (Y.assign rfl) rfl rfl rfl ?_
      refine TO.nil ?_
      refine TE.next ?_
      refine TW.seq ?_
      refine TW.seq ?_
      refine TW.region ?_
      refine TO.y (Y.assign rfl) rfl rfl rfl ?_
      refine TO.nil ?_
      refine TE.next ?_
      refine TW.joinX (τ := Bool) (X := Unit) (fun T _ => [(0, V_l0), (1, V_snaps0), (2, .bool bottom), (7, X3), (8, .int .i64 S2.1), (9, .bool T)]) (fun _ _ => [.own X3 (lc S2.2)]) ?_ (fun T9 X10 => ?_)
      · refine TW.block ?_
        refine TW.loopX (σ := Bool × Int) (X := Unit) (fun T _ => [(0, V_l0), (1, V_snaps0), (2, .bool bottom), (7, X3), (8, .int .i64 S2.1), (9, .bool T.1), (10, .int .i64 T.2)]) (fun _ _ => [.own X3 (lc S2.2)]) () [0] ⟨rfl, rfl, rfl, rfl, rfl, rfl, rfl, trivial⟩ rfl (fun S7 X8 => ?_)
        refine TW.seq ?_
        refine TW.seq ?_
        refine TW.region ?_
        refine TO.y (Y.move rfl) rfl rfl rfl ?_
        refine TO.y (Y.move rfl) rfl rfl rfl ?_
        refine TO.y (Y.len (l := snaps) ke41 (Base.can HB_V_snaps0) rfl) rfl rfl rfl ?_
        refine TO.y (Y.lss rfl rfl) rfl rfl rfl ?_
        refine TO.nil ?_
        refine TE.next ?_
        refine TW.cond rfl (fun H11 => ?_) (fun H11 => ?_)
        · refine TW.skip ?_
          refine TE.next ?_
          refine TW.seq ?_
          refine TW.block ?_
          refine TW.seq ?_
          refine TW.bind fun E12 H13 => ?_
          refine TW.bind fun E14 H15 => ?_
          refine TW.bind fun R16 H17 => ?_
          refine TW.joinU (X := Nat) (fun _ X => [(0, V_l0), (1, V_snaps0), (2, .bool bottom), (7, X3), (8, .int .i64 S2.1), (9, .bool S7.1), (10, .int .i64 S7.2), (11, .pointer (some ⟨X, 0, none⟩)), (12, .bool R16.2)]) (fun _ X => [.box X 81 [strV R16.1.Key, .int .i64 R16.1.Seq, .bool R16.1.Del, strV R16.1.Val], .own X3 (lc S2.2)]) ?_ (fun _ X22 => ?_)
          · refine TW.draw (isH := [.own X3 (lc S2.2)]) hMix ?_
            refine TA.y (listed' := #[true, false, false, false, false, false, false, false, false, false, false, false, false, false, false, false, false]) 0 [0] rfl (Y.move rfl) rfl rfl rfl (by kernel_rfl) (by kernel_rfl) (by kernel_rfl) rfl rfl ?_
            refine TA.y (listed' := #[true, true, false, false, false, false, false, false, false, false, false, false, false, false, false, false, false]) 1 [0] rfl (Y.move rfl) rfl rfl rfl (by kernel_rfl) (by kernel_rfl) (by kernel_rfl) rfl rfl ?_
            refine TA.y (listed' := #[true, true, true, false, false, false, false, false, false, false, false, false, false, false, false, false, false]) 2 [0] rfl (Y.move rfl) rfl rfl rfl (by kernel_rfl) (by kernel_rfl) (by kernel_rfl) rfl rfl ?_
            refine TA.y (listed' := #[true, true, true, true, false, false, false, false, false, false, false, false, false, false, false, false, false]) 3 [0] rfl (Y.index ke40 (Base.can HB_V_l0) H13 rfl rfl) rfl rfl rfl (by kernel_rfl) (by kernel_rfl) (by kernel_rfl) rfl rfl ?_
            refine TA.y (listed' := #[true, true, true, true, true, false, false, false, false, false, false, false, false, false, false, false, false]) 4 [0] rfl (Y.field_el kf81_0 (Base.can HB_V_l0) (idx_get H13).2.2 rfl rfl) rfl rfl rfl (by kernel_rfl) (by kernel_rfl) (by kernel_rfl) rfl rfl ?_
            refine TA.y (listed' := #[true, true, true, true, true, true, false, false, false, false, false, false, false, false, false, false, false]) 5 [0] rfl (Y.load_el (us := [strV E12.Key]) (u := strV E12.Key) kk9 rfl (Base.can HB_V_l0) (idx_get H13).2.2 rfl rfl rfl rfl rfl) rfl rfl rfl (by kernel_rfl) (by kernel_rfl) (by kernel_rfl) rfl rfl ?_
            refine TA.y (listed' := #[true, true, true, true, true, true, true, false, false, false, false, false, false, false, false, false, false]) 6 [0] rfl (Y.move rfl) rfl rfl rfl (by kernel_rfl) (by kernel_rfl) (by kernel_rfl) rfl rfl ?_
            refine TA.y (listed' := #[true, true, true, true, true, true, true, true, false, false, false, false, false, false, false, false, false]) 7 [0] rfl (Y.move rfl) rfl rfl rfl (by kernel_rfl) (by kernel_rfl) (by kernel_rfl) rfl rfl ?_
            refine TA.y (listed' := #[true, true, true, true, true, true, true, true, true, false, false, false, false, false, false, false, false]) 8 [0] rfl (Y.index ke41 (Base.can HB_V_snaps0) H15 rfl rfl) rfl rfl rfl (by kernel_rfl) (by kernel_rfl) (by kernel_rfl) rfl rfl ?_
            refine TA.y (listed' := #[true, true, true, true, true, true, true, true, true, true, false, false, false, false, false, false, false]) 9 [0] rfl (Y.load_el (us := [.int .i64 E14]) (u := .int .i64 E14) kk3 rfl (Base.can HB_V_snaps0) (idx_get H15).2.2 rfl rfl rfl rfl rfl) rfl rfl rfl (by kernel_rfl) (by kernel_rfl) (by kernel_rfl) rfl rfl ?_
            refine TA.two 10 14 (by kernel_rfl) ?_ ?_
            · refine TX.ef (listed' := #[true, true, true, true, true, true, true, true, true, true, true, false, false, false, false, false, false]) [0] rfl (Ef.call (rest := [.own X3 (lc S2.2)]) [0] (spec_l9Get_con l E12.Key E14 V_l0 R16 H17) kc80 rfl rfl ⟨(Base.can HB_V_l0), trivial⟩) rfl rfl rfl rfl (fun _ => rfl) (fun _ => ?_)
              refine TA.y (listed' := #[true, true, true, true, true, true, true, true, true, true, true, true, false, false, false, false, false]) 11 [0] rfl (Y.move rfl) rfl rfl rfl (by kernel_rfl) (by kernel_rfl) (by kernel_rfl) rfl rfl ?_
              refine TA.y (listed' := #[true, true, true, true, true, true, true, true, true, true, true, true, true, false, false, false, false]) 12 [0] rfl (Y.extract rfl rfl) rfl rfl rfl (by kernel_rfl) (by kernel_rfl) (by kernel_rfl) rfl rfl ?_
              refine TA.y (listed' := #[true, true, true, true, true, true, true, true, true, true, true, true, true, true, false, false, false]) 13 [0] rfl (Y.extract rfl rfl) rfl rfl rfl (by kernel_rfl) (by kernel_rfl) (by kernel_rfl) rfl rfl ?_
              refine TA.one 14 (by kernel_rfl) ?_
              refine TX.ef (listed' := #[true, true, true, true, true, true, true, true, true, true, true, true, true, true, true, false, false]) [1] rfl (Ef.alloc kz81 rfl) rfl rfl rfl rfl (fun _ => rfl) (fun B25 => ?_)
              refine TA.one 15 (by kernel_rfl) ?_
              refine TX.ef0 (listed' := #[true, true, true, true, true, true, true, true, true, true, true, true, true, true, true, true, false]) [1] rfl (Ef.store_box (us := [strV R16.1.Key, .int .i64 R16.1.Seq, .bool R16.1.Del, strV R16.1.Val]) (vs' := [strV R16.1.Key, .int .i64 R16.1.Seq, .bool R16.1.Del, strV R16.1.Val]) (is' := [.box B25 81 [strV R16.1.Key, .int .i64 R16.1.Seq, .bool R16.1.Del, strV R16.1.Val], .own X3 (lc S2.2)]) 0 kk81 rfl rfl rfl (Cel.plain rfl rfl) rfl rfl rfl rfl) rfl rfl rfl (fun _ => rfl) (fun _ => ?_)
              refine TA.y (listed' := #[true, true, true, true, true, true, true, true, true, true, true, true, true, true, true, true, true]) 16 [1] rfl (Y.assign rfl) rfl rfl rfl (by kernel_rfl) (by kernel_rfl) (by kernel_rfl) rfl rfl ?_
              refine TA.nil (by kernel_rfl) ?_
              exact TE.jb_go B25 [0, 0] ⟨rfl, rfl, rfl, rfl, rfl, rfl, rfl, rfl, rfl, trivial⟩ rfl
            · refine TX.ef (listed' := #[true, true, true, true, true, true, true, true, true, true, false, false, false, false, true, false, false]) [1] rfl (Ef.alloc kz81 rfl) rfl rfl rfl rfl (fun _ => rfl) (fun B24 => ?_)
              refine TA.one 10 (by kernel_rfl) ?_
              refine TX.ef (listed' := #[true, true, true, true, true, true, true, true, true, true, true, false, false, false, true, false, false]) [1] rfl (Ef.call (rest := [.box B24 81 [strV ([]), .int .i64 (0 : Int), .bool false, strV ([])], .own X3 (lc S2.2)]) [0, 0] (spec_l9Get_con l E12.Key E14 V_l0 R16 H17) kc80 rfl rfl ⟨(Base.can HB_V_l0), trivial⟩) rfl rfl rfl rfl (fun _ => rfl) (fun _ => ?_)
              refine TA.y (listed' := #[true, true, true, true, true, true, true, true, true, true, true, true, false, false, true, false, false]) 11 [1] rfl (Y.move rfl) rfl rfl rfl (by kernel_rfl) (by kernel_rfl) (by kernel_rfl) rfl rfl ?_
              refine TA.y (listed' := #[true, true, true, true, true, true, true, true, true, true, true, true, true, false, true, false, false]) 12 [1] rfl (Y.extract rfl rfl) rfl rfl rfl (by kernel_rfl) (by kernel_rfl) (by kernel_rfl) rfl rfl ?_
              refine TA.y (listed' := #[true, true, true, true, true, true, true, true, true, true, true, true, true, true, true, false, false]) 13 [1] rfl (Y.extract rfl rfl) rfl rfl rfl (by kernel_rfl) (by kernel_rfl) (by kernel_rfl) rfl rfl ?_
              refine TA.one 15 (by kernel_rfl) ?_
              refine TX.ef0 (listed' := #[true, true, true, true, true, true, true, true, true, true, true, true, true, true, true, true, false]) [1] rfl (Ef.store_box (us := [strV R16.1.Key, .int .i64 R16.1.Seq, .bool R16.1.Del, strV R16.1.Val]) (vs' := [strV R16.1.Key, .int .i64 R16.1.Seq, .bool R16.1.Del, strV R16.1.Val]) (is' := [.box B24 81 [strV R16.1.Key, .int .i64 R16.1.Seq, .bool R16.1.Del, strV R16.1.Val], .own X3 (lc S2.2)]) 0 kk81 rfl rfl rfl (Cel.plain rfl rfl) rfl rfl rfl rfl) rfl rfl rfl (fun _ => rfl) (fun _ => ?_)
              refine TA.y (listed' := #[true, true, true, true, true, true, true, true, true, true, true, true, true, true, true, true, true]) 16 [1] rfl (Y.assign rfl) rfl rfl rfl (by kernel_rfl) (by kernel_rfl) (by kernel_rfl) rfl rfl ?_
              refine TA.nil (by kernel_rfl) ?_
              exact TE.jb_go B24 [0, 0] ⟨rfl, rfl, rfl, rfl, rfl, rfl, rfl, rfl, rfl, trivial⟩ rfl
          · refine TE.next ?_
            refine TW.joinBX (τ := Bool) (X := Unit) (fun T _ => [(0, V_l0), (1, V_snaps0), (2, .bool bottom), (7, X3), (8, .int .i64 S2.1), (9, .bool T), (10, .int .i64 S7.2)]) (fun _ _ => [.own X3 (lc S2.2)]) ?_ (fun T25 X26 => ?_)
            · refine TW.draw (isH := [.box X22 81 [strV R16.1.Key, .int .i64 R16.1.Seq, .bool R16.1.Del, strV R16.1.Val], .own X3 (lc S2.2)]) hMix ?_
              refine TA.y (listed' := #[true, false, false, false, false, false, false, false, false, false, false, false, false, false, false]) 0 [0, 0] rfl (Y.move rfl) rfl rfl rfl (by kernel_rfl) (by kernel_rfl) (by kernel_rfl) rfl rfl ?_
              refine TA.y (listed' := #[true, true, false, false, false, false, false, false, false, false, false, false, false, false, false]) 1 [0, 0] rfl (Y.move rfl) rfl rfl rfl (by kernel_rfl) (by kernel_rfl) (by kernel_rfl) rfl rfl ?_
              refine TA.ite (b := S7.1) (fun H27 => ?_) (fun H27 => ?_)
              · refine TA.off (listed' := #[true, true, true, false, false, false, false, false, false, false, false, false, false, false, false]) 2 [0, 0] rfl (Gd.at 1 false 43 S7.1 rfl rfl rfl (beq_tf H27)) rfl rfl (by kernel_rfl) (by kernel_rfl) (by kernel_rfl) rfl rfl ?_
                refine TA.off (listed' := #[true, true, true, true, false, false, false, false, false, false, false, false, false, false, false]) 3 [0, 0] rfl (Gd.at 1 false 43 S7.1 rfl rfl rfl (beq_tf H27)) rfl rfl (by kernel_rfl) (by kernel_rfl) (by kernel_rfl) rfl rfl ?_
                refine TA.off (listed' := #[true, true, true, true, true, false, false, false, false, false, false, false, false, false, false]) 4 [0, 0] rfl (Gd.un 3 true 45 rfl rfl rfl) rfl rfl (by kernel_rfl) (by kernel_rfl) (by kernel_rfl) rfl rfl ?_
                refine TA.off (listed' := #[true, true, true, true, true, true, false, false, false, false, false, false, false, false, false]) 5 [0, 0] rfl (Gd.un 3 true 45 rfl rfl rfl) rfl rfl (by kernel_rfl) (by kernel_rfl) (by kernel_rfl) rfl rfl ?_
                refine TA.off (listed' := #[true, true, true, true, true, true, true, false, false, false, false, false, false, false, false]) 6 [0, 0] rfl (Gd.un 3 true 45 rfl rfl rfl) rfl rfl (by kernel_rfl) (by kernel_rfl) (by kernel_rfl) rfl rfl ?_
                refine TA.off (listed' := #[true, true, true, true, true, true, true, true, false, false, false, false, false, false, false]) 7 [0, 0] rfl (Gd.un 3 true 45 rfl rfl rfl) rfl rfl (by kernel_rfl) (by kernel_rfl) (by kernel_rfl) rfl rfl ?_
                refine TA.off (listed' := #[true, true, true, true, true, true, true, true, true, false, false, false, false, false, false]) 8 [0, 0] rfl (Gd.un 3 true 45 rfl rfl rfl) rfl rfl (by kernel_rfl) (by kernel_rfl) (by kernel_rfl) rfl rfl ?_
                refine TA.off (listed' := #[true, true, true, true, true, true, true, true, true, true, false, false, false, false, false]) 9 [0, 0] rfl (Gd.un 3 true 45 rfl rfl rfl) rfl rfl (by kernel_rfl) (by kernel_rfl) (by kernel_rfl) rfl rfl ?_
                refine TA.off (listed' := #[true, true, true, true, true, true, true, true, true, true, true, false, false, false, false]) 10 [0, 0] rfl (Gd.un 3 true 45 rfl rfl rfl) rfl rfl (by kernel_rfl) (by kernel_rfl) (by kernel_rfl) rfl rfl ?_
                refine TA.off (listed' := #[true, true, true, true, true, true, true, true, true, true, true, true, false, false, false]) 11 [0, 0] rfl (Gd.un 3 true 45 rfl rfl rfl) rfl rfl (by kernel_rfl) (by kernel_rfl) (by kernel_rfl) rfl rfl ?_
                refine TA.off (listed' := #[true, true, true, true, true, true, true, true, true, true, true, true, true, false, false]) 12 [0, 0] rfl (Gd.at 1 false 43 S7.1 rfl rfl rfl (beq_tf H27)) rfl rfl (by kernel_rfl) (by kernel_rfl) (by kernel_rfl) rfl rfl ?_
                refine TA.y (listed' := #[true, true, true, true, true, true, true, true, true, true, true, true, true, true, false]) 13 [0, 0] rfl (Y.pick_t H27 rfl rfl) rfl rfl rfl (by kernel_rfl) (by kernel_rfl) (by kernel_rfl) rfl rfl ?_
                refine TA.y (listed' := #[true, true, true, true, true, true, true, true, true, true, true, true, true, true, true]) 14 [0, 0] rfl (Y.assign rfl) rfl rfl rfl (by kernel_rfl) (by kernel_rfl) (by kernel_rfl) rfl rfl ?_
                refine TA.nil (by kernel_rfl) ?_
                exact TE.jb_go () [1] ⟨rfl, rfl, rfl, rfl, rfl, rfl, rfl, trivial⟩ rfl
              · refine TA.y (listed' := #[true, true, true, false, false, false, false, false, false, false, false, false, false, false, false]) 2 [0, 0] rfl (Y.move rfl) (Gd.at 1 false 43 S7.1 rfl rfl rfl (beq_ff H27)) rfl rfl (by kernel_rfl) (by kernel_rfl) (by kernel_rfl) rfl rfl ?_
                refine TA.y (listed' := #[true, true, true, true, false, false, false, false, false, false, false, false, false, false, false]) 3 [0, 0] rfl (Y.move rfl) (Gd.at 1 false 43 S7.1 rfl rfl rfl (beq_ff H27)) rfl rfl (by kernel_rfl) (by kernel_rfl) (by kernel_rfl) rfl rfl ?_
                refine TA.ite (b := R16.2) (fun H28 => ?_) (fun H28 => ?_)
                · refine TA.y (listed' := #[true, true, true, true, true, false, false, false, false, false, false, false, false, false, false]) 4 [0, 0] rfl (Y.field_box kf81_1 rfl rfl) (Gd.at 3 true 45 R16.2 rfl rfl rfl (beq_tt H28)) rfl rfl (by kernel_rfl) (by kernel_rfl) (by kernel_rfl) rfl rfl ?_
                  refine TA.y (listed' := #[true, true, true, true, true, true, false, false, false, false, false, false, false, false, false]) 5 [0, 0] rfl (Y.load_box (v := .int .i64 R16.1.Seq) 0 kk3 rfl rfl rfl) (Gd.at 3 true 45 R16.2 rfl rfl rfl (beq_tt H28)) rfl rfl (by kernel_rfl) (by kernel_rfl) (by kernel_rfl) rfl rfl ?_
                  refine TA.y (listed' := #[true, true, true, true, true, true, true, false, false, false, false, false, false, false, false]) 6 [0, 0] rfl (Y.move rfl) (Gd.at 3 true 45 R16.2 rfl rfl rfl (beq_tt H28)) rfl rfl (by kernel_rfl) (by kernel_rfl) (by kernel_rfl) rfl rfl ?_
                  refine TA.y (listed' := #[true, true, true, true, true, true, true, true, false, false, false, false, false, false, false]) 7 [0, 0] rfl (Y.move rfl) (Gd.at 3 true 45 R16.2 rfl rfl rfl (beq_tt H28)) rfl rfl (by kernel_rfl) (by kernel_rfl) (by kernel_rfl) rfl rfl ?_
                  refine TA.y (listed' := #[true, true, true, true, true, true, true, true, true, false, false, false, false, false, false]) 8 [0, 0] rfl (Y.index ke40 (Base.can HB_V_l0) H13 rfl rfl) (Gd.at 3 true 45 R16.2 rfl rfl rfl (beq_tt H28)) rfl rfl (by kernel_rfl) (by kernel_rfl) (by kernel_rfl) rfl rfl ?_
                  refine TA.y (listed' := #[true, true, true, true, true, true, true, true, true, true, false, false, false, false, false]) 9 [0, 0] rfl (Y.field_el kf81_1 (Base.can HB_V_l0) (idx_get H13).2.2 rfl rfl) (Gd.at 3 true 45 R16.2 rfl rfl rfl (beq_tt H28)) rfl rfl (by kernel_rfl) (by kernel_rfl) (by kernel_rfl) rfl rfl ?_
                  refine TA.y (listed' := #[true, true, true, true, true, true, true, true, true, true, true, false, false, false, false]) 10 [0, 0] rfl (Y.load_el (us := [.int .i64 E12.Seq]) (u := .int .i64 E12.Seq) kk3 rfl (Base.can HB_V_l0) (idx_get H13).2.2 rfl rfl rfl rfl rfl) (Gd.at 3 true 45 R16.2 rfl rfl rfl (beq_tt H28)) rfl rfl (by kernel_rfl) (by kernel_rfl) (by kernel_rfl) rfl rfl ?_
                  refine TA.y (listed' := #[true, true, true, true, true, true, true, true, true, true, true, true, false, false, false]) 11 [0, 0] rfl (Y.eql rfl rfl) (Gd.at 3 true 45 R16.2 rfl rfl rfl (beq_tt H28)) rfl rfl (by kernel_rfl) (by kernel_rfl) (by kernel_rfl) rfl rfl ?_
                  refine TA.y (listed' := #[true, true, true, true, true, true, true, true, true, true, true, true, true, false, false]) 12 [0, 0] rfl (Y.pick_t H28 rfl rfl) (Gd.at 1 false 43 S7.1 rfl rfl rfl (beq_ff H27)) rfl rfl (by kernel_rfl) (by kernel_rfl) (by kernel_rfl) rfl rfl ?_
                  refine TA.y (listed' := #[true, true, true, true, true, true, true, true, true, true, true, true, true, true, false]) 13 [0, 0] rfl (Y.pick_f H27 rfl rfl) rfl rfl rfl (by kernel_rfl) (by kernel_rfl) (by kernel_rfl) rfl rfl ?_
                  refine TA.y (listed' := #[true, true, true, true, true, true, true, true, true, true, true, true, true, true, true]) 14 [0, 0] rfl (Y.assign rfl) rfl rfl rfl (by kernel_rfl) (by kernel_rfl) (by kernel_rfl) rfl rfl ?_
                  refine TA.nil (by kernel_rfl) ?_
                  exact TE.jb_go () [1] ⟨rfl, rfl, rfl, rfl, rfl, rfl, rfl, trivial⟩ rfl
                · refine TA.off (listed' := #[true, true, true, true, true, false, false, false, false, false, false, false, false, false, false]) 4 [0, 0] rfl (Gd.at 3 true 45 R16.2 rfl rfl rfl (beq_ft H28)) rfl rfl (by kernel_rfl) (by kernel_rfl) (by kernel_rfl) rfl rfl ?_
                  refine TA.off (listed' := #[true, true, true, true, true, true, false, false, false, false, false, false, false, false, false]) 5 [0, 0] rfl (Gd.at 3 true 45 R16.2 rfl rfl rfl (beq_ft H28)) rfl rfl (by kernel_rfl) (by kernel_rfl) (by kernel_rfl) rfl rfl ?_
                  refine TA.off (listed' := #[true, true, true, true, true, true, true, false, false, false, false, false, false, false, false]) 6 [0, 0] rfl (Gd.at 3 true 45 R16.2 rfl rfl rfl (beq_ft H28)) rfl rfl (by kernel_rfl) (by kernel_rfl) (by kernel_rfl) rfl rfl ?_
                  refine TA.off (listed' := #[true, true, true, true, true, true, true, true, false, false, false, false, false, false, false]) 7 [0, 0] rfl (Gd.at 3 true 45 R16.2 rfl rfl rfl (beq_ft H28)) rfl rfl (by kernel_rfl) (by kernel_rfl) (by kernel_rfl) rfl rfl ?_
                  refine TA.off (listed' := #[true, true, true, true, true, true, true, true, true, false, false, false, false, false, false]) 8 [0, 0] rfl (Gd.at 3 true 45 R16.2 rfl rfl rfl (beq_ft H28)) rfl rfl (by kernel_rfl) (by kernel_rfl) (by kernel_rfl) rfl rfl ?_
                  refine TA.off (listed' := #[true, true, true, true, true, true, true, true, true, true, false, false, false, false, false]) 9 [0, 0] rfl (Gd.at 3 true 45 R16.2 rfl rfl rfl (beq_ft H28)) rfl rfl (by kernel_rfl) (by kernel_rfl) (by kernel_rfl) rfl rfl ?_
                  refine TA.off (listed' := #[true, true, true, true, true, true, true, true, true, true, true, false, false, false, false]) 10 [0, 0] rfl (Gd.at 3 true 45 R16.2 rfl rfl rfl (beq_ft H28)) rfl rfl (by kernel_rfl) (by kernel_rfl) (by kernel_rfl) rfl rfl ?_
                  refine TA.off (listed' := #[true, true, true, true, true, true, true, true, true, true, true, true, false, false, false]) 11 [0, 0] rfl (Gd.at 3 true 45 R16.2 rfl rfl rfl (beq_ft H28)) rfl rfl (by kernel_rfl) (by kernel_rfl) (by kernel_rfl) rfl rfl ?_
                  refine TA.y (listed' := #[true, true, true, true, true, true, true, true, true, true, true, true, true, false, false]) 12 [0, 0] rfl (Y.pick_f H28 rfl rfl) (Gd.at 1 false 43 S7.1 rfl rfl rfl (beq_ff H27)) rfl rfl (by kernel_rfl) (by kernel_rfl) (by kernel_rfl) rfl rfl ?_
                  refine TA.y (listed' := #[true, true, true, true, true, true, true, true, true, true, true, true, true, true, false]) 13 [0, 0] rfl (Y.pick_f H27 rfl rfl) rfl rfl rfl (by kernel_rfl) (by kernel_rfl) (by kernel_rfl) rfl rfl ?_
                  refine TA.y (listed' := #[true, true, true, true, true, true, true, true, true, true, true, true, true, true, true]) 14 [0, 0] rfl (Y.assign rfl) rfl rfl rfl (by kernel_rfl) (by kernel_rfl) (by kernel_rfl) rfl rfl ?_
                  refine TA.nil (by kernel_rfl) ?_
                  exact TE.jb_go () [1] ⟨rfl, rfl, rfl, rfl, rfl, rfl, rfl, trivial⟩ rfl
            · refine TE.block_normal ?_
              refine TE.next ?_
              refine TW.region ?_
              refine TO.y (Y.move rfl) rfl rfl rfl ?_
              refine TO.y (Y.add rfl rfl) rfl rfl rfl ?_
              refine TO.y (Y.assign rfl) rfl rfl rfl ?_
              refine TO.nil ?_
              exact TE.lp_go () [0] ⟨rfl, rfl, rfl, rfl, rfl, rfl, rfl, trivial⟩ rfl
        · refine TW.exit ?_
          refine TE.then_exit ?_
          refine TE.lp_exit ?_
          refine TE.block_exit ?_
          exact TE.jn_go () [0] ⟨rfl, rfl, rfl, rfl, rfl, rfl, trivial⟩ rfl
      · refine TE.next ?_
        refine TW.seq ?_
        refine TW.region ?_
        refine TO.y (Y.move rfl) rfl rfl rfl ?_
        refine TO.nil ?_
        refine TE.next ?_
        refine TW.joinX (τ := List Ent) (X := Value) (fun _ X => [(0, V_l0), (1, V_snaps0), (2, .bool bottom), (7, X), (8, .int .i64 S2.1)]) (fun T X => [.own X (lc T)]) ?_ (fun T29 X30 => ?_)
        · refine TW.cond rfl (fun H31 => ?_) (fun H31 => ?_)
          · refine TW.region ?_
            refine TO.y (Y.move rfl) rfl rfl rfl ?_
            refine TO.y (Y.move rfl) rfl rfl rfl ?_
            refine TO.y (Y.move rfl) rfl rfl rfl ?_
            refine TO.bind fun E32 H33 => ?_
            refine TO.y (Y.index ke40 (Base.can HB_V_l0) H33 rfl rfl) rfl rfl rfl ?_
            refine TO.y (Y.load_el (us := [strV E32.Key, .int .i64 E32.Seq, .bool E32.Del, strV E32.Val]) (u := .agg #[strV E32.Key, .int .i64 E32.Seq, .bool E32.Del, strV E32.Val]) kk81 rfl (Base.can HB_V_l0) (idx_get H33).2.2 rfl rfl rfl rfl rfl) rfl rfl rfl ?_
            refine TO.ef (Ef.buildSlice (α := Ent) (Vs := [.agg #[strV E32.Key, .int .i64 E32.Seq, .bool E32.Del, strV E32.Val]]) [E32] ke40 kz81 rfl rfl rfl rfl rfl) rfl rfl rfl (fun B34 => ?_)
            refine TO.bind fun E36 H37 => ?_
            refine TO.ef (Ef.append (α := Ent) (is' := [.own (.slice (some ⟨B34, 0, none⟩) 1 1) (lc ([E32]))]) [1, 0] H37 ke40 kz81 rfl rfl rfl rfl rfl (Can.own 0 rfl)) rfl rfl rfl (fun V35 => ?_)
            refine TO.y (Y.assign rfl) rfl rfl rfl ?_
            refine TO.nil ?_
            exact TE.jn_go V35 [0] ⟨rfl, rfl, rfl, rfl, rfl, trivial⟩ rfl
          · refine TW.skip ?_
            exact TE.jn_go X3 [0] ⟨rfl, rfl, rfl, rfl, rfl, trivial⟩ rfl
        · refine TE.block_normal ?_
          refine TE.next ?_
          refine TW.region ?_
          refine TO.y (Y.move rfl) rfl rfl rfl ?_
          refine TO.y (Y.add rfl rfl) rfl rfl rfl ?_
          refine TO.y (Y.assign rfl) rfl rfl rfl ?_
          refine TO.nil ?_
          exact TE.lp_go X30 [0] ⟨rfl, rfl, rfl, rfl, rfl, trivial⟩ rfl
    · refine TW.exit ?_
      refine TE.then_exit ?_
      refine TE.lp_exit ?_
      refine TE.block_exit ?_
      exact TE.jn_go X3 [0] ⟨rfl, rfl, trivial⟩ rfl
  · refine TE.next ?_
    refine TW.seq ?_
    refine TW.joinX (τ := List Ent) (X := Value) (fun _ X => [(7, X)]) (fun T X => [.own X (lc T)]) ?_ (fun T40 X41 => ?_)
    · refine TW.block ?_
      refine TW.loopX (σ := List Ent) (X := Value) (fun _ X => [(2, .bool bottom), (7, X)]) (fun T X => [.own X (lc T)]) X5 [0] ⟨rfl, rfl, trivial⟩ rfl (fun S38 X39 => ?_)
      refine TW.seq ?_
      refine TW.seq ?_
      refine TW.joinBX (τ := Bool) (X := Unit) (fun T _ => [(2, .bool bottom), (7, X39), (78, .bool T)]) (fun _ _ => [.own X39 (lc S38)]) ?_ (fun T42 X43 => ?_)
      · refine TW.region ?_
        refine TO.y (Y.move rfl) rfl rfl rfl ?_
        refine TO.y (Y.move rfl) rfl rfl rfl ?_
        refine TO.ite (b := bottom) (fun H44 => ?_) (fun H44 => ?_)
        · refine TO.y (Y.move rfl) (Gd.at 1 true 65 bottom rfl rfl rfl (beq_tt H44)) rfl rfl ?_
          refine TO.y (Y.len (l := S38) ke40 (Can.own 0 rfl) rfl) (Gd.at 1 true 65 bottom rfl rfl rfl (beq_tt H44)) rfl rfl ?_
          refine TO.y (Y.gtr rfl rfl) (Gd.at 1 true 65 bottom rfl rfl rfl (beq_tt H44)) rfl rfl ?_
          refine TO.y (Y.pick_t H44 rfl rfl) rfl rfl rfl ?_
          refine TO.y (Y.move rfl) rfl rfl rfl ?_
          refine TO.ite (b := decide (((S38.length : Nat) : Int) > (0 : Int))) (fun H45 => ?_) (fun H45 => ?_)
          · refine TO.y (Y.move rfl) (Gd.at 6 true 70 (decide (((S38.length : Nat) : Int) > (0 : Int))) rfl rfl rfl (beq_tt H45)) rfl rfl ?_
            refine TO.y (Y.move rfl) (Gd.at 6 true 70 (decide (((S38.length : Nat) : Int) > (0 : Int))) rfl rfl rfl (beq_tt H45)) rfl rfl ?_
            refine TO.y (Y.len (l := S38) ke40 (Can.own 0 rfl) rfl) (Gd.at 6 true 70 (decide (((S38.length : Nat) : Int) > (0 : Int))) rfl rfl rfl (beq_tt H45)) rfl rfl ?_
            refine TO.y (Y.sub rfl rfl) (Gd.at 6 true 70 (decide (((S38.length : Nat) : Int) > (0 : Int))) rfl rfl rfl (beq_tt H45)) rfl rfl ?_
            refine TO.bind fun E46 H47 => ?_
            refine TO.y (Y.index ke40 (Can.own 0 rfl) H47 rfl rfl) (Gd.at 6 true 70 (decide (((S38.length : Nat) : Int) > (0 : Int))) rfl rfl rfl (beq_tt H45)) rfl rfl ?_
            refine TO.y (Y.field_el kf81_2 (Can.own 0 rfl) (idx_get H47).2.2 rfl rfl) (Gd.at 6 true 70 (decide (((S38.length : Nat) : Int) > (0 : Int))) rfl rfl rfl (beq_tt H45)) rfl rfl ?_
            refine TO.y (Y.load_el (us := [.bool E46.Del]) (u := .bool E46.Del) kk4 rfl (Can.own 0 rfl) (idx_get H47).2.2 rfl rfl rfl rfl rfl) (Gd.at 6 true 70 (decide (((S38.length : Nat) : Int) > (0 : Int))) rfl rfl rfl (beq_tt H45)) rfl rfl ?_
            refine TO.y (Y.pick_t H45 rfl rfl) rfl rfl rfl ?_
            refine TO.nil ?_
            exact TE.jb_go () [0] ⟨rfl, rfl, rfl, trivial⟩ rfl
          · refine TO.off (Gd.at 6 true 70 (decide (((S38.length : Nat) : Int) > (0 : Int))) rfl rfl rfl (beq_ft H45)) rfl rfl ?_
            refine TO.off (Gd.at 6 true 70 (decide (((S38.length : Nat) : Int) > (0 : Int))) rfl rfl rfl (beq_ft H45)) rfl rfl ?_
            refine TO.off (Gd.at 6 true 70 (decide (((S38.length : Nat) : Int) > (0 : Int))) rfl rfl rfl (beq_ft H45)) rfl rfl ?_
            refine TO.off (Gd.at 6 true 70 (decide (((S38.length : Nat) : Int) > (0 : Int))) rfl rfl rfl (beq_ft H45)) rfl rfl ?_
            refine TO.off (Gd.at 6 true 70 (decide (((S38.length : Nat) : Int) > (0 : Int))) rfl rfl rfl (beq_ft H45)) rfl rfl ?_
            refine TO.off (Gd.at 6 true 70 (decide (((S38.length : Nat) : Int) > (0 : Int))) rfl rfl rfl (beq_ft H45)) rfl rfl ?_
            refine TO.off (Gd.at 6 true 70 (decide (((S38.length : Nat) : Int) > (0 : Int))) rfl rfl rfl (beq_ft H45)) rfl rfl ?_
            refine TO.y (Y.pick_f H45 rfl rfl) rfl rfl rfl ?_
            refine TO.nil ?_
            exact TE.jb_go () [0] ⟨rfl, rfl, rfl, trivial⟩ rfl
        · refine TO.off (Gd.at 1 true 65 bottom rfl rfl rfl (beq_ft H44)) rfl rfl ?_
          refine TO.off (Gd.at 1 true 65 bottom rfl rfl rfl (beq_ft H44)) rfl rfl ?_
          refine TO.off (Gd.at 1 true 65 bottom rfl rfl rfl (beq_ft H44)) rfl rfl ?_
          refine TO.y (Y.pick_f H44 rfl rfl) rfl rfl rfl ?_
          refine TO.y (Y.move rfl) rfl rfl rfl ?_
          refine TO.off (Gd.at 6 true 70 false rfl rfl rfl rfl) rfl rfl ?_
          refine TO.off (Gd.at 6 true 70 false rfl rfl rfl rfl) rfl rfl ?_
          refine TO.off (Gd.at 6 true 70 false rfl rfl rfl rfl) rfl rfl ?_
          refine TO.off (Gd.at 6 true 70 false rfl rfl rfl rfl) rfl rfl ?_
          refine TO.off (Gd.at 6 true 70 false rfl rfl rfl rfl) rfl rfl ?_
          refine TO.off (Gd.at 6 true 70 false rfl rfl rfl rfl) rfl rfl ?_
          refine TO.off (Gd.at 6 true 70 false rfl rfl rfl rfl) rfl rfl ?_
          refine TO.y (Y.pick_f rfl rfl rfl) rfl rfl rfl ?_
          refine TO.nil ?_
          exact TE.jb_go () [0] ⟨rfl, rfl, rfl, trivial⟩ rfl
      · refine TE.next ?_
        refine TW.cond rfl (fun H48 => ?_) (fun H48 => ?_)
        · refine TW.skip ?_
          refine TE.next ?_
          refine TW.block ?_
          refine TW.region ?_
          refine TO.ef (Ef.buildSlice (α := Ent) (Vs := []) ([] : List Ent) ke40 kz81 rfl rfl rfl rfl rfl) rfl rfl rfl (fun B49 => ?_)
          refine TO.y (Y.move rfl) rfl rfl rfl ?_
          refine TO.y (Y.move rfl) rfl rfl rfl ?_
          refine TO.y (Y.len (l := S38) ke40 (Can.own 1 rfl) rfl) rfl rfl rfl ?_
          refine TO.y (Y.sub rfl rfl) rfl rfl rfl ?_
          refine TO.bind fun E50 H51 => ?_
          refine TO.y (Y.subs H51 ke40 (Can.own 1 rfl) rfl rfl ⟨_, rfl⟩) rfl rfl rfl ?_
          refine TO.bind fun E53 H54 => ?_
          refine TO.ef (Ef.append (α := Ent) (is' := [.own X39 (lc S38)]) [0, 0] H54 ke40 kz81 rfl rfl rfl rfl rfl (Can.sub H51 rfl (Can.own 1 rfl))) rfl rfl rfl (fun V52 => ?_)
          refine TO.y (Y.assign rfl) rfl rfl rfl ?_
          refine TO.nil ?_
          refine TE.block_normal ?_
          exact TE.lp_go V52 [0] ⟨rfl, rfl, trivial⟩ rfl
        · refine TW.exit ?_
          refine TE.then_exit ?_
          refine TE.lp_exit ?_
          refine TE.block_exit ?_
          exact TE.jn_go X39 [0] ⟨rfl, trivial⟩ rfl
    · refine TE.next ?_
      refine TW.seq ?_
      refine TW.region ?_
      refine TO.y (Y.move rfl) rfl rfl rfl ?_
      refine TO.y (Y.assign rfl) rfl rfl rfl ?_
      refine TO.nil ?_
      refine TE.next ?_
      refine TW.ret ?_
      exact TE.leaf fun _ _ hf_ hs_ => ret_any (rs := [.tmp 6]) (vs := [X41]) (.inl rfl) rfl ⟨rfl, trivial⟩ hf_ hs_ ⟨X41, rfl, hs_.pulls [0] rfl⟩

/-- loop.example/g00950/spec.CompactEnts -/
noncomputable def spec_CompactEnts (l : List Ent) (snaps : List Int) (bottom : Bool) : Option (List Ent) :=
  (if (decide (((l.length : Nat) : Int) > (400 : Int))) = true then (some true)
  else ((spec_l9Ents l).bind fun R5 =>
  some (!R5))).bind (fun (T2 : Bool) =>
  if T2 = true then (some ([] : List Ent))
  else (bindC (loopO (fun (S9 : Int × List Ent) => if (decide (S9.1 < ((l.length : Nat) : Int))) = true then ((spec_l15Last l S9.1).bind fun R14 =>
  (piece l S9.1 R14).bind fun E17 =>
  (spec_l15Key E17 snaps bottom).bind fun R20 =>
  (app 48 S9.2 R20).bind fun E24 =>
  some (.go (R14, E24)))
  else (some (.done (.go S9.2))))
  ((0 : Int), ([] : List Ent)))
  (fun (T11 : List Ent) => some T11)))

theorem spec_CompactEnts_con (l : List Ent) (snaps : List Int) (bottom : Bool) (V_l0 : Value) (V_snaps0 : Value) (r : List Ent) (hm : spec_CompactEnts l snaps bottom = some r) :
    Con Try.prog 19 [V_l0, V_snaps0, .bool bottom] [] [(V_l0, lc l), (V_snaps0, lc snaps)] (fun X : Value => X) (fun X => [.own X (lc r)]) := by
  refine Con.intro (args := [V_l0, V_snaps0, .bool bottom]) (n := 38) (val := fun _ (X : Value) => X) (post := fun r X => [.own X (lc r)]) (m := spec_CompactEnts l snaps bottom) Try.func19 rfl rfl rfl hm ?_
  intro w S hrd
  have HB_V_l0 := hrd _ (.head _)
  have HB_V_snaps0 := hrd _ (.tail _ (.head _))
  clear hrd
  unfold spec_CompactEnts
  refine TW.seq ?_
  refine TW.region ?_
  refine TO.y (Y.assign rfl) rfl rfl rfl ?_
  refine TO.nil ?_
  refine TE.next ?_
  refine TW.seq ?_
  refine TW.region ?_
  refine TO.ef (Ef.buildSlice (α := Ent) (Vs := []) ([] : List Ent) ke40 kz81 rfl rfl rfl rfl rfl) rfl rfl rfl (fun B1 => ?_)
  refine TO.y (Y.assign rfl) rfl rfl rfl ?_
  refine TO.nil ?_
  refine TE.next ?_
  refine TW.seq ?_
  refine TW.seq ?_
  refine TW.joinBX (τ := Bool) (X := Unit) (fun T _ => [(0, V_l0), (1, V_snaps0), (2, .bool bottom), (7, .slice (some ⟨B1, 0, none⟩) 0 0), (17, .bool T)]) (fun _ _ => [.own (.slice (some ⟨B1, 0, none⟩) 0 0) (lc ([] : List Ent))]) ?_ (fun T2 X3 => ?_)
  · refine TW.region ?_
    refine TO.y (Y.move rfl) rfl rfl rfl ?_
    refine TO.y (Y.len (l := l) ke40 (Base.can HB_V_l0) rfl) rfl rfl rfl ?_
    refine TO.y (Y.gtr rfl rfl) rfl rfl rfl ?_
    refine TO.y (Y.move rfl) rfl rfl rfl ?_
    refine TO.ite (b := decide (((l.length : Nat) : Int) > (400 : Int))) (fun H4 => ?_) (fun H4 => ?_)
    · refine TO.off (Gd.at 3 false 13 (decide (((l.length : Nat) : Int) > (400 : Int))) rfl rfl rfl (beq_tf H4)) rfl rfl ?_
      refine TO.off (Gd.at 3 false 13 (decide (((l.length : Nat) : Int) > (400 : Int))) rfl rfl rfl (beq_tf H4)) rfl rfl ?_
      refine TO.off (Gd.at 3 false 13 (decide (((l.length : Nat) : Int) > (400 : Int))) rfl rfl rfl (beq_tf H4)) rfl rfl ?_
      refine TO.y (Y.pick_t H4 rfl rfl) rfl rfl rfl ?_
      refine TO.nil ?_
      exact TE.jb_go () [0] ⟨rfl, rfl, rfl, rfl, rfl, trivial⟩ rfl
    · refine TO.y (Y.move rfl) (Gd.at 3 false 13 (decide (((l.length : Nat) : Int) > (400 : Int))) rfl rfl rfl (beq_ff H4)) rfl rfl ?_
      refine TO.bind fun R5 H6 => ?_
      refine TO.ef (Ef.call (rest := [.own (.slice (some ⟨B1, 0, none⟩) 0 0) (lc ([] : List Ent))]) [0] (spec_l9Ents_con l V_l0 R5 H6) kc49 rfl rfl ⟨(Base.can HB_V_l0), trivial⟩) (Gd.at 3 false 13 (decide (((l.length : Nat) : Int) > (400 : Int))) rfl rfl rfl (beq_ff H4)) rfl rfl (fun _ => ?_)
      refine TO.y (Y.not rfl) (Gd.at 3 false 13 (decide (((l.length : Nat) : Int) > (400 : Int))) rfl rfl rfl (beq_ff H4)) rfl rfl ?_
      refine TO.y (Y.pick_f H4 rfl rfl) rfl rfl rfl ?_
      refine TO.nil ?_
      exact TE.jb_go () [0] ⟨rfl, rfl, rfl, rfl, rfl, trivial⟩ rfl
  · refine TE.next ?_
    refine TW.cond rfl (fun H8 => ?_) (fun H8 => ?_)
    · refine TW.seq ?_
      refine TW.region ?_
      refine TO.y (Y.move rfl) rfl rfl rfl ?_
      refine TO.y (Y.assign rfl) rfl rfl rfl ?_
      refine TO.nil ?_
      refine TE.next ?_
      refine TW.ret ?_
      refine TE.then_ret ?_
      exact TE.leaf fun _ _ hf_ hs_ => ret_any (rs := [.tmp 6]) (vs := [.slice (some ⟨B1, 0, none⟩) 0 0]) (.inl rfl) rfl ⟨rfl, trivial⟩ hf_ hs_ ⟨(.slice (some ⟨B1, 0, none⟩) 0 0), rfl, hs_.pulls [0] rfl⟩
    · refine TW.skip ?_
      refine TE.next ?_
      refine TW.seq ?_
      refine TW.seq ?_
      refine TW.region ?_
      refine TO.y (Y.assign rfl) rfl rfl rfl ?_
      refine TO.nil ?_
      refine TE.next ?_
      refine TW.joinX (τ := List Ent) (X := Value) (fun _ X => [(7, X)]) (fun T X => [.own X (lc T)]) ?_ (fun T11 X12 => ?_)
      · refine TW.block ?_
        refine TW.loopX (σ := Int × List Ent) (X := Value) (fun T X => [(0, V_l0), (1, V_snaps0), (2, .bool bottom), (7, X), (8, .int .i64 T.1)]) (fun T X => [.own X (lc T.2)]) (.slice (some ⟨B1, 0, none⟩) 0 0) [0] ⟨rfl, rfl, rfl, rfl, rfl, trivial⟩ rfl (fun S9 X10 => ?_)
        refine TW.seq ?_
        refine TW.seq ?_
        refine TW.region ?_
        refine TO.y (Y.move rfl) rfl rfl rfl ?_
        refine TO.y (Y.move rfl) rfl rfl rfl ?_
        refine TO.y (Y.len (l := l) ke40 (Base.can HB_V_l0) rfl) rfl rfl rfl ?_
        refine TO.y (Y.lss rfl rfl) rfl rfl rfl ?_
        refine TO.nil ?_
        refine TE.next ?_
        refine TW.cond rfl (fun H13 => ?_) (fun H13 => ?_)
        · refine TW.skip ?_
          refine TE.next ?_
          refine TW.seq ?_
          refine TW.block ?_
          refine TW.region ?_
          refine TO.y (Y.move rfl) rfl rfl rfl ?_
          refine TO.y (Y.move rfl) rfl rfl rfl ?_
          refine TO.y (Y.move rfl) rfl rfl rfl ?_
          refine TO.y (Y.move rfl) rfl rfl rfl ?_
          refine TO.y (Y.move rfl) rfl rfl rfl ?_
          refine TO.bind fun R14 H15 => ?_
          refine TO.ef (Ef.call (rest := [.own X10 (lc S9.2)]) [0] (spec_l15Last_con l S9.1 V_l0 R14 H15) kc50 rfl rfl ⟨(Base.can HB_V_l0), trivial⟩) rfl rfl rfl (fun _ => ?_)
          refine TO.bind fun E17 H18 => ?_
          have Q19 := Base.sub (sz := 4) H18 rfl HB_V_l0
          refine TO.y (Y.subs H18 ke40 (Base.can HB_V_l0) rfl ⟨_, rfl⟩ ⟨_, rfl⟩) rfl rfl rfl ?_
          refine TO.y (Y.move rfl) rfl rfl rfl ?_
          refine TO.y (Y.move rfl) rfl rfl rfl ?_
          refine TO.bind fun R20 H21 => ?_
          refine TO.ef (Ef.call (rest := [.own X10 (lc S9.2)]) [0] (spec_l15Key_con E17 snaps bottom (subV V_l0 4 S9.1.toNat (R14.toNat - S9.1.toNat)) V_snaps0 R20 H21) kc51 rfl rfl ⟨(Base.can Q19), (Base.can HB_V_snaps0), trivial⟩) rfl rfl rfl (fun Y22 => ?_)
          refine TO.bind fun E24 H25 => ?_
          refine TO.ef (Ef.append (α := Ent) (is' := [.own Y22 (lc R20)]) [1, 0] H25 ke40 kz81 rfl rfl rfl rfl rfl (Can.own 0 rfl)) rfl rfl rfl (fun V23 => ?_)
          refine TO.y (Y.assign rfl) rfl rfl rfl ?_
          refine TO.nil ?_
          refine TE.block_normal ?_
          refine TE.next ?_
          refine TW.region ?_
          refine TO.y (Y.move rfl) rfl rfl rfl ?_
          refine TO.y (Y.move rfl) rfl rfl rfl ?_
          refine TO.ef (Ef.call (rest := [.own V23 (lc E24), .own Y22 (lc R20)]) [0, 0] (spec_l15Last_con l S9.1 V_l0 R14 H15) kc50 rfl rfl ⟨(Base.can HB_V_l0), trivial⟩) rfl rfl rfl (fun _ => ?_)
          refine TO.y (Y.assign rfl) rfl rfl rfl ?_
          refine TO.nil ?_
          exact TE.lp_go V23 [0] ⟨rfl, rfl, rfl, rfl, rfl, trivial⟩ rfl
        · refine TW.exit ?_
          refine TE.then_exit ?_
          refine TE.lp_exit ?_
          refine TE.block_exit ?_
          exact TE.jn_go X10 [0] ⟨rfl, trivial⟩ rfl
      · refine TE.next ?_
        refine TW.seq ?_
        refine TW.region ?_
        refine TO.y (Y.move rfl) rfl rfl rfl ?_
        refine TO.y (Y.assign rfl) rfl rfl rfl ?_
        refine TO.nil ?_
        refine TE.next ?_
        refine TW.ret ?_
        exact TE.leaf fun _ _ hf_ hs_ => ret_any (rs := [.tmp 6]) (vs := [X12]) (.inl rfl) rfl ⟨rfl, trivial⟩ hf_ hs_ ⟨X12, rfl, hs_.pulls [0] rfl⟩

/-- loop.example/g00950/laws.sameEnts -/
noncomputable def laws_sameEnts (a : List Ent) (b : List Ent) : Option Bool :=
  if (!(decide (((a.length : Nat) : Int) = ((b.length : Nat) : Int)))) = true then (some false)
  else (bindC (loopO (fun (S2 : Int) => if (decide (S2 < ((a.length : Nat) : Int))) = true then ((idx a S2).bind fun E7 =>
  (idx b S2).bind fun E9 =>
  if (!(decide (E7.Key = E9.Key) && (decide (E7.Seq = E9.Seq) && (decide (E7.Del = E9.Del) && (decide (E7.Val = E9.Val) && true))))) = true then (some (.done (.done false)))
  else (some (.go (IntKind.i64.wrap (S2 + (1 : Int))))))
  else (some (.done (.go ()))))
  (0 : Int))
  (fun (T4 : Unit) => some true))

theorem laws_sameEnts_con (a : List Ent) (b : List Ent) (V_a0 : Value) (V_b0 : Value) (r : Bool) (hm : laws_sameEnts a b = some r) :
    Con Try.prog 18 [V_a0, V_b0] [] [(V_a0, lc a), (V_b0, lc b)] (fun _ : Unit => .bool r) (fun _ => []) := by
  refine Con.intro (args := [V_a0, V_b0]) (n := 26) (val := fun r (_ : Unit) => .bool r) (post := fun _ _ => []) (m := laws_sameEnts a b) Try.func18 rfl rfl rfl hm ?_
  intro w S hrd
  have HB_V_a0 := hrd _ (.head _)
  have HB_V_b0 := hrd _ (.tail _ (.head _))
  clear hrd
  unfold laws_sameEnts
  refine TW.seq ?_
  refine TW.region ?_
  refine TO.y (Y.assign rfl) rfl rfl rfl ?_
  refine TO.nil ?_
  refine TE.next ?_
  refine TW.seq ?_
  refine TW.seq ?_
  refine TW.region ?_
  refine TO.y (Y.move rfl) rfl rfl rfl ?_
  refine TO.y (Y.len (l := a) ke40 (Base.can HB_V_a0) rfl) rfl rfl rfl ?_
  refine TO.y (Y.move rfl) rfl rfl rfl ?_
  refine TO.y (Y.len (l := b) ke40 (Base.can HB_V_b0) rfl) rfl rfl rfl ?_
  refine TO.y (Y.neq rfl rfl) rfl rfl rfl ?_
  refine TO.nil ?_
  refine TE.next ?_
  refine TW.cond rfl (fun H1 => ?_) (fun H1 => ?_)
  · refine TW.seq ?_
    refine TW.region ?_
    refine TO.y (Y.assign rfl) rfl rfl rfl ?_
    refine TO.nil ?_
    refine TE.next ?_
    refine TW.ret ?_
    refine TE.then_ret ?_
    exact TE.leaf fun _ _ hf_ hs_ => ret_any (rs := [.tmp 4]) (vs := [.bool false]) (.inl rfl) rfl ⟨rfl, trivial⟩ hf_ hs_ ⟨(), rfl, hs_.pulls [] rfl⟩
  · refine TW.skip ?_
    refine TE.next ?_
    refine TW.seq ?_
    refine TW.seq ?_
    refine TW.region ?_
    refine TO.y (Y.assign rfl) rfl rfl rfl ?_
    refine TO.nil ?_
    refine TE.next ?_
    refine TW.joinX (τ := Unit) (X := Unit) (fun _ _ => []) (fun _ _ => []) ?_ (fun T4 X5 => ?_)
    · refine TW.block ?_
      refine TW.loopX (σ := Int) (X := Unit) (fun T _ => [(0, V_a0), (1, V_b0), (5, .int .i64 T)]) (fun _ _ => []) () [] ⟨rfl, rfl, rfl, trivial⟩ rfl (fun S2 X3 => ?_)
      refine TW.seq ?_
      refine TW.seq ?_
      refine TW.region ?_
      refine TO.y (Y.move rfl) rfl rfl rfl ?_
      refine TO.y (Y.move rfl) rfl rfl rfl ?_
      refine TO.y (Y.len (l := a) ke40 (Base.can HB_V_a0) rfl) rfl rfl rfl ?_
      refine TO.y (Y.lss rfl rfl) rfl rfl rfl ?_
      refine TO.nil ?_
      refine TE.next ?_
      refine TW.cond rfl (fun H6 => ?_) (fun H6 => ?_)
      · refine TW.skip ?_
        refine TE.next ?_
        refine TW.seq ?_
        refine TW.block ?_
        refine TW.seq ?_
        refine TW.draw (isH := []) hMix ?_
        refine TA.y (listed' := #[true, false, false, false, false, false, false, false, false]) 0 [] rfl (Y.move rfl) rfl rfl rfl (by kernel_rfl) (by kernel_rfl) (by kernel_rfl) rfl rfl ?_
        refine TA.y (listed' := #[true, true, false, false, false, false, false, false, false]) 1 [] rfl (Y.move rfl) rfl rfl rfl (by kernel_rfl) (by kernel_rfl) (by kernel_rfl) rfl rfl ?_
        refine TA.bind fun E7 H8 => ?_
        refine TA.y (listed' := #[true, true, true, false, false, false, false, false, false]) 2 [] rfl (Y.index ke40 (Base.can HB_V_a0) H8 rfl rfl) rfl rfl rfl (by kernel_rfl) (by kernel_rfl) (by kernel_rfl) rfl rfl ?_
        refine TA.y (listed' := #[true, true, true, true, false, false, false, false, false]) 3 [] rfl (Y.load_el (us := [strV E7.Key, .int .i64 E7.Seq, .bool E7.Del, strV E7.Val]) (u := .agg #[strV E7.Key, .int .i64 E7.Seq, .bool E7.Del, strV E7.Val]) kk81 rfl (Base.can HB_V_a0) (idx_get H8).2.2 rfl rfl rfl rfl rfl) rfl rfl rfl (by kernel_rfl) (by kernel_rfl) (by kernel_rfl) rfl rfl ?_
        refine TA.y (listed' := #[true, true, true, true, true, false, false, false, false]) 4 [] rfl (Y.move rfl) rfl rfl rfl (by kernel_rfl) (by kernel_rfl) (by kernel_rfl) rfl rfl ?_
        refine TA.y (listed' := #[true, true, true, true, true, true, false, false, false]) 5 [] rfl (Y.move rfl) rfl rfl rfl (by kernel_rfl) (by kernel_rfl) (by kernel_rfl) rfl rfl ?_
        refine TA.bind fun E9 H10 => ?_
        refine TA.y (listed' := #[true, true, true, true, true, true, true, false, false]) 6 [] rfl (Y.index ke40 (Base.can HB_V_b0) H10 rfl rfl) rfl rfl rfl (by kernel_rfl) (by kernel_rfl) (by kernel_rfl) rfl rfl ?_
        refine TA.y (listed' := #[true, true, true, true, true, true, true, true, false]) 7 [] rfl (Y.load_el (us := [strV E9.Key, .int .i64 E9.Seq, .bool E9.Del, strV E9.Val]) (u := .agg #[strV E9.Key, .int .i64 E9.Seq, .bool E9.Del, strV E9.Val]) kk81 rfl (Base.can HB_V_b0) (idx_get H10).2.2 rfl rfl rfl rfl rfl) rfl rfl rfl (by kernel_rfl) (by kernel_rfl) (by kernel_rfl) rfl rfl ?_
        refine TA.y (listed' := #[true, true, true, true, true, true, true, true, true]) 8 [] rfl (Y.neqA keq81 (EqA.str (EqA.int (EqA.bool (EqA.str EqA.nil)))) rfl rfl) rfl rfl rfl (by kernel_rfl) (by kernel_rfl) (by kernel_rfl) rfl rfl ?_
        refine TA.nil (by kernel_rfl) ?_
        refine TE.next ?_
        refine TW.cond rfl (fun H11 => ?_) (fun H11 => ?_)
        · refine TW.seq ?_
          refine TW.region ?_
          refine TO.y (Y.assign rfl) rfl rfl rfl ?_
          refine TO.nil ?_
          refine TE.next ?_
          refine TW.ret ?_
          refine TE.block_ret ?_
          refine TE.then_ret ?_
          refine TE.lp_ret ?_
          refine TE.block_ret ?_
          refine TE.jn_done ?_
          refine TE.then_ret ?_
          exact TE.leaf fun _ _ hf_ hs_ => ret_any (rs := [.tmp 4]) (vs := [.bool false]) (.inl rfl) rfl ⟨rfl, trivial⟩ hf_ hs_ ⟨(), rfl, hs_.pulls [] rfl⟩
        · refine TW.skip ?_
          refine TE.block_normal ?_
          refine TE.next ?_
          refine TW.region ?_
          refine TO.y (Y.move rfl) rfl rfl rfl ?_
          refine TO.y (Y.add rfl rfl) rfl rfl rfl ?_
          refine TO.y (Y.assign rfl) rfl rfl rfl ?_
          refine TO.nil ?_
          exact TE.lp_go () [] ⟨rfl, rfl, rfl, trivial⟩ rfl
      · refine TW.exit ?_
        refine TE.then_exit ?_
        refine TE.lp_exit ?_
        refine TE.block_exit ?_
        exact TE.jn_go () [] trivial rfl
    · refine TE.next ?_
      refine TW.seq ?_
      refine TW.region ?_
      refine TO.y (Y.assign rfl) rfl rfl rfl ?_
      refine TO.nil ?_
      refine TE.next ?_
      refine TW.ret ?_
      exact TE.leaf fun _ _ hf_ hs_ => ret_any (rs := [.tmp 4]) (vs := [.bool true]) (.inl rfl) rfl ⟨rfl, trivial⟩ hf_ hs_ ⟨(), rfl, hs_.pulls [] rfl⟩

/-- loop.example/g00950/impl.visible -/
noncomputable def impl_visible (l : List Ent) (seq : Int) : Option (List KV) :=
  bindC (loopO (fun (S1 : List UInt8 × Bool × Int × List KV) => if (decide (S1.2.2.1 < ((l.length : Nat) : Int))) = true then (bindC ((idx l S1.2.2.1).bind fun E8 =>
  (if (decide (E8.Seq > seq)) = true then (some true)
  else (if S1.2.1 = true then (some (decide (E8.Key = S1.1)))
  else (some false))).bind (fun (T11 : Bool) =>
  if T11 = true then (some (.go (S1.1, S1.2.1, S1.2.2.2)))
  else (bindC (if (!E8.Del) = true then ((app 32 S1.2.2.2 ([{ Key := E8.Key, Val := E8.Val : KV }])).bind fun E21 =>
  some (.go E21))
  else (some (.go S1.2.2.2)))
  (fun (T16 : List KV) => some (.go (E8.Key, true, T16))))))
  (fun (T6 : List UInt8 × Bool × List KV) => some (.go (T6.1, T6.2.1, IntKind.i64.wrap (S1.2.2.1 + (1 : Int)), T6.2.2))))
  else (some (.done (.go S1.2.2.2))))
  ([], false, (0 : Int), ([] : List KV)))
  (fun (T3 : List KV) => some T3)

theorem impl_visible_con (l : List Ent) (seq : Int) (V_l0 : Value) (r : List KV) (hm : impl_visible l seq = some r) :
    Con Try.prog 52 [V_l0, .int .i64 seq] [] [(V_l0, lc l)] (fun X : Value => X) (fun X => [.own X (lc r)]) := by
  refine Con.intro (args := [V_l0, .int .i64 seq]) (n := 44) (val := fun _ (X : Value) => X) (post := fun r X => [.own X (lc r)]) (m := impl_visible l seq) Try.func52 rfl rfl rfl hm ?_
  intro w S hrd
  have HB_V_l0 := hrd _ (.head _)
  clear hrd
  unfold impl_visible
  refine TW.seq ?_
  refine TW.region ?_
  refine TO.y (Y.assign rfl) rfl rfl rfl ?_
  refine TO.nil ?_
  refine TE.next ?_
  refine TW.seq ?_
  refine TW.region ?_
  refine TO.y (Y.assign rfl) rfl rfl rfl ?_
  refine TO.nil ?_
  refine TE.next ?_
  refine TW.seq ?_
  refine TW.region ?_
  refine TO.y (Y.assign rfl) rfl rfl rfl ?_
  refine TO.y (Y.assign rfl) rfl rfl rfl ?_
  refine TO.nil ?_
  refine TE.next ?_
  refine TW.seq ?_
  refine TW.seq ?_
  refine TW.region ?_
  refine TO.y (Y.move rfl) rfl rfl rfl ?_
  refine TO.y (Y.len (l := l) ke40 (Base.can HB_V_l0) rfl) rfl rfl rfl ?_
  refine TO.y (Y.move rfl) rfl rfl rfl ?_
  refine TO.nil ?_
  refine TE.next ?_
  refine TW.joinX (τ := List KV) (X := Value) (fun _ X => [(5, X)]) (fun T X => [.own X (lc T)]) ?_ (fun T3 X4 => ?_)
  · refine TW.block ?_
    refine TW.nilItem 2 ?_
    refine TW.loopX (σ := List UInt8 × Bool × Int × List KV) (X := Value) (fun T X => [(1, .int .i64 seq), (5, X), (6, strV T.1), (7, .bool T.2.1), (10, V_l0), (11, .int .i64 ((l.length : Nat) : Int)), (12, .int .i64 T.2.2.1)]) (fun T X => [.own X (lc T.2.2.2)]) (.slice none 0 0) [0] ⟨rfl, rfl, rfl, rfl, rfl, rfl, rfl, trivial⟩ rfl (fun S1 X2 => ?_)
    refine TW.seq ?_
    refine TW.region ?_
    refine TO.y (Y.lss rfl rfl) rfl rfl rfl ?_
    refine TO.nil ?_
    refine TE.next ?_
    refine TW.seq ?_
    refine TW.cond rfl (fun H5 => ?_) (fun H5 => ?_)
    · refine TW.skip ?_
      refine TE.next ?_
      refine TW.seq ?_
      refine TW.joinX (τ := List UInt8 × Bool × List KV) (X := Value) (fun T X => [(1, .int .i64 seq), (5, X), (6, strV T.1), (7, .bool T.2.1), (10, V_l0), (11, .int .i64 ((l.length : Nat) : Int)), (12, .int .i64 S1.2.2.1)]) (fun T X => [.own X (lc T.2.2)]) ?_ (fun T6 X7 => ?_)
      · refine TW.block ?_
        refine TW.seq ?_
        refine TW.region ?_
        refine TO.bind fun E8 H9 => ?_
        refine TO.y (Y.index ke40 (Base.can HB_V_l0) H9 rfl rfl) rfl rfl rfl ?_
        refine TO.y (Y.load_el (us := [strV E8.Key, .int .i64 E8.Seq, .bool E8.Del, strV E8.Val]) (u := .agg #[strV E8.Key, .int .i64 E8.Seq, .bool E8.Del, strV E8.Val]) kk81 rfl (Base.can HB_V_l0) (idx_get H9).2.2 rfl rfl rfl rfl rfl) rfl rfl rfl ?_
        refine TO.ef (Ef.alloc kz81 rfl) rfl rfl rfl (fun B10 => ?_)
        refine TO.ef0 (Ef.store_box (us := [strV E8.Key, .int .i64 E8.Seq, .bool E8.Del, strV E8.Val]) (vs' := [strV E8.Key, .int .i64 E8.Seq, .bool E8.Del, strV E8.Val]) (is' := [.box B10 81 [strV E8.Key, .int .i64 E8.Seq, .bool E8.Del, strV E8.Val], .own X2 (lc S1.2.2.2)]) 0 kk81 rfl rfl rfl (Cel.plain rfl rfl) rfl rfl rfl rfl) rfl rfl (fun _ => ?_)
        refine TO.nil ?_
        refine TE.next ?_
        refine TW.seq ?_
        refine TW.seq ?_
        refine TW.joinBX (τ := Bool) (X := Unit) (fun T _ => [(1, .int .i64 seq), (5, X2), (6, strV S1.1), (7, .bool S1.2.1), (9, .pointer (some ⟨B10, 0, none⟩)), (10, V_l0), (11, .int .i64 ((l.length : Nat) : Int)), (12, .int .i64 S1.2.2.1), (28, .bool T)]) (fun _ _ => [.box B10 81 [strV E8.Key, .int .i64 E8.Seq, .bool E8.Del, strV E8.Val], .own X2 (lc S1.2.2.2)]) ?_ (fun T11 X12 => ?_)
        · refine TW.region ?_
          refine TO.y (Y.field_box kf81_1 rfl rfl) rfl rfl rfl ?_
          refine TO.y (Y.load_box (v := .int .i64 E8.Seq) 0 kk3 rfl rfl rfl) rfl rfl rfl ?_
          refine TO.y (Y.move rfl) rfl rfl rfl ?_
          refine TO.y (Y.gtr rfl rfl) rfl rfl rfl ?_
          refine TO.y (Y.move rfl) rfl rfl rfl ?_
          refine TO.ite (b := decide (E8.Seq > seq)) (fun H13 => ?_) (fun H13 => ?_)
          · refine TO.off (Gd.at 4 false 20 (decide (E8.Seq > seq)) rfl rfl rfl (beq_tf H13)) rfl rfl ?_
            refine TO.off (Gd.at 4 false 20 (decide (E8.Seq > seq)) rfl rfl rfl (beq_tf H13)) rfl rfl ?_
            refine TO.off (Gd.un 6 true 22 rfl rfl rfl) rfl rfl ?_
            refine TO.off (Gd.un 6 true 22 rfl rfl rfl) rfl rfl ?_
            refine TO.off (Gd.un 6 true 22 rfl rfl rfl) rfl rfl ?_
            refine TO.off (Gd.un 6 true 22 rfl rfl rfl) rfl rfl ?_
            refine TO.off (Gd.at 4 false 20 (decide (E8.Seq > seq)) rfl rfl rfl (beq_tf H13)) rfl rfl ?_
            refine TO.y (Y.pick_t H13 rfl rfl) rfl rfl rfl ?_
            refine TO.nil ?_
            exact TE.jb_go () [0, 0] ⟨rfl, rfl, rfl, rfl, rfl, rfl, rfl, rfl, rfl, trivial⟩ rfl
          · refine TO.y (Y.move rfl) (Gd.at 4 false 20 (decide (E8.Seq > seq)) rfl rfl rfl (beq_ff H13)) rfl rfl ?_
            refine TO.y (Y.move rfl) (Gd.at 4 false 20 (decide (E8.Seq > seq)) rfl rfl rfl (beq_ff H13)) rfl rfl ?_
            refine TO.ite (b := S1.2.1) (fun H14 => ?_) (fun H14 => ?_)
            · refine TO.y (Y.field_box kf81_0 rfl rfl) (Gd.at 6 true 22 S1.2.1 rfl rfl rfl (beq_tt H14)) rfl rfl ?_
              refine TO.y (Y.load_box (v := strV E8.Key) 0 kk9 rfl rfl rfl) (Gd.at 6 true 22 S1.2.1 rfl rfl rfl (beq_tt H14)) rfl rfl ?_
              refine TO.y (Y.move rfl) (Gd.at 6 true 22 S1.2.1 rfl rfl rfl (beq_tt H14)) rfl rfl ?_
              refine TO.y (Y.seql rfl rfl) (Gd.at 6 true 22 S1.2.1 rfl rfl rfl (beq_tt H14)) rfl rfl ?_
              refine TO.y (Y.pick_t H14 rfl rfl) (Gd.at 4 false 20 (decide (E8.Seq > seq)) rfl rfl rfl (beq_ff H13)) rfl rfl ?_
              refine TO.y (Y.pick_f H13 rfl rfl) rfl rfl rfl ?_
              refine TO.nil ?_
              exact TE.jb_go () [0, 0] ⟨rfl, rfl, rfl, rfl, rfl, rfl, rfl, rfl, rfl, trivial⟩ rfl
            · refine TO.off (Gd.at 6 true 22 S1.2.1 rfl rfl rfl (beq_ft H14)) rfl rfl ?_
              refine TO.off (Gd.at 6 true 22 S1.2.1 rfl rfl rfl (beq_ft H14)) rfl rfl ?_
              refine TO.off (Gd.at 6 true 22 S1.2.1 rfl rfl rfl (beq_ft H14)) rfl rfl ?_
              refine TO.off (Gd.at 6 true 22 S1.2.1 rfl rfl rfl (beq_ft H14)) rfl rfl ?_
              refine TO.y (Y.pick_f H14 rfl rfl) (Gd.at 4 false 20 (decide (E8.Seq > seq)) rfl rfl rfl (beq_ff H13)) rfl rfl ?_
              refine TO.y (Y.pick_f H13 rfl rfl) rfl rfl rfl ?_
              refine TO.nil ?_
              exact TE.jb_go () [0, 0] ⟨rfl, rfl, rfl, rfl, rfl, rfl, rfl, rfl, rfl, trivial⟩ rfl
        · refine TE.next ?_
          refine TW.cond rfl (fun H15 => ?_) (fun H15 => ?_)
          · refine TW.exit ?_
            refine TE.then_exit ?_
            refine TE.block_exit ?_
            exact TE.jn_go X2 [1] ⟨rfl, rfl, rfl, rfl, rfl, rfl, rfl, trivial⟩ rfl
          · refine TW.skip ?_
            refine TE.next ?_
            refine TW.seq ?_
            refine TW.region ?_
            refine TO.y (Y.field_box kf81_0 rfl rfl) rfl rfl rfl ?_
            refine TO.y (Y.load_box (v := strV E8.Key) 0 kk9 rfl rfl rfl) rfl rfl rfl ?_
            refine TO.y (Y.assign rfl) rfl rfl rfl ?_
            refine TO.y (Y.assign rfl) rfl rfl rfl ?_
            refine TO.nil ?_
            refine TE.next ?_
            refine TW.seq ?_
            refine TW.region ?_
            refine TO.y (Y.field_box kf81_2 rfl rfl) rfl rfl rfl ?_
            refine TO.y (Y.load_box (v := .bool E8.Del) 0 kk4 rfl rfl rfl) rfl rfl rfl ?_
            refine TO.y (Y.not rfl) rfl rfl rfl ?_
            refine TO.nil ?_
            refine TE.next ?_
            refine TW.joinX (τ := List KV) (X := Value) (fun _ X => [(1, .int .i64 seq), (5, X), (6, strV E8.Key), (7, .bool true), (10, V_l0), (11, .int .i64 ((l.length : Nat) : Int)), (12, .int .i64 S1.2.2.1)]) (fun T X => [.own X (lc T)]) ?_ (fun T16 X17 => ?_)
            · refine TW.cond rfl (fun H18 => ?_) (fun H18 => ?_)
              · refine TW.region ?_
                refine TO.y (Y.move rfl) rfl rfl rfl ?_
                refine TO.y (Y.field_box kf81_0 rfl rfl) rfl rfl rfl ?_
                refine TO.y (Y.load_box (v := strV E8.Key) 0 kk9 rfl rfl rfl) rfl rfl rfl ?_
                refine TO.y (Y.field_box kf81_3 rfl rfl) rfl rfl rfl ?_
                refine TO.y (Y.load_box (v := strV E8.Val) 0 kk9 rfl rfl rfl) rfl rfl rfl ?_
                refine TO.y (Y.build (cells := [strV E8.Key, strV E8.Val]) [(0, [strV E8.Key]), (1, [strV E8.Val])] kp33 kz33 ⟨rfl, ⟨_, rfl, (Cel.plain rfl rfl)⟩, ⟨rfl, ⟨_, rfl, (Cel.plain rfl rfl)⟩, trivial⟩⟩ rfl) rfl rfl rfl ?_
                refine TO.ef (Ef.buildSlice (α := KV) (Vs := [.agg #[strV E8.Key, strV E8.Val]]) [{ Key := E8.Key, Val := E8.Val : KV }] ke24 kz33 rfl rfl rfl rfl rfl) rfl rfl rfl (fun B19 => ?_)
                refine TO.bind fun E21 H22 => ?_
                refine TO.ef (Ef.append (α := KV) (is' := [.own (.slice (some ⟨B19, 0, none⟩) 1 1) (lc ([{ Key := E8.Key, Val := E8.Val : KV }])), .box B10 81 [strV E8.Key, .int .i64 E8.Seq, .bool E8.Del, strV E8.Val]]) [2, 0, 0] H22 ke24 kz33 rfl rfl rfl rfl rfl (Can.own 0 rfl)) rfl rfl rfl (fun V20 => ?_)
                refine TO.y (Y.assign rfl) rfl rfl rfl ?_
                refine TO.nil ?_
                exact TE.jn_go V20 [0] ⟨rfl, rfl, rfl, rfl, rfl, rfl, rfl, trivial⟩ rfl
              · refine TW.skip ?_
                exact TE.jn_go X2 [1] ⟨rfl, rfl, rfl, rfl, rfl, rfl, rfl, trivial⟩ rfl
            · refine TE.block_normal ?_
              exact TE.jn_go X17 [0] ⟨rfl, rfl, rfl, rfl, rfl, rfl, rfl, trivial⟩ rfl
      · refine TE.next ?_
        refine TW.region ?_
        refine TO.y (Y.add rfl rfl) rfl rfl rfl ?_
        refine TO.y (Y.move rfl) rfl rfl rfl ?_
        refine TO.nil ?_
        exact TE.lp_go X7 [0] ⟨rfl, rfl, rfl, rfl, rfl, rfl, rfl, trivial⟩ rfl
    · refine TW.exit ?_
      refine TE.then_exit ?_
      refine TE.lp_exit ?_
      refine TE.block_exit ?_
      exact TE.jn_go X2 [0] ⟨rfl, trivial⟩ rfl
  · refine TE.next ?_
    refine TW.seq ?_
    refine TW.region ?_
    refine TO.y (Y.move rfl) rfl rfl rfl ?_
    refine TO.y (Y.assign rfl) rfl rfl rfl ?_
    refine TO.nil ?_
    refine TE.next ?_
    refine TW.ret ?_
    exact TE.leaf fun _ _ hf_ hs_ => ret_any (rs := [.tmp 4]) (vs := [X4]) (.inl rfl) rfl ⟨rfl, trivial⟩ hf_ hs_ ⟨X4, rfl, hs_.pulls [0] rfl⟩

/-- loop.example/g00950/impl.SeenAt -/
noncomputable def impl_SeenAt (l : List Ent) (snaps : List Int) : Option (List (List KV)) :=
  (if (decide (((l.length : Nat) : Int) > (400 : Int))) = true then (some true)
  else ((impl_inOrder l).bind fun R4 =>
  some (!R4))).bind (fun (T1 : Bool) =>
  if T1 = true then (some ([]))
  else (bindC (loopO (fun (S9 : Int × List (List KV)) => if (decide (S9.1 < ((snaps.length : Nat) : Int))) = true then ((idx snaps S9.1).bind fun E14 =>
  (impl_visible l E14).bind fun R16 =>
  (app 24 S9.2 ([R16])).bind fun E21 =>
  some (.go (IntKind.i64.wrap (S9.1 + (1 : Int)), E21)))
  else (some (.done (.go S9.2))))
  ((0 : Int), ([] : List (List KV))))
  (fun (T11 : List (List KV)) => (impl_visible l (1000000 : Int)).bind fun R23 =>
  (app 24 T11 ([R23])).bind fun E28 =>
  some E28)))

theorem impl_SeenAt_con (l : List Ent) (snaps : List Int) (V_l0 : Value) (V_snaps0 : Value) (r : List (List KV)) (hm : impl_SeenAt l snaps = some r) :
    Con Try.prog 21 [V_l0, V_snaps0] [] [(V_l0, lc l), (V_snaps0, lc snaps)] (fun X : Value => X) (fun X => [.own X (lc r)]) := by
  refine Con.intro (args := [V_l0, V_snaps0]) (n := 34) (val := fun _ (X : Value) => X) (post := fun r X => [.own X (lc r)]) (m := impl_SeenAt l snaps) Try.func21 rfl rfl rfl hm ?_
  intro w S hrd
  have HB_V_l0 := hrd _ (.head _)
  have HB_V_snaps0 := hrd _ (.tail _ (.head _))
  clear hrd
  unfold impl_SeenAt
  refine TW.seq ?_
  refine TW.region ?_
  refine TO.y (Y.assign rfl) rfl rfl rfl ?_
  refine TO.nil ?_
  refine TE.next ?_
  refine TW.seq ?_
  refine TW.seq ?_
  refine TW.joinBX (τ := Bool) (X := Unit) (fun T _ => [(0, V_l0), (1, V_snaps0), (15, .bool T)]) (fun _ _ => []) ?_ (fun T1 X2 => ?_)
  · refine TW.region ?_
    refine TO.y (Y.move rfl) rfl rfl rfl ?_
    refine TO.y (Y.len (l := l) ke40 (Base.can HB_V_l0) rfl) rfl rfl rfl ?_
    refine TO.y (Y.gtr rfl rfl) rfl rfl rfl ?_
    refine TO.y (Y.move rfl) rfl rfl rfl ?_
    refine TO.ite (b := decide (((l.length : Nat) : Int) > (400 : Int))) (fun H3 => ?_) (fun H3 => ?_)
    · refine TO.off (Gd.at 3 false 11 (decide (((l.length : Nat) : Int) > (400 : Int))) rfl rfl rfl (beq_tf H3)) rfl rfl ?_
      refine TO.off (Gd.at 3 false 11 (decide (((l.length : Nat) : Int) > (400 : Int))) rfl rfl rfl (beq_tf H3)) rfl rfl ?_
      refine TO.off (Gd.at 3 false 11 (decide (((l.length : Nat) : Int) > (400 : Int))) rfl rfl rfl (beq_tf H3)) rfl rfl ?_
      refine TO.y (Y.pick_t H3 rfl rfl) rfl rfl rfl ?_
      refine TO.nil ?_
      exact TE.jb_go () [] ⟨rfl, rfl, rfl, trivial⟩ rfl
    · refine TO.y (Y.move rfl) (Gd.at 3 false 11 (decide (((l.length : Nat) : Int) > (400 : Int))) rfl rfl rfl (beq_ff H3)) rfl rfl ?_
      refine TO.bind fun R4 H5 => ?_
      refine TO.ef (Ef.call (rest := []) [] (impl_inOrder_con l V_l0 R4 H5) kc47 rfl rfl ⟨(Base.can HB_V_l0), trivial⟩) (Gd.at 3 false 11 (decide (((l.length : Nat) : Int) > (400 : Int))) rfl rfl rfl (beq_ff H3)) rfl rfl (fun _ => ?_)
      refine TO.y (Y.not rfl) (Gd.at 3 false 11 (decide (((l.length : Nat) : Int) > (400 : Int))) rfl rfl rfl (beq_ff H3)) rfl rfl ?_
      refine TO.y (Y.pick_f H3 rfl rfl) rfl rfl rfl ?_
      refine TO.nil ?_
      exact TE.jb_go () [] ⟨rfl, rfl, rfl, trivial⟩ rfl
  · refine TE.next ?_
    refine TW.cond rfl (fun H7 => ?_) (fun H7 => ?_)
    · refine TW.seq ?_
      refine TW.region ?_
      refine TO.y (Y.assign rfl) rfl rfl rfl ?_
      refine TO.nil ?_
      refine TE.next ?_
      refine TW.ret ?_
      refine TE.then_ret ?_
      exact TE.leaf fun _ _ hf_ hs_ => ret_any (rs := [.tmp 4]) (vs := [.slice none 0 0]) (.inl rfl) rfl ⟨rfl, trivial⟩ hf_ hs_ ⟨(.slice none 0 0), rfl, (hs_.nilItem 1).pulls [0] rfl⟩
    · refine TW.skip ?_
      refine TE.next ?_
      refine TW.seq ?_
      refine TW.region ?_
      refine TO.y (Y.assign rfl) rfl rfl rfl ?_
      refine TO.nil ?_
      refine TE.next ?_
      refine TW.seq ?_
      refine TW.seq ?_
      refine TW.region ?_
      refine TO.y (Y.move rfl) rfl rfl rfl ?_
      refine TO.y (Y.len (l := snaps) ke41 (Base.can HB_V_snaps0) rfl) rfl rfl rfl ?_
      refine TO.y (Y.move rfl) rfl rfl rfl ?_
      refine TO.nil ?_
      refine TE.next ?_
      refine TW.joinX (τ := List (List KV)) (X := Value) (fun _ X => [(0, V_l0), (5, X)]) (fun T X => [.own X (lc T)]) ?_ (fun T11 X12 => ?_)
      · refine TW.block ?_
        refine TW.nilItem 1 ?_
        refine TW.loopX (σ := Int × List (List KV)) (X := Value) (fun T X => [(0, V_l0), (5, X), (16, V_snaps0), (17, .int .i64 ((snaps.length : Nat) : Int)), (18, .int .i64 T.1)]) (fun T X => [.own X (lc T.2)]) (.slice none 0 0) [0] ⟨rfl, rfl, rfl, rfl, rfl, trivial⟩ rfl (fun S9 X10 => ?_)
        refine TW.seq ?_
        refine TW.region ?_
        refine TO.y (Y.lss rfl rfl) rfl rfl rfl ?_
        refine TO.nil ?_
        refine TE.next ?_
        refine TW.seq ?_
        refine TW.cond rfl (fun H13 => ?_) (fun H13 => ?_)
        · refine TW.skip ?_
          refine TE.next ?_
          refine TW.seq ?_
          refine TW.block ?_
          refine TW.seq ?_
          refine TW.region ?_
          refine TO.bind fun E14 H15 => ?_
          refine TO.y (Y.index ke41 (Base.can HB_V_snaps0) H15 rfl rfl) rfl rfl rfl ?_
          refine TO.y (Y.load_el (us := [.int .i64 E14]) (u := .int .i64 E14) kk3 rfl (Base.can HB_V_snaps0) (idx_get H15).2.2 rfl rfl rfl rfl rfl) rfl rfl rfl ?_
          refine TO.y (Y.assign rfl) rfl rfl rfl ?_
          refine TO.nil ?_
          refine TE.next ?_
          refine TW.region ?_
          refine TO.y (Y.move rfl) rfl rfl rfl ?_
          refine TO.y (Y.move rfl) rfl rfl rfl ?_
          refine TO.y (Y.move rfl) rfl rfl rfl ?_
          refine TO.bind fun R16 H17 => ?_
          refine TO.ef (Ef.call (rest := [.own X10 (lc S9.2)]) [0] (impl_visible_con l E14 V_l0 R16 H17) kc52 rfl rfl ⟨(Base.can HB_V_l0), trivial⟩) rfl rfl rfl (fun Y18 => ?_)
          refine TO.ef (Ef.buildSliceR (Vs := [Y18]) [[Y18]] [.raw Y18] ke47 kz24 rfl rfl rfl rfl rfl ⟨(Cel.one (One.can (Can.own 0 rfl))), trivial⟩ rfl) rfl rfl rfl (fun B19 => ?_)
          refine TO.ghost (is' := fun _ => [.own (.slice (some ⟨B19, 0, none⟩) 1 1) (lc ([R16])), .own X10 (lc S9.2)]) (Gh.closeAll (js := [.own Y18 (lc R16)]) (r := [.own X10 (lc S9.2)]) [0, 0, 0] rfl (Cls.fill Cls.nil)) (fun _ => ?_)
          refine TO.bind fun E21 H22 => ?_
          refine TO.ef (Ef.appN (α := List KV) (is' := []) [1, 0] H22 ke47 kz24 rfl rfl rfl rfl rfl) rfl rfl rfl (fun V20 => ?_)
          refine TO.y (Y.assign rfl) rfl rfl rfl ?_
          refine TO.nil ?_
          refine TE.block_normal ?_
          refine TE.next ?_
          refine TW.region ?_
          refine TO.y (Y.add rfl rfl) rfl rfl rfl ?_
          refine TO.y (Y.move rfl) rfl rfl rfl ?_
          refine TO.nil ?_
          exact TE.lp_go V20 [0] ⟨rfl, rfl, rfl, rfl, rfl, trivial⟩ rfl
        · refine TW.exit ?_
          refine TE.then_exit ?_
          refine TE.lp_exit ?_
          refine TE.block_exit ?_
          exact TE.jn_go X10 [0] ⟨rfl, rfl, trivial⟩ rfl
      · refine TE.next ?_
        refine TW.seq ?_
        refine TW.region ?_
        refine TO.y (Y.move rfl) rfl rfl rfl ?_
        refine TO.y (Y.move rfl) rfl rfl rfl ?_
        refine TO.bind fun R23 H24 => ?_
        refine TO.ef (Ef.call (rest := [.own X12 (lc T11)]) [0] (impl_visible_con l (1000000 : Int) V_l0 R23 H24) kc52 rfl rfl ⟨(Base.can HB_V_l0), trivial⟩) rfl rfl rfl (fun Y25 => ?_)
        refine TO.ef (Ef.buildSliceR (Vs := [Y25]) [[Y25]] [.raw Y25] ke47 kz24 rfl rfl rfl rfl rfl ⟨(Cel.one (One.can (Can.own 0 rfl))), trivial⟩ rfl) rfl rfl rfl (fun B26 => ?_)
        refine TO.ghost (is' := fun _ => [.own (.slice (some ⟨B26, 0, none⟩) 1 1) (lc ([R23])), .own X12 (lc T11)]) (Gh.closeAll (js := [.own Y25 (lc R23)]) (r := [.own X12 (lc T11)]) [0, 0, 0] rfl (Cls.fill Cls.nil)) (fun _ => ?_)
        refine TO.bind fun E28 H29 => ?_
        refine TO.ef (Ef.appN (α := List KV) (is' := []) [1, 0] H29 ke47 kz24 rfl rfl rfl rfl rfl) rfl rfl rfl (fun V27 => ?_)
        refine TO.y (Y.assign rfl) rfl rfl rfl ?_
        refine TO.nil ?_
        refine TE.next ?_
        refine TW.ret ?_
        exact TE.leaf fun _ _ hf_ hs_ => ret_any (rs := [.tmp 4]) (vs := [V27]) (.inl rfl) rfl ⟨rfl, trivial⟩ hf_ hs_ ⟨V27, rfl, hs_.pulls [0] rfl⟩

/-- loop.example/g00950/laws.sameMap -/
noncomputable def laws_sameMap (a : List KV) (b : List KV) : Option Bool :=
  if (!(decide (((a.length : Nat) : Int) = ((b.length : Nat) : Int)))) = true then (some false)
  else (bindC (loopO (fun (S2 : Int) => if (decide (S2 < ((a.length : Nat) : Int))) = true then ((idx a S2).bind fun E7 =>
  (idx b S2).bind fun E9 =>
  if (!(decide (E7.Key = E9.Key) && (decide (E7.Val = E9.Val) && true))) = true then (some (.done (.done false)))
  else (some (.go (IntKind.i64.wrap (S2 + (1 : Int))))))
  else (some (.done (.go ()))))
  (0 : Int))
  (fun (T4 : Unit) => some true))

theorem laws_sameMap_con (a : List KV) (b : List KV) (V_a0 : Value) (V_b0 : Value) (r : Bool) (hm : laws_sameMap a b = some r) :
    Con Try.prog 12 [V_a0, V_b0] [] [(V_a0, lc a), (V_b0, lc b)] (fun _ : Unit => .bool r) (fun _ => []) := by
  refine Con.intro (args := [V_a0, V_b0]) (n := 26) (val := fun r (_ : Unit) => .bool r) (post := fun _ _ => []) (m := laws_sameMap a b) Try.func12 rfl rfl rfl hm ?_
  intro w S hrd
  have HB_V_a0 := hrd _ (.head _)
  have HB_V_b0 := hrd _ (.tail _ (.head _))
  clear hrd
  unfold laws_sameMap
  refine TW.seq ?_
  refine TW.region ?_
  refine TO.y (Y.assign rfl) rfl rfl rfl ?_
  refine TO.nil ?_
  refine TE.next ?_
  refine TW.seq ?_
  refine TW.seq ?_
  refine TW.region ?_
  refine TO.y (Y.move rfl) rfl rfl rfl ?_
  refine TO.y (Y.len (l := a) ke24 (Base.can HB_V_a0) rfl) rfl rfl rfl ?_
  refine TO.y (Y.move rfl) rfl rfl rfl ?_
  refine TO.y (Y.len (l := b) ke24 (Base.can HB_V_b0) rfl) rfl rfl rfl ?_
  refine TO.y (Y.neq rfl rfl) rfl rfl rfl ?_
  refine TO.nil ?_
  refine TE.next ?_
  refine TW.cond rfl (fun H1 => ?_) (fun H1 => ?_)
  · refine TW.seq ?_
    refine TW.region ?_
    refine TO.y (Y.assign rfl) rfl rfl rfl ?_
    refine TO.nil ?_
    refine TE.next ?_
    refine TW.ret ?_
    refine TE.then_ret ?_
    exact TE.leaf fun _ _ hf_ hs_ => ret_any (rs := [.tmp 4]) (vs := [.bool false]) (.inl rfl) rfl ⟨rfl, trivial⟩ hf_ hs_ ⟨(), rfl, hs_.pulls [] rfl⟩
  · refine TW.skip ?_
    refine TE.next ?_
    refine TW.seq ?_
    refine TW.seq ?_
    refine TW.region ?_
    refine TO.y (Y.assign rfl) rfl rfl rfl ?_
    refine TO.nil ?_
    refine TE.next ?_
    refine TW.joinX (τ := Unit) (X := Unit) (fun _ _ => []) (fun _ _ => []) ?_ (fun T4 X5 => ?_)
    · refine TW.block ?_
      refine TW.loopX (σ := Int) (X := Unit) (fun T _ => [(0, V_a0), (1, V_b0), (5, .int .i64 T)]) (fun _ _ => []) () [] ⟨rfl, rfl, rfl, trivial⟩ rfl (fun S2 X3 => ?_)
      refine TW.seq ?_
      refine TW.seq ?_
      refine TW.region ?_
      refine TO.y (Y.move rfl) rfl rfl rfl ?_
      refine TO.y (Y.move rfl) rfl rfl rfl ?_
      refine TO.y (Y.len (l := a) ke24 (Base.can HB_V_a0) rfl) rfl rfl rfl ?_
      refine TO.y (Y.lss rfl rfl) rfl rfl rfl ?_
      refine TO.nil ?_
      refine TE.next ?_
      refine TW.cond rfl (fun H6 => ?_) (fun H6 => ?_)
      · refine TW.skip ?_
        refine TE.next ?_
        refine TW.seq ?_
        refine TW.block ?_
        refine TW.seq ?_
        refine TW.draw (isH := []) hMix ?_
        refine TA.y (listed' := #[true, false, false, false, false, false, false, false, false]) 0 [] rfl (Y.move rfl) rfl rfl rfl (by kernel_rfl) (by kernel_rfl) (by kernel_rfl) rfl rfl ?_
        refine TA.y (listed' := #[true, true, false, false, false, false, false, false, false]) 1 [] rfl (Y.move rfl) rfl rfl rfl (by kernel_rfl) (by kernel_rfl) (by kernel_rfl) rfl rfl ?_
        refine TA.bind fun E7 H8 => ?_
        refine TA.y (listed' := #[true, true, true, false, false, false, false, false, false]) 2 [] rfl (Y.index ke24 (Base.can HB_V_a0) H8 rfl rfl) rfl rfl rfl (by kernel_rfl) (by kernel_rfl) (by kernel_rfl) rfl rfl ?_
        refine TA.y (listed' := #[true, true, true, true, false, false, false, false, false]) 3 [] rfl (Y.load_el (us := [strV E7.Key, strV E7.Val]) (u := .agg #[strV E7.Key, strV E7.Val]) kk33 rfl (Base.can HB_V_a0) (idx_get H8).2.2 rfl rfl rfl rfl rfl) rfl rfl rfl (by kernel_rfl) (by kernel_rfl) (by kernel_rfl) rfl rfl ?_
        refine TA.y (listed' := #[true, true, true, true, true, false, false, false, false]) 4 [] rfl (Y.move rfl) rfl rfl rfl (by kernel_rfl) (by kernel_rfl) (by kernel_rfl) rfl rfl ?_
        refine TA.y (listed' := #[true, true, true, true, true, true, false, false, false]) 5 [] rfl (Y.move rfl) rfl rfl rfl (by kernel_rfl) (by kernel_rfl) (by kernel_rfl) rfl rfl ?_
        refine TA.bind fun E9 H10 => ?_
        refine TA.y (listed' := #[true, true, true, true, true, true, true, false, false]) 6 [] rfl (Y.index ke24 (Base.can HB_V_b0) H10 rfl rfl) rfl rfl rfl (by kernel_rfl) (by kernel_rfl) (by kernel_rfl) rfl rfl ?_
        refine TA.y (listed' := #[true, true, true, true, true, true, true, true, false]) 7 [] rfl (Y.load_el (us := [strV E9.Key, strV E9.Val]) (u := .agg #[strV E9.Key, strV E9.Val]) kk33 rfl (Base.can HB_V_b0) (idx_get H10).2.2 rfl rfl rfl rfl rfl) rfl rfl rfl (by kernel_rfl) (by kernel_rfl) (by kernel_rfl) rfl rfl ?_
        refine TA.y (listed' := #[true, true, true, true, true, true, true, true, true]) 8 [] rfl (Y.neqA keq33 (EqA.str (EqA.str EqA.nil)) rfl rfl) rfl rfl rfl (by kernel_rfl) (by kernel_rfl) (by kernel_rfl) rfl rfl ?_
        refine TA.nil (by kernel_rfl) ?_
        refine TE.next ?_
        refine TW.cond rfl (fun H11 => ?_) (fun H11 => ?_)
        · refine TW.seq ?_
          refine TW.region ?_
          refine TO.y (Y.assign rfl) rfl rfl rfl ?_
          refine TO.nil ?_
          refine TE.next ?_
          refine TW.ret ?_
          refine TE.block_ret ?_
          refine TE.then_ret ?_
          refine TE.lp_ret ?_
          refine TE.block_ret ?_
          refine TE.jn_done ?_
          refine TE.then_ret ?_
          exact TE.leaf fun _ _ hf_ hs_ => ret_any (rs := [.tmp 4]) (vs := [.bool false]) (.inl rfl) rfl ⟨rfl, trivial⟩ hf_ hs_ ⟨(), rfl, hs_.pulls [] rfl⟩
        · refine TW.skip ?_
          refine TE.block_normal ?_
          refine TE.next ?_
          refine TW.region ?_
          refine TO.y (Y.move rfl) rfl rfl rfl ?_
          refine TO.y (Y.add rfl rfl) rfl rfl rfl ?_
          refine TO.y (Y.assign rfl) rfl rfl rfl ?_
          refine TO.nil ?_
          exact TE.lp_go () [] ⟨rfl, rfl, rfl, trivial⟩ rfl
      · refine TW.exit ?_
        refine TE.then_exit ?_
        refine TE.lp_exit ?_
        refine TE.block_exit ?_
        exact TE.jn_go () [] trivial rfl
    · refine TE.next ?_
      refine TW.seq ?_
      refine TW.region ?_
      refine TO.y (Y.assign rfl) rfl rfl rfl ?_
      refine TO.nil ?_
      refine TE.next ?_
      refine TW.ret ?_
      exact TE.leaf fun _ _ hf_ hs_ => ret_any (rs := [.tmp 4]) (vs := [.bool true]) (.inl rfl) rfl ⟨rfl, trivial⟩ hf_ hs_ ⟨(), rfl, hs_.pulls [] rfl⟩

end Go.Proofs.Ytahennbogdbnmaa
