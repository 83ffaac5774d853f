/-
  The functions that a law reaches, each as a pure function, with the proof that the program computes it, and the step from a pure law to the given statement. Conditions: none.
-/
import Derived.Test.YtjodikomidlhjaaT3
set_option linter.unusedVariables false
set_option maxRecDepth 100000
set_option maxHeartbeats 4000000
namespace Go.Proofs.Ytjodikomidlhjaa
open Go Sl

/-- loop.example/g00950/impl.isSeen -/
noncomputable def impl_isSeen (l : List Ent) (i : Int) (snaps : List Int) : Option Bool :=
  (if (decide (i = (0 : Int))) = true then (some true)
  else ((idx l (IntKind.i64.wrap (i - (1 : Int)))).bind fun E4 =>
  (idx l i).bind fun E6 =>
  some (!(decide (E4.Key = E6.Key))))).bind (fun (T1 : Bool) =>
  if T1 = true then (some true)
  else (bindC (loopO (fun (S9 : Int) => if (decide (S9 < ((snaps.length : Nat) : Int))) = true then ((idx snaps S9).bind fun E14 =>
  ((idx l i).bind fun E18 =>
  if (decide (E18.Seq ≤ E14)) = true then ((idx l (IntKind.i64.wrap (i - (1 : Int)))).bind fun E21 =>
  some (decide (E14 < E21.Seq)))
  else (some false)).bind (fun (T16 : Bool) =>
  if T16 = true then (some (.done (.done true)))
  else (some (.go (IntKind.i64.wrap (S9 + (1 : Int)))))))
  else (some (.done (.go ()))))
  (0 : Int))
  (fun (T11 : Unit) => some false)))

theorem impl_isSeen_con (l : List Ent) (i : Int) (snaps : List Int) (V_l0 : Value) (V_snaps0 : Value) (r : Bool) (hm : impl_isSeen l i snaps = some r) :
    Con Try.prog 84 [V_l0, .int .i64 i, V_snaps0] [] [(V_l0, lc l), (V_snaps0, lc snaps)] (fun _ : Unit => .bool r) (fun _ => []) := by
  refine Con.intro (args := [V_l0, .int .i64 i, V_snaps0]) (n := 51) (val := fun r (_ : Unit) => .bool r) (post := fun _ _ => []) (m := impl_isSeen l i snaps) Try.func84 rfl rfl rfl hm ?_
  intro w S hrd
  have HB_V_l0 := hrd _ (.head _)
  have HB_V_snaps0 := hrd _ (.tail _ (.head _))
  clear hrd
  unfold impl_isSeen
  refine TW.seq ?_
  refine TW.region ?_
  refine TO.y (Y.assign rfl) rfl rfl rfl ?_
  refine TO.nil ?_
  refine TE.next ?_
  refine TW.seq ?_
  refine TW.joinBX (τ := Bool) (X := Unit) (fun T _ => [(0, V_l0), (1, .int .i64 i), (2, V_snaps0), (7, .bool T)]) (fun _ _ => []) ?_ (fun T1 X2 => ?_)
  ·refine TW.draw (isH := []) hMix ?_
   refine TA.y 0 [] rfl (Y.move rfl) rfl rfl rfl (by kernel_rfl) rfl ?_
   refine TA.y 1 [] rfl (Y.eql rfl rfl) rfl rfl rfl (by kernel_rfl) rfl ?_
   refine TA.y 2 [] rfl (Y.move rfl) rfl rfl rfl (by kernel_rfl) rfl ?_
   refine TA.ite (b := decide (i = (0 : Int))) (fun H3 => ?_) (fun H3 => ?_)
   ·refine TA.off 3 [] rfl (Gd.at 2 false 12 (decide (i = (0 : Int))) rfl rfl rfl (beq_tf H3)) rfl rfl (by kernel_rfl) rfl ?_
    refine TA.off 4 [] rfl (Gd.at 2 false 12 (decide (i = (0 : Int))) rfl rfl rfl (beq_tf H3)) rfl rfl (by kernel_rfl) rfl ?_
    refine TA.off 5 [] rfl (Gd.at 2 false 12 (decide (i = (0 : Int))) rfl rfl rfl (beq_tf H3)) rfl rfl (by kernel_rfl) rfl ?_
    refine TA.off 6 [] rfl (Gd.at 2 false 12 (decide (i = (0 : Int))) rfl rfl rfl (beq_tf H3)) rfl rfl (by kernel_rfl) rfl ?_
    refine TA.off 7 [] rfl (Gd.at 2 false 12 (decide (i = (0 : Int))) rfl rfl rfl (beq_tf H3)) rfl rfl (by kernel_rfl) rfl ?_
    refine TA.off 8 [] rfl (Gd.at 2 false 12 (decide (i = (0 : Int))) rfl rfl rfl (beq_tf H3)) rfl rfl (by kernel_rfl) rfl ?_
    refine TA.off 9 [] rfl (Gd.at 2 false 12 (decide (i = (0 : Int))) rfl rfl rfl (beq_tf H3)) rfl rfl (by kernel_rfl) rfl ?_
    refine TA.off 10 [] rfl (Gd.at 2 false 12 (decide (i = (0 : Int))) rfl rfl rfl (beq_tf H3)) rfl rfl (by kernel_rfl) rfl ?_
    refine TA.off 11 [] rfl (Gd.at 2 false 12 (decide (i = (0 : Int))) rfl rfl rfl (beq_tf H3)) rfl rfl (by kernel_rfl) rfl ?_
    refine TA.off 12 [] rfl (Gd.at 2 false 12 (decide (i = (0 : Int))) rfl rfl rfl (beq_tf H3)) rfl rfl (by kernel_rfl) rfl ?_
    refine TA.off 13 [] rfl (Gd.at 2 false 12 (decide (i = (0 : Int))) rfl rfl rfl (beq_tf H3)) rfl rfl (by kernel_rfl) rfl ?_
    refine TA.off 14 [] rfl (Gd.at 2 false 12 (decide (i = (0 : Int))) rfl rfl rfl (beq_tf H3)) rfl rfl (by kernel_rfl) rfl ?_
    refine TA.y 15 [] rfl (Y.pick_t H3 rfl rfl) rfl rfl rfl (by kernel_rfl) rfl ?_
    refine TA.y 16 [] rfl (Y.assign rfl) rfl rfl rfl (by kernel_rfl) rfl ?_
    refine TA.nil (by kernel_rfl) ?_
    exact TE.jb_go () [] ⟨rfl, rfl, rfl, rfl, trivial⟩ rfl
   refine TA.y 3 [] rfl (Y.move rfl) (Gd.at 2 false 12 (decide (i = (0 : Int))) rfl rfl rfl (beq_ff H3)) rfl rfl (by kernel_rfl) rfl ?_
   refine TA.y 4 [] rfl (Y.move rfl) (Gd.at 2 false 12 (decide (i = (0 : Int))) rfl rfl rfl (beq_ff H3)) rfl rfl (by kernel_rfl) rfl ?_
   refine TA.y 5 [] rfl (Y.sub rfl rfl) (Gd.at 2 false 12 (decide (i = (0 : Int))) rfl rfl rfl (beq_ff H3)) rfl rfl (by kernel_rfl) rfl ?_
   refine TA.bind fun E4 H5 => ?_
   refine TA.y 6 [] rfl (Y.index ke28 (Base.can HB_V_l0) H5 rfl rfl) (Gd.at 2 false 12 (decide (i = (0 : Int))) rfl rfl rfl (beq_ff H3)) rfl rfl (by kernel_rfl) rfl ?_
   refine TA.y 7 [] rfl (Y.field_el kf51_0 (Base.can HB_V_l0) (idx_get H5).2.2 rfl rfl) (Gd.at 2 false 12 (decide (i = (0 : Int))) rfl rfl rfl (beq_ff H3)) rfl rfl (by kernel_rfl) rfl ?_
   refine TA.y 8 [] rfl (Y.load_el (us := [strV E4.Key]) (u := strV E4.Key) kk9 rfl (Base.can HB_V_l0) (idx_get H5).2.2 rfl rfl rfl rfl rfl) (Gd.at 2 false 12 (decide (i = (0 : Int))) rfl rfl rfl (beq_ff H3)) rfl rfl (by kernel_rfl) rfl ?_
   refine TA.y 9 [] rfl (Y.move rfl) (Gd.at 2 false 12 (decide (i = (0 : Int))) rfl rfl rfl (beq_ff H3)) rfl rfl (by kernel_rfl) rfl ?_
   refine TA.y 10 [] rfl (Y.move rfl) (Gd.at 2 false 12 (decide (i = (0 : Int))) rfl rfl rfl (beq_ff H3)) rfl rfl (by kernel_rfl) rfl ?_
   refine TA.bind fun E6 H7 => ?_
   refine TA.y 11 [] rfl (Y.index ke28 (Base.can HB_V_l0) H7 rfl rfl) (Gd.at 2 false 12 (decide (i = (0 : Int))) rfl rfl rfl (beq_ff H3)) rfl rfl (by kernel_rfl) rfl ?_
   refine TA.y 12 [] rfl (Y.field_el kf51_0 (Base.can HB_V_l0) (idx_get H7).2.2 rfl rfl) (Gd.at 2 false 12 (decide (i = (0 : Int))) rfl rfl rfl (beq_ff H3)) rfl rfl (by kernel_rfl) rfl ?_
   refine TA.y 13 [] rfl (Y.load_el (us := [strV E6.Key]) (u := strV E6.Key) kk9 rfl (Base.can HB_V_l0) (idx_get H7).2.2 rfl rfl rfl rfl rfl) (Gd.at 2 false 12 (decide (i = (0 : Int))) rfl rfl rfl (beq_ff H3)) rfl rfl (by kernel_rfl) rfl ?_
   refine TA.y 14 [] rfl (Y.sneq rfl rfl) (Gd.at 2 false 12 (decide (i = (0 : Int))) rfl rfl rfl (beq_ff H3)) rfl rfl (by kernel_rfl) rfl ?_
   refine TA.y 15 [] rfl (Y.pick_f H3 rfl rfl) rfl rfl rfl (by kernel_rfl) rfl ?_
   refine TA.y 16 [] rfl (Y.assign rfl) rfl rfl rfl (by kernel_rfl) rfl ?_
   refine TA.nil (by kernel_rfl) ?_
   exact TE.jb_go () [] ⟨rfl, rfl, rfl, rfl, trivial⟩ rfl
  refine TE.next ?_
  refine TW.seq ?_
  refine TW.seq ?_
  refine TW.region ?_
  refine TO.y (Y.move rfl) rfl rfl rfl ?_
  refine TO.nil ?_
  refine TE.next ?_
  refine TW.cond rfl (fun H8 => ?_) (fun H8 => ?_)
  ·refine TW.seq ?_
   refine TW.region ?_
   refine TO.y (Y.assign rfl) rfl rfl rfl ?_
   refine TO.nil ?_
   refine TE.next ?_
   refine TW.ret ?_
   refine TE.then_ret ?_
   exact TE.leaf fun _ _ hf_ hs_ => ret_any (rs := [.tmp 6]) (vs := [.bool true]) (.inl rfl) rfl ⟨rfl, trivial⟩ hf_ hs_ ⟨(), rfl, hs_.pulls [] rfl⟩
  refine TW.skip ?_
  refine TE.next ?_
  refine TW.seq ?_
  refine TW.seq ?_
  refine TW.region ?_
  refine TO.y (Y.move rfl) rfl rfl rfl ?_
  refine TO.y (Y.len (l := snaps) ke24 (Base.can HB_V_snaps0) rfl) rfl rfl rfl ?_
  refine TO.y (Y.move rfl) rfl rfl rfl ?_
  refine TO.nil ?_
  refine TE.next ?_
  refine TW.joinX (τ := Unit) (X := Unit) (fun _ _ => []) (fun _ _ => []) ?_ (fun T11 X12 => ?_)
  ·refine TW.block ?_
   refine TW.loopX (σ := Int) (X := Unit) (fun T _ => [(0, V_l0), (1, .int .i64 i), (27, V_snaps0), (28, .int .i64 ((snaps.length : Nat) : Int)), (29, .int .i64 T)]) (fun _ _ => []) () [] ⟨rfl, rfl, rfl, rfl, rfl, trivial⟩ rfl (fun S9 X10 => ?_)
   refine TW.seq ?_
   refine TW.region ?_
   refine TO.y (Y.lss rfl rfl) rfl rfl rfl ?_
   refine TO.nil ?_
   refine TE.next ?_
   refine TW.seq ?_
   refine TW.cond rfl (fun H13 => ?_) (fun H13 => ?_)
   ·refine TW.skip ?_
    refine TE.next ?_
    refine TW.seq ?_
    refine TW.block ?_
    refine TW.seq ?_
    refine TW.region ?_
    refine TO.bind fun E14 H15 => ?_
    refine TO.y (Y.index ke24 (Base.can HB_V_snaps0) H15 rfl rfl) rfl rfl rfl ?_
    refine TO.y (Y.load_el (us := [.int .i64 E14]) (u := .int .i64 E14) kk3 rfl (Base.can HB_V_snaps0) (idx_get H15).2.2 rfl rfl rfl rfl rfl) rfl rfl rfl ?_
    refine TO.y (Y.assign rfl) rfl rfl rfl ?_
    refine TO.nil ?_
    refine TE.next ?_
    refine TW.seq ?_
    refine TW.joinBX (τ := Bool) (X := Unit) (fun T _ => [(0, V_l0), (1, .int .i64 i), (27, V_snaps0), (28, .int .i64 ((snaps.length : Nat) : Int)), (29, .int .i64 S9), (49, .bool T)]) (fun _ _ => []) ?_ (fun T16 X17 => ?_)
    ·refine TW.region ?_
     refine TO.y (Y.move rfl) rfl rfl rfl ?_
     refine TO.y (Y.move rfl) rfl rfl rfl ?_
     refine TO.bind fun E18 H19 => ?_
     refine TO.y (Y.index ke28 (Base.can HB_V_l0) H19 rfl rfl) rfl rfl rfl ?_
     refine TO.y (Y.field_el kf51_1 (Base.can HB_V_l0) (idx_get H19).2.2 rfl rfl) rfl rfl rfl ?_
     refine TO.y (Y.load_el (us := [.int .i64 E18.Seq]) (u := .int .i64 E18.Seq) kk3 rfl (Base.can HB_V_l0) (idx_get H19).2.2 rfl rfl rfl rfl rfl) rfl rfl rfl ?_
     refine TO.y (Y.move rfl) rfl rfl rfl ?_
     refine TO.y (Y.leq rfl rfl) rfl rfl rfl ?_
     refine TO.y (Y.move rfl) rfl rfl rfl ?_
     refine TO.ite (b := decide (E18.Seq ≤ E14)) (fun H20 => ?_) (fun H20 => ?_)
     ·refine TO.y (Y.move rfl) (Gd.at 7 true 40 (decide (E18.Seq ≤ E14)) rfl rfl rfl (beq_tt H20)) rfl rfl ?_
      refine TO.y (Y.move rfl) (Gd.at 7 true 40 (decide (E18.Seq ≤ E14)) rfl rfl rfl (beq_tt H20)) rfl rfl ?_
      refine TO.y (Y.move rfl) (Gd.at 7 true 40 (decide (E18.Seq ≤ E14)) rfl rfl rfl (beq_tt H20)) rfl rfl ?_
      refine TO.y (Y.sub rfl rfl) (Gd.at 7 true 40 (decide (E18.Seq ≤ E14)) rfl rfl rfl (beq_tt H20)) rfl rfl ?_
      refine TO.bind fun E21 H22 => ?_
      refine TO.y (Y.index ke28 (Base.can HB_V_l0) H22 rfl rfl) (Gd.at 7 true 40 (decide (E18.Seq ≤ E14)) rfl rfl rfl (beq_tt H20)) rfl rfl ?_
      refine TO.y (Y.field_el kf51_1 (Base.can HB_V_l0) (idx_get H22).2.2 rfl rfl) (Gd.at 7 true 40 (decide (E18.Seq ≤ E14)) rfl rfl rfl (beq_tt H20)) rfl rfl ?_
      refine TO.y (Y.load_el (us := [.int .i64 E21.Seq]) (u := .int .i64 E21.Seq) kk3 rfl (Base.can HB_V_l0) (idx_get H22).2.2 rfl rfl rfl rfl rfl) (Gd.at 7 true 40 (decide (E18.Seq ≤ E14)) rfl rfl rfl (beq_tt H20)) rfl rfl ?_
      refine TO.y (Y.lss rfl rfl) (Gd.at 7 true 40 (decide (E18.Seq ≤ E14)) rfl rfl rfl (beq_tt H20)) rfl rfl ?_
      refine TO.y (Y.pick_t H20 rfl rfl) rfl rfl rfl ?_
      refine TO.nil ?_
      exact TE.jb_go () [] ⟨rfl, rfl, rfl, rfl, rfl, rfl, trivial⟩ rfl
     refine TO.off (Gd.at 7 true 40 (decide (E18.Seq ≤ E14)) rfl rfl rfl (beq_ft H20)) rfl rfl ?_
     refine TO.off (Gd.at 7 true 40 (decide (E18.Seq ≤ E14)) rfl rfl rfl (beq_ft H20)) rfl rfl ?_
     refine TO.off (Gd.at 7 true 40 (decide (E18.Seq ≤ E14)) rfl rfl rfl (beq_ft H20)) rfl rfl ?_
     refine TO.off (Gd.at 7 true 40 (decide (E18.Seq ≤ E14)) rfl rfl rfl (beq_ft H20)) rfl rfl ?_
     refine TO.off (Gd.at 7 true 40 (decide (E18.Seq ≤ E14)) rfl rfl rfl (beq_ft H20)) rfl rfl ?_
     refine TO.off (Gd.at 7 true 40 (decide (E18.Seq ≤ E14)) rfl rfl rfl (beq_ft H20)) rfl rfl ?_
     refine TO.off (Gd.at 7 true 40 (decide (E18.Seq ≤ E14)) rfl rfl rfl (beq_ft H20)) rfl rfl ?_
     refine TO.off (Gd.at 7 true 40 (decide (E18.Seq ≤ E14)) rfl rfl rfl (beq_ft H20)) rfl rfl ?_
     refine TO.y (Y.pick_f H20 rfl rfl) rfl rfl rfl ?_
     refine TO.nil ?_
     exact TE.jb_go () [] ⟨rfl, rfl, rfl, rfl, rfl, rfl, trivial⟩ rfl
    refine TE.next ?_
    refine TW.cond rfl (fun H23 => ?_) (fun H23 => ?_)
    ·refine TW.seq ?_
     refine TW.region ?_
     refine TO.y (Y.assign rfl) rfl rfl rfl ?_
     refine TO.nil ?_
     refine TE.next ?_
     refine TW.ret ?_
     refine TE.block_ret ?_
     refine TE.then_ret ?_
     refine TE.lp_ret ?_
     refine TE.block_ret ?_
     refine TE.jn_done ?_
     refine TE.then_ret ?_
     exact TE.leaf fun _ _ hf_ hs_ => ret_any (rs := [.tmp 6]) (vs := [.bool true]) (.inl rfl) rfl ⟨rfl, trivial⟩ hf_ hs_ ⟨(), rfl, hs_.pulls [] rfl⟩
    refine TW.skip ?_
    refine TE.block_normal ?_
    refine TE.next ?_
    refine TW.region ?_
    refine TO.y (Y.add rfl rfl) rfl rfl rfl ?_
    refine TO.y (Y.move rfl) rfl rfl rfl ?_
    refine TO.nil ?_
    exact TE.lp_go () [] ⟨rfl, rfl, rfl, rfl, rfl, trivial⟩ rfl
   refine TW.exit ?_
   refine TE.then_exit ?_
   refine TE.lp_exit ?_
   refine TE.block_exit ?_
   exact TE.jn_go () [] trivial rfl
  refine TE.next ?_
  refine TW.seq ?_
  refine TW.region ?_
  refine TO.y (Y.assign rfl) rfl rfl rfl ?_
  refine TO.nil ?_
  refine TE.next ?_
  refine TW.ret ?_
  exact TE.leaf fun _ _ hf_ hs_ => ret_any (rs := [.tmp 6]) (vs := [.bool false]) (.inl rfl) rfl ⟨rfl, trivial⟩ hf_ hs_ ⟨(), rfl, hs_.pulls [] rfl⟩

/-- slices.Reverse[[]loop.example/g00950/impl.Ent,loop.example/g00950/impl.Ent] -/
noncomputable def slices_Reverse_94167 (s : List Ent) : Option (List Ent) :=
  bindC (loopO (fun (S1 : Int × Int × List Ent) => if (decide (S1.1 < S1.2.1)) = true then ((idx S1.2.2 S1.2.1).bind fun E6 =>
  (idx S1.2.2 S1.1).bind fun E8 =>
  (idx (S1.2.2.set S1.1.toNat E6) S1.2.1).bind fun E10 =>
  some (.go (IntKind.i64.wrap (S1.1 + (1 : Int)), IntKind.i64.wrap (S1.2.1 - (1 : Int)), ((S1.2.2.set S1.1.toNat E6).set S1.2.1.toNat E8))))
  else (some (.done (.go S1.2.2))))
  ((0 : Int), IntKind.i64.wrap (((s.length : Nat) : Int) - (1 : Int)), s))
  (fun (T3 : List Ent) => some T3)

theorem slices_Reverse_94167_con (s : List Ent) (V_s0 : Value) (r : List Ent) (hm : slices_Reverse_94167 s = some r) :
    Con Try.prog 85 [V_s0] [.own V_s0 (lc s)] [] (fun _ : Unit => .tuple #[]) (fun _ => [.own V_s0 (lc r)]) := by
  refine Con.intro (args := [V_s0]) (n := 28) (val := fun _ (_ : Unit) => .tuple #[]) (post := fun r _ => [.own V_s0 (lc r)]) (m := slices_Reverse_94167 s) Try.func85 rfl rfl rfl hm ?_
  intro w S _
  unfold slices_Reverse_94167
  refine TW.seq ?_
  refine TW.region ?_
  refine TO.y (Y.move rfl) rfl rfl rfl ?_
  refine TO.y (Y.len (l := s) ke28 (Can.own 0 rfl) rfl) rfl rfl rfl ?_
  refine TO.y (Y.sub rfl rfl) rfl rfl rfl ?_
  refine TO.y (Y.assign rfl) rfl rfl rfl ?_
  refine TO.y (Y.assign rfl) rfl rfl rfl ?_
  refine TO.nil ?_
  refine TE.next ?_
  refine TW.joinX (τ := List Ent) (X := Unit) (fun _ _ => []) (fun T _ => [.own V_s0 (lc T)]) ?_ (fun T3 X4 => ?_)
  ·refine TW.block ?_
   refine TW.loopX (σ := Int × Int × List Ent) (X := Unit) (fun T _ => [(0, V_s0), (2, .int .i64 T.1), (3, .int .i64 T.2.1)]) (fun T _ => [.own V_s0 (lc T.2.2)]) () [0] ⟨rfl, rfl, rfl, trivial⟩ rfl (fun S1 X2 => ?_)
   refine TW.seq ?_
   refine TW.seq ?_
   refine TW.region ?_
   refine TO.y (Y.move rfl) rfl rfl rfl ?_
   refine TO.y (Y.move rfl) rfl rfl rfl ?_
   refine TO.y (Y.lss rfl rfl) rfl rfl rfl ?_
   refine TO.nil ?_
   refine TE.next ?_
   refine TW.cond rfl (fun H5 => ?_) (fun H5 => ?_)
   ·refine TW.skip ?_
    refine TE.next ?_
    refine TW.seq ?_
    refine TW.block ?_
    refine TW.bind fun E6 H7 => ?_
    refine TW.bind fun E8 H9 => ?_
    refine TW.bind fun E10 H11 => ?_
    refine TW.joinU (X := Unit) (fun _ _ => [(0, V_s0), (2, .int .i64 S1.1), (3, .int .i64 S1.2.1)]) (fun _ _ => [.own V_s0 (lc ((S1.2.2.set S1.1.toNat E6).set S1.2.1.toNat E8))]) ?_ (fun _ X13 => ?_)
    ·refine TW.draw (isH := []) hMix ?_
     refine TA.y 0 [] rfl (Y.move rfl) rfl rfl rfl (by kernel_rfl) rfl ?_
     refine TA.y 1 [] rfl (Y.move rfl) rfl rfl rfl (by kernel_rfl) rfl ?_
     refine TA.y 2 [] rfl (Y.move rfl) rfl rfl rfl (by kernel_rfl) rfl ?_
     refine TA.y 3 [] rfl (Y.move rfl) rfl rfl rfl (by kernel_rfl) rfl ?_
     refine TA.y 4 [] rfl (Y.move rfl) rfl rfl rfl (by kernel_rfl) rfl ?_
     refine TA.y 5 [] rfl (Y.move rfl) rfl rfl rfl (by kernel_rfl) rfl ?_
     refine TA.y 8 [] rfl (Y.move rfl) rfl rfl rfl (by kernel_rfl) rfl ?_
     refine TA.y 9 [] rfl (Y.move rfl) rfl rfl rfl (by kernel_rfl) rfl ?_
     refine TA.two 6 10 (by kernel_rfl) ?_ ?_
     ·refine TX.y [] rfl (Y.index ke28 (Can.own 0 rfl) H7 rfl rfl) rfl rfl rfl rfl ?_
      refine TA.two 7 10 (by kernel_rfl) ?_ ?_
      ·refine TX.y [] rfl (Y.load_el (us := [strV E6.Key, .int .i64 E6.Seq, .bool E6.Del, strV E6.Val]) (u := .agg #[strV E6.Key, .int .i64 E6.Seq, .bool E6.Del, strV E6.Val]) kk51 rfl (Can.own 0 rfl) (idx_get H7).2.2 rfl rfl rfl rfl rfl) rfl rfl rfl rfl ?_
       refine TA.one 10 (by kernel_rfl) ?_
       refine TX.y [] rfl (Y.index ke28 (Can.own 0 rfl) H9 rfl rfl) rfl rfl rfl rfl ?_
       refine TA.one 11 (by kernel_rfl) ?_
       refine TX.y [] rfl (Y.load_el (us := [strV E8.Key, .int .i64 E8.Seq, .bool E8.Del, strV E8.Val]) (u := .agg #[strV E8.Key, .int .i64 E8.Seq, .bool E8.Del, strV E8.Val]) kk51 rfl (Can.own 0 rfl) (idx_get H9).2.2 rfl rfl rfl rfl rfl) rfl rfl rfl rfl ?_
       refine TA.one 12 (by kernel_rfl) ?_
       refine TX.y [] rfl (Y.index ke28 (Can.own 0 rfl) H9 rfl rfl) rfl rfl rfl rfl ?_
       refine TA.one 13 (by kernel_rfl) ?_
       refine TX.ef0 [] rfl (Ef.store_el (us := [strV E6.Key, .int .i64 E6.Seq, .bool E6.Del, strV E6.Val]) (is' := [.own V_s0 (lc (S1.2.2.set S1.1.toNat E6))]) E6 0 kk51 rfl rfl (idx_get H9).2.2 rfl rfl (Cel.plain rfl rfl) rfl rfl rfl rfl) rfl rfl (fun _ => rfl) (fun _ => ?_)
       refine TA.one 14 (by kernel_rfl) ?_
       refine TX.y [] rfl (Y.index ke28 (Can.own 0 rfl) H11 rfl rfl) rfl rfl rfl rfl ?_
       refine TA.one 15 (by kernel_rfl) ?_
       refine TX.ef0 [] rfl (Ef.store_el (us := [strV E8.Key, .int .i64 E8.Seq, .bool E8.Del, strV E8.Val]) (is' := [.own V_s0 (lc ((S1.2.2.set S1.1.toNat E6).set S1.2.1.toNat E8))]) E8 0 kk51 rfl rfl (idx_get H11).2.2 rfl rfl (Cel.plain rfl rfl) rfl rfl rfl rfl) rfl rfl (fun _ => rfl) (fun _ => ?_)
       refine TA.nil (by kernel_rfl) ?_
       exact TE.jb_go () [0] ⟨rfl, rfl, rfl, trivial⟩ rfl
      refine TX.y [] rfl (Y.index ke28 (Can.own 0 rfl) H9 rfl rfl) rfl rfl rfl rfl ?_
      refine TA.two 7 11 (by kernel_rfl) ?_ ?_
      ·refine TX.y [] rfl (Y.load_el (us := [strV E6.Key, .int .i64 E6.Seq, .bool E6.Del, strV E6.Val]) (u := .agg #[strV E6.Key, .int .i64 E6.Seq, .bool E6.Del, strV E6.Val]) kk51 rfl (Can.own 0 rfl) (idx_get H7).2.2 rfl rfl rfl rfl rfl) rfl rfl rfl rfl ?_
       refine TA.one 11 (by kernel_rfl) ?_
       refine TX.y [] rfl (Y.load_el (us := [strV E8.Key, .int .i64 E8.Seq, .bool E8.Del, strV E8.Val]) (u := .agg #[strV E8.Key, .int .i64 E8.Seq, .bool E8.Del, strV E8.Val]) kk51 rfl (Can.own 0 rfl) (idx_get H9).2.2 rfl rfl rfl rfl rfl) rfl rfl rfl rfl ?_
       refine TA.one 12 (by kernel_rfl) ?_
       refine TX.y [] rfl (Y.index ke28 (Can.own 0 rfl) H9 rfl rfl) rfl rfl rfl rfl ?_
       refine TA.one 13 (by kernel_rfl) ?_
       refine TX.ef0 [] rfl (Ef.store_el (us := [strV E6.Key, .int .i64 E6.Seq, .bool E6.Del, strV E6.Val]) (is' := [.own V_s0 (lc (S1.2.2.set S1.1.toNat E6))]) E6 0 kk51 rfl rfl (idx_get H9).2.2 rfl rfl (Cel.plain rfl rfl) rfl rfl rfl rfl) rfl rfl (fun _ => rfl) (fun _ => ?_)
       refine TA.one 14 (by kernel_rfl) ?_
       refine TX.y [] rfl (Y.index ke28 (Can.own 0 rfl) H11 rfl rfl) rfl rfl rfl rfl ?_
       refine TA.one 15 (by kernel_rfl) ?_
       refine TX.ef0 [] rfl (Ef.store_el (us := [strV E8.Key, .int .i64 E8.Seq, .bool E8.Del, strV E8.Val]) (is' := [.own V_s0 (lc ((S1.2.2.set S1.1.toNat E6).set S1.2.1.toNat E8))]) E8 0 kk51 rfl rfl (idx_get H11).2.2 rfl rfl (Cel.plain rfl rfl) rfl rfl rfl rfl) rfl rfl (fun _ => rfl) (fun _ => ?_)
       refine TA.nil (by kernel_rfl) ?_
       exact TE.jb_go () [0] ⟨rfl, rfl, rfl, trivial⟩ rfl
      refine TX.y [] rfl (Y.load_el (us := [strV E8.Key, .int .i64 E8.Seq, .bool E8.Del, strV E8.Val]) (u := .agg #[strV E8.Key, .int .i64 E8.Seq, .bool E8.Del, strV E8.Val]) kk51 rfl (Can.own 0 rfl) (idx_get H9).2.2 rfl rfl rfl rfl rfl) rfl rfl rfl rfl ?_
      refine TA.one 7 (by kernel_rfl) ?_
      refine TX.y [] rfl (Y.load_el (us := [strV E6.Key, .int .i64 E6.Seq, .bool E6.Del, strV E6.Val]) (u := .agg #[strV E6.Key, .int .i64 E6.Seq, .bool E6.Del, strV E6.Val]) kk51 rfl (Can.own 0 rfl) (idx_get H7).2.2 rfl rfl rfl rfl rfl) rfl rfl rfl rfl ?_
      refine TA.one 12 (by kernel_rfl) ?_
      refine TX.y [] rfl (Y.index ke28 (Can.own 0 rfl) H9 rfl rfl) rfl rfl rfl rfl ?_
      refine TA.one 13 (by kernel_rfl) ?_
      refine TX.ef0 [] rfl (Ef.store_el (us := [strV E6.Key, .int .i64 E6.Seq, .bool E6.Del, strV E6.Val]) (is' := [.own V_s0 (lc (S1.2.2.set S1.1.toNat E6))]) E6 0 kk51 rfl rfl (idx_get H9).2.2 rfl rfl (Cel.plain rfl rfl) rfl rfl rfl rfl) rfl rfl (fun _ => rfl) (fun _ => ?_)
      refine TA.one 14 (by kernel_rfl) ?_
      refine TX.y [] rfl (Y.index ke28 (Can.own 0 rfl) H11 rfl rfl) rfl rfl rfl rfl ?_
      refine TA.one 15 (by kernel_rfl) ?_
      refine TX.ef0 [] rfl (Ef.store_el (us := [strV E8.Key, .int .i64 E8.Seq, .bool E8.Del, strV E8.Val]) (is' := [.own V_s0 (lc ((S1.2.2.set S1.1.toNat E6).set S1.2.1.toNat E8))]) E8 0 kk51 rfl rfl (idx_get H11).2.2 rfl rfl (Cel.plain rfl rfl) rfl rfl rfl rfl) rfl rfl (fun _ => rfl) (fun _ => ?_)
      refine TA.nil (by kernel_rfl) ?_
      exact TE.jb_go () [0] ⟨rfl, rfl, rfl, trivial⟩ rfl
     refine TX.y [] rfl (Y.index ke28 (Can.own 0 rfl) H9 rfl rfl) rfl rfl rfl rfl ?_
     refine TA.two 6 11 (by kernel_rfl) ?_ ?_
     ·refine TX.y [] rfl (Y.index ke28 (Can.own 0 rfl) H7 rfl rfl) rfl rfl rfl rfl ?_
      refine TA.two 7 11 (by kernel_rfl) ?_ ?_
      ·refine TX.y [] rfl (Y.load_el (us := [strV E6.Key, .int .i64 E6.Seq, .bool E6.Del, strV E6.Val]) (u := .agg #[strV E6.Key, .int .i64 E6.Seq, .bool E6.Del, strV E6.Val]) kk51 rfl (Can.own 0 rfl) (idx_get H7).2.2 rfl rfl rfl rfl rfl) rfl rfl rfl rfl ?_
       refine TA.one 11 (by kernel_rfl) ?_
       refine TX.y [] rfl (Y.load_el (us := [strV E8.Key, .int .i64 E8.Seq, .bool E8.Del, strV E8.Val]) (u := .agg #[strV E8.Key, .int .i64 E8.Seq, .bool E8.Del, strV E8.Val]) kk51 rfl (Can.own 0 rfl) (idx_get H9).2.2 rfl rfl rfl rfl rfl) rfl rfl rfl rfl ?_
       refine TA.one 12 (by kernel_rfl) ?_
       refine TX.y [] rfl (Y.index ke28 (Can.own 0 rfl) H9 rfl rfl) rfl rfl rfl rfl ?_
       refine TA.one 13 (by kernel_rfl) ?_
       refine TX.ef0 [] rfl (Ef.store_el (us := [strV E6.Key, .int .i64 E6.Seq, .bool E6.Del, strV E6.Val]) (is' := [.own V_s0 (lc (S1.2.2.set S1.1.toNat E6))]) E6 0 kk51 rfl rfl (idx_get H9).2.2 rfl rfl (Cel.plain rfl rfl) rfl rfl rfl rfl) rfl rfl (fun _ => rfl) (fun _ => ?_)
       refine TA.one 14 (by kernel_rfl) ?_
       refine TX.y [] rfl (Y.index ke28 (Can.own 0 rfl) H11 rfl rfl) rfl rfl rfl rfl ?_
       refine TA.one 15 (by kernel_rfl) ?_
       refine TX.ef0 [] rfl (Ef.store_el (us := [strV E8.Key, .int .i64 E8.Seq, .bool E8.Del, strV E8.Val]) (is' := [.own V_s0 (lc ((S1.2.2.set S1.1.toNat E6).set S1.2.1.toNat E8))]) E8 0 kk51 rfl rfl (idx_get H11).2.2 rfl rfl (Cel.plain rfl rfl) rfl rfl rfl rfl) rfl rfl (fun _ => rfl) (fun _ => ?_)
       refine TA.nil (by kernel_rfl) ?_
       exact TE.jb_go () [0] ⟨rfl, rfl, rfl, trivial⟩ rfl
      refine TX.y [] rfl (Y.load_el (us := [strV E8.Key, .int .i64 E8.Seq, .bool E8.Del, strV E8.Val]) (u := .agg #[strV E8.Key, .int .i64 E8.Seq, .bool E8.Del, strV E8.Val]) kk51 rfl (Can.own 0 rfl) (idx_get H9).2.2 rfl rfl rfl rfl rfl) rfl rfl rfl rfl ?_
      refine TA.one 7 (by kernel_rfl) ?_
      refine TX.y [] rfl (Y.load_el (us := [strV E6.Key, .int .i64 E6.Seq, .bool E6.Del, strV E6.Val]) (u := .agg #[strV E6.Key, .int .i64 E6.Seq, .bool E6.Del, strV E6.Val]) kk51 rfl (Can.own 0 rfl) (idx_get H7).2.2 rfl rfl rfl rfl rfl) rfl rfl rfl rfl ?_
      refine TA.one 12 (by kernel_rfl) ?_
      refine TX.y [] rfl (Y.index ke28 (Can.own 0 rfl) H9 rfl rfl) rfl rfl rfl rfl ?_
      refine TA.one 13 (by kernel_rfl) ?_
      refine TX.ef0 [] rfl (Ef.store_el (us := [strV E6.Key, .int .i64 E6.Seq, .bool E6.Del, strV E6.Val]) (is' := [.own V_s0 (lc (S1.2.2.set S1.1.toNat E6))]) E6 0 kk51 rfl rfl (idx_get H9).2.2 rfl rfl (Cel.plain rfl rfl) rfl rfl rfl rfl) rfl rfl (fun _ => rfl) (fun _ => ?_)
      refine TA.one 14 (by kernel_rfl) ?_
      refine TX.y [] rfl (Y.index ke28 (Can.own 0 rfl) H11 rfl rfl) rfl rfl rfl rfl ?_
      refine TA.one 15 (by kernel_rfl) ?_
      refine TX.ef0 [] rfl (Ef.store_el (us := [strV E8.Key, .int .i64 E8.Seq, .bool E8.Del, strV E8.Val]) (is' := [.own V_s0 (lc ((S1.2.2.set S1.1.toNat E6).set S1.2.1.toNat E8))]) E8 0 kk51 rfl rfl (idx_get H11).2.2 rfl rfl (Cel.plain rfl rfl) rfl rfl rfl rfl) rfl rfl (fun _ => rfl) (fun _ => ?_)
      refine TA.nil (by kernel_rfl) ?_
      exact TE.jb_go () [0] ⟨rfl, rfl, rfl, trivial⟩ rfl
     refine TX.y [] rfl (Y.load_el (us := [strV E8.Key, .int .i64 E8.Seq, .bool E8.Del, strV E8.Val]) (u := .agg #[strV E8.Key, .int .i64 E8.Seq, .bool E8.Del, strV E8.Val]) kk51 rfl (Can.own 0 rfl) (idx_get H9).2.2 rfl rfl rfl rfl rfl) rfl rfl rfl rfl ?_
     refine TA.one 6 (by kernel_rfl) ?_
     refine TX.y [] rfl (Y.index ke28 (Can.own 0 rfl) H7 rfl rfl) rfl rfl rfl rfl ?_
     refine TA.one 7 (by kernel_rfl) ?_
     refine TX.y [] rfl (Y.load_el (us := [strV E6.Key, .int .i64 E6.Seq, .bool E6.Del, strV E6.Val]) (u := .agg #[strV E6.Key, .int .i64 E6.Seq, .bool E6.Del, strV E6.Val]) kk51 rfl (Can.own 0 rfl) (idx_get H7).2.2 rfl rfl rfl rfl rfl) rfl rfl rfl rfl ?_
     refine TA.one 12 (by kernel_rfl) ?_
     refine TX.y [] rfl (Y.index ke28 (Can.own 0 rfl) H9 rfl rfl) rfl rfl rfl rfl ?_
     refine TA.one 13 (by kernel_rfl) ?_
     refine TX.ef0 [] rfl (Ef.store_el (us := [strV E6.Key, .int .i64 E6.Seq, .bool E6.Del, strV E6.Val]) (is' := [.own V_s0 (lc (S1.2.2.set S1.1.toNat E6))]) E6 0 kk51 rfl rfl (idx_get H9).2.2 rfl rfl (Cel.plain rfl rfl) rfl rfl rfl rfl) rfl rfl (fun _ => rfl) (fun _ => ?_)
     refine TA.one 14 (by kernel_rfl) ?_
     refine TX.y [] rfl (Y.index ke28 (Can.own 0 rfl) H11 rfl rfl) rfl rfl rfl rfl ?_
     refine TA.one 15 (by kernel_rfl) ?_
     refine TX.ef0 [] rfl (Ef.store_el (us := [strV E8.Key, .int .i64 E8.Seq, .bool E8.Del, strV E8.Val]) (is' := [.own V_s0 (lc ((S1.2.2.set S1.1.toNat E6).set S1.2.1.toNat E8))]) E8 0 kk51 rfl rfl (idx_get H11).2.2 rfl rfl (Cel.plain rfl rfl) rfl rfl rfl rfl) rfl rfl (fun _ => rfl) (fun _ => ?_)
     refine TA.nil (by kernel_rfl) ?_
     exact TE.jb_go () [0] ⟨rfl, rfl, rfl, trivial⟩ rfl
    refine TE.block_normal ?_
    refine TE.next ?_
    refine TW.region ?_
    refine TO.y (Y.move rfl) rfl rfl rfl ?_
    refine TO.y (Y.add rfl rfl) rfl rfl rfl ?_
    refine TO.y (Y.move rfl) rfl rfl rfl ?_
    refine TO.y (Y.sub rfl rfl) rfl rfl rfl ?_
    refine TO.y (Y.assign rfl) rfl rfl rfl ?_
    refine TO.y (Y.assign rfl) rfl rfl rfl ?_
    refine TO.nil ?_
    exact TE.lp_go () [0] ⟨rfl, rfl, rfl, trivial⟩ rfl
   refine TW.exit ?_
   refine TE.then_exit ?_
   refine TE.lp_exit ?_
   refine TE.block_exit ?_
   exact TE.jn_go () [0] trivial rfl
  exact TE.leaf fun _ _ hf_ hs_ => ret_any (rs := []) (vs := []) (.inr rfl) rfl trivial hf_ hs_ ⟨(), rfl, hs_.pulls [0] rfl⟩

/-- loop.example/g00950/impl.compacted -/
noncomputable def impl_compacted (l : List Ent) (snaps : List Int) (bottom : Bool) : Option (List Ent) :=
  bindC (loopO (fun (S1 : Int × List Ent) => if (decide (S1.1 < ((l.length : Nat) : Int))) = true then ((idx l S1.1).bind fun E6 =>
  (impl_isSeen l S1.1 snaps).bind fun R9 =>
  bindC (if R9 = true then ((app 48 S1.2 ([E6])).bind fun E17 =>
  some (.go E17))
  else (some (.go S1.2)))
  (fun (T12 : List Ent) => some (.go (IntKind.i64.wrap (S1.1 + (1 : Int)), T12))))
  else (some (.done (.go S1.2))))
  ((0 : Int), ([] : List Ent)))
  (fun (T3 : List Ent) => if (!bottom) = true then (some T3)
  else (bindC (loopO (fun (S20 : Bool × Int × List Ent) => if (decide (S20.2.1 ≥ (0 : Int))) = true then ((if (decide (S20.2.1 = IntKind.i64.wrap (((T3.length : Nat) : Int) - (1 : Int)))) = true then (some true)
  else ((idx T3 S20.2.1).bind fun E28 =>
  (idx T3 (IntKind.i64.wrap (S20.2.1 + (1 : Int)))).bind fun E30 =>
  some (!(decide (E28.Key = E30.Key))))).bind (fun (T25 : Bool) =>
  bindC (if T25 = true then (some (.go false))
  else (some (.go S20.1)))
  (fun (T32 : Bool) => (if T32 = true then (some true)
  else ((idx T3 S20.2.1).bind fun E38 =>
  some (!E38.Del))).bind (fun (T35 : Bool) =>
  bindC (if T35 = true then ((idx T3 S20.2.1).bind fun E43 =>
  (app 48 S20.2.2 ([E43])).bind fun E47 =>
  some (.go (true, E47)))
  else (some (.go (T32, S20.2.2))))
  (fun (T40 : Bool × List Ent) => some (.go (T40.1, IntKind.i64.wrap (S20.2.1 - (1 : Int)), T40.2)))))))
  else (some (.done (.go S20.2.2))))
  (false, IntKind.i64.wrap (((T3.length : Nat) : Int) - (1 : Int)), ([] : List Ent)))
  (fun (T22 : List Ent) => (slices_Reverse_94167 T22).bind fun R49 =>
  some R49)))

theorem impl_compacted_con (l : List Ent) (snaps : List Int) (bottom : Bool) (V_l0 : Value) (V_snaps0 : Value) (r : List Ent) (hm : impl_compacted l snaps bottom = some r) :
    Con Try.prog 66 [V_l0, V_snaps0, .bool bottom] [] [(V_l0, lc l), (V_snaps0, lc snaps)] (fun X : Value => X) (fun X => [.own X (lc r)]) := by
  refine Con.intro (args := [V_l0, V_snaps0, .bool bottom]) (n := 77) (val := fun _ (X : Value) => X) (post := fun r X => [.own X (lc r)]) (m := impl_compacted l snaps bottom) Try.func66 rfl rfl rfl hm ?_
  intro w S hrd
  have HB_V_l0 := hrd _ (.head _)
  have HB_V_snaps0 := hrd _ (.tail _ (.head _))
  clear hrd
  unfold impl_compacted
  refine TW.seq ?_
  refine TW.region ?_
  refine TO.y (Y.assign rfl) rfl rfl rfl ?_
  refine TO.nil ?_
  refine TE.next ?_
  refine TW.seq ?_
  refine TW.region ?_
  refine TO.y (Y.assign rfl) rfl rfl rfl ?_
  refine TO.nil ?_
  refine TE.next ?_
  refine TW.seq ?_
  refine TW.seq ?_
  refine TW.region ?_
  refine TO.y (Y.move rfl) rfl rfl rfl ?_
  refine TO.y (Y.len (l := l) ke28 (Base.can HB_V_l0) rfl) rfl rfl rfl ?_
  refine TO.y (Y.move rfl) rfl rfl rfl ?_
  refine TO.nil ?_
  refine TE.next ?_
  refine TW.joinX (τ := List Ent) (X := Value) (fun _ X => [(2, .bool bottom), (7, X)]) (fun T X => [.own X (lc T)]) ?_ (fun T3 X4 => ?_)
  ·refine TW.block ?_
   refine TW.nilItem 4 ?_
   refine TW.loopX (σ := Int × List Ent) (X := Value) (fun T X => [(0, V_l0), (1, V_snaps0), (2, .bool bottom), (7, X), (13, V_l0), (14, .int .i64 ((l.length : Nat) : Int)), (15, .int .i64 T.1)]) (fun T X => [.own X (lc T.2)]) (.slice none 0 0) [0] ⟨rfl, rfl, rfl, rfl, rfl, rfl, rfl, trivial⟩ rfl (fun S1 X2 => ?_)
   refine TW.seq ?_
   refine TW.region ?_
   refine TO.y (Y.lss rfl rfl) rfl rfl rfl ?_
   refine TO.nil ?_
   refine TE.next ?_
   refine TW.seq ?_
   refine TW.cond rfl (fun H5 => ?_) (fun H5 => ?_)
   ·refine TW.skip ?_
    refine TE.next ?_
    refine TW.seq ?_
    refine TW.block ?_
    refine TW.seq ?_
    refine TW.region ?_
    refine TO.y (Y.move rfl) rfl rfl rfl ?_
    refine TO.bind fun E6 H7 => ?_
    refine TO.y (Y.index ke28 (Base.can HB_V_l0) H7 rfl rfl) rfl rfl rfl ?_
    refine TO.y (Y.load_el (us := [strV E6.Key, .int .i64 E6.Seq, .bool E6.Del, strV E6.Val]) (u := .agg #[strV E6.Key, .int .i64 E6.Seq, .bool E6.Del, strV E6.Val]) kk51 rfl (Base.can HB_V_l0) (idx_get H7).2.2 rfl rfl rfl rfl rfl) rfl rfl rfl ?_
    refine TO.ef (Ef.alloc kz51 rfl) rfl rfl rfl (fun B8 => ?_)
    refine TO.y (Y.assign rfl) rfl rfl rfl ?_
    refine TO.ef0 (Ef.store_box (us := [strV E6.Key, .int .i64 E6.Seq, .bool E6.Del, strV E6.Val]) (vs' := [strV E6.Key, .int .i64 E6.Seq, .bool E6.Del, strV E6.Val]) (is' := [.box B8 51 [strV E6.Key, .int .i64 E6.Seq, .bool E6.Del, strV E6.Val], .own X2 (lc S1.2)]) 0 kk51 rfl rfl rfl (Cel.plain rfl rfl) rfl rfl rfl rfl) rfl rfl (fun _ => ?_)
    refine TO.nil ?_
    refine TE.next ?_
    refine TW.seq ?_
    refine TW.region ?_
    refine TO.y (Y.move rfl) rfl rfl rfl ?_
    refine TO.y (Y.move rfl) rfl rfl rfl ?_
    refine TO.y (Y.move rfl) rfl rfl rfl ?_
    refine TO.bind fun R9 H10 => ?_
    refine TO.ef (Ef.call (rest := [.box B8 51 [strV E6.Key, .int .i64 E6.Seq, .bool E6.Del, strV E6.Val], .own X2 (lc S1.2)]) [0, 0] (impl_isSeen_con l S1.1 snaps V_l0 V_snaps0 R9 H10) kc84 rfl rfl ⟨(Base.can HB_V_l0), (Base.can HB_V_snaps0), trivial⟩) rfl rfl rfl (fun _ => ?_)
    refine TO.nil ?_
    refine TE.next ?_
    refine TW.joinX (τ := List Ent) (X := Value) (fun _ X => [(0, V_l0), (1, V_snaps0), (2, .bool bottom), (7, X), (13, V_l0), (14, .int .i64 ((l.length : Nat) : Int)), (15, .int .i64 S1.1)]) (fun T X => [.own X (lc T)]) ?_ (fun T12 X13 => ?_)
    ·refine TW.cond rfl (fun H14 => ?_) (fun H14 => ?_)
     ·refine TW.region ?_
      refine TO.y (Y.move rfl) rfl rfl rfl ?_
      refine TO.y (Y.load_box (v := .agg #[strV E6.Key, .int .i64 E6.Seq, .bool E6.Del, strV E6.Val]) 0 kk51 rfl rfl rfl) rfl rfl rfl ?_
      refine TO.ef (Ef.buildSlice (α := Ent) (Vs := [.agg #[strV E6.Key, .int .i64 E6.Seq, .bool E6.Del, strV E6.Val]]) [E6] ke28 kz51 rfl rfl rfl rfl rfl) rfl rfl rfl (fun B15 => ?_)
      refine TO.bind fun E17 H18 => ?_
      refine TO.ef (Ef.append (α := Ent) (is' := [.own (.slice (some ⟨B15, 0, none⟩) 1 1) (lc ([E6])), .box B8 51 [strV E6.Key, .int .i64 E6.Seq, .bool E6.Del, strV E6.Val]]) [2, 0, 0] H18 ke28 kz51 rfl rfl rfl rfl rfl (Can.own 0 rfl)) rfl rfl rfl (fun V16 => ?_)
      refine TO.y (Y.assign rfl) rfl rfl rfl ?_
      refine TO.nil ?_
      exact TE.jn_go V16 [0] ⟨rfl, rfl, rfl, rfl, rfl, rfl, rfl, trivial⟩ rfl
     refine TW.skip ?_
     exact TE.jn_go X2 [1] ⟨rfl, rfl, rfl, rfl, rfl, rfl, rfl, trivial⟩ rfl
    refine TE.block_normal ?_
    refine TE.next ?_
    refine TW.region ?_
    refine TO.y (Y.add rfl rfl) rfl rfl rfl ?_
    refine TO.y (Y.move rfl) rfl rfl rfl ?_
    refine TO.nil ?_
    exact TE.lp_go X13 [0] ⟨rfl, rfl, rfl, rfl, rfl, rfl, rfl, trivial⟩ rfl
   refine TW.exit ?_
   refine TE.then_exit ?_
   refine TE.lp_exit ?_
   refine TE.block_exit ?_
   exact TE.jn_go X2 [0] ⟨rfl, rfl, trivial⟩ rfl
  refine TE.next ?_
  refine TW.seq ?_
  refine TW.seq ?_
  refine TW.region ?_
  refine TO.y (Y.move rfl) rfl rfl rfl ?_
  refine TO.y (Y.not rfl) rfl rfl rfl ?_
  refine TO.nil ?_
  refine TE.next ?_
  refine TW.cond rfl (fun H19 => ?_) (fun H19 => ?_)
  ·refine TW.seq ?_
   refine TW.region ?_
   refine TO.y (Y.move rfl) rfl rfl rfl ?_
   refine TO.y (Y.assign rfl) rfl rfl rfl ?_
   refine TO.nil ?_
   refine TE.next ?_
   refine TW.ret ?_
   refine TE.then_ret ?_
   exact TE.leaf fun _ _ hf_ hs_ => ret_any (rs := [.tmp 6]) (vs := [X4]) (.inl rfl) rfl ⟨rfl, trivial⟩ hf_ hs_ ⟨X4, rfl, hs_.pulls [0] rfl⟩
  refine TW.skip ?_
  refine TE.next ?_
  refine TW.seq ?_
  refine TW.region ?_
  refine TO.y (Y.assign rfl) rfl rfl rfl ?_
  refine TO.nil ?_
  refine TE.next ?_
  refine TW.seq ?_
  refine TW.region ?_
  refine TO.y (Y.assign rfl) rfl rfl rfl ?_
  refine TO.nil ?_
  refine TE.next ?_
  refine TW.seq ?_
  refine TW.seq ?_
  refine TW.region ?_
  refine TO.y (Y.move rfl) rfl rfl rfl ?_
  refine TO.y (Y.len (l := T3) ke28 (Can.own 0 rfl) rfl) rfl rfl rfl ?_
  refine TO.y (Y.sub rfl rfl) rfl rfl rfl ?_
  refine TO.y (Y.assign rfl) rfl rfl rfl ?_
  refine TO.nil ?_
  refine TE.next ?_
  refine TW.joinX (τ := List Ent) (X := Value) (fun _ X => [(10, X)]) (fun T X => [.own X (lc T)]) ?_ (fun T22 X23 => ?_)
  ·refine TW.block ?_
   refine TW.nilItem 4 ?_
   refine TW.loopX (σ := Bool × Int × List Ent) (X := Value) (fun T X => [(7, X4), (10, X), (11, .bool T.1), (12, .int .i64 T.2.1)]) (fun T X => [.own X4 (lc T3), .own X (lc T.2.2)]) (.slice none 0 0) [1, 0] ⟨rfl, rfl, rfl, rfl, trivial⟩ rfl (fun S20 X21 => ?_)
   refine TW.seq ?_
   refine TW.seq ?_
   refine TW.region ?_
   refine TO.y (Y.move rfl) rfl rfl rfl ?_
   refine TO.y (Y.geq rfl rfl) rfl rfl rfl ?_
   refine TO.nil ?_
   refine TE.next ?_
   refine TW.cond rfl (fun H24 => ?_) (fun H24 => ?_)
   ·refine TW.skip ?_
    refine TE.next ?_
    refine TW.seq ?_
    refine TW.block ?_
    refine TW.seq ?_
    refine TW.seq ?_
    refine TW.joinBX (τ := Bool) (X := Unit) (fun T _ => [(7, X4), (10, X21), (11, .bool S20.1), (12, .int .i64 S20.2.1), (57, .bool T)]) (fun _ _ => [.own X4 (lc T3), .own X21 (lc S20.2.2)]) ?_ (fun T25 X26 => ?_)
    ·refine TW.draw (isH := [.own X4 (lc T3), .own X21 (lc S20.2.2)]) hMix ?_
     refine TA.y 0 [0, 0] rfl (Y.move rfl) rfl rfl rfl (by kernel_rfl) rfl ?_
     refine TA.y 1 [0, 0] rfl (Y.move rfl) rfl rfl rfl (by kernel_rfl) rfl ?_
     refine TA.y 2 [0, 0] rfl (Y.len (l := T3) ke28 (Can.own 0 rfl) rfl) rfl rfl rfl (by kernel_rfl) rfl ?_
     refine TA.y 3 [0, 0] rfl (Y.sub rfl rfl) rfl rfl rfl (by kernel_rfl) rfl ?_
     refine TA.y 4 [0, 0] rfl (Y.eql rfl rfl) rfl rfl rfl (by kernel_rfl) rfl ?_
     refine TA.y 5 [0, 0] rfl (Y.move rfl) rfl rfl rfl (by kernel_rfl) rfl ?_
     refine TA.ite (b := decide (S20.2.1 = IntKind.i64.wrap (((T3.length : Nat) : Int) - (1 : Int)))) (fun H27 => ?_) (fun H27 => ?_)
     ·refine TA.off 6 [0, 0] rfl (Gd.at 5 false 44 (decide (S20.2.1 = IntKind.i64.wrap (((T3.length : Nat) : Int) - (1 : Int)))) rfl rfl rfl (beq_tf H27)) rfl rfl (by kernel_rfl) rfl ?_
      refine TA.off 7 [0, 0] rfl (Gd.at 5 false 44 (decide (S20.2.1 = IntKind.i64.wrap (((T3.length : Nat) : Int) - (1 : Int)))) rfl rfl rfl (beq_tf H27)) rfl rfl (by kernel_rfl) rfl ?_
      refine TA.off 8 [0, 0] rfl (Gd.at 5 false 44 (decide (S20.2.1 = IntKind.i64.wrap (((T3.length : Nat) : Int) - (1 : Int)))) rfl rfl rfl (beq_tf H27)) rfl rfl (by kernel_rfl) rfl ?_
      refine TA.off 9 [0, 0] rfl (Gd.at 5 false 44 (decide (S20.2.1 = IntKind.i64.wrap (((T3.length : Nat) : Int) - (1 : Int)))) rfl rfl rfl (beq_tf H27)) rfl rfl (by kernel_rfl) rfl ?_
      refine TA.off 10 [0, 0] rfl (Gd.at 5 false 44 (decide (S20.2.1 = IntKind.i64.wrap (((T3.length : Nat) : Int) - (1 : Int)))) rfl rfl rfl (beq_tf H27)) rfl rfl (by kernel_rfl) rfl ?_
      refine TA.off 11 [0, 0] rfl (Gd.at 5 false 44 (decide (S20.2.1 = IntKind.i64.wrap (((T3.length : Nat) : Int) - (1 : Int)))) rfl rfl rfl (beq_tf H27)) rfl rfl (by kernel_rfl) rfl ?_
      refine TA.off 12 [0, 0] rfl (Gd.at 5 false 44 (decide (S20.2.1 = IntKind.i64.wrap (((T3.length : Nat) : Int) - (1 : Int)))) rfl rfl rfl (beq_tf H27)) rfl rfl (by kernel_rfl) rfl ?_
      refine TA.off 13 [0, 0] rfl (Gd.at 5 false 44 (decide (S20.2.1 = IntKind.i64.wrap (((T3.length : Nat) : Int) - (1 : Int)))) rfl rfl rfl (beq_tf H27)) rfl rfl (by kernel_rfl) rfl ?_
      refine TA.off 14 [0, 0] rfl (Gd.at 5 false 44 (decide (S20.2.1 = IntKind.i64.wrap (((T3.length : Nat) : Int) - (1 : Int)))) rfl rfl rfl (beq_tf H27)) rfl rfl (by kernel_rfl) rfl ?_
      refine TA.off 15 [0, 0] rfl (Gd.at 5 false 44 (decide (S20.2.1 = IntKind.i64.wrap (((T3.length : Nat) : Int) - (1 : Int)))) rfl rfl rfl (beq_tf H27)) rfl rfl (by kernel_rfl) rfl ?_
      refine TA.off 16 [0, 0] rfl (Gd.at 5 false 44 (decide (S20.2.1 = IntKind.i64.wrap (((T3.length : Nat) : Int) - (1 : Int)))) rfl rfl rfl (beq_tf H27)) rfl rfl (by kernel_rfl) rfl ?_
      refine TA.off 17 [0, 0] rfl (Gd.at 5 false 44 (decide (S20.2.1 = IntKind.i64.wrap (((T3.length : Nat) : Int) - (1 : Int)))) rfl rfl rfl (beq_tf H27)) rfl rfl (by kernel_rfl) rfl ?_
      refine TA.y 18 [0, 0] rfl (Y.pick_t H27 rfl rfl) rfl rfl rfl (by kernel_rfl) rfl ?_
      refine TA.nil (by kernel_rfl) ?_
      exact TE.jb_go () [0, 0] ⟨rfl, rfl, rfl, rfl, rfl, trivial⟩ rfl
     refine TA.y 6 [0, 0] rfl (Y.move rfl) (Gd.at 5 false 44 (decide (S20.2.1 = IntKind.i64.wrap (((T3.length : Nat) : Int) - (1 : Int)))) rfl rfl rfl (beq_ff H27)) rfl rfl (by kernel_rfl) rfl ?_
     refine TA.y 7 [0, 0] rfl (Y.move rfl) (Gd.at 5 false 44 (decide (S20.2.1 = IntKind.i64.wrap (((T3.length : Nat) : Int) - (1 : Int)))) rfl rfl rfl (beq_ff H27)) rfl rfl (by kernel_rfl) rfl ?_
     refine TA.bind fun E28 H29 => ?_
     refine TA.y 8 [0, 0] rfl (Y.index ke28 (Can.own 0 rfl) H29 rfl rfl) (Gd.at 5 false 44 (decide (S20.2.1 = IntKind.i64.wrap (((T3.length : Nat) : Int) - (1 : Int)))) rfl rfl rfl (beq_ff H27)) rfl rfl (by kernel_rfl) rfl ?_
     refine TA.y 9 [0, 0] rfl (Y.field_el kf51_0 (Can.own 0 rfl) (idx_get H29).2.2 rfl rfl) (Gd.at 5 false 44 (decide (S20.2.1 = IntKind.i64.wrap (((T3.length : Nat) : Int) - (1 : Int)))) rfl rfl rfl (beq_ff H27)) rfl rfl (by kernel_rfl) rfl ?_
     refine TA.y 10 [0, 0] rfl (Y.load_el (us := [strV E28.Key]) (u := strV E28.Key) kk9 rfl (Can.own 0 rfl) (idx_get H29).2.2 rfl rfl rfl rfl rfl) (Gd.at 5 false 44 (decide (S20.2.1 = IntKind.i64.wrap (((T3.length : Nat) : Int) - (1 : Int)))) rfl rfl rfl (beq_ff H27)) rfl rfl (by kernel_rfl) rfl ?_
     refine TA.y 11 [0, 0] rfl (Y.move rfl) (Gd.at 5 false 44 (decide (S20.2.1 = IntKind.i64.wrap (((T3.length : Nat) : Int) - (1 : Int)))) rfl rfl rfl (beq_ff H27)) rfl rfl (by kernel_rfl) rfl ?_
     refine TA.y 12 [0, 0] rfl (Y.move rfl) (Gd.at 5 false 44 (decide (S20.2.1 = IntKind.i64.wrap (((T3.length : Nat) : Int) - (1 : Int)))) rfl rfl rfl (beq_ff H27)) rfl rfl (by kernel_rfl) rfl ?_
     refine TA.y 13 [0, 0] rfl (Y.add rfl rfl) (Gd.at 5 false 44 (decide (S20.2.1 = IntKind.i64.wrap (((T3.length : Nat) : Int) - (1 : Int)))) rfl rfl rfl (beq_ff H27)) rfl rfl (by kernel_rfl) rfl ?_
     refine TA.bind fun E30 H31 => ?_
     refine TA.y 14 [0, 0] rfl (Y.index ke28 (Can.own 0 rfl) H31 rfl rfl) (Gd.at 5 false 44 (decide (S20.2.1 = IntKind.i64.wrap (((T3.length : Nat) : Int) - (1 : Int)))) rfl rfl rfl (beq_ff H27)) rfl rfl (by kernel_rfl) rfl ?_
     refine TA.y 15 [0, 0] rfl (Y.field_el kf51_0 (Can.own 0 rfl) (idx_get H31).2.2 rfl rfl) (Gd.at 5 false 44 (decide (S20.2.1 = IntKind.i64.wrap (((T3.length : Nat) : Int) - (1 : Int)))) rfl rfl rfl (beq_ff H27)) rfl rfl (by kernel_rfl) rfl ?_
     refine TA.y 16 [0, 0] rfl (Y.load_el (us := [strV E30.Key]) (u := strV E30.Key) kk9 rfl (Can.own 0 rfl) (idx_get H31).2.2 rfl rfl rfl rfl rfl) (Gd.at 5 false 44 (decide (S20.2.1 = IntKind.i64.wrap (((T3.length : Nat) : Int) - (1 : Int)))) rfl rfl rfl (beq_ff H27)) rfl rfl (by kernel_rfl) rfl ?_
     refine TA.y 17 [0, 0] rfl (Y.sneq rfl rfl) (Gd.at 5 false 44 (decide (S20.2.1 = IntKind.i64.wrap (((T3.length : Nat) : Int) - (1 : Int)))) rfl rfl rfl (beq_ff H27)) rfl rfl (by kernel_rfl) rfl ?_
     refine TA.y 18 [0, 0] rfl (Y.pick_f H27 rfl rfl) rfl rfl rfl (by kernel_rfl) rfl ?_
     refine TA.nil (by kernel_rfl) ?_
     exact TE.jb_go () [0, 0] ⟨rfl, rfl, rfl, rfl, rfl, trivial⟩ rfl
    refine TE.next ?_
    refine TW.joinX (τ := Bool) (X := Unit) (fun T _ => [(7, X4), (10, X21), (11, .bool T), (12, .int .i64 S20.2.1)]) (fun _ _ => [.own X4 (lc T3), .own X21 (lc S20.2.2)]) ?_ (fun T32 X33 => ?_)
    ·refine TW.cond rfl (fun H34 => ?_) (fun H34 => ?_)
     ·refine TW.region ?_
      refine TO.y (Y.assign rfl) rfl rfl rfl ?_
      refine TO.nil ?_
      exact TE.jn_go () [0, 0] ⟨rfl, rfl, rfl, rfl, trivial⟩ rfl
     refine TW.skip ?_
     exact TE.jn_go () [0, 0] ⟨rfl, rfl, rfl, rfl, trivial⟩ rfl
    refine TE.next ?_
    refine TW.seq ?_
    refine TW.joinBX (τ := Bool) (X := Unit) (fun T _ => [(7, X4), (10, X21), (11, .bool T32), (12, .int .i64 S20.2.1), (66, .bool T)]) (fun _ _ => [.own X4 (lc T3), .own X21 (lc S20.2.2)]) ?_ (fun T35 X36 => ?_)
    ·refine TW.region ?_
     refine TO.y (Y.move rfl) rfl rfl rfl ?_
     refine TO.y (Y.move rfl) rfl rfl rfl ?_
     refine TO.ite (b := T32) (fun H37 => ?_) (fun H37 => ?_)
     ·refine TO.off (Gd.at 1 false 59 T32 rfl rfl rfl (beq_tf H37)) rfl rfl ?_
      refine TO.off (Gd.at 1 false 59 T32 rfl rfl rfl (beq_tf H37)) rfl rfl ?_
      refine TO.off (Gd.at 1 false 59 T32 rfl rfl rfl (beq_tf H37)) rfl rfl ?_
      refine TO.off (Gd.at 1 false 59 T32 rfl rfl rfl (beq_tf H37)) rfl rfl ?_
      refine TO.off (Gd.at 1 false 59 T32 rfl rfl rfl (beq_tf H37)) rfl rfl ?_
      refine TO.off (Gd.at 1 false 59 T32 rfl rfl rfl (beq_tf H37)) rfl rfl ?_
      refine TO.y (Y.pick_t H37 rfl rfl) rfl rfl rfl ?_
      refine TO.nil ?_
      exact TE.jb_go () [0, 0] ⟨rfl, rfl, rfl, rfl, rfl, trivial⟩ rfl
     refine TO.y (Y.move rfl) (Gd.at 1 false 59 T32 rfl rfl rfl (beq_ff H37)) rfl rfl ?_
     refine TO.y (Y.move rfl) (Gd.at 1 false 59 T32 rfl rfl rfl (beq_ff H37)) rfl rfl ?_
     refine TO.bind fun E38 H39 => ?_
     refine TO.y (Y.index ke28 (Can.own 0 rfl) H39 rfl rfl) (Gd.at 1 false 59 T32 rfl rfl rfl (beq_ff H37)) rfl rfl ?_
     refine TO.y (Y.field_el kf51_2 (Can.own 0 rfl) (idx_get H39).2.2 rfl rfl) (Gd.at 1 false 59 T32 rfl rfl rfl (beq_ff H37)) rfl rfl ?_
     refine TO.y (Y.load_el (us := [.bool E38.Del]) (u := .bool E38.Del) kk4 rfl (Can.own 0 rfl) (idx_get H39).2.2 rfl rfl rfl rfl rfl) (Gd.at 1 false 59 T32 rfl rfl rfl (beq_ff H37)) rfl rfl ?_
     refine TO.y (Y.not rfl) (Gd.at 1 false 59 T32 rfl rfl rfl (beq_ff H37)) rfl rfl ?_
     refine TO.y (Y.pick_f H37 rfl rfl) rfl rfl rfl ?_
     refine TO.nil ?_
     exact TE.jb_go () [0, 0] ⟨rfl, rfl, rfl, rfl, rfl, trivial⟩ rfl
    refine TE.next ?_
    refine TW.joinX (τ := Bool × List Ent) (X := Value) (fun T X => [(7, X4), (10, X), (11, .bool T.1), (12, .int .i64 S20.2.1)]) (fun T X => [.own X4 (lc T3), .own X (lc T.2)]) ?_ (fun T40 X41 => ?_)
    ·refine TW.cond rfl (fun H42 => ?_) (fun H42 => ?_)
     ·refine TW.seq ?_
      refine TW.region ?_
      refine TO.y (Y.assign rfl) rfl rfl rfl ?_
      refine TO.nil ?_
      refine TE.next ?_
      refine TW.region ?_
      refine TO.y (Y.move rfl) rfl rfl rfl ?_
      refine TO.y (Y.move rfl) rfl rfl rfl ?_
      refine TO.y (Y.move rfl) rfl rfl rfl ?_
      refine TO.bind fun E43 H44 => ?_
      refine TO.y (Y.index ke28 (Can.own 0 rfl) H44 rfl rfl) rfl rfl rfl ?_
      refine TO.y (Y.load_el (us := [strV E43.Key, .int .i64 E43.Seq, .bool E43.Del, strV E43.Val]) (u := .agg #[strV E43.Key, .int .i64 E43.Seq, .bool E43.Del, strV E43.Val]) kk51 rfl (Can.own 0 rfl) (idx_get H44).2.2 rfl rfl rfl rfl rfl) rfl rfl rfl ?_
      refine TO.ef (Ef.buildSlice (α := Ent) (Vs := [.agg #[strV E43.Key, .int .i64 E43.Seq, .bool E43.Del, strV E43.Val]]) [E43] ke28 kz51 rfl rfl rfl rfl rfl) rfl rfl rfl (fun B45 => ?_)
      refine TO.bind fun E47 H48 => ?_
      refine TO.ef (Ef.append (α := Ent) (is' := [.own (.slice (some ⟨B45, 0, none⟩) 1 1) (lc ([E43])), .own X4 (lc T3)]) [2, 0, 0] H48 ke28 kz51 rfl rfl rfl rfl rfl (Can.own 0 rfl)) rfl rfl rfl (fun V46 => ?_)
      refine TO.y (Y.assign rfl) rfl rfl rfl ?_
      refine TO.nil ?_
      exact TE.jn_go V46 [2, 0] ⟨rfl, rfl, rfl, rfl, trivial⟩ rfl
     refine TW.skip ?_
     exact TE.jn_go X21 [0, 0] ⟨rfl, rfl, rfl, rfl, trivial⟩ rfl
    refine TE.block_normal ?_
    refine TE.next ?_
    refine TW.region ?_
    refine TO.y (Y.move rfl) rfl rfl rfl ?_
    refine TO.y (Y.sub rfl rfl) rfl rfl rfl ?_
    refine TO.y (Y.assign rfl) rfl rfl rfl ?_
    refine TO.nil ?_
    exact TE.lp_go X41 [0, 0] ⟨rfl, rfl, rfl, rfl, trivial⟩ rfl
   refine TW.exit ?_
   refine TE.then_exit ?_
   refine TE.lp_exit ?_
   refine TE.block_exit ?_
   exact TE.jn_go X21 [1] ⟨rfl, trivial⟩ rfl
  refine TE.next ?_
  refine TW.seq ?_
  refine TW.region ?_
  refine TO.y (Y.move rfl) rfl rfl rfl ?_
  refine TO.bind fun R49 H50 => ?_
  refine TO.ef (Ef.call (rest := []) [0] (slices_Reverse_94167_con T22 X23 R49 H50) kc85 rfl rfl trivial) rfl rfl rfl (fun _ => ?_)
  refine TO.nil ?_
  refine TE.next ?_
  refine TW.seq ?_
  refine TW.region ?_
  refine TO.y (Y.move rfl) rfl rfl rfl ?_
  refine TO.y (Y.assign rfl) rfl rfl rfl ?_
  refine TO.nil ?_
  refine TE.next ?_
  refine TW.ret ?_
  exact TE.leaf fun _ _ hf_ hs_ => ret_any (rs := [.tmp 6]) (vs := [X23]) (.inl rfl) rfl ⟨rfl, trivial⟩ hf_ hs_ ⟨X23, rfl, hs_.pulls [0] rfl⟩

/-- (*loop.example/g00950/impl.Eng).merge -/
noncomputable def impl_Eng_merge (e : Eng) : Option (Bool × Eng) :=
  if (decide (((e.Tables.length : Nat) : Int) = (0 : Int))) = true then (some (false, e))
  else ((impl_merged e.Tables).bind fun R2 =>
  (impl_compacted R2 e.Snaps true).bind fun R5 =>
  bindC (if (decide (((R5.length : Nat) : Int) > (0 : Int))) = true then (some (.go ([R5])))
  else (some (.go ([] : List (List Ent)))))
  (fun (T8 : List (List Ent)) => some (true, { Mem := e.Mem, Tables := T8, Seq := e.Seq, Snaps := e.Snaps : Eng })))

theorem impl_Eng_merge_con (e : Eng) (V_e0 : Value) (V_e1 : Value) (V_e3 : Value) (B_e : Nat) (r : Bool × Eng) (hm : impl_Eng_merge e = some r) :
    Con Try.prog 38 [.pointer (some ⟨B_e, 0, none⟩)] [.box B_e 31 [V_e0, V_e1, .int .i64 e.Seq, V_e3], .own V_e1 (lc e.Tables)] [(V_e0, lc e.Mem), (V_e3, lc e.Snaps)] (fun _ : Value => .bool r.1) (fun X => [.box B_e 31 [V_e0, X, .int .i64 r.2.Seq, V_e3], .own X (lc r.2.Tables)]) := by
  refine Con.intro (args := [.pointer (some ⟨B_e, 0, none⟩)]) (n := 31) (val := fun r (_ : Value) => .bool r.1) (post := fun r X => [.box B_e 31 [V_e0, X, .int .i64 r.2.Seq, V_e3], .own X (lc r.2.Tables)]) (m := impl_Eng_merge e) Try.func38 rfl rfl rfl hm ?_
  intro w S hrd
  have HB_V_e0 := hrd _ (.head _)
  have HB_V_e3 := hrd _ (.tail _ (.head _))
  clear hrd
  unfold impl_Eng_merge
  refine TW.seq ?_
  refine TW.region ?_
  refine TO.y (Y.assign rfl) rfl rfl rfl ?_
  refine TO.nil ?_
  refine TE.next ?_
  refine TW.seq ?_
  refine TW.seq ?_
  refine TW.region ?_
  refine TO.y (Y.move rfl) rfl rfl rfl ?_
  refine TO.y (Y.nilCheck rfl) rfl rfl rfl ?_
  refine TO.y (Y.field_box kf31_1 rfl rfl) rfl rfl rfl ?_
  refine TO.y (Y.load_box (v := V_e1) 0 kk29 rfl rfl rfl) rfl rfl rfl ?_
  refine TO.y (Y.len (l := e.Tables) ke29 (Can.own 1 rfl) rfl) rfl rfl rfl ?_
  refine TO.y (Y.eql rfl rfl) rfl rfl rfl ?_
  refine TO.nil ?_
  refine TE.next ?_
  refine TW.cond rfl (fun H1 => ?_) (fun H1 => ?_)
  ·refine TW.seq ?_
   refine TW.region ?_
   refine TO.y (Y.assign rfl) rfl rfl rfl ?_
   refine TO.nil ?_
   refine TE.next ?_
   refine TW.ret ?_
   refine TE.then_ret ?_
   exact TE.leaf fun _ _ hf_ hs_ => ret_any (rs := [.tmp 2]) (vs := [.bool false]) (.inl rfl) rfl ⟨rfl, trivial⟩ hf_ hs_ ⟨V_e1, rfl, hs_.pulls [0, 0] rfl⟩
  refine TW.skip ?_
  refine TE.next ?_
  refine TW.seq ?_
  refine TW.draw (isH := [.box B_e 31 [V_e0, V_e1, .int .i64 e.Seq, V_e3], .own V_e1 (lc e.Tables)]) hMix ?_
  refine TA.y 0 [0, 0] rfl (Y.move rfl) rfl rfl rfl (by kernel_rfl) rfl ?_
  refine TA.y 1 [0, 0] rfl (Y.nilCheck rfl) rfl rfl rfl (by kernel_rfl) rfl ?_
  refine TA.y 2 [0, 0] rfl (Y.field_box kf31_1 rfl rfl) rfl rfl rfl (by kernel_rfl) rfl ?_
  refine TA.y 3 [0, 0] rfl (Y.load_box (v := V_e1) 0 kk29 rfl rfl rfl) rfl rfl rfl (by kernel_rfl) rfl ?_
  refine TA.y 5 [0, 0] rfl (Y.move rfl) rfl rfl rfl (by kernel_rfl) rfl ?_
  refine TA.y 6 [0, 0] rfl (Y.nilCheck rfl) rfl rfl rfl (by kernel_rfl) rfl ?_
  refine TA.y 7 [0, 0] rfl (Y.field_box kf31_3 rfl rfl) rfl rfl rfl (by kernel_rfl) rfl ?_
  refine TA.y 8 [0, 0] rfl (Y.load_box (v := V_e3) 0 kk24 rfl rfl rfl) rfl rfl rfl (by kernel_rfl) rfl ?_
  refine TA.bind fun R2 H3 => ?_
  refine TA.one 4 (by kernel_rfl) ?_
  refine TX.ef [1, 1] rfl (Ef.call (rest := [.box B_e 31 [V_e0, V_e1, .int .i64 e.Seq, V_e3], .own V_e1 (lc e.Tables)]) [0, 0] (impl_merged_con e.Tables V_e1 R2 H3) kc49 rfl rfl ⟨(Can.own 1 rfl), trivial⟩) rfl rfl rfl (fun _ => rfl) (fun Y4 => ?_)
  refine TA.bind fun R5 H6 => ?_
  refine TA.one 9 (by kernel_rfl) ?_
  refine TX.ef [2, 2] rfl (Ef.call (rest := [.own Y4 (lc R2), .box B_e 31 [V_e0, V_e1, .int .i64 e.Seq, V_e3], .own V_e1 (lc e.Tables)]) [0, 0, 0] (impl_compacted_con R2 e.Snaps true Y4 V_e3 R5 H6) kc66 rfl rfl ⟨(Can.own 0 rfl), (Base.can HB_V_e3), trivial⟩) rfl rfl rfl (fun _ => rfl) (fun Y7 => ?_)
  refine TA.y 10 [2, 2] rfl (Y.assign rfl) rfl rfl rfl (by kernel_rfl) rfl ?_
  refine TA.nil (by kernel_rfl) ?_
  refine TE.next ?_
  refine TW.seq ?_
  refine TW.region ?_
  refine TO.y (Y.move rfl) rfl rfl rfl ?_
  refine TO.y (Y.nilCheck rfl) rfl rfl rfl ?_
  refine TO.y (Y.field_box kf31_1 rfl rfl) rfl rfl rfl ?_
  refine TO.ef0 (Ef.store_box (us := [.slice none 0 0]) (vs' := [V_e0, .slice none 0 0, .int .i64 e.Seq, V_e3]) (is' := [.own Y7 (lc R5), .own Y4 (lc R2), .box B_e 31 [V_e0, .slice none 0 0, .int .i64 e.Seq, V_e3], .own V_e1 (lc e.Tables)]) 2 kk29 rfl rfl rfl (Cel.plain rfl rfl) rfl rfl rfl rfl) rfl rfl (fun _ => ?_)
  refine TO.nil ?_
  refine TE.next ?_
  refine TW.seq ?_
  refine TW.seq ?_
  refine TW.region ?_
  refine TO.y (Y.move rfl) rfl rfl rfl ?_
  refine TO.y (Y.len (l := R5) ke28 (Can.own 0 rfl) rfl) rfl rfl rfl ?_
  refine TO.y (Y.gtr rfl rfl) rfl rfl rfl ?_
  refine TO.nil ?_
  refine TE.next ?_
  refine TW.joinX (τ := List (List Ent)) (X := Value) (fun _ _ => []) (fun T X => [.box B_e 31 [V_e0, X, .int .i64 e.Seq, V_e3], .own X (lc T)]) ?_ (fun T8 X9 => ?_)
  ·refine TW.cond rfl (fun H10 => ?_) (fun H10 => ?_)
   ·refine TW.region ?_
    refine TO.y (Y.move rfl) rfl rfl rfl ?_
    refine TO.y (Y.move rfl) rfl rfl rfl ?_
    refine TO.ef (Ef.buildSliceR (Vs := [Y7]) [[Y7]] [.raw Y7] ke29 kz28 rfl rfl rfl rfl rfl ⟨(Cel.one (One.can (Can.own 0 rfl))), trivial⟩ rfl) rfl rfl rfl (fun B11 => ?_)
    refine TO.ghost (is' := fun _ => [.own (.slice (some ⟨B11, 0, none⟩) 1 1) (lc ([R5])), .own Y4 (lc R2), .box B_e 31 [V_e0, .slice none 0 0, .int .i64 e.Seq, V_e3], .own V_e1 (lc e.Tables)]) (Gh.closeAll (js := [.own Y7 (lc R5)]) (r := [.own Y4 (lc R2), .box B_e 31 [V_e0, .slice none 0 0, .int .i64 e.Seq, V_e3], .own V_e1 (lc e.Tables)]) [0, 0, 0, 0, 0] rfl (Cls.fill Cls.nil)) (fun _ => ?_)
    refine TO.y (Y.nilCheck rfl) rfl rfl rfl ?_
    refine TO.y (Y.field_box kf31_1 rfl rfl) rfl rfl rfl ?_
    refine TO.ef0 (Ef.store_box (us := [.slice (some ⟨B11, 0, none⟩) 1 1]) (vs' := [V_e0, .slice (some ⟨B11, 0, none⟩) 1 1, .int .i64 e.Seq, V_e3]) (is' := [.own (.slice (some ⟨B11, 0, none⟩) 1 1) (lc ([R5])), .own Y4 (lc R2), .box B_e 31 [V_e0, .slice (some ⟨B11, 0, none⟩) 1 1, .int .i64 e.Seq, V_e3], .own V_e1 (lc e.Tables)]) 2 kk29 rfl rfl rfl (Cel.plain rfl rfl) rfl rfl rfl rfl) rfl rfl (fun _ => ?_)
    refine TO.nil ?_
    exact TE.jn_go (.slice (some ⟨B11, 0, none⟩) 1 1) [2, 0] trivial rfl
   refine TW.skip ?_
   refine TE.nilItem 1 ?_
   exact TE.jn_go (.slice none 0 0) [3, 0] trivial rfl
  refine TE.next ?_
  refine TW.seq ?_
  refine TW.region ?_
  refine TO.y (Y.assign rfl) rfl rfl rfl ?_
  refine TO.nil ?_
  refine TE.next ?_
  refine TW.ret ?_
  exact TE.leaf fun _ _ hf_ hs_ => ret_any (rs := [.tmp 2]) (vs := [.bool true]) (.inl rfl) rfl ⟨rfl, trivial⟩ hf_ hs_ ⟨X9, rfl, hs_.pulls [0, 0] rfl⟩

/-- slices.Insert[[][]loop.example/g00950/impl.Ent,[]loop.example/g00950/impl.Ent] -/
noncomputable def slices_Insert_87572 (s : List (List Ent)) (i : Int) (v : List (List Ent)) : Option (List (List Ent)) := ins 24 s i v

theorem slices_Insert_87572_con (s : List (List Ent)) (i : Int) (v : List (List Ent)) (V_s0 V_v0 : Value) (r : List (List Ent)) (hm : slices_Insert_87572 s i v = some r) :
    Con Try.prog 67 [V_s0, .int .i64 i, V_v0] [.own V_s0 (lc s), .own V_v0 (lc v)] [] (fun X : Value => X) (fun X => [.own X (lc r)]) := by
  refine Con.intro (args := [V_s0, .int .i64 i, V_v0]) (n := 95) (val := fun _ (X : Value) => X) (post := fun r X => [.own X (lc r)]) (m := slices_Insert_87572 s i v) Try.func67 rfl rfl rfl hm ?_
  intro w S _
  unfold slices_Insert_87572
  refine TW.known fun r0 hr0 => ?_
  obtain ⟨h0, h1, h2, h3, rfl⟩ := ins_eq hr0
  obtain ⟨I, rfl⟩ := Int.eq_ofNat_of_zero_le h0
  rw [Int.toNat_natCast]
  have h1n : I ≤ s.length := by omega
  clear hr0 hm
  have wr : ∀ q : Nat, q ≤ 4611686018427387904 → IntKind.i64.wrap (q : Int) = (q : Int) := fun q hq => by rw [IntKind.wrap_i64]; omega
  have wr2 : ∀ a b : Nat, a + b ≤ 4611686018427387904 → IntKind.i64.wrap ((a : Int) + (b : Int)) = ((a + b : Nat) : Int) := fun a b hq => by rw [IntKind.wrap_i64]; omega
  obtain ⟨z0, hpc⟩ : ∃ z, piece s (I : Int) ((s.length : Nat) : Int) = some z := ⟨_, if_pos ⟨by omega, by omega, by omega⟩⟩
  refine TW.seq ?_
  refine TW.region ?_
  refine TO.y (Y.assign rfl) rfl rfl rfl ?_
  refine TO.nil ?_
  refine TE.next ?_
  refine TW.seq ?_
  refine TW.region ?_
  refine TO.y (Y.move rfl) rfl rfl rfl ?_
  refine TO.y (Y.move rfl) rfl rfl rfl ?_
  refine TO.y (Y.subs hpc ke29 (Can.own 0 rfl) rfl ⟨_, rfl⟩ rfl) rfl rfl rfl ?_
  refine TO.nil ?_
  refine TE.next ?_
  refine TW.seq ?_
  refine TW.region ?_
  refine TO.y (Y.move rfl) rfl rfl rfl ?_
  refine TO.y (Y.len (l := v) ke29 (Can.own 1 rfl) rfl) rfl rfl rfl ?_
  refine TO.y (Y.assign rfl) rfl rfl rfl ?_
  refine TO.nil ?_
  refine TE.next ?_
  refine TW.seq ?_
  refine TW.seq ?_
  refine TW.region ?_
  refine TO.y (Y.move rfl) rfl rfl rfl ?_
  refine TO.y (Y.eql rfl rfl) rfl rfl rfl ?_
  refine TO.nil ?_
  refine TE.next ?_
  by_cases hm0 : v = []
  · subst hm0
    rw [show s.take I ++ ([] ++ s.drop I) = s by simp]
    refine TW.cond_t rfl (by simp) ?_
    refine TW.seq ?_
    refine TW.region ?_
    refine TO.y (Y.move rfl) rfl rfl rfl ?_
    refine TO.y (Y.assign rfl) rfl rfl rfl ?_
    refine TO.nil ?_
    refine TE.next ?_
    refine TW.ret ?_
    refine TE.then_ret ?_
    exact TE.leaf fun _ _ hf_ hs_ => ret_any (rs := [.tmp 6]) (vs := [V_s0]) (.inl rfl) rfl ⟨rfl, trivial⟩ hf_ hs_ ⟨V_s0, rfl, hs_.pulls [0] rfl⟩
  · have hm1 : 0 < v.length := List.length_pos_iff.2 hm0
    refine TW.cond_f rfl (decide_eq_false (by omega)) ?_
    refine TW.skip ?_
    refine TE.next ?_
    refine TW.seq ?_
    refine TW.region ?_
    refine TO.y (Y.move rfl) rfl rfl rfl ?_
    refine TO.y (Y.len (l := s) ke29 (Can.own 0 rfl) rfl) rfl rfl rfl ?_
    refine TO.y (Y.assign rfl) rfl rfl rfl ?_
    refine TO.nil ?_
    refine TE.next ?_
    refine TW.seq ?_
    refine TW.seq ?_
    refine TW.region ?_
    refine TO.y (Y.move rfl) rfl rfl rfl ?_
    refine TO.y (Y.move rfl) rfl rfl rfl ?_
    refine TO.y (Y.eql rfl rfl) rfl rfl rfl ?_
    refine TO.nil ?_
    refine TE.next ?_
    by_cases hin : I = s.length
    · have happ : app 24 s v = some (s ++ v) := by unfold app; rw [if_pos ⟨h2, by omega⟩]
      rw [show s.take I ++ (v ++ s.drop I) = s ++ v by rw [hin]; simp]
      refine TW.cond_t rfl (decide_eq_true (by omega)) ?_
      refine TW.seq ?_
      refine TW.region ?_
      refine TO.y (Y.move rfl) rfl rfl rfl ?_
      refine TO.y (Y.move rfl) rfl rfl rfl ?_
      refine TO.ef (Ef.appN (α := List Ent) (is' := []) [0, 0] happ ke29 kz28 rfl rfl rfl rfl rfl) rfl rfl rfl (fun X => ?_)
      refine TO.y (Y.assign rfl) rfl rfl rfl ?_
      refine TO.nil ?_
      refine TE.next ?_
      refine TW.ret ?_
      refine TE.then_ret ?_
      exact TE.leaf fun _ _ hf_ hs_ => ret_any (rs := [.tmp 6]) (vs := [X]) (.inl rfl) rfl ⟨rfl, trivial⟩ hf_ hs_ ⟨X, rfl, hs_.pulls [0] rfl⟩
    · refine TW.cond_f rfl (decide_eq_false (by omega)) ?_
      refine TW.skip ?_
      refine TE.next ?_
      refine TW.openRows (α := List Ent) (by omega) hm1 ?_
      intro b cap e cur b2 cap2 e2 cur2 hV hU hbb hc1 hc2 hc3 hc4 hl1 hl2 ho1 ho2
      subst hV hU
      have hsz : Enc.sz (List Ent) = 1 := rfl
      rw [hsz] at hl1 hl2 ho1 ho2
      have e1 := wr2 s.length v.length h3
      refine TW.seq ?_
      refine TW.seq ?_
      refine TW.region ?_
      refine TO.y (Y.move rfl) rfl rfl rfl ?_
      refine TO.y (Y.move rfl) rfl rfl rfl ?_
      refine TO.y (Y.add rfl rfl) rfl rfl rfl ?_
      refine TO.y (Y.move rfl) rfl rfl rfl ?_
      refine TO.y (Y.capRaw ke29 rfl) rfl rfl rfl ?_
      refine TO.y (Y.gtr rfl rfl) rfl rfl rfl ?_
      refine TO.nil ?_
      refine TE.next ?_
      by_cases hroom : cap < s.length + v.length
      · refine TW.cond_t rfl (by rw [e1]; exact decide_eq_true (by omega)) ?_
        refine TW.seq ?_
        refine TW.region ?_
        refine TO.y (Y.move rfl) rfl rfl rfl ?_
        refine TO.y (Y.move rfl) rfl rfl rfl ?_
        refine TO.y (Y.toRaw (hi := I) ke29 (by omega) rfl rfl rfl) rfl rfl rfl ?_
        refine TO.y (Y.move rfl) rfl rfl rfl ?_
        refine TO.y (Y.move rfl) rfl rfl rfl ?_
        refine TO.y (Y.add rfl rfl) rfl rfl rfl ?_
        refine TO.y (Y.move rfl) rfl rfl rfl ?_
        refine TO.y (Y.sub rfl rfl) rfl rfl rfl ?_
        have e2 : IntKind.i64.wrap (IntKind.i64.wrap ((s.length : Int) + (v.length : Int)) - (I : Int)) = ((s.length + v.length - I : Nat) : Int) := by rw [e1, IntKind.wrap_i64]; omega
        refine TO.ef (Ef.rawGrow (N := s.length + v.length) (q := s.length + v.length - I) 0 ke29 ki3 kz28 rfl rfl rfl rfl rfl e2 (by omega) (by omega) hl1 (by omega) hroom (by omega) h2) rfl rfl rfl (fun X => ?_)
        refine TO.y (Y.assign rfl) rfl rfl rfl ?_
        refine TO.nil ?_
        refine TE.next ?_
        obtain ⟨⟨⟨g, gc⟩, ge, zs⟩, hz1, hz2, hz3⟩ := X
        dsimp only at hz1 hz2 hz3 ⊢
        obtain ⟨q1, q2, q3, q4, q5, q6⟩ := insA (G := gc) (zs := zs) h1n hc1 hc3 hl1 hl2 hz1 hz2
        have m1 : 0 + I * 1 + v.length * 1 ≤ gc * 1 := by omega
        have m2 : 0 + (I + v.length) * 1 + (s.length - I) * 1 ≤ gc * 1 := by omega
        have m3 : 0 + v.length * 1 ≤ cap2 * 1 := by omega
        have m4 : 0 + I * 1 + (s.length - I) * 1 ≤ cap * 1 := by omega
        refine TW.seq ?_
        refine TW.region ?_
        refine TO.y (Y.move rfl) rfl rfl rfl ?_
        refine TO.y (Y.move rfl) rfl rfl rfl ?_
        refine TO.y (Y.fromRaw (lo := I) ke29 (by omega) (by omega) rfl rfl rfl) rfl rfl rfl ?_
        refine TO.y (Y.move rfl) rfl rfl rfl ?_
        refine TO.ef (Ef.rawCopy (sl := v.length) 0 2 ke29 rfl rfl rfl rfl (by omega) (by rw [q3]; exact m1) (Nat.le_trans m3 hl2) (by rw [List.drop_zero]; exact ho2) rfl) rfl rfl rfl (fun _ => ?_)
        refine TO.nil ?_
        refine TE.next ?_
        refine TW.seq ?_
        refine TW.draw (isH := []) hMix ?_
        refine TA.y 0 [] rfl (Y.move rfl) rfl rfl rfl (by kernel_rfl) rfl ?_
        refine TA.y 1 [] rfl (Y.move rfl) rfl rfl rfl (by kernel_rfl) rfl ?_
        refine TA.y 2 [] rfl (Y.move rfl) rfl rfl rfl (by kernel_rfl) rfl ?_
        refine TA.y 3 [] rfl (Y.add rfl rfl) rfl rfl rfl (by kernel_rfl) rfl ?_
        refine TA.y 4 [] rfl (Y.fromRaw (lo := I + v.length) ke29 (by omega) (by omega) (wr2 I v.length (by omega)) rfl rfl) rfl rfl rfl (by kernel_rfl) rfl ?_
        refine TA.y 5 [] rfl (Y.move rfl) rfl rfl rfl (by kernel_rfl) rfl ?_
        refine TA.y 6 [] rfl (Y.move rfl) rfl rfl rfl (by kernel_rfl) rfl ?_
        refine TA.y 7 [] rfl (Y.fromRaw (lo := I) ke29 (by omega) (by omega) rfl rfl rfl) rfl rfl rfl (by kernel_rfl) rfl ?_
        refine TA.one 8 (by kernel_rfl) ?_
        refine TX.ef [] rfl (Ef.rawCopy (sl := s.length - I) 0 1 ke29 rfl rfl rfl rfl (by omega) (by rw [q4]; exact m2) (Nat.le_trans m4 hl1) (ins_one ho1 h1n) rfl) rfl rfl rfl (fun _ => rfl) (fun _ => ?_)
        refine TA.nil (by kernel_rfl) ?_
        refine TE.next ?_
        refine TW.seq ?_
        refine TW.region ?_
        refine TO.y (Y.move rfl) rfl rfl rfl ?_
        refine TO.y (Y.assign rfl) rfl rfl rfl ?_
        refine TO.nil ?_
        refine TE.next ?_
        refine TW.ret ?_
        refine TE.then_ret ?_
        refine TE.ghost (Gh.fold (α := List Ent) (l := s) (k := v) (i := I) [0, 2, 2, 0, 0] rfl h1n hz2 hz3 (Nat.le_of_eq q5.symm) q6) (fun _ => ?_)
        exact TE.leaf fun _ _ hf_ hs_ => ret_any (rs := [.tmp 6]) (vs := [.slice (some ⟨g, 0, none⟩) (s.length + v.length) gc]) (.inl rfl) rfl ⟨rfl, trivial⟩ hf_ hs_ ⟨(.slice (some ⟨g, 0, none⟩) (s.length + v.length) gc), rfl, hs_.pulls [0] rfl⟩
      · refine TW.cond_f rfl (by rw [e1]; exact decide_eq_false (by omega)) ?_
        refine TW.skip ?_
        refine TE.next ?_
        refine TW.seq ?_
        refine TW.region ?_
        refine TO.y (Y.move rfl) rfl rfl rfl ?_
        refine TO.y (Y.move rfl) rfl rfl rfl ?_
        refine TO.y (Y.move rfl) rfl rfl rfl ?_
        refine TO.y (Y.add rfl rfl) rfl rfl rfl ?_
        refine TO.y (Y.toRaw (hi := s.length + v.length) ke29 (by omega) e1 rfl rfl) rfl rfl rfl ?_
        refine TO.y (Y.assign rfl) rfl rfl rfl ?_
        refine TO.nil ?_
        refine TE.next ?_
        obtain ⟨q1, q2, q3, q4, q5⟩ := insB h1n (by omega) hc3 hl1 hl2
        have m1 : 0 + I * 1 + v.length * 1 ≤ cap * 1 := by omega
        have m2 : 0 + (I + v.length) * 1 + (s.length - I) * 1 ≤ cap * 1 := by omega
        have m3 : 0 + v.length * 1 ≤ cap2 * 1 := by omega
        have m4 : 0 + I * 1 + (s.length - I) * 1 ≤ cap * 1 := by omega
        have hne : cur ≠ [] := by intro e; rw [e] at hl1; simp at hl1; omega
        refine TW.seq ?_
        refine TW.seq ?_
        refine TW.region ?_
        refine TO.y (Y.move rfl) rfl rfl rfl ?_
        refine TO.y (Y.move rfl) rfl rfl rfl ?_
        refine TO.y (Y.move rfl) rfl rfl rfl ?_
        refine TO.y (Y.move rfl) rfl rfl rfl ?_
        refine TO.y (Y.add rfl rfl) rfl rfl rfl ?_
        refine TO.y (Y.fromRaw (lo := I + v.length) ke29 (by omega) (by omega) (wr2 I v.length (by omega)) rfl rfl) rfl rfl rfl ?_
        refine TO.ef (Ef.overlaps (tr := 4) 1 0 Try.func86 (by kernel_rfl) (by kernel_rfl) (by kernel_rfl) (by kernel_rfl) ke29 rfl rfl (Ne.symm hbb) rfl rfl hne) rfl rfl rfl (fun _ => ?_)
        refine TO.y (Y.not rfl) rfl rfl rfl ?_
        refine TO.nil ?_
        refine TE.next ?_
        refine TW.cond_true rfl ?_
        refine TW.seq ?_
        refine TW.draw (isH := []) hMix ?_
        refine TA.y 0 [] rfl (Y.move rfl) rfl rfl rfl (by kernel_rfl) rfl ?_
        refine TA.y 1 [] rfl (Y.move rfl) rfl rfl rfl (by kernel_rfl) rfl ?_
        refine TA.y 2 [] rfl (Y.move rfl) rfl rfl rfl (by kernel_rfl) rfl ?_
        refine TA.y 3 [] rfl (Y.add rfl rfl) rfl rfl rfl (by kernel_rfl) rfl ?_
        refine TA.y 4 [] rfl (Y.fromRaw (lo := I + v.length) ke29 (by omega) (by omega) (wr2 I v.length (by omega)) rfl rfl) rfl rfl rfl (by kernel_rfl) rfl ?_
        refine TA.y 5 [] rfl (Y.move rfl) rfl rfl rfl (by kernel_rfl) rfl ?_
        refine TA.y 6 [] rfl (Y.move rfl) rfl rfl rfl (by kernel_rfl) rfl ?_
        refine TA.y 7 [] rfl (Y.fromRaw (lo := I) ke29 (by omega) (by omega) rfl rfl rfl) rfl rfl rfl (by kernel_rfl) rfl ?_
        refine TA.one 8 (by kernel_rfl) ?_
        refine TX.ef [] rfl (Ef.rawCopy (sl := s.length - I) 0 0 ke29 rfl rfl rfl rfl (by omega) (Nat.le_trans m2 hl1) (Nat.le_trans m4 hl1) (ins_one ho1 h1n) rfl) rfl rfl rfl (fun _ => rfl) (fun _ => ?_)
        refine TA.nil (by kernel_rfl) ?_
        refine TE.next ?_
        refine TW.seq ?_
        refine TW.region ?_
        refine TO.y (Y.move rfl) rfl rfl rfl ?_
        refine TO.y (Y.move rfl) rfl rfl rfl ?_
        refine TO.y (Y.fromRaw (lo := I) ke29 (by omega) (by omega) rfl rfl rfl) rfl rfl rfl ?_
        refine TO.y (Y.move rfl) rfl rfl rfl ?_
        refine TO.ef (Ef.rawCopy (sl := v.length) 0 1 ke29 rfl rfl rfl rfl (by omega) (by rw [q3]; exact Nat.le_trans m1 hl1) (Nat.le_trans m3 hl2) (by rw [List.drop_zero]; exact ho2) rfl) rfl rfl rfl (fun _ => ?_)
        refine TO.nil ?_
        refine TE.next ?_
        refine TW.seq ?_
        refine TW.region ?_
        refine TO.y (Y.move rfl) rfl rfl rfl ?_
        refine TO.y (Y.assign rfl) rfl rfl rfl ?_
        refine TO.nil ?_
        refine TE.next ?_
        refine TW.ret ?_
        refine TE.then_ret ?_
        refine TE.ghost (Gh.fold (α := List Ent) (l := s) (k := v) (i := I) [0, 1, 1, 0] rfl h1n (by omega) hc2 (by rw [q4]; exact hl1) q5) (fun _ => ?_)
        exact TE.leaf fun _ _ hf_ hs_ => ret_any (rs := [.tmp 6]) (vs := [.slice (some ⟨b, 0, none⟩) (s.length + v.length) cap]) (.inl rfl) rfl ⟨rfl, trivial⟩ hf_ hs_ ⟨(.slice (some ⟨b, 0, none⟩) (s.length + v.length) cap), rfl, hs_.pulls [0] rfl⟩

/-- (*loop.example/g00950/impl.Eng).flush -/
noncomputable def impl_Eng_flush (e : Eng) : Option (Bool × Eng) :=
  (if (decide (((e.Mem.length : Nat) : Int) = (0 : Int))) = true then (some true)
  else (some (decide (((e.Tables.length : Nat) : Int) ≥ (6 : Int))))).bind (fun (T1 : Bool) =>
  if T1 = true then (some (false, e))
  else ((slices_Insert_87572 e.Tables (0 : Int) ([e.Mem])).bind fun R6 =>
  some (true, { Mem := ([] : List Ent), Tables := R6, Seq := e.Seq, Snaps := e.Snaps : Eng })))

theorem impl_Eng_flush_con (e : Eng) (V_e0 : Value) (V_e1 : Value) (V_e3 : Value) (B_e : Nat) (r : Bool × Eng) (hm : impl_Eng_flush e = some r) :
    Con Try.prog 44 [.pointer (some ⟨B_e, 0, none⟩)] [.box B_e 31 [V_e0, V_e1, .int .i64 e.Seq, V_e3], .own V_e0 (lc e.Mem), .own V_e1 (lc e.Tables)] [(V_e3, lc e.Snaps)] (fun _ : Value × Value => .bool r.1) (fun X => [.box B_e 31 [X.1, X.2, .int .i64 r.2.Seq, V_e3], .own X.1 (lc r.2.Mem), .own X.2 (lc r.2.Tables)]) := by
  refine Con.intro (args := [.pointer (some ⟨B_e, 0, none⟩)]) (n := 33) (val := fun r (_ : Value × Value) => .bool r.1) (post := fun r X => [.box B_e 31 [X.1, X.2, .int .i64 r.2.Seq, V_e3], .own X.1 (lc r.2.Mem), .own X.2 (lc r.2.Tables)]) (m := impl_Eng_flush e) Try.func44 rfl rfl rfl hm ?_
  intro w S hrd
  have HB_V_e3 := hrd _ (.head _)
  clear hrd
  unfold impl_Eng_flush
  refine TW.seq ?_
  refine TW.region ?_
  refine TO.y (Y.assign rfl) rfl rfl rfl ?_
  refine TO.nil ?_
  refine TE.next ?_
  refine TW.seq ?_
  refine TW.seq ?_
  refine TW.joinBX (τ := Bool) (X := Unit) (fun T _ => [(0, .pointer (some ⟨B_e, 0, none⟩)), (16, .bool T)]) (fun _ _ => [.box B_e 31 [V_e0, V_e1, .int .i64 e.Seq, V_e3], .own V_e0 (lc e.Mem), .own V_e1 (lc e.Tables)]) ?_ (fun T1 X2 => ?_)
  ·refine TW.region ?_
   refine TO.y (Y.move rfl) rfl rfl rfl ?_
   refine TO.y (Y.nilCheck rfl) rfl rfl rfl ?_
   refine TO.y (Y.field_box kf31_0 rfl rfl) rfl rfl rfl ?_
   refine TO.y (Y.load_box (v := V_e0) 0 kk28 rfl rfl rfl) rfl rfl rfl ?_
   refine TO.y (Y.len (l := e.Mem) ke28 (Can.own 1 rfl) rfl) rfl rfl rfl ?_
   refine TO.y (Y.eql rfl rfl) rfl rfl rfl ?_
   refine TO.y (Y.move rfl) rfl rfl rfl ?_
   refine TO.ite (b := decide (((e.Mem.length : Nat) : Int) = (0 : Int))) (fun H3 => ?_) (fun H3 => ?_)
   ·refine TO.off (Gd.at 6 false 9 (decide (((e.Mem.length : Nat) : Int) = (0 : Int))) rfl rfl rfl (beq_tf H3)) rfl rfl ?_
    refine TO.off (Gd.at 6 false 9 (decide (((e.Mem.length : Nat) : Int) = (0 : Int))) rfl rfl rfl (beq_tf H3)) rfl rfl ?_
    refine TO.off (Gd.at 6 false 9 (decide (((e.Mem.length : Nat) : Int) = (0 : Int))) rfl rfl rfl (beq_tf H3)) rfl rfl ?_
    refine TO.off (Gd.at 6 false 9 (decide (((e.Mem.length : Nat) : Int) = (0 : Int))) rfl rfl rfl (beq_tf H3)) rfl rfl ?_
    refine TO.off (Gd.at 6 false 9 (decide (((e.Mem.length : Nat) : Int) = (0 : Int))) rfl rfl rfl (beq_tf H3)) rfl rfl ?_
    refine TO.off (Gd.at 6 false 9 (decide (((e.Mem.length : Nat) : Int) = (0 : Int))) rfl rfl rfl (beq_tf H3)) rfl rfl ?_
    refine TO.y (Y.pick_t H3 rfl rfl) rfl rfl rfl ?_
    refine TO.nil ?_
    exact TE.jb_go () [0, 0, 0] ⟨rfl, rfl, trivial⟩ rfl
   refine TO.y (Y.move rfl) (Gd.at 6 false 9 (decide (((e.Mem.length : Nat) : Int) = (0 : Int))) rfl rfl rfl (beq_ff H3)) rfl rfl ?_
   refine TO.y (Y.nilCheck rfl) (Gd.at 6 false 9 (decide (((e.Mem.length : Nat) : Int) = (0 : Int))) rfl rfl rfl (beq_ff H3)) rfl rfl ?_
   refine TO.y (Y.field_box kf31_1 rfl rfl) (Gd.at 6 false 9 (decide (((e.Mem.length : Nat) : Int) = (0 : Int))) rfl rfl rfl (beq_ff H3)) rfl rfl ?_
   refine TO.y (Y.load_box (v := V_e1) 0 kk29 rfl rfl rfl) (Gd.at 6 false 9 (decide (((e.Mem.length : Nat) : Int) = (0 : Int))) rfl rfl rfl (beq_ff H3)) rfl rfl ?_
   refine TO.y (Y.len (l := e.Tables) ke29 (Can.own 2 rfl) rfl) (Gd.at 6 false 9 (decide (((e.Mem.length : Nat) : Int) = (0 : Int))) rfl rfl rfl (beq_ff H3)) rfl rfl ?_
   refine TO.y (Y.geq rfl rfl) (Gd.at 6 false 9 (decide (((e.Mem.length : Nat) : Int) = (0 : Int))) rfl rfl rfl (beq_ff H3)) rfl rfl ?_
   refine TO.y (Y.pick_f H3 rfl rfl) rfl rfl rfl ?_
   refine TO.nil ?_
   exact TE.jb_go () [0, 0, 0] ⟨rfl, rfl, trivial⟩ rfl
  refine TE.next ?_
  refine TW.cond rfl (fun H4 => ?_) (fun H4 => ?_)
  ·refine TW.seq ?_
   refine TW.region ?_
   refine TO.y (Y.assign rfl) rfl rfl rfl ?_
   refine TO.nil ?_
   refine TE.next ?_
   refine TW.ret ?_
   refine TE.then_ret ?_
   exact TE.leaf fun _ _ hf_ hs_ => ret_any (rs := [.tmp 2]) (vs := [.bool false]) (.inl rfl) rfl ⟨rfl, trivial⟩ hf_ hs_ ⟨(V_e0, V_e1), rfl, hs_.pulls [0, 0, 0] rfl⟩
  refine TW.skip ?_
  refine TE.next ?_
  refine TW.seq ?_
  refine TW.bind fun R6 H7 => ?_
  refine TW.joinU (X := Value) (fun _ _ => [(0, .pointer (some ⟨B_e, 0, none⟩))]) (fun _ X => [.box B_e 31 [V_e0, X, .int .i64 e.Seq, V_e3], .own X (lc R6)]) ?_ (fun _ X10 => ?_)
  ·refine TW.draw (isH := []) hMix ?_
   refine TA.y 0 [] rfl (Y.move rfl) rfl rfl rfl (by kernel_rfl) rfl ?_
   refine TA.y 1 [] rfl (Y.move rfl) rfl rfl rfl (by kernel_rfl) rfl ?_
   refine TA.y 2 [] rfl (Y.nilCheck rfl) rfl rfl rfl (by kernel_rfl) rfl ?_
   refine TA.y 3 [] rfl (Y.field_box kf31_1 rfl rfl) rfl rfl rfl (by kernel_rfl) rfl ?_
   refine TA.y 5 [] rfl (Y.move rfl) rfl rfl rfl (by kernel_rfl) rfl ?_
   refine TA.y 6 [] rfl (Y.nilCheck rfl) rfl rfl rfl (by kernel_rfl) rfl ?_
   refine TA.y 7 [] rfl (Y.field_box kf31_0 rfl rfl) rfl rfl rfl (by kernel_rfl) rfl ?_
   refine TA.two 4 8 (by kernel_rfl) ?_ ?_
   ·refine TX.y [] rfl (Y.load_box (v := V_e1) 0 kk29 rfl rfl rfl) rfl rfl rfl rfl ?_
    refine TA.one 8 (by kernel_rfl) ?_
    refine TX.y [] rfl (Y.load_box (v := V_e0) 0 kk28 rfl rfl rfl) rfl rfl rfl rfl ?_
    refine TA.one 9 (by kernel_rfl) ?_
    refine TX.ef [] rfl (Ef.buildSliceR (Vs := [V_e0]) [[V_e0]] [.raw V_e0] ke29 kz28 rfl rfl rfl rfl rfl ⟨(Cel.one (One.can (Can.own 1 rfl))), trivial⟩ rfl) rfl rfl rfl (fun _ => rfl) (fun B11 => ?_)
    refine TA.ghost (is' := fun _ => [.own (.slice (some ⟨B11, 0, none⟩) 1 1) (lc ([e.Mem])), .box B_e 31 [V_e0, V_e1, .int .i64 e.Seq, V_e3], .own V_e1 (lc e.Tables)]) (Gh.closeAll (js := [.own V_e0 (lc e.Mem)]) (r := [.box B_e 31 [V_e0, V_e1, .int .i64 e.Seq, V_e3], .own V_e1 (lc e.Tables)]) [0, 1, 0, 0] rfl (Cls.fill Cls.nil)) (fun _ => ?_)
    refine TA.one 10 (by kernel_rfl) ?_
    refine TX.ef [] rfl (Ef.call (rest := [.box B_e 31 [V_e0, V_e1, .int .i64 e.Seq, V_e3]]) [2, 0, 0] (slices_Insert_87572_con e.Tables (0 : Int) ([e.Mem]) V_e1 (.slice (some ⟨B11, 0, none⟩) 1 1) R6 H7) kc67 rfl rfl trivial) rfl rfl rfl (fun _ => rfl) (fun Y12 => ?_)
    refine TA.y 11 [] rfl (Y.nilCheck rfl) rfl rfl rfl (by kernel_rfl) rfl ?_
    refine TA.y 12 [] rfl (Y.field_box kf31_1 rfl rfl) rfl rfl rfl (by kernel_rfl) rfl ?_
    refine TA.one 13 (by kernel_rfl) ?_
    refine TX.ef0 [] rfl (Ef.store_box (us := [Y12]) (vs' := [V_e0, Y12, .int .i64 e.Seq, V_e3]) (is' := [.own Y12 (lc R6), .box B_e 31 [V_e0, Y12, .int .i64 e.Seq, V_e3]]) 1 kk29 rfl rfl rfl (Cel.one (One.can (Can.own 0 rfl))) rfl rfl rfl rfl) rfl rfl (fun _ => rfl) (fun _ => ?_)
    refine TA.nil (by kernel_rfl) ?_
    exact TE.jb_go Y12 [1, 0] ⟨rfl, trivial⟩ rfl
   refine TX.y [] rfl (Y.load_box (v := V_e0) 0 kk28 rfl rfl rfl) rfl rfl rfl rfl ?_
   refine TA.two 4 9 (by kernel_rfl) ?_ ?_
   ·refine TX.y [] rfl (Y.load_box (v := V_e1) 0 kk29 rfl rfl rfl) rfl rfl rfl rfl ?_
    refine TA.one 9 (by kernel_rfl) ?_
    refine TX.ef [] rfl (Ef.buildSliceR (Vs := [V_e0]) [[V_e0]] [.raw V_e0] ke29 kz28 rfl rfl rfl rfl rfl ⟨(Cel.one (One.can (Can.own 1 rfl))), trivial⟩ rfl) rfl rfl rfl (fun _ => rfl) (fun B12 => ?_)
    refine TA.ghost (is' := fun _ => [.own (.slice (some ⟨B12, 0, none⟩) 1 1) (lc ([e.Mem])), .box B_e 31 [V_e0, V_e1, .int .i64 e.Seq, V_e3], .own V_e1 (lc e.Tables)]) (Gh.closeAll (js := [.own V_e0 (lc e.Mem)]) (r := [.box B_e 31 [V_e0, V_e1, .int .i64 e.Seq, V_e3], .own V_e1 (lc e.Tables)]) [0, 1, 0, 0] rfl (Cls.fill Cls.nil)) (fun _ => ?_)
    refine TA.one 10 (by kernel_rfl) ?_
    refine TX.ef [] rfl (Ef.call (rest := [.box B_e 31 [V_e0, V_e1, .int .i64 e.Seq, V_e3]]) [2, 0, 0] (slices_Insert_87572_con e.Tables (0 : Int) ([e.Mem]) V_e1 (.slice (some ⟨B12, 0, none⟩) 1 1) R6 H7) kc67 rfl rfl trivial) rfl rfl rfl (fun _ => rfl) (fun Y13 => ?_)
    refine TA.y 11 [] rfl (Y.nilCheck rfl) rfl rfl rfl (by kernel_rfl) rfl ?_
    refine TA.y 12 [] rfl (Y.field_box kf31_1 rfl rfl) rfl rfl rfl (by kernel_rfl) rfl ?_
    refine TA.one 13 (by kernel_rfl) ?_
    refine TX.ef0 [] rfl (Ef.store_box (us := [Y13]) (vs' := [V_e0, Y13, .int .i64 e.Seq, V_e3]) (is' := [.own Y13 (lc R6), .box B_e 31 [V_e0, Y13, .int .i64 e.Seq, V_e3]]) 1 kk29 rfl rfl rfl (Cel.one (One.can (Can.own 0 rfl))) rfl rfl rfl rfl) rfl rfl (fun _ => rfl) (fun _ => ?_)
    refine TA.nil (by kernel_rfl) ?_
    exact TE.jb_go Y13 [1, 0] ⟨rfl, trivial⟩ rfl
   refine TX.ef [] rfl (Ef.buildSliceR (Vs := [V_e0]) [[V_e0]] [.raw V_e0] ke29 kz28 rfl rfl rfl rfl rfl ⟨(Cel.one (One.can (Can.own 1 rfl))), trivial⟩ rfl) rfl rfl rfl (fun _ => rfl) (fun B11 => ?_)
   refine TA.ghost (is' := fun _ => [.own (.slice (some ⟨B11, 0, none⟩) 1 1) (lc ([e.Mem])), .box B_e 31 [V_e0, V_e1, .int .i64 e.Seq, V_e3], .own V_e1 (lc e.Tables)]) (Gh.closeAll (js := [.own V_e0 (lc e.Mem)]) (r := [.box B_e 31 [V_e0, V_e1, .int .i64 e.Seq, V_e3], .own V_e1 (lc e.Tables)]) [0, 1, 0, 0] rfl (Cls.fill Cls.nil)) (fun _ => ?_)
   refine TA.one 4 (by kernel_rfl) ?_
   refine TX.y [] rfl (Y.load_box (v := V_e1) 1 kk29 rfl rfl rfl) rfl rfl rfl rfl ?_
   refine TA.one 10 (by kernel_rfl) ?_
   refine TX.ef [] rfl (Ef.call (rest := [.box B_e 31 [V_e0, V_e1, .int .i64 e.Seq, V_e3]]) [2, 0, 0] (slices_Insert_87572_con e.Tables (0 : Int) ([e.Mem]) V_e1 (.slice (some ⟨B11, 0, none⟩) 1 1) R6 H7) kc67 rfl rfl trivial) rfl rfl rfl (fun _ => rfl) (fun Y12 => ?_)
   refine TA.y 11 [] rfl (Y.nilCheck rfl) rfl rfl rfl (by kernel_rfl) rfl ?_
   refine TA.y 12 [] rfl (Y.field_box kf31_1 rfl rfl) rfl rfl rfl (by kernel_rfl) rfl ?_
   refine TA.one 13 (by kernel_rfl) ?_
   refine TX.ef0 [] rfl (Ef.store_box (us := [Y12]) (vs' := [V_e0, Y12, .int .i64 e.Seq, V_e3]) (is' := [.own Y12 (lc R6), .box B_e 31 [V_e0, Y12, .int .i64 e.Seq, V_e3]]) 1 kk29 rfl rfl rfl (Cel.one (One.can (Can.own 0 rfl))) rfl rfl rfl rfl) rfl rfl (fun _ => rfl) (fun _ => ?_)
   refine TA.nil (by kernel_rfl) ?_
   exact TE.jb_go Y12 [1, 0] ⟨rfl, trivial⟩ rfl
  refine TE.next ?_
  refine TW.seq ?_
  refine TW.region ?_
  refine TO.y (Y.move rfl) rfl rfl rfl ?_
  refine TO.y (Y.nilCheck rfl) rfl rfl rfl ?_
  refine TO.y (Y.field_box kf31_0 rfl rfl) rfl rfl rfl ?_
  refine TO.ef0 (Ef.store_box (us := [.slice none 0 0]) (vs' := [.slice none 0 0, X10, .int .i64 e.Seq, V_e3]) (is' := [.box B_e 31 [.slice none 0 0, X10, .int .i64 e.Seq, V_e3], .own X10 (lc R6)]) 0 kk28 rfl rfl rfl (Cel.plain rfl rfl) rfl rfl rfl rfl) rfl rfl (fun _ => ?_)
  refine TO.nil ?_
  refine TE.next ?_
  refine TW.seq ?_
  refine TW.region ?_
  refine TO.y (Y.assign rfl) rfl rfl rfl ?_
  refine TO.nil ?_
  refine TE.next ?_
  refine TW.ret ?_
  exact TE.leaf fun _ _ hf_ hs_ => ret_any (rs := [.tmp 2]) (vs := [.bool true]) (.inl rfl) rfl ⟨rfl, trivial⟩ hf_ hs_ ⟨((.slice none 0 0), X10), rfl, (hs_.nilItem 4).pulls [1, 0, 0] rfl⟩

/-- loop.example/g00950/impl.EngTidy -/
noncomputable def impl_EngTidy (e : Eng) : Option (Eng × Bool) :=
  (impl_EngOk e).bind fun R3 =>
  if (!R3) = true then (some ({ Mem := ([] : List Ent), Tables := ([] : List (List Ent)), Seq := (0 : Int), Snaps := ([] : List Int) : Eng }, false))
  else ((impl_copyEng e).bind fun R10 =>
  bindC (if (decide (((R10.Tables.length : Nat) : Int) = (6 : Int))) = true then ((impl_Eng_merge R10).bind fun R17 =>
  some (.go (R17.2.Seq, R17.1, R17.2.Tables)))
  else (some (.go (R10.Seq, false, R10.Tables))))
  (fun (T14 : Int × Bool × List (List Ent)) => bindC (if (decide (((R10.Mem.length : Nat) : Int) > (54 : Int))) = true then ((impl_Eng_flush ({ Mem := R10.Mem, Tables := T14.2.2, Seq := T14.1, Snaps := R10.Snaps : Eng })).bind fun R23 =>
  (if T14.2.1 = true then (some true)
  else (some R23.1)).bind (fun (T26 : Bool) =>
  some (.go (R23.2.Seq, T26, R23.2.Mem, R23.2.Tables))))
  else (some (.go (T14.1, T14.2.1, R10.Mem, T14.2.2))))
  (fun (T20 : Int × Bool × List Ent × List (List Ent)) => some ({ Mem := T20.2.2.1, Tables := T20.2.2.2, Seq := T20.1, Snaps := R10.Snaps : Eng }, T20.2.1))))

theorem impl_EngTidy_con (e : Eng) (V_e0 : Value) (V_e1 : Value) (V_e3 : Value) (r : Eng × Bool) (hm : impl_EngTidy e = some r) :
    Con Try.prog 15 [.agg #[V_e0, V_e1, .int .i64 e.Seq, V_e3]] [] [(V_e0, lc e.Mem), (V_e1, lc e.Tables), (V_e3, lc e.Snaps)] (fun X : Value × Value × Value => .tuple #[.agg #[X.1, X.2.1, .int .i64 r.1.Seq, X.2.2], .bool r.2]) (fun X => [.own X.1 (lc r.1.Mem), .own X.2.1 (lc r.1.Tables), .own X.2.2 (lc r.1.Snaps)]) := by
  refine Con.intro (args := [.agg #[V_e0, V_e1, .int .i64 e.Seq, V_e3]]) (n := 29) (val := fun r (X : Value × Value × Value) => .tuple #[.agg #[X.1, X.2.1, .int .i64 r.1.Seq, X.2.2], .bool r.2]) (post := fun r X => [.own X.1 (lc r.1.Mem), .own X.2.1 (lc r.1.Tables), .own X.2.2 (lc r.1.Snaps)]) (m := impl_EngTidy e) Try.func15 rfl rfl rfl hm ?_
  intro w S hrd
  have HB_V_e0 := hrd _ (.head _)
  have HB_V_e1 := hrd _ (.tail _ (.head _))
  have HB_V_e3 := hrd _ (.tail _ (.tail _ (.head _)))
  clear hrd
  unfold impl_EngTidy
  refine TW.seq ?_
  refine TW.region ?_
  refine TO.ef (Ef.box rfl (Cel.agg ⟨(One.can (Base.can HB_V_e0)), (One.can (Base.can HB_V_e1)), (One.plain rfl), (One.can (Base.can HB_V_e3)), trivial⟩)) rfl rfl rfl (fun B1 => ?_)
  refine TO.ef (Ef.alloc kz31 rfl) rfl rfl rfl (fun B2 => ?_)
  refine TO.y (Y.assign rfl) rfl rfl rfl ?_
  refine TO.nil ?_
  refine TE.next ?_
  refine TW.seq ?_
  refine TW.seq ?_
  refine TW.region ?_
  refine TO.y (Y.load_box (v := .agg #[V_e0, V_e1, .int .i64 e.Seq, V_e3]) 1 kk31 rfl rfl rfl) rfl rfl rfl ?_
  refine TO.bind fun R3 H4 => ?_
  refine TO.ef (Ef.call (rest := [.box B2 31 [.slice none 0 0, .slice none 0 0, .int .i64 (0 : Int), .slice none 0 0], .box B1 31 [V_e0, V_e1, .int .i64 e.Seq, V_e3]]) [0, 0] (impl_EngOk_con e V_e0 V_e1 V_e3 R3 H4) kc36 rfl rfl ⟨(Base.can HB_V_e0), (Base.can HB_V_e1), (Base.can HB_V_e3), trivial⟩) rfl rfl rfl (fun _ => ?_)
  refine TO.y (Y.not rfl) rfl rfl rfl ?_
  refine TO.nil ?_
  refine TE.next ?_
  refine TW.cond rfl (fun H6 => ?_) (fun H6 => ?_)
  ·refine TW.seq ?_
   refine TW.region ?_
   refine TO.y (Y.build (cells := [.slice none 0 0, .slice none 0 0, .int .i64 (0 : Int), .slice none 0 0]) [] kp31 kz31 trivial rfl) rfl rfl rfl ?_
   refine TO.ef0 (Ef.store_box (us := [.slice none 0 0, .slice none 0 0, .int .i64 (0 : Int), .slice none 0 0]) (vs' := [.slice none 0 0, .slice none 0 0, .int .i64 (0 : Int), .slice none 0 0]) (is' := [.box B2 31 [.slice none 0 0, .slice none 0 0, .int .i64 (0 : Int), .slice none 0 0], .box B1 31 [V_e0, V_e1, .int .i64 e.Seq, V_e3]]) 0 kk31 rfl rfl rfl (Cel.plain rfl rfl) rfl rfl rfl rfl) rfl rfl (fun _ => ?_)
   refine TO.y (Y.assign rfl) rfl rfl rfl ?_
   refine TO.nil ?_
   refine TE.next ?_
   refine TW.ret ?_
   refine TE.then_ret ?_
   exact TE.leaf fun _ _ hf_ hs_ => ret_any (rs := [.cell 2 31, .tmp 3]) (vs := [.agg #[.slice none 0 0, .slice none 0 0, .int .i64 (0 : Int), .slice none 0 0], .bool false]) (.inl rfl) rfl (RV.cell 0 rfl rfl kk31 rfl ⟨rfl, trivial⟩) hf_ hs_ ⟨((.slice none 0 0), (.slice none 0 0), (.slice none 0 0)), rfl, (((hs_.nilItem 4).nilItem 1).nilItem 1).pulls [2, 1, 0] rfl⟩
  refine TW.skip ?_
  refine TE.next ?_
  refine TW.seq ?_
  refine TW.region ?_
  refine TO.y (Y.load_box (v := .agg #[V_e0, V_e1, .int .i64 e.Seq, V_e3]) 1 kk31 rfl rfl rfl) rfl rfl rfl ?_
  refine TO.bind fun R10 H11 => ?_
  refine TO.ef (Ef.call (rest := [.box B2 31 [.slice none 0 0, .slice none 0 0, .int .i64 (0 : Int), .slice none 0 0], .box B1 31 [V_e0, V_e1, .int .i64 e.Seq, V_e3]]) [0, 0] (impl_copyEng_con e V_e0 V_e1 V_e3 R10 H11) kc37 rfl rfl ⟨(Base.can HB_V_e0), (Base.can HB_V_e1), (Base.can HB_V_e3), trivial⟩) rfl rfl rfl (fun Y12 => ?_)
  refine TO.ef (Ef.alloc kz31 rfl) rfl rfl rfl (fun B13 => ?_)
  refine TO.ef0 (Ef.store_box (us := [Y12.1, Y12.2.1, .int .i64 R10.Seq, Y12.2.2]) (vs' := [Y12.1, Y12.2.1, .int .i64 R10.Seq, Y12.2.2]) (is' := [.box B13 31 [Y12.1, Y12.2.1, .int .i64 R10.Seq, Y12.2.2], .own Y12.1 (lc R10.Mem), .own Y12.2.1 (lc R10.Tables), .own Y12.2.2 (lc R10.Snaps), .box B2 31 [.slice none 0 0, .slice none 0 0, .int .i64 (0 : Int), .slice none 0 0], .box B1 31 [V_e0, V_e1, .int .i64 e.Seq, V_e3]]) 0 kk31 rfl rfl rfl (Cel.agg ⟨(One.can (Can.own 1 rfl)), (One.can (Can.own 2 rfl)), (One.plain rfl), (One.can (Can.own 3 rfl)), trivial⟩) rfl rfl rfl rfl) rfl rfl (fun _ => ?_)
  refine TO.nil ?_
  refine TE.next ?_
  refine TW.seq ?_
  refine TW.region ?_
  refine TO.y (Y.assign rfl) rfl rfl rfl ?_
  refine TO.nil ?_
  refine TE.next ?_
  refine TW.seq ?_
  refine TW.seq ?_
  refine TW.region ?_
  refine TO.y (Y.field_box kf31_1 rfl rfl) rfl rfl rfl ?_
  refine TO.y (Y.load_box (v := Y12.2.1) 0 kk29 rfl rfl rfl) rfl rfl rfl ?_
  refine TO.y (Y.len (l := R10.Tables) ke29 (Can.own 2 rfl) rfl) rfl rfl rfl ?_
  refine TO.y (Y.eql rfl rfl) rfl rfl rfl ?_
  refine TO.nil ?_
  refine TE.next ?_
  refine TW.joinX (τ := Int × Bool × List (List Ent)) (X := Value) (fun T _ => [(2, .pointer (some ⟨B2, 0, none⟩)), (4, .pointer (some ⟨B13, 0, none⟩)), (5, .bool T.2.1)]) (fun T X => [.box B2 31 [.slice none 0 0, .slice none 0 0, .int .i64 (0 : Int), .slice none 0 0], .box B13 31 [Y12.1, X, .int .i64 T.1, Y12.2.2], .own Y12.1 (lc R10.Mem), .own X (lc T.2.2), .own Y12.2.2 (lc R10.Snaps)]) ?_ (fun T14 X15 => ?_)
  ·refine TW.cond rfl (fun H16 => ?_) (fun H16 => ?_)
   ·refine TW.region ?_
    refine TO.bind fun R17 H18 => ?_
    refine TO.ef (Ef.call (rest := [.own Y12.1 (lc R10.Mem), .own Y12.2.2 (lc R10.Snaps), .box B2 31 [.slice none 0 0, .slice none 0 0, .int .i64 (0 : Int), .slice none 0 0], .box B1 31 [V_e0, V_e1, .int .i64 e.Seq, V_e3]]) [0, 1, 0, 0, 0, 0] (impl_Eng_merge_con R10 Y12.1 Y12.2.1 Y12.2.2 B13 R17 H18) kc38 rfl rfl ⟨(Can.own 0 rfl), (Can.own 1 rfl), trivial⟩) rfl rfl rfl (fun Y19 => ?_)
    refine TO.y (Y.assign rfl) rfl rfl rfl ?_
    refine TO.nil ?_
    exact TE.jn_go Y19 [4, 0, 1, 0, 0] ⟨rfl, rfl, rfl, trivial⟩ rfl
   refine TW.skip ?_
   exact TE.jn_go Y12.2.1 [4, 0, 0, 0, 0] ⟨rfl, rfl, rfl, trivial⟩ rfl
  refine TE.next ?_
  refine TW.seq ?_
  refine TW.seq ?_
  refine TW.region ?_
  refine TO.y (Y.field_box kf31_0 rfl rfl) rfl rfl rfl ?_
  refine TO.y (Y.load_box (v := Y12.1) 1 kk28 rfl rfl rfl) rfl rfl rfl ?_
  refine TO.y (Y.len (l := R10.Mem) ke28 (Can.own 2 rfl) rfl) rfl rfl rfl ?_
  refine TO.y (Y.gtr rfl rfl) rfl rfl rfl ?_
  refine TO.nil ?_
  refine TE.next ?_
  refine TW.joinX (τ := Int × Bool × List Ent × List (List Ent)) (X := Value × Value) (fun T _ => [(2, .pointer (some ⟨B2, 0, none⟩)), (4, .pointer (some ⟨B13, 0, none⟩)), (5, .bool T.2.1)]) (fun T X => [.box B2 31 [.slice none 0 0, .slice none 0 0, .int .i64 (0 : Int), .slice none 0 0], .box B13 31 [X.1, X.2, .int .i64 T.1, Y12.2.2], .own X.1 (lc T.2.2.1), .own X.2 (lc T.2.2.2), .own Y12.2.2 (lc R10.Snaps)]) ?_ (fun T20 X21 => ?_)
  ·refine TW.cond rfl (fun H22 => ?_) (fun H22 => ?_)
   ·refine TW.seq ?_
    refine TW.region ?_
    refine TO.bind fun R23 H24 => ?_
    refine TO.ef (Ef.call (rest := [.box B2 31 [.slice none 0 0, .slice none 0 0, .int .i64 (0 : Int), .slice none 0 0], .own Y12.2.2 (lc R10.Snaps)]) [1, 1, 1, 0, 0] (impl_Eng_flush_con ({ Mem := R10.Mem, Tables := T14.2.2, Seq := T14.1, Snaps := R10.Snaps : Eng }) Y12.1 X15 Y12.2.2 B13 R23 H24) kc44 rfl rfl ⟨(Can.own 1 rfl), trivial⟩) rfl rfl rfl (fun Y25 => ?_)
    refine TO.y (Y.assign rfl) rfl rfl rfl ?_
    refine TO.nil ?_
    refine TE.next ?_
    refine TW.joinBX (τ := Bool) (X := Unit) (fun T _ => [(2, .pointer (some ⟨B2, 0, none⟩)), (4, .pointer (some ⟨B13, 0, none⟩)), (5, .bool T)]) (fun _ _ => [.box B2 31 [.slice none 0 0, .slice none 0 0, .int .i64 (0 : Int), .slice none 0 0], .box B13 31 [Y25.1, Y25.2, .int .i64 R23.2.Seq, Y12.2.2], .own Y25.1 (lc R23.2.Mem), .own Y25.2 (lc R23.2.Tables), .own Y12.2.2 (lc R10.Snaps)]) ?_ (fun T26 X27 => ?_)
    ·refine TW.region ?_
     refine TO.y (Y.move rfl) rfl rfl rfl ?_
     refine TO.y (Y.move rfl) rfl rfl rfl ?_
     refine TO.ite (b := T14.2.1) (fun H28 => ?_) (fun H28 => ?_)
     ·refine TO.off (Gd.at 1 false 24 T14.2.1 rfl rfl rfl (beq_tf H28)) rfl rfl ?_
      refine TO.y (Y.pick_t H28 rfl rfl) rfl rfl rfl ?_
      refine TO.y (Y.assign rfl) rfl rfl rfl ?_
      refine TO.nil ?_
      exact TE.jb_go () [3, 0, 0, 0, 0] ⟨rfl, rfl, rfl, trivial⟩ rfl
     refine TO.y (Y.move rfl) (Gd.at 1 false 24 T14.2.1 rfl rfl rfl (beq_ff H28)) rfl rfl ?_
     refine TO.y (Y.pick_f H28 rfl rfl) rfl rfl rfl ?_
     refine TO.y (Y.assign rfl) rfl rfl rfl ?_
     refine TO.nil ?_
     exact TE.jb_go () [3, 0, 0, 0, 0] ⟨rfl, rfl, rfl, trivial⟩ rfl
    exact TE.jn_go (Y25.1, Y25.2) [0, 0, 0, 0, 0] ⟨rfl, rfl, rfl, trivial⟩ rfl
   refine TW.skip ?_
   exact TE.jn_go (Y12.1, X15) [0, 0, 0, 0, 0] ⟨rfl, rfl, rfl, trivial⟩ rfl
  refine TE.next ?_
  refine TW.seq ?_
  refine TW.region ?_
  refine TO.y (Y.load_box (v := .agg #[X21.1, X21.2, .int .i64 T20.1, Y12.2.2]) 1 kk31 rfl rfl rfl) rfl rfl rfl ?_
  refine TO.y (Y.move rfl) rfl rfl rfl ?_
  refine TO.ef0 (Ef.store_box (us := [X21.1, X21.2, .int .i64 T20.1, Y12.2.2]) (vs' := [X21.1, X21.2, .int .i64 T20.1, Y12.2.2]) (is' := [.box B2 31 [X21.1, X21.2, .int .i64 T20.1, Y12.2.2], .box B13 31 [X21.1, X21.2, .int .i64 T20.1, Y12.2.2], .own X21.1 (lc T20.2.2.1), .own X21.2 (lc T20.2.2.2), .own Y12.2.2 (lc R10.Snaps)]) 0 kk31 rfl rfl rfl (Cel.agg ⟨(One.can (Can.own 2 rfl)), (One.can (Can.own 3 rfl)), (One.plain rfl), (One.can (Can.own 4 rfl)), trivial⟩) rfl rfl rfl rfl) rfl rfl (fun _ => ?_)
  refine TO.y (Y.assign rfl) rfl rfl rfl ?_
  refine TO.nil ?_
  refine TE.next ?_
  refine TW.ret ?_
  exact TE.leaf fun _ _ hf_ hs_ => ret_any (rs := [.cell 2 31, .tmp 3]) (vs := [.agg #[X21.1, X21.2, .int .i64 T20.1, Y12.2.2], .bool T20.2.1]) (.inl rfl) rfl (RV.cell 0 rfl rfl kk31 rfl ⟨rfl, trivial⟩) hf_ hs_ ⟨(X21.1, X21.2, Y12.2.2), rfl, hs_.pulls [2, 2, 2] rfl⟩

/-- loop.example/g00950/laws.eqEnt -/
noncomputable def laws_eqEnt (a : Ent) (b : Ent) : Option Bool :=
  if (!(decide (a.Key = b.Key))) = true then (some false)
  else (if (!(decide (a.Seq = b.Seq))) = true then (some false)
  else (if (!(decide (a.Del = b.Del))) = true then (some false)
  else (if (!(decide (a.Val = b.Val))) = true then (some false)
  else (some true))))

theorem laws_eqEnt_con (a : Ent) (b : Ent)  (r : Bool) (hm : laws_eqEnt a b = some r) :
    Con Try.prog 50 [.agg #[strV a.Key, .int .i64 a.Seq, .bool a.Del, strV a.Val], .agg #[strV b.Key, .int .i64 b.Seq, .bool b.Del, strV b.Val]] [] [] (fun _ : Unit => .bool r) (fun _ => []) := by
  refine Con.intro (args := [.agg #[strV a.Key, .int .i64 a.Seq, .bool a.Del, strV a.Val], .agg #[strV b.Key, .int .i64 b.Seq, .bool b.Del, strV b.Val]]) (n := 25) (val := fun r (_ : Unit) => .bool r) (post := fun _ _ => []) (m := laws_eqEnt a b) Try.func50 rfl rfl rfl hm ?_
  intro w S _
  unfold laws_eqEnt
  refine TW.seq ?_
  refine TW.region ?_
  refine TO.ef (Ef.box rfl (Cel.plain rfl rfl)) rfl rfl rfl (fun B1 => ?_)
  refine TO.ef (Ef.box rfl (Cel.plain rfl rfl)) rfl rfl rfl (fun B2 => ?_)
  refine TO.y (Y.assign rfl) rfl rfl rfl ?_
  refine TO.nil ?_
  refine TE.next ?_
  refine TW.seq ?_
  refine TW.seq ?_
  refine TW.region ?_
  refine TO.y (Y.field_box kf51_0 rfl rfl) rfl rfl rfl ?_
  refine TO.y (Y.load_box (v := strV a.Key) 1 kk9 rfl rfl rfl) rfl rfl rfl ?_
  refine TO.y (Y.field_box kf51_0 rfl rfl) rfl rfl rfl ?_
  refine TO.y (Y.load_box (v := strV b.Key) 0 kk9 rfl rfl rfl) rfl rfl rfl ?_
  refine TO.y (Y.sneq rfl rfl) rfl rfl rfl ?_
  refine TO.nil ?_
  refine TE.next ?_
  refine TW.cond rfl (fun H3 => ?_) (fun H3 => ?_)
  ·refine TW.seq ?_
   refine TW.region ?_
   refine TO.y (Y.assign rfl) rfl rfl rfl ?_
   refine TO.nil ?_
   refine TE.next ?_
   refine TW.ret ?_
   refine TE.then_ret ?_
   exact TE.leaf fun _ _ hf_ hs_ => ret_any (rs := [.tmp 4]) (vs := [.bool false]) (.inl rfl) rfl ⟨rfl, trivial⟩ hf_ hs_ ⟨(), rfl, hs_.pulls [] rfl⟩
  refine TW.skip ?_
  refine TE.next ?_
  refine TW.seq ?_
  refine TW.seq ?_
  refine TW.region ?_
  refine TO.y (Y.field_box kf51_1 rfl rfl) rfl rfl rfl ?_
  refine TO.y (Y.load_box (v := .int .i64 a.Seq) 1 kk3 rfl rfl rfl) rfl rfl rfl ?_
  refine TO.y (Y.field_box kf51_1 rfl rfl) rfl rfl rfl ?_
  refine TO.y (Y.load_box (v := .int .i64 b.Seq) 0 kk3 rfl rfl rfl) rfl rfl rfl ?_
  refine TO.y (Y.neq rfl rfl) rfl rfl rfl ?_
  refine TO.nil ?_
  refine TE.next ?_
  refine TW.cond rfl (fun H4 => ?_) (fun H4 => ?_)
  ·refine TW.seq ?_
   refine TW.region ?_
   refine TO.y (Y.assign rfl) rfl rfl rfl ?_
   refine TO.nil ?_
   refine TE.next ?_
   refine TW.ret ?_
   refine TE.then_ret ?_
   exact TE.leaf fun _ _ hf_ hs_ => ret_any (rs := [.tmp 4]) (vs := [.bool false]) (.inl rfl) rfl ⟨rfl, trivial⟩ hf_ hs_ ⟨(), rfl, hs_.pulls [] rfl⟩
  refine TW.skip ?_
  refine TE.next ?_
  refine TW.seq ?_
  refine TW.seq ?_
  refine TW.region ?_
  refine TO.y (Y.field_box kf51_2 rfl rfl) rfl rfl rfl ?_
  refine TO.y (Y.load_box (v := .bool a.Del) 1 kk4 rfl rfl rfl) rfl rfl rfl ?_
  refine TO.y (Y.field_box kf51_2 rfl rfl) rfl rfl rfl ?_
  refine TO.y (Y.load_box (v := .bool b.Del) 0 kk4 rfl rfl rfl) rfl rfl rfl ?_
  refine TO.y (Y.neb kb4 rfl rfl) rfl rfl rfl ?_
  refine TO.nil ?_
  refine TE.next ?_
  refine TW.cond rfl (fun H5 => ?_) (fun H5 => ?_)
  ·refine TW.seq ?_
   refine TW.region ?_
   refine TO.y (Y.assign rfl) rfl rfl rfl ?_
   refine TO.nil ?_
   refine TE.next ?_
   refine TW.ret ?_
   refine TE.then_ret ?_
   exact TE.leaf fun _ _ hf_ hs_ => ret_any (rs := [.tmp 4]) (vs := [.bool false]) (.inl rfl) rfl ⟨rfl, trivial⟩ hf_ hs_ ⟨(), rfl, hs_.pulls [] rfl⟩
  refine TW.skip ?_
  refine TE.next ?_
  refine TW.seq ?_
  refine TW.seq ?_
  refine TW.region ?_
  refine TO.y (Y.field_box kf51_3 rfl rfl) rfl rfl rfl ?_
  refine TO.y (Y.load_box (v := strV a.Val) 1 kk9 rfl rfl rfl) rfl rfl rfl ?_
  refine TO.y (Y.field_box kf51_3 rfl rfl) rfl rfl rfl ?_
  refine TO.y (Y.load_box (v := strV b.Val) 0 kk9 rfl rfl rfl) rfl rfl rfl ?_
  refine TO.y (Y.sneq rfl rfl) rfl rfl rfl ?_
  refine TO.nil ?_
  refine TE.next ?_
  refine TW.cond rfl (fun H6 => ?_) (fun H6 => ?_)
  ·refine TW.seq ?_
   refine TW.region ?_
   refine TO.y (Y.assign rfl) rfl rfl rfl ?_
   refine TO.nil ?_
   refine TE.next ?_
   refine TW.ret ?_
   refine TE.then_ret ?_
   exact TE.leaf fun _ _ hf_ hs_ => ret_any (rs := [.tmp 4]) (vs := [.bool false]) (.inl rfl) rfl ⟨rfl, trivial⟩ hf_ hs_ ⟨(), rfl, hs_.pulls [] rfl⟩
  refine TW.skip ?_
  refine TE.next ?_
  refine TW.seq ?_
  refine TW.region ?_
  refine TO.y (Y.assign rfl) rfl rfl rfl ?_
  refine TO.nil ?_
  refine TE.next ?_
  refine TW.ret ?_
  exact TE.leaf fun _ _ hf_ hs_ => ret_any (rs := [.tmp 4]) (vs := [.bool true]) (.inl rfl) rfl ⟨rfl, trivial⟩ hf_ hs_ ⟨(), rfl, hs_.pulls [] rfl⟩

/-- loop.example/g00950/laws.eqEntS -/
noncomputable def laws_eqEntS (a : List Ent) (b : List Ent) : Option Bool :=
  if (!(decide (((a.length : Nat) : Int) = ((b.length : Nat) : Int)))) = true then (some false)
  else (bindC (loopO (fun (S2 : Int) => if (decide (S2 < ((a.length : Nat) : Int))) = true then ((idx a S2).bind fun E7 =>
  (idx b S2).bind fun E9 =>
  (laws_eqEnt E7 E9).bind fun R11 =>
  if (!R11) = true then (some (.done (.done false)))
  else (some (.go (IntKind.i64.wrap (S2 + (1 : Int))))))
  else (some (.done (.go ()))))
  (0 : Int))
  (fun (T4 : Unit) => some true))

theorem laws_eqEntS_con (a : List Ent) (b : List Ent) (V_a0 : Value) (V_b0 : Value) (r : Bool) (hm : laws_eqEntS a b = some r) :
    Con Try.prog 20 [V_a0, V_b0] [] [(V_a0, lc a), (V_b0, lc b)] (fun _ : Unit => .bool r) (fun _ => []) := by
  refine Con.intro (args := [V_a0, V_b0]) (n := 27) (val := fun r (_ : Unit) => .bool r) (post := fun _ _ => []) (m := laws_eqEntS a b) Try.func20 rfl rfl rfl hm ?_
  intro w S hrd
  have HB_V_a0 := hrd _ (.head _)
  have HB_V_b0 := hrd _ (.tail _ (.head _))
  clear hrd
  unfold laws_eqEntS
  refine TW.seq ?_
  refine TW.region ?_
  refine TO.y (Y.assign rfl) rfl rfl rfl ?_
  refine TO.nil ?_
  refine TE.next ?_
  refine TW.seq ?_
  refine TW.seq ?_
  refine TW.region ?_
  refine TO.y (Y.move rfl) rfl rfl rfl ?_
  refine TO.y (Y.len (l := a) ke28 (Base.can HB_V_a0) rfl) rfl rfl rfl ?_
  refine TO.y (Y.move rfl) rfl rfl rfl ?_
  refine TO.y (Y.len (l := b) ke28 (Base.can HB_V_b0) rfl) rfl rfl rfl ?_
  refine TO.y (Y.neq rfl rfl) rfl rfl rfl ?_
  refine TO.nil ?_
  refine TE.next ?_
  refine TW.cond rfl (fun H1 => ?_) (fun H1 => ?_)
  ·refine TW.seq ?_
   refine TW.region ?_
   refine TO.y (Y.assign rfl) rfl rfl rfl ?_
   refine TO.nil ?_
   refine TE.next ?_
   refine TW.ret ?_
   refine TE.then_ret ?_
   exact TE.leaf fun _ _ hf_ hs_ => ret_any (rs := [.tmp 4]) (vs := [.bool false]) (.inl rfl) rfl ⟨rfl, trivial⟩ hf_ hs_ ⟨(), rfl, hs_.pulls [] rfl⟩
  refine TW.skip ?_
  refine TE.next ?_
  refine TW.seq ?_
  refine TW.seq ?_
  refine TW.region ?_
  refine TO.y (Y.assign rfl) rfl rfl rfl ?_
  refine TO.nil ?_
  refine TE.next ?_
  refine TW.joinX (τ := Unit) (X := Unit) (fun _ _ => []) (fun _ _ => []) ?_ (fun T4 X5 => ?_)
  ·refine TW.block ?_
   refine TW.loopX (σ := Int) (X := Unit) (fun T _ => [(0, V_a0), (1, V_b0), (5, .int .i64 T)]) (fun _ _ => []) () [] ⟨rfl, rfl, rfl, trivial⟩ rfl (fun S2 X3 => ?_)
   refine TW.seq ?_
   refine TW.seq ?_
   refine TW.region ?_
   refine TO.y (Y.move rfl) rfl rfl rfl ?_
   refine TO.y (Y.move rfl) rfl rfl rfl ?_
   refine TO.y (Y.len (l := a) ke28 (Base.can HB_V_a0) rfl) rfl rfl rfl ?_
   refine TO.y (Y.lss rfl rfl) rfl rfl rfl ?_
   refine TO.nil ?_
   refine TE.next ?_
   refine TW.cond rfl (fun H6 => ?_) (fun H6 => ?_)
   ·refine TW.skip ?_
    refine TE.next ?_
    refine TW.seq ?_
    refine TW.block ?_
    refine TW.seq ?_
    refine TW.draw (isH := []) hMix ?_
    refine TA.y 0 [] rfl (Y.move rfl) rfl rfl rfl (by kernel_rfl) rfl ?_
    refine TA.y 1 [] rfl (Y.move rfl) rfl rfl rfl (by kernel_rfl) rfl ?_
    refine TA.bind fun E7 H8 => ?_
    refine TA.y 2 [] rfl (Y.index ke28 (Base.can HB_V_a0) H8 rfl rfl) rfl rfl rfl (by kernel_rfl) rfl ?_
    refine TA.y 3 [] rfl (Y.load_el (us := [strV E7.Key, .int .i64 E7.Seq, .bool E7.Del, strV E7.Val]) (u := .agg #[strV E7.Key, .int .i64 E7.Seq, .bool E7.Del, strV E7.Val]) kk51 rfl (Base.can HB_V_a0) (idx_get H8).2.2 rfl rfl rfl rfl rfl) rfl rfl rfl (by kernel_rfl) rfl ?_
    refine TA.y 4 [] rfl (Y.move rfl) rfl rfl rfl (by kernel_rfl) rfl ?_
    refine TA.y 5 [] rfl (Y.move rfl) rfl rfl rfl (by kernel_rfl) rfl ?_
    refine TA.bind fun E9 H10 => ?_
    refine TA.y 6 [] rfl (Y.index ke28 (Base.can HB_V_b0) H10 rfl rfl) rfl rfl rfl (by kernel_rfl) rfl ?_
    refine TA.y 7 [] rfl (Y.load_el (us := [strV E9.Key, .int .i64 E9.Seq, .bool E9.Del, strV E9.Val]) (u := .agg #[strV E9.Key, .int .i64 E9.Seq, .bool E9.Del, strV E9.Val]) kk51 rfl (Base.can HB_V_b0) (idx_get H10).2.2 rfl rfl rfl rfl rfl) rfl rfl rfl (by kernel_rfl) rfl ?_
    refine TA.bind fun R11 H12 => ?_
    refine TA.one 8 (by kernel_rfl) ?_
    refine TX.ef [] rfl (Ef.call (rest := []) [] (laws_eqEnt_con E7 E9  R11 H12) kc50 rfl rfl trivial) rfl rfl rfl (fun _ => rfl) (fun _ => ?_)
    refine TA.y 9 [] rfl (Y.not rfl) rfl rfl rfl (by kernel_rfl) rfl ?_
    refine TA.nil (by kernel_rfl) ?_
    refine TE.next ?_
    refine TW.cond rfl (fun H14 => ?_) (fun H14 => ?_)
    ·refine TW.seq ?_
     refine TW.region ?_
     refine TO.y (Y.assign rfl) rfl rfl rfl ?_
     refine TO.nil ?_
     refine TE.next ?_
     refine TW.ret ?_
     refine TE.block_ret ?_
     refine TE.then_ret ?_
     refine TE.lp_ret ?_
     refine TE.block_ret ?_
     refine TE.jn_done ?_
     refine TE.then_ret ?_
     exact TE.leaf fun _ _ hf_ hs_ => ret_any (rs := [.tmp 4]) (vs := [.bool false]) (.inl rfl) rfl ⟨rfl, trivial⟩ hf_ hs_ ⟨(), rfl, hs_.pulls [] rfl⟩
    refine TW.skip ?_
    refine TE.block_normal ?_
    refine TE.next ?_
    refine TW.region ?_
    refine TO.y (Y.move rfl) rfl rfl rfl ?_
    refine TO.y (Y.add rfl rfl) rfl rfl rfl ?_
    refine TO.y (Y.assign rfl) rfl rfl rfl ?_
    refine TO.nil ?_
    exact TE.lp_go () [] ⟨rfl, rfl, rfl, trivial⟩ rfl
   refine TW.exit ?_
   refine TE.then_exit ?_
   refine TE.lp_exit ?_
   refine TE.block_exit ?_
   exact TE.jn_go () [] trivial rfl
  refine TE.next ?_
  refine TW.seq ?_
  refine TW.region ?_
  refine TO.y (Y.assign rfl) rfl rfl rfl ?_
  refine TO.nil ?_
  refine TE.next ?_
  refine TW.ret ?_
  exact TE.leaf fun _ _ hf_ hs_ => ret_any (rs := [.tmp 4]) (vs := [.bool true]) (.inl rfl) rfl ⟨rfl, trivial⟩ hf_ hs_ ⟨(), rfl, hs_.pulls [] rfl⟩

/-- loop.example/g00950/laws.eqEntSS -/
noncomputable def laws_eqEntSS (a : List (List Ent)) (b : List (List Ent)) : Option Bool :=
  if (!(decide (((a.length : Nat) : Int) = ((b.length : Nat) : Int)))) = true then (some false)
  else (bindC (loopO (fun (S2 : Int) => if (decide (S2 < ((a.length : Nat) : Int))) = true then ((idx a S2).bind fun E7 =>
  (idx b S2).bind fun E10 =>
  (laws_eqEntS E7 E10).bind fun R13 =>
  if (!R13) = true then (some (.done (.done false)))
  else (some (.go (IntKind.i64.wrap (S2 + (1 : Int))))))
  else (some (.done (.go ()))))
  (0 : Int))
  (fun (T4 : Unit) => some true))

theorem laws_eqEntSS_con (a : List (List Ent)) (b : List (List Ent)) (V_a0 : Value) (V_b0 : Value) (r : Bool) (hm : laws_eqEntSS a b = some r) :
    Con Try.prog 21 [V_a0, V_b0] [] [(V_a0, lc a), (V_b0, lc b)] (fun _ : Unit => .bool r) (fun _ => []) := by
  refine Con.intro (args := [V_a0, V_b0]) (n := 27) (val := fun r (_ : Unit) => .bool r) (post := fun _ _ => []) (m := laws_eqEntSS a b) Try.func21 rfl rfl rfl hm ?_
  intro w S hrd
  have HB_V_a0 := hrd _ (.head _)
  have HB_V_b0 := hrd _ (.tail _ (.head _))
  clear hrd
  unfold laws_eqEntSS
  refine TW.seq ?_
  refine TW.region ?_
  refine TO.y (Y.assign rfl) rfl rfl rfl ?_
  refine TO.nil ?_
  refine TE.next ?_
  refine TW.seq ?_
  refine TW.seq ?_
  refine TW.region ?_
  refine TO.y (Y.move rfl) rfl rfl rfl ?_
  refine TO.y (Y.len (l := a) ke29 (Base.can HB_V_a0) rfl) rfl rfl rfl ?_
  refine TO.y (Y.move rfl) rfl rfl rfl ?_
  refine TO.y (Y.len (l := b) ke29 (Base.can HB_V_b0) rfl) rfl rfl rfl ?_
  refine TO.y (Y.neq rfl rfl) rfl rfl rfl ?_
  refine TO.nil ?_
  refine TE.next ?_
  refine TW.cond rfl (fun H1 => ?_) (fun H1 => ?_)
  ·refine TW.seq ?_
   refine TW.region ?_
   refine TO.y (Y.assign rfl) rfl rfl rfl ?_
   refine TO.nil ?_
   refine TE.next ?_
   refine TW.ret ?_
   refine TE.then_ret ?_
   exact TE.leaf fun _ _ hf_ hs_ => ret_any (rs := [.tmp 4]) (vs := [.bool false]) (.inl rfl) rfl ⟨rfl, trivial⟩ hf_ hs_ ⟨(), rfl, hs_.pulls [] rfl⟩
  refine TW.skip ?_
  refine TE.next ?_
  refine TW.seq ?_
  refine TW.seq ?_
  refine TW.region ?_
  refine TO.y (Y.assign rfl) rfl rfl rfl ?_
  refine TO.nil ?_
  refine TE.next ?_
  refine TW.joinX (τ := Unit) (X := Unit) (fun _ _ => []) (fun _ _ => []) ?_ (fun T4 X5 => ?_)
  ·refine TW.block ?_
   refine TW.loopX (σ := Int) (X := Unit) (fun T _ => [(0, V_a0), (1, V_b0), (5, .int .i64 T)]) (fun _ _ => []) () [] ⟨rfl, rfl, rfl, trivial⟩ rfl (fun S2 X3 => ?_)
   refine TW.seq ?_
   refine TW.seq ?_
   refine TW.region ?_
   refine TO.y (Y.move rfl) rfl rfl rfl ?_
   refine TO.y (Y.move rfl) rfl rfl rfl ?_
   refine TO.y (Y.len (l := a) ke29 (Base.can HB_V_a0) rfl) rfl rfl rfl ?_
   refine TO.y (Y.lss rfl rfl) rfl rfl rfl ?_
   refine TO.nil ?_
   refine TE.next ?_
   refine TW.cond rfl (fun H6 => ?_) (fun H6 => ?_)
   ·refine TW.skip ?_
    refine TE.next ?_
    refine TW.seq ?_
    refine TW.block ?_
    refine TW.seq ?_
    refine TW.draw (isH := []) hMix ?_
    refine TA.y 0 [] rfl (Y.move rfl) rfl rfl rfl (by kernel_rfl) rfl ?_
    refine TA.y 1 [] rfl (Y.move rfl) rfl rfl rfl (by kernel_rfl) rfl ?_
    refine TA.bind fun E7 H8 => ?_
    refine TA.y 2 [] rfl (Y.index ke29 (Base.can HB_V_a0) H8 rfl rfl) rfl rfl rfl (by kernel_rfl) rfl ?_
    have Q9 : Base w S (elv w V_a0 (S2.toNat * 1 + 0)) (lc E7) := Base.el HB_V_a0 (idx_get H8).2.2 rfl rfl
    refine TA.y 3 [] rfl (Y.load_base (α := List Ent) (u := (elv w V_a0 (S2.toNat * 1 + 0))) kk28 rfl HB_V_a0 (idx_get H8).2.2 rfl rfl rfl rfl rfl) rfl rfl rfl (by kernel_rfl) rfl ?_
    refine TA.y 4 [] rfl (Y.move rfl) rfl rfl rfl (by kernel_rfl) rfl ?_
    refine TA.y 5 [] rfl (Y.move rfl) rfl rfl rfl (by kernel_rfl) rfl ?_
    refine TA.bind fun E10 H11 => ?_
    refine TA.y 6 [] rfl (Y.index ke29 (Base.can HB_V_b0) H11 rfl rfl) rfl rfl rfl (by kernel_rfl) rfl ?_
    have Q12 : Base w S (elv w V_b0 (S2.toNat * 1 + 0)) (lc E10) := Base.el HB_V_b0 (idx_get H11).2.2 rfl rfl
    refine TA.y 7 [] rfl (Y.load_base (α := List Ent) (u := (elv w V_b0 (S2.toNat * 1 + 0))) kk28 rfl HB_V_b0 (idx_get H11).2.2 rfl rfl rfl rfl rfl) rfl rfl rfl (by kernel_rfl) rfl ?_
    refine TA.bind fun R13 H14 => ?_
    refine TA.one 8 (by kernel_rfl) ?_
    refine TX.ef [] rfl (Ef.call (rest := []) [] (laws_eqEntS_con E7 E10 (elv w V_a0 (S2.toNat * 1 + 0)) (elv w V_b0 (S2.toNat * 1 + 0)) R13 H14) kc20 rfl rfl ⟨(Base.can Q9), (Base.can Q12), trivial⟩) rfl rfl rfl (fun _ => rfl) (fun _ => ?_)
    refine TA.y 9 [] rfl (Y.not rfl) rfl rfl rfl (by kernel_rfl) rfl ?_
    refine TA.nil (by kernel_rfl) ?_
    refine TE.next ?_
    refine TW.cond rfl (fun H16 => ?_) (fun H16 => ?_)
    ·refine TW.seq ?_
     refine TW.region ?_
     refine TO.y (Y.assign rfl) rfl rfl rfl ?_
     refine TO.nil ?_
     refine TE.next ?_
     refine TW.ret ?_
     refine TE.block_ret ?_
     refine TE.then_ret ?_
     refine TE.lp_ret ?_
     refine TE.block_ret ?_
     refine TE.jn_done ?_
     refine TE.then_ret ?_
     exact TE.leaf fun _ _ hf_ hs_ => ret_any (rs := [.tmp 4]) (vs := [.bool false]) (.inl rfl) rfl ⟨rfl, trivial⟩ hf_ hs_ ⟨(), rfl, hs_.pulls [] rfl⟩
    refine TW.skip ?_
    refine TE.block_normal ?_
    refine TE.next ?_
    refine TW.region ?_
    refine TO.y (Y.move rfl) rfl rfl rfl ?_
    refine TO.y (Y.add rfl rfl) rfl rfl rfl ?_
    refine TO.y (Y.assign rfl) rfl rfl rfl ?_
    refine TO.nil ?_
    exact TE.lp_go () [] ⟨rfl, rfl, rfl, trivial⟩ rfl
   refine TW.exit ?_
   refine TE.then_exit ?_
   refine TE.lp_exit ?_
   refine TE.block_exit ?_
   exact TE.jn_go () [] trivial rfl
  refine TE.next ?_
  refine TW.seq ?_
  refine TW.region ?_
  refine TO.y (Y.assign rfl) rfl rfl rfl ?_
  refine TO.nil ?_
  refine TE.next ?_
  refine TW.ret ?_
  exact TE.leaf fun _ _ hf_ hs_ => ret_any (rs := [.tmp 4]) (vs := [.bool true]) (.inl rfl) rfl ⟨rfl, trivial⟩ hf_ hs_ ⟨(), rfl, hs_.pulls [] rfl⟩

/-- loop.example/g00950/laws.eqIntS -/
noncomputable def laws_eqIntS (a : List Int) (b : List Int) : Option Bool :=
  if (!(decide (((a.length : Nat) : Int) = ((b.length : Nat) : Int)))) = true then (some false)
  else (bindC (loopO (fun (S2 : Int) => if (decide (S2 < ((a.length : Nat) : Int))) = true then ((idx a S2).bind fun E7 =>
  (idx b S2).bind fun E9 =>
  if (!(decide (E7 = E9))) = true then (some (.done (.done false)))
  else (some (.go (IntKind.i64.wrap (S2 + (1 : Int))))))
  else (some (.done (.go ()))))
  (0 : Int))
  (fun (T4 : Unit) => some true))

theorem laws_eqIntS_con (a : List Int) (b : List Int) (V_a0 : Value) (V_b0 : Value) (r : Bool) (hm : laws_eqIntS a b = some r) :
    Con Try.prog 39 [V_a0, V_b0] [] [(V_a0, lc a), (V_b0, lc b)] (fun _ : Unit => .bool r) (fun _ => []) := by
  refine Con.intro (args := [V_a0, V_b0]) (n := 26) (val := fun r (_ : Unit) => .bool r) (post := fun _ _ => []) (m := laws_eqIntS a b) Try.func39 rfl rfl rfl hm ?_
  intro w S hrd
  have HB_V_a0 := hrd _ (.head _)
  have HB_V_b0 := hrd _ (.tail _ (.head _))
  clear hrd
  unfold laws_eqIntS
  refine TW.seq ?_
  refine TW.region ?_
  refine TO.y (Y.assign rfl) rfl rfl rfl ?_
  refine TO.nil ?_
  refine TE.next ?_
  refine TW.seq ?_
  refine TW.seq ?_
  refine TW.region ?_
  refine TO.y (Y.move rfl) rfl rfl rfl ?_
  refine TO.y (Y.len (l := a) ke24 (Base.can HB_V_a0) rfl) rfl rfl rfl ?_
  refine TO.y (Y.move rfl) rfl rfl rfl ?_
  refine TO.y (Y.len (l := b) ke24 (Base.can HB_V_b0) rfl) rfl rfl rfl ?_
  refine TO.y (Y.neq rfl rfl) rfl rfl rfl ?_
  refine TO.nil ?_
  refine TE.next ?_
  refine TW.cond rfl (fun H1 => ?_) (fun H1 => ?_)
  ·refine TW.seq ?_
   refine TW.region ?_
   refine TO.y (Y.assign rfl) rfl rfl rfl ?_
   refine TO.nil ?_
   refine TE.next ?_
   refine TW.ret ?_
   refine TE.then_ret ?_
   exact TE.leaf fun _ _ hf_ hs_ => ret_any (rs := [.tmp 4]) (vs := [.bool false]) (.inl rfl) rfl ⟨rfl, trivial⟩ hf_ hs_ ⟨(), rfl, hs_.pulls [] rfl⟩
  refine TW.skip ?_
  refine TE.next ?_
  refine TW.seq ?_
  refine TW.seq ?_
  refine TW.region ?_
  refine TO.y (Y.assign rfl) rfl rfl rfl ?_
  refine TO.nil ?_
  refine TE.next ?_
  refine TW.joinX (τ := Unit) (X := Unit) (fun _ _ => []) (fun _ _ => []) ?_ (fun T4 X5 => ?_)
  ·refine TW.block ?_
   refine TW.loopX (σ := Int) (X := Unit) (fun T _ => [(0, V_a0), (1, V_b0), (5, .int .i64 T)]) (fun _ _ => []) () [] ⟨rfl, rfl, rfl, trivial⟩ rfl (fun S2 X3 => ?_)
   refine TW.seq ?_
   refine TW.seq ?_
   refine TW.region ?_
   refine TO.y (Y.move rfl) rfl rfl rfl ?_
   refine TO.y (Y.move rfl) rfl rfl rfl ?_
   refine TO.y (Y.len (l := a) ke24 (Base.can HB_V_a0) rfl) rfl rfl rfl ?_
   refine TO.y (Y.lss rfl rfl) rfl rfl rfl ?_
   refine TO.nil ?_
   refine TE.next ?_
   refine TW.cond rfl (fun H6 => ?_) (fun H6 => ?_)
   ·refine TW.skip ?_
    refine TE.next ?_
    refine TW.seq ?_
    refine TW.block ?_
    refine TW.seq ?_
    refine TW.draw (isH := []) hMix ?_
    refine TA.y 0 [] rfl (Y.move rfl) rfl rfl rfl (by kernel_rfl) rfl ?_
    refine TA.y 1 [] rfl (Y.move rfl) rfl rfl rfl (by kernel_rfl) rfl ?_
    refine TA.bind fun E7 H8 => ?_
    refine TA.y 2 [] rfl (Y.index ke24 (Base.can HB_V_a0) H8 rfl rfl) rfl rfl rfl (by kernel_rfl) rfl ?_
    refine TA.y 3 [] rfl (Y.load_el (us := [.int .i64 E7]) (u := .int .i64 E7) kk3 rfl (Base.can HB_V_a0) (idx_get H8).2.2 rfl rfl rfl rfl rfl) rfl rfl rfl (by kernel_rfl) rfl ?_
    refine TA.y 4 [] rfl (Y.move rfl) rfl rfl rfl (by kernel_rfl) rfl ?_
    refine TA.y 5 [] rfl (Y.move rfl) rfl rfl rfl (by kernel_rfl) rfl ?_
    refine TA.bind fun E9 H10 => ?_
    refine TA.y 6 [] rfl (Y.index ke24 (Base.can HB_V_b0) H10 rfl rfl) rfl rfl rfl (by kernel_rfl) rfl ?_
    refine TA.y 7 [] rfl (Y.load_el (us := [.int .i64 E9]) (u := .int .i64 E9) kk3 rfl (Base.can HB_V_b0) (idx_get H10).2.2 rfl rfl rfl rfl rfl) rfl rfl rfl (by kernel_rfl) rfl ?_
    refine TA.y 8 [] rfl (Y.neq rfl rfl) rfl rfl rfl (by kernel_rfl) rfl ?_
    refine TA.nil (by kernel_rfl) ?_
    refine TE.next ?_
    refine TW.cond rfl (fun H11 => ?_) (fun H11 => ?_)
    ·refine TW.seq ?_
     refine TW.region ?_
     refine TO.y (Y.assign rfl) rfl rfl rfl ?_
     refine TO.nil ?_
     refine TE.next ?_
     refine TW.ret ?_
     refine TE.block_ret ?_
     refine TE.then_ret ?_
     refine TE.lp_ret ?_
     refine TE.block_ret ?_
     refine TE.jn_done ?_
     refine TE.then_ret ?_
     exact TE.leaf fun _ _ hf_ hs_ => ret_any (rs := [.tmp 4]) (vs := [.bool false]) (.inl rfl) rfl ⟨rfl, trivial⟩ hf_ hs_ ⟨(), rfl, hs_.pulls [] rfl⟩
    refine TW.skip ?_
    refine TE.block_normal ?_
    refine TE.next ?_
    refine TW.region ?_
    refine TO.y (Y.move rfl) rfl rfl rfl ?_
    refine TO.y (Y.add rfl rfl) rfl rfl rfl ?_
    refine TO.y (Y.assign rfl) rfl rfl rfl ?_
    refine TO.nil ?_
    exact TE.lp_go () [] ⟨rfl, rfl, rfl, trivial⟩ rfl
   refine TW.exit ?_
   refine TE.then_exit ?_
   refine TE.lp_exit ?_
   refine TE.block_exit ?_
   exact TE.jn_go () [] trivial rfl
  refine TE.next ?_
  refine TW.seq ?_
  refine TW.region ?_
  refine TO.y (Y.assign rfl) rfl rfl rfl ?_
  refine TO.nil ?_
  refine TE.next ?_
  refine TW.ret ?_
  exact TE.leaf fun _ _ hf_ hs_ => ret_any (rs := [.tmp 4]) (vs := [.bool true]) (.inl rfl) rfl ⟨rfl, trivial⟩ hf_ hs_ ⟨(), rfl, hs_.pulls [] rfl⟩

/-- loop.example/g00950/laws.eqEng -/
noncomputable def laws_eqEng (a : Eng) (b : Eng) : Option Bool :=
  (laws_eqEntS a.Mem b.Mem).bind fun R3 =>
  if (!R3) = true then (some false)
  else ((laws_eqEntSS a.Tables b.Tables).bind fun R7 =>
  if (!R7) = true then (some false)
  else (if (!(decide (a.Seq = b.Seq))) = true then (some false)
  else ((laws_eqIntS a.Snaps b.Snaps).bind fun R12 =>
  if (!R12) = true then (some false)
  else (some true))))

theorem laws_eqEng_con (a : Eng) (b : Eng) (V_a0 : Value) (V_a1 : Value) (V_a3 : Value) (V_b0 : Value) (V_b1 : Value) (V_b3 : Value) (r : Bool) (hm : laws_eqEng a b = some r) :
    Con Try.prog 11 [.agg #[V_a0, V_a1, .int .i64 a.Seq, V_a3], .agg #[V_b0, V_b1, .int .i64 b.Seq, V_b3]] [] [(V_a0, lc a.Mem), (V_a1, lc a.Tables), (V_a3, lc a.Snaps), (V_b0, lc b.Mem), (V_b1, lc b.Tables), (V_b3, lc b.Snaps)] (fun _ : Unit => .bool r) (fun _ => []) := by
  refine Con.intro (args := [.agg #[V_a0, V_a1, .int .i64 a.Seq, V_a3], .agg #[V_b0, V_b1, .int .i64 b.Seq, V_b3]]) (n := 28) (val := fun r (_ : Unit) => .bool r) (post := fun _ _ => []) (m := laws_eqEng a b) Try.func11 rfl rfl rfl hm ?_
  intro w S hrd
  have HB_V_a0 := hrd _ (.head _)
  have HB_V_a1 := hrd _ (.tail _ (.head _))
  have HB_V_a3 := hrd _ (.tail _ (.tail _ (.head _)))
  have HB_V_b0 := hrd _ (.tail _ (.tail _ (.tail _ (.head _))))
  have HB_V_b1 := hrd _ (.tail _ (.tail _ (.tail _ (.tail _ (.head _)))))
  have HB_V_b3 := hrd _ (.tail _ (.tail _ (.tail _ (.tail _ (.tail _ (.head _))))))
  clear hrd
  unfold laws_eqEng
  refine TW.seq ?_
  refine TW.region ?_
  refine TO.ef (Ef.box rfl (Cel.agg ⟨(One.can (Base.can HB_V_a0)), (One.can (Base.can HB_V_a1)), (One.plain rfl), (One.can (Base.can HB_V_a3)), trivial⟩)) rfl rfl rfl (fun B1 => ?_)
  refine TO.ef (Ef.box rfl (Cel.agg ⟨(One.can (Base.can HB_V_b0)), (One.can (Base.can HB_V_b1)), (One.plain rfl), (One.can (Base.can HB_V_b3)), trivial⟩)) rfl rfl rfl (fun B2 => ?_)
  refine TO.y (Y.assign rfl) rfl rfl rfl ?_
  refine TO.nil ?_
  refine TE.next ?_
  refine TW.seq ?_
  refine TW.seq ?_
  refine TW.region ?_
  refine TO.y (Y.field_box kf31_0 rfl rfl) rfl rfl rfl ?_
  refine TO.y (Y.load_box (v := V_a0) 1 kk28 rfl rfl rfl) rfl rfl rfl ?_
  refine TO.y (Y.field_box kf31_0 rfl rfl) rfl rfl rfl ?_
  refine TO.y (Y.load_box (v := V_b0) 0 kk28 rfl rfl rfl) rfl rfl rfl ?_
  refine TO.bind fun R3 H4 => ?_
  refine TO.ef (Ef.call (rest := [.box B2 31 [V_b0, V_b1, .int .i64 b.Seq, V_b3], .box B1 31 [V_a0, V_a1, .int .i64 a.Seq, V_a3]]) [0, 0] (laws_eqEntS_con a.Mem b.Mem V_a0 V_b0 R3 H4) kc20 rfl rfl ⟨(Base.can HB_V_a0), (Base.can HB_V_b0), trivial⟩) rfl rfl rfl (fun _ => ?_)
  refine TO.y (Y.not rfl) rfl rfl rfl ?_
  refine TO.nil ?_
  refine TE.next ?_
  refine TW.cond rfl (fun H6 => ?_) (fun H6 => ?_)
  ·refine TW.seq ?_
   refine TW.region ?_
   refine TO.y (Y.assign rfl) rfl rfl rfl ?_
   refine TO.nil ?_
   refine TE.next ?_
   refine TW.ret ?_
   refine TE.then_ret ?_
   exact TE.leaf fun _ _ hf_ hs_ => ret_any (rs := [.tmp 4]) (vs := [.bool false]) (.inl rfl) rfl ⟨rfl, trivial⟩ hf_ hs_ ⟨(), rfl, hs_.pulls [] rfl⟩
  refine TW.skip ?_
  refine TE.next ?_
  refine TW.seq ?_
  refine TW.seq ?_
  refine TW.region ?_
  refine TO.y (Y.field_box kf31_1 rfl rfl) rfl rfl rfl ?_
  refine TO.y (Y.load_box (v := V_a1) 1 kk29 rfl rfl rfl) rfl rfl rfl ?_
  refine TO.y (Y.field_box kf31_1 rfl rfl) rfl rfl rfl ?_
  refine TO.y (Y.load_box (v := V_b1) 0 kk29 rfl rfl rfl) rfl rfl rfl ?_
  refine TO.bind fun R7 H8 => ?_
  refine TO.ef (Ef.call (rest := [.box B2 31 [V_b0, V_b1, .int .i64 b.Seq, V_b3], .box B1 31 [V_a0, V_a1, .int .i64 a.Seq, V_a3]]) [0, 0] (laws_eqEntSS_con a.Tables b.Tables V_a1 V_b1 R7 H8) kc21 rfl rfl ⟨(Base.can HB_V_a1), (Base.can HB_V_b1), trivial⟩) rfl rfl rfl (fun _ => ?_)
  refine TO.y (Y.not rfl) rfl rfl rfl ?_
  refine TO.nil ?_
  refine TE.next ?_
  refine TW.cond rfl (fun H10 => ?_) (fun H10 => ?_)
  ·refine TW.seq ?_
   refine TW.region ?_
   refine TO.y (Y.assign rfl) rfl rfl rfl ?_
   refine TO.nil ?_
   refine TE.next ?_
   refine TW.ret ?_
   refine TE.then_ret ?_
   exact TE.leaf fun _ _ hf_ hs_ => ret_any (rs := [.tmp 4]) (vs := [.bool false]) (.inl rfl) rfl ⟨rfl, trivial⟩ hf_ hs_ ⟨(), rfl, hs_.pulls [] rfl⟩
  refine TW.skip ?_
  refine TE.next ?_
  refine TW.seq ?_
  refine TW.seq ?_
  refine TW.region ?_
  refine TO.y (Y.field_box kf31_2 rfl rfl) rfl rfl rfl ?_
  refine TO.y (Y.load_box (v := .int .i64 a.Seq) 1 kk3 rfl rfl rfl) rfl rfl rfl ?_
  refine TO.y (Y.field_box kf31_2 rfl rfl) rfl rfl rfl ?_
  refine TO.y (Y.load_box (v := .int .i64 b.Seq) 0 kk3 rfl rfl rfl) rfl rfl rfl ?_
  refine TO.y (Y.neq rfl rfl) rfl rfl rfl ?_
  refine TO.nil ?_
  refine TE.next ?_
  refine TW.cond rfl (fun H11 => ?_) (fun H11 => ?_)
  ·refine TW.seq ?_
   refine TW.region ?_
   refine TO.y (Y.assign rfl) rfl rfl rfl ?_
   refine TO.nil ?_
   refine TE.next ?_
   refine TW.ret ?_
   refine TE.then_ret ?_
   exact TE.leaf fun _ _ hf_ hs_ => ret_any (rs := [.tmp 4]) (vs := [.bool false]) (.inl rfl) rfl ⟨rfl, trivial⟩ hf_ hs_ ⟨(), rfl, hs_.pulls [] rfl⟩
  refine TW.skip ?_
  refine TE.next ?_
  refine TW.seq ?_
  refine TW.seq ?_
  refine TW.region ?_
  refine TO.y (Y.field_box kf31_3 rfl rfl) rfl rfl rfl ?_
  refine TO.y (Y.load_box (v := V_a3) 1 kk24 rfl rfl rfl) rfl rfl rfl ?_
  refine TO.y (Y.field_box kf31_3 rfl rfl) rfl rfl rfl ?_
  refine TO.y (Y.load_box (v := V_b3) 0 kk24 rfl rfl rfl) rfl rfl rfl ?_
  refine TO.bind fun R12 H13 => ?_
  refine TO.ef (Ef.call (rest := [.box B2 31 [V_b0, V_b1, .int .i64 b.Seq, V_b3], .box B1 31 [V_a0, V_a1, .int .i64 a.Seq, V_a3]]) [0, 0] (laws_eqIntS_con a.Snaps b.Snaps V_a3 V_b3 R12 H13) kc39 rfl rfl ⟨(Base.can HB_V_a3), (Base.can HB_V_b3), trivial⟩) rfl rfl rfl (fun _ => ?_)
  refine TO.y (Y.not rfl) rfl rfl rfl ?_
  refine TO.nil ?_
  refine TE.next ?_
  refine TW.cond rfl (fun H15 => ?_) (fun H15 => ?_)
  ·refine TW.seq ?_
   refine TW.region ?_
   refine TO.y (Y.assign rfl) rfl rfl rfl ?_
   refine TO.nil ?_
   refine TE.next ?_
   refine TW.ret ?_
   refine TE.then_ret ?_
   exact TE.leaf fun _ _ hf_ hs_ => ret_any (rs := [.tmp 4]) (vs := [.bool false]) (.inl rfl) rfl ⟨rfl, trivial⟩ hf_ hs_ ⟨(), rfl, hs_.pulls [] rfl⟩
  refine TW.skip ?_
  refine TE.next ?_
  refine TW.seq ?_
  refine TW.region ?_
  refine TO.y (Y.assign rfl) rfl rfl rfl ?_
  refine TO.nil ?_
  refine TE.next ?_
  refine TW.ret ?_
  exact TE.leaf fun _ _ hf_ hs_ => ret_any (rs := [.tmp 4]) (vs := [.bool true]) (.inl rfl) rfl ⟨rfl, trivial⟩ hf_ hs_ ⟨(), rfl, hs_.pulls [] rfl⟩

/-- loop.example/g00950/laws.markText -/
noncomputable def laws_markText (k : Int) : Option (List UInt8) :=
  if (decide (k ≤ (0 : Int))) = true then (some ([109, 48]))
  else (bindC (loopO (fun (S2 : Int × List UInt8) => if (decide (S2.1 > (0 : Int))) = true then ((cat ([toU8 (IntKind.i64.wrap ((48 : Int) + (Int.tmod S2.1 (10 : Int))))]) S2.2).bind fun E8 =>
  some (.go (IntKind.i64.wrap (Int.tdiv S2.1 (10 : Int)), E8)))
  else (some (.done (.go S2.2))))
  (k, []))
  (fun (T4 : List UInt8) => (cat ([109]) T4).bind fun E10 =>
  some E10))

theorem laws_markText_con (k : Int)  (r : List UInt8) (hm : laws_markText k = some r) :
    Con Try.prog 51 [.int .i64 k] [] [] (fun _ : Unit => strV r) (fun _ => []) := by
  refine Con.intro (args := [.int .i64 k]) (n := 20) (val := fun r (_ : Unit) => strV r) (post := fun _ _ => []) (m := laws_markText k) Try.func51 rfl rfl rfl hm ?_
  intro w S _
  unfold laws_markText
  refine TW.seq ?_
  refine TW.region ?_
  refine TO.y (Y.assign rfl) rfl rfl rfl ?_
  refine TO.nil ?_
  refine TE.next ?_
  refine TW.seq ?_
  refine TW.seq ?_
  refine TW.region ?_
  refine TO.y (Y.move rfl) rfl rfl rfl ?_
  refine TO.y (Y.leq rfl rfl) rfl rfl rfl ?_
  refine TO.nil ?_
  refine TE.next ?_
  refine TW.cond rfl (fun H1 => ?_) (fun H1 => ?_)
  ·refine TW.seq ?_
   refine TW.region ?_
   refine TO.y (Y.assign rfl) rfl rfl rfl ?_
   refine TO.nil ?_
   refine TE.next ?_
   refine TW.ret ?_
   refine TE.then_ret ?_
   exact TE.leaf fun _ _ hf_ hs_ => ret_any (rs := [.tmp 2]) (vs := [strV ([109, 48])]) (.inl rfl) rfl ⟨rfl, trivial⟩ hf_ hs_ ⟨(), rfl, hs_.pulls [] rfl⟩
  refine TW.skip ?_
  refine TE.next ?_
  refine TW.seq ?_
  refine TW.region ?_
  refine TO.y (Y.assign rfl) rfl rfl rfl ?_
  refine TO.nil ?_
  refine TE.next ?_
  refine TW.seq ?_
  refine TW.joinX (τ := List UInt8) (X := Unit) (fun T _ => [(3, strV T)]) (fun _ _ => []) ?_ (fun T4 X5 => ?_)
  ·refine TW.block ?_
   refine TW.loopX (σ := Int × List UInt8) (X := Unit) (fun T _ => [(0, .int .i64 T.1), (3, strV T.2)]) (fun _ _ => []) () [] ⟨rfl, rfl, trivial⟩ rfl (fun S2 X3 => ?_)
   refine TW.seq ?_
   refine TW.seq ?_
   refine TW.region ?_
   refine TO.y (Y.move rfl) rfl rfl rfl ?_
   refine TO.y (Y.gtr rfl rfl) rfl rfl rfl ?_
   refine TO.nil ?_
   refine TE.next ?_
   refine TW.cond rfl (fun H6 => ?_) (fun H6 => ?_)
   ·refine TW.skip ?_
    refine TE.next ?_
    refine TW.block ?_
    refine TW.seq ?_
    refine TW.region ?_
    refine TO.y (Y.move rfl) rfl rfl rfl ?_
    refine TO.y (Y.rem (by decide) rfl rfl) rfl rfl rfl ?_
    refine TO.y (Y.add rfl rfl) rfl rfl rfl ?_
    refine TO.y (Y.conv8 ki3 ki5 rfl) rfl rfl rfl ?_
    refine TO.ef (Ef.buildSlice (α := UInt8) (Vs := [.int .u8 (((toU8 (IntKind.i64.wrap ((48 : Int) + (Int.tmod S2.1 (10 : Int))))).toNat : Nat) : Int)]) [toU8 (IntKind.i64.wrap ((48 : Int) + (Int.tmod S2.1 (10 : Int))))] ke46 kz5 rfl rfl rfl rfl rfl) rfl rfl rfl (fun B7 => ?_)
    refine TO.y (Y.toStr ke46 ki5 ks9 (Can.own 0 rfl) rfl) rfl rfl rfl ?_
    refine TO.y (Y.move rfl) rfl rfl rfl ?_
    refine TO.bind fun E8 H9 => ?_
    refine TO.y (Y.cat H9 rfl rfl) rfl rfl rfl ?_
    refine TO.y (Y.assign rfl) rfl rfl rfl ?_
    refine TO.nil ?_
    refine TE.next ?_
    refine TW.region ?_
    refine TO.y (Y.move rfl) rfl rfl rfl ?_
    refine TO.y (Y.quo (by decide) rfl rfl) rfl rfl rfl ?_
    refine TO.y (Y.assign rfl) rfl rfl rfl ?_
    refine TO.nil ?_
    refine TE.block_normal ?_
    exact TE.lp_go () [] ⟨rfl, rfl, trivial⟩ rfl
   refine TW.exit ?_
   refine TE.then_exit ?_
   refine TE.lp_exit ?_
   refine TE.block_exit ?_
   exact TE.jn_go () [] ⟨rfl, trivial⟩ rfl
  refine TE.next ?_
  refine TW.seq ?_
  refine TW.region ?_
  refine TO.y (Y.move rfl) rfl rfl rfl ?_
  refine TO.bind fun E10 H11 => ?_
  refine TO.y (Y.cat H11 rfl rfl) rfl rfl rfl ?_
  refine TO.y (Y.assign rfl) rfl rfl rfl ?_
  refine TO.nil ?_
  refine TE.next ?_
  refine TW.ret ?_
  exact TE.leaf fun _ _ hf_ hs_ => ret_any (rs := [.tmp 2]) (vs := [strV E10]) (.inl rfl) rfl ⟨rfl, trivial⟩ hf_ hs_ ⟨(), rfl, hs_.pulls [] rfl⟩

/-- loop.example/g00950/laws.markEntS -/
noncomputable def laws_markEntS (a : List Ent) (k : Int) : Option (Int × List Ent) :=
  bindC (loopO (fun (S1 : Int × Int × List Ent) => if (decide (S1.2.1 < ((S1.2.2.length : Nat) : Int))) = true then ((laws_markText S1.1).bind fun R6 =>
  (idx S1.2.2 S1.2.1).bind fun E9 =>
  (laws_markText (IntKind.i64.wrap (IntKind.i64.wrap (IntKind.i64.wrap (S1.1 + (1 : Int)) + (1 : Int)) + (1 : Int)))).bind fun R11 =>
  some (.go (IntKind.i64.wrap (IntKind.i64.wrap (IntKind.i64.wrap (IntKind.i64.wrap (S1.1 + (1 : Int)) + (1 : Int)) + (1 : Int)) + (1 : Int)), IntKind.i64.wrap (S1.2.1 + (1 : Int)), (S1.2.2.set S1.2.1.toNat ({ Key := R6, Seq := (IntKind.i64.wrap (S1.1 + (1 : Int))), Del := (decide (Int.tmod (IntKind.i64.wrap (IntKind.i64.wrap (S1.1 + (1 : Int)) + (1 : Int))) (3 : Int) = (0 : Int))), Val := R11 : Ent })))))
  else (some (.done (.go (S1.1, S1.2.2)))))
  (k, (0 : Int), a))
  (fun (T3 : Int × List Ent) => some (T3.1, T3.2))

theorem laws_markEntS_con (a : List Ent) (k : Int) (V_a0 : Value) (r : Int × List Ent) (hm : laws_markEntS a k = some r) :
    Con Try.prog 23 [V_a0, .int .i64 k] [.own V_a0 (lc a)] [] (fun _ : Unit => .int .i64 r.1) (fun _ => [.own V_a0 (lc r.2)]) := by
  refine Con.intro (args := [V_a0, .int .i64 k]) (n := 45) (val := fun r (_ : Unit) => .int .i64 r.1) (post := fun r _ => [.own V_a0 (lc r.2)]) (m := laws_markEntS a k) Try.func23 rfl rfl rfl hm ?_
  intro w S _
  unfold laws_markEntS
  refine TW.seq ?_
  refine TW.region ?_
  refine TO.y (Y.assign rfl) rfl rfl rfl ?_
  refine TO.nil ?_
  refine TE.next ?_
  refine TW.seq ?_
  refine TW.seq ?_
  refine TW.region ?_
  refine TO.y (Y.assign rfl) rfl rfl rfl ?_
  refine TO.nil ?_
  refine TE.next ?_
  refine TW.joinX (τ := Int × List Ent) (X := Unit) (fun T _ => [(1, .int .i64 T.1)]) (fun T _ => [.own V_a0 (lc T.2)]) ?_ (fun T3 X4 => ?_)
  ·refine TW.block ?_
   refine TW.loopX (σ := Int × Int × List Ent) (X := Unit) (fun T _ => [(0, V_a0), (1, .int .i64 T.1), (5, .int .i64 T.2.1)]) (fun T _ => [.own V_a0 (lc T.2.2)]) () [0] ⟨rfl, rfl, rfl, trivial⟩ rfl (fun S1 X2 => ?_)
   refine TW.seq ?_
   refine TW.seq ?_
   refine TW.region ?_
   refine TO.y (Y.move rfl) rfl rfl rfl ?_
   refine TO.y (Y.move rfl) rfl rfl rfl ?_
   refine TO.y (Y.len (l := S1.2.2) ke28 (Can.own 0 rfl) rfl) rfl rfl rfl ?_
   refine TO.y (Y.lss rfl rfl) rfl rfl rfl ?_
   refine TO.nil ?_
   refine TE.next ?_
   refine TW.cond rfl (fun H5 => ?_) (fun H5 => ?_)
   ·refine TW.skip ?_
    refine TE.next ?_
    refine TW.seq ?_
    refine TW.block ?_
    refine TW.seq ?_
    refine TW.region ?_
    refine TO.y (Y.move rfl) rfl rfl rfl ?_
    refine TO.y (Y.move rfl) rfl rfl rfl ?_
    refine TO.y (Y.move rfl) rfl rfl rfl ?_
    refine TO.bind fun R6 H7 => ?_
    refine TO.ef (Ef.call (rest := [.own V_a0 (lc S1.2.2)]) [0] (laws_markText_con S1.1  R6 H7) kc51 rfl rfl trivial) rfl rfl rfl (fun _ => ?_)
    refine TO.bind fun E9 H10 => ?_
    refine TO.y (Y.index ke28 (Can.own 0 rfl) H10 rfl rfl) rfl rfl rfl ?_
    refine TO.y (Y.field_el kf51_0 (Can.own 0 rfl) (idx_get H10).2.2 rfl rfl) rfl rfl rfl ?_
    refine TO.ef0 (Ef.store_el (us := [strV R6]) (is' := [.own V_a0 (lc (S1.2.2.set S1.2.1.toNat ({ Key := R6, Seq := E9.Seq, Del := E9.Del, Val := E9.Val : Ent })))]) ({ Key := R6, Seq := E9.Seq, Del := E9.Del, Val := E9.Val : Ent }) 0 kk9 rfl rfl (idx_get H10).2.2 rfl rfl (Cel.plain rfl rfl) rfl rfl rfl rfl) rfl rfl (fun _ => ?_)
    refine TO.nil ?_
    refine TE.next ?_
    refine TW.seq ?_
    refine TW.region ?_
    refine TO.y (Y.move rfl) rfl rfl rfl ?_
    refine TO.y (Y.add rfl rfl) rfl rfl rfl ?_
    refine TO.y (Y.assign rfl) rfl rfl rfl ?_
    refine TO.nil ?_
    refine TE.next ?_
    refine TW.seq ?_
    refine TW.region ?_
    refine TO.y (Y.move rfl) rfl rfl rfl ?_
    refine TO.y (Y.move rfl) rfl rfl rfl ?_
    refine TO.y (Y.move rfl) rfl rfl rfl ?_
    refine TO.y (Y.index ke28 (Can.own 0 rfl) (idx_set H10) rfl rfl) rfl rfl rfl ?_
    refine TO.y (Y.field_el kf51_1 (Can.own 0 rfl) (idx_get (idx_set H10)).2.2 rfl rfl) rfl rfl rfl ?_
    refine TO.ef0 (Ef.store_el (us := [.int .i64 (IntKind.i64.wrap (S1.1 + (1 : Int)))]) (is' := [.own V_a0 (lc (S1.2.2.set S1.2.1.toNat ({ Key := R6, Seq := IntKind.i64.wrap (S1.1 + (1 : Int)), Del := E9.Del, Val := E9.Val : Ent })))]) ({ Key := R6, Seq := IntKind.i64.wrap (S1.1 + (1 : Int)), Del := E9.Del, Val := E9.Val : Ent }) 0 kk3 rfl rfl (idx_get (idx_set H10)).2.2 rfl rfl (Cel.plain rfl rfl) rfl rfl rfl (by rw [List.set_set]; rfl)) rfl rfl (fun _ => ?_)
    refine TO.nil ?_
    refine TE.next ?_
    refine TW.seq ?_
    refine TW.region ?_
    refine TO.y (Y.move rfl) rfl rfl rfl ?_
    refine TO.y (Y.add rfl rfl) rfl rfl rfl ?_
    refine TO.y (Y.assign rfl) rfl rfl rfl ?_
    refine TO.nil ?_
    refine TE.next ?_
    refine TW.seq ?_
    refine TW.region ?_
    refine TO.y (Y.move rfl) rfl rfl rfl ?_
    refine TO.y (Y.move rfl) rfl rfl rfl ?_
    refine TO.y (Y.move rfl) rfl rfl rfl ?_
    refine TO.y (Y.rem (by decide) rfl rfl) rfl rfl rfl ?_
    refine TO.y (Y.eql rfl rfl) rfl rfl rfl ?_
    refine TO.y (Y.index ke28 (Can.own 0 rfl) (idx_set H10) rfl rfl) rfl rfl rfl ?_
    refine TO.y (Y.field_el kf51_2 (Can.own 0 rfl) (idx_get (idx_set H10)).2.2 rfl rfl) rfl rfl rfl ?_
    refine TO.ef0 (Ef.store_el (us := [.bool (decide (Int.tmod (IntKind.i64.wrap (IntKind.i64.wrap (S1.1 + (1 : Int)) + (1 : Int))) (3 : Int) = (0 : Int)))]) (is' := [.own V_a0 (lc (S1.2.2.set S1.2.1.toNat ({ Key := R6, Seq := (IntKind.i64.wrap (S1.1 + (1 : Int))), Del := decide (Int.tmod (IntKind.i64.wrap (IntKind.i64.wrap (S1.1 + (1 : Int)) + (1 : Int))) (3 : Int) = (0 : Int)), Val := E9.Val : Ent })))]) ({ Key := R6, Seq := (IntKind.i64.wrap (S1.1 + (1 : Int))), Del := decide (Int.tmod (IntKind.i64.wrap (IntKind.i64.wrap (S1.1 + (1 : Int)) + (1 : Int))) (3 : Int) = (0 : Int)), Val := E9.Val : Ent }) 0 kk4 rfl rfl (idx_get (idx_set H10)).2.2 rfl rfl (Cel.plain rfl rfl) rfl rfl rfl (by rw [List.set_set]; rfl)) rfl rfl (fun _ => ?_)
    refine TO.nil ?_
    refine TE.next ?_
    refine TW.seq ?_
    refine TW.region ?_
    refine TO.y (Y.move rfl) rfl rfl rfl ?_
    refine TO.y (Y.add rfl rfl) rfl rfl rfl ?_
    refine TO.y (Y.assign rfl) rfl rfl rfl ?_
    refine TO.nil ?_
    refine TE.next ?_
    refine TW.seq ?_
    refine TW.region ?_
    refine TO.y (Y.move rfl) rfl rfl rfl ?_
    refine TO.y (Y.move rfl) rfl rfl rfl ?_
    refine TO.y (Y.move rfl) rfl rfl rfl ?_
    refine TO.bind fun R11 H12 => ?_
    refine TO.ef (Ef.call (rest := [.own V_a0 (lc (S1.2.2.set S1.2.1.toNat ({ Key := R6, Seq := (IntKind.i64.wrap (S1.1 + (1 : Int))), Del := decide (Int.tmod (IntKind.i64.wrap (IntKind.i64.wrap (S1.1 + (1 : Int)) + (1 : Int))) (3 : Int) = (0 : Int)), Val := E9.Val : Ent })))]) [0] (laws_markText_con (IntKind.i64.wrap (IntKind.i64.wrap (IntKind.i64.wrap (S1.1 + (1 : Int)) + (1 : Int)) + (1 : Int)))  R11 H12) kc51 rfl rfl trivial) rfl rfl rfl (fun _ => ?_)
    refine TO.y (Y.index ke28 (Can.own 0 rfl) (idx_set H10) rfl rfl) rfl rfl rfl ?_
    refine TO.y (Y.field_el kf51_3 (Can.own 0 rfl) (idx_get (idx_set H10)).2.2 rfl rfl) rfl rfl rfl ?_
    refine TO.ef0 (Ef.store_el (us := [strV R11]) (is' := [.own V_a0 (lc (S1.2.2.set S1.2.1.toNat ({ Key := R6, Seq := (IntKind.i64.wrap (S1.1 + (1 : Int))), Del := (decide (Int.tmod (IntKind.i64.wrap (IntKind.i64.wrap (S1.1 + (1 : Int)) + (1 : Int))) (3 : Int) = (0 : Int))), Val := R11 : Ent })))]) ({ Key := R6, Seq := (IntKind.i64.wrap (S1.1 + (1 : Int))), Del := (decide (Int.tmod (IntKind.i64.wrap (IntKind.i64.wrap (S1.1 + (1 : Int)) + (1 : Int))) (3 : Int) = (0 : Int))), Val := R11 : Ent }) 0 kk9 rfl rfl (idx_get (idx_set H10)).2.2 rfl rfl (Cel.plain rfl rfl) rfl rfl rfl (by rw [List.set_set]; rfl)) rfl rfl (fun _ => ?_)
    refine TO.nil ?_
    refine TE.next ?_
    refine TW.region ?_
    refine TO.y (Y.move rfl) rfl rfl rfl ?_
    refine TO.y (Y.add rfl rfl) rfl rfl rfl ?_
    refine TO.y (Y.assign rfl) rfl rfl rfl ?_
    refine TO.nil ?_
    refine TE.block_normal ?_
    refine TE.next ?_
    refine TW.region ?_
    refine TO.y (Y.move rfl) rfl rfl rfl ?_
    refine TO.y (Y.add rfl rfl) rfl rfl rfl ?_
    refine TO.y (Y.assign rfl) rfl rfl rfl ?_
    refine TO.nil ?_
    exact TE.lp_go () [0] ⟨rfl, rfl, rfl, trivial⟩ rfl
   refine TW.exit ?_
   refine TE.then_exit ?_
   refine TE.lp_exit ?_
   refine TE.block_exit ?_
   exact TE.jn_go () [0] ⟨rfl, trivial⟩ rfl
  refine TE.next ?_
  refine TW.seq ?_
  refine TW.region ?_
  refine TO.y (Y.move rfl) rfl rfl rfl ?_
  refine TO.y (Y.assign rfl) rfl rfl rfl ?_
  refine TO.nil ?_
  refine TE.next ?_
  refine TW.ret ?_
  exact TE.leaf fun _ _ hf_ hs_ => ret_any (rs := [.tmp 4]) (vs := [.int .i64 T3.1]) (.inl rfl) rfl ⟨rfl, trivial⟩ hf_ hs_ ⟨(), rfl, hs_.pulls [0] rfl⟩

/-- loop.example/g00950/laws.markEntSS -/
noncomputable def laws_markEntSS (a : List (List Ent)) (k : Int) : Option (Int × List (List Ent)) :=
  bindC (loopO (fun (S1 : Int × Int × List (List Ent)) => if (decide (S1.2.1 < ((S1.2.2.length : Nat) : Int))) = true then ((idx S1.2.2 S1.2.1).bind fun E6 =>
  (laws_markEntS E6 S1.1).bind fun R9 =>
  some (.go (R9.1, IntKind.i64.wrap (S1.2.1 + (1 : Int)), (S1.2.2.set S1.2.1.toNat R9.2))))
  else (some (.done (.go (S1.1, S1.2.2)))))
  (k, (0 : Int), a))
  (fun (T3 : Int × List (List Ent)) => some (T3.1, T3.2))

theorem laws_markEntSS_con (a : List (List Ent)) (k : Int) (V_a0 : Value) (r : Int × List (List Ent)) (hm : laws_markEntSS a k = some r) :
    Con Try.prog 22 [V_a0, .int .i64 k] [.own V_a0 (lc a)] [] (fun _ : Unit => .int .i64 r.1) (fun _ => [.own V_a0 (lc r.2)]) := by
  refine Con.intro (args := [V_a0, .int .i64 k]) (n := 19) (val := fun r (_ : Unit) => .int .i64 r.1) (post := fun r _ => [.own V_a0 (lc r.2)]) (m := laws_markEntSS a k) Try.func22 rfl rfl rfl hm ?_
  intro w S _
  unfold laws_markEntSS
  refine TW.seq ?_
  refine TW.region ?_
  refine TO.y (Y.assign rfl) rfl rfl rfl ?_
  refine TO.nil ?_
  refine TE.next ?_
  refine TW.seq ?_
  refine TW.seq ?_
  refine TW.region ?_
  refine TO.y (Y.assign rfl) rfl rfl rfl ?_
  refine TO.nil ?_
  refine TE.next ?_
  refine TW.joinX (τ := Int × List (List Ent)) (X := Unit) (fun T _ => [(1, .int .i64 T.1)]) (fun T _ => [.own V_a0 (lc T.2)]) ?_ (fun T3 X4 => ?_)
  ·refine TW.block ?_
   refine TW.loopX (σ := Int × Int × List (List Ent)) (X := Unit) (fun T _ => [(0, V_a0), (1, .int .i64 T.1), (5, .int .i64 T.2.1)]) (fun T _ => [.own V_a0 (lc T.2.2)]) () [0] ⟨rfl, rfl, rfl, trivial⟩ rfl (fun S1 X2 => ?_)
   refine TW.seq ?_
   refine TW.seq ?_
   refine TW.region ?_
   refine TO.y (Y.move rfl) rfl rfl rfl ?_
   refine TO.y (Y.move rfl) rfl rfl rfl ?_
   refine TO.y (Y.len (l := S1.2.2) ke29 (Can.own 0 rfl) rfl) rfl rfl rfl ?_
   refine TO.y (Y.lss rfl rfl) rfl rfl rfl ?_
   refine TO.nil ?_
   refine TE.next ?_
   refine TW.cond rfl (fun H5 => ?_) (fun H5 => ?_)
   ·refine TW.skip ?_
    refine TE.next ?_
    refine TW.seq ?_
    refine TW.block ?_
    refine TW.region ?_
    refine TO.y (Y.move rfl) rfl rfl rfl ?_
    refine TO.y (Y.move rfl) rfl rfl rfl ?_
    refine TO.bind fun E6 H7 => ?_
    refine TO.y (Y.index ke29 (Can.own 0 rfl) H7 rfl rfl) rfl rfl rfl ?_
    refine TO.ghost (X := Value) (is' := fun X8 => [.own V_a0 (hl S1.2.2 S1.2.1.toNat [.raw X8]), .own X8 (lc E6)]) (Gh.open 1 S1.2.1.toNat [0] rfl (idx_get H7).2.2 rfl) (fun X8 => ?_)
    refine TO.y (Y.load_hole (α := List Ent) (us := [X8]) (u := X8) kk28 rfl (i := 0) rfl (idx_get H7).2.2 rfl rfl rfl rfl rfl rfl) rfl rfl rfl ?_
    refine TO.y (Y.move rfl) rfl rfl rfl ?_
    refine TO.bind fun R9 H10 => ?_
    refine TO.ef (Ef.call (rest := [.own V_a0 (hl S1.2.2 S1.2.1.toNat [.raw X8])]) [1, 0] (laws_markEntS_con E6 S1.1 X8 R9 H10) kc23 rfl rfl trivial) rfl rfl rfl (fun _ => ?_)
    refine TO.y (Y.assign rfl) rfl rfl rfl ?_
    refine TO.nil ?_
    refine TE.block_normal ?_
    refine TE.next ?_
    refine TW.region ?_
    refine TO.y (Y.move rfl) rfl rfl rfl ?_
    refine TO.y (Y.add rfl rfl) rfl rfl rfl ?_
    refine TO.y (Y.assign rfl) rfl rfl rfl ?_
    refine TO.nil ?_
    refine TE.ghost (is' := fun _ => [.own V_a0 (lc (S1.2.2.set S1.2.1.toNat R9.2))]) (Gh.close (y := R9.2) (js := [.own X8 (lc R9.2)]) (r := []) [1, 0] rfl (idx_get H7).2.2 (Cls.fill Cls.nil) rfl) (fun _ => ?_)
    exact TE.lp_go () [0] ⟨rfl, rfl, rfl, trivial⟩ rfl
   refine TW.exit ?_
   refine TE.then_exit ?_
   refine TE.lp_exit ?_
   refine TE.block_exit ?_
   exact TE.jn_go () [0] ⟨rfl, trivial⟩ rfl
  refine TE.next ?_
  refine TW.seq ?_
  refine TW.region ?_
  refine TO.y (Y.move rfl) rfl rfl rfl ?_
  refine TO.y (Y.assign rfl) rfl rfl rfl ?_
  refine TO.nil ?_
  refine TE.next ?_
  refine TW.ret ?_
  exact TE.leaf fun _ _ hf_ hs_ => ret_any (rs := [.tmp 4]) (vs := [.int .i64 T3.1]) (.inl rfl) rfl ⟨rfl, trivial⟩ hf_ hs_ ⟨(), rfl, hs_.pulls [0] rfl⟩

/-- loop.example/g00950/laws.markIntS -/
noncomputable def laws_markIntS (a : List Int) (k : Int) : Option (Int × List Int) :=
  bindC (loopO (fun (S1 : Int × Int × List Int) => if (decide (S1.2.1 < ((S1.2.2.length : Nat) : Int))) = true then ((idx S1.2.2 S1.2.1).bind fun E6 =>
  some (.go (IntKind.i64.wrap (S1.1 + (1 : Int)), IntKind.i64.wrap (S1.2.1 + (1 : Int)), (S1.2.2.set S1.2.1.toNat S1.1))))
  else (some (.done (.go (S1.1, S1.2.2)))))
  (k, (0 : Int), a))
  (fun (T3 : Int × List Int) => some (T3.1, T3.2))

theorem laws_markIntS_con (a : List Int) (k : Int) (V_a0 : Value) (r : Int × List Int) (hm : laws_markIntS a k = some r) :
    Con Try.prog 40 [V_a0, .int .i64 k] [.own V_a0 (lc a)] [] (fun _ : Unit => .int .i64 r.1) (fun _ => [.own V_a0 (lc r.2)]) := by
  refine Con.intro (args := [V_a0, .int .i64 k]) (n := 19) (val := fun r (_ : Unit) => .int .i64 r.1) (post := fun r _ => [.own V_a0 (lc r.2)]) (m := laws_markIntS a k) Try.func40 rfl rfl rfl hm ?_
  intro w S _
  unfold laws_markIntS
  refine TW.seq ?_
  refine TW.region ?_
  refine TO.y (Y.assign rfl) rfl rfl rfl ?_
  refine TO.nil ?_
  refine TE.next ?_
  refine TW.seq ?_
  refine TW.seq ?_
  refine TW.region ?_
  refine TO.y (Y.assign rfl) rfl rfl rfl ?_
  refine TO.nil ?_
  refine TE.next ?_
  refine TW.joinX (τ := Int × List Int) (X := Unit) (fun T _ => [(1, .int .i64 T.1)]) (fun T _ => [.own V_a0 (lc T.2)]) ?_ (fun T3 X4 => ?_)
  ·refine TW.block ?_
   refine TW.loopX (σ := Int × Int × List Int) (X := Unit) (fun T _ => [(0, V_a0), (1, .int .i64 T.1), (5, .int .i64 T.2.1)]) (fun T _ => [.own V_a0 (lc T.2.2)]) () [0] ⟨rfl, rfl, rfl, trivial⟩ rfl (fun S1 X2 => ?_)
   refine TW.seq ?_
   refine TW.seq ?_
   refine TW.region ?_
   refine TO.y (Y.move rfl) rfl rfl rfl ?_
   refine TO.y (Y.move rfl) rfl rfl rfl ?_
   refine TO.y (Y.len (l := S1.2.2) ke24 (Can.own 0 rfl) rfl) rfl rfl rfl ?_
   refine TO.y (Y.lss rfl rfl) rfl rfl rfl ?_
   refine TO.nil ?_
   refine TE.next ?_
   refine TW.cond rfl (fun H5 => ?_) (fun H5 => ?_)
   ·refine TW.skip ?_
    refine TE.next ?_
    refine TW.seq ?_
    refine TW.block ?_
    refine TW.seq ?_
    refine TW.region ?_
    refine TO.y (Y.move rfl) rfl rfl rfl ?_
    refine TO.y (Y.move rfl) rfl rfl rfl ?_
    refine TO.y (Y.move rfl) rfl rfl rfl ?_
    refine TO.bind fun E6 H7 => ?_
    refine TO.y (Y.index ke24 (Can.own 0 rfl) H7 rfl rfl) rfl rfl rfl ?_
    refine TO.ef0 (Ef.store_el (us := [.int .i64 S1.1]) (is' := [.own V_a0 (lc (S1.2.2.set S1.2.1.toNat S1.1))]) S1.1 0 kk3 rfl rfl (idx_get H7).2.2 rfl rfl (Cel.plain rfl rfl) rfl rfl rfl rfl) rfl rfl (fun _ => ?_)
    refine TO.nil ?_
    refine TE.next ?_
    refine TW.region ?_
    refine TO.y (Y.move rfl) rfl rfl rfl ?_
    refine TO.y (Y.add rfl rfl) rfl rfl rfl ?_
    refine TO.y (Y.assign rfl) rfl rfl rfl ?_
    refine TO.nil ?_
    refine TE.block_normal ?_
    refine TE.next ?_
    refine TW.region ?_
    refine TO.y (Y.move rfl) rfl rfl rfl ?_
    refine TO.y (Y.add rfl rfl) rfl rfl rfl ?_
    refine TO.y (Y.assign rfl) rfl rfl rfl ?_
    refine TO.nil ?_
    exact TE.lp_go () [0] ⟨rfl, rfl, rfl, trivial⟩ rfl
   refine TW.exit ?_
   refine TE.then_exit ?_
   refine TE.lp_exit ?_
   refine TE.block_exit ?_
   exact TE.jn_go () [0] ⟨rfl, trivial⟩ rfl
  refine TE.next ?_
  refine TW.seq ?_
  refine TW.region ?_
  refine TO.y (Y.move rfl) rfl rfl rfl ?_
  refine TO.y (Y.assign rfl) rfl rfl rfl ?_
  refine TO.nil ?_
  refine TE.next ?_
  refine TW.ret ?_
  exact TE.leaf fun _ _ hf_ hs_ => ret_any (rs := [.tmp 4]) (vs := [.int .i64 T3.1]) (.inl rfl) rfl ⟨rfl, trivial⟩ hf_ hs_ ⟨(), rfl, hs_.pulls [0] rfl⟩

/-- loop.example/g00950/laws.markEng -/
noncomputable def laws_markEng (a : Eng) (k : Int) : Option (Int × List Ent × List (List Ent) × List Int) :=
  (laws_markEntS a.Mem k).bind fun R2 =>
  (laws_markEntSS a.Tables R2.1).bind fun R5 =>
  (laws_markIntS a.Snaps R5.1).bind fun R8 =>
  some (R8.1, R2.2, R5.2, R8.2)

theorem laws_markEng_con (a : Eng) (k : Int) (V_a0 : Value) (V_a1 : Value) (V_a3 : Value) (r : Int × List Ent × List (List Ent) × List Int) (hm : laws_markEng a k = some r) :
    Con Try.prog 12 [.agg #[V_a0, V_a1, .int .i64 a.Seq, V_a3], .int .i64 k] [.own V_a0 (lc a.Mem), .own V_a1 (lc a.Tables), .own V_a3 (lc a.Snaps)] [] (fun _ : Unit => .int .i64 r.1) (fun _ => [.own V_a0 (lc r.2.1), .own V_a1 (lc r.2.2.1), .own V_a3 (lc r.2.2.2)]) := by
  refine Con.intro (args := [.agg #[V_a0, V_a1, .int .i64 a.Seq, V_a3], .int .i64 k]) (n := 18) (val := fun r (_ : Unit) => .int .i64 r.1) (post := fun r _ => [.own V_a0 (lc r.2.1), .own V_a1 (lc r.2.2.1), .own V_a3 (lc r.2.2.2)]) (m := laws_markEng a k) Try.func12 rfl rfl rfl hm ?_
  intro w S _
  unfold laws_markEng
  refine TW.seq ?_
  refine TW.region ?_
  refine TO.ef (Ef.box rfl (Cel.agg ⟨(One.can (Can.own 0 rfl)), (One.can (Can.own 1 rfl)), (One.plain rfl), (One.can (Can.own 2 rfl)), trivial⟩)) rfl rfl rfl (fun B1 => ?_)
  refine TO.y (Y.assign rfl) rfl rfl rfl ?_
  refine TO.nil ?_
  refine TE.next ?_
  refine TW.seq ?_
  refine TW.region ?_
  refine TO.y (Y.field_box kf31_0 rfl rfl) rfl rfl rfl ?_
  refine TO.y (Y.load_box (v := V_a0) 0 kk28 rfl rfl rfl) rfl rfl rfl ?_
  refine TO.y (Y.move rfl) rfl rfl rfl ?_
  refine TO.bind fun R2 H3 => ?_
  refine TO.ef (Ef.call (rest := [.box B1 31 [V_a0, V_a1, .int .i64 a.Seq, V_a3], .own V_a1 (lc a.Tables), .own V_a3 (lc a.Snaps)]) [1, 0, 0, 0] (laws_markEntS_con a.Mem k V_a0 R2 H3) kc23 rfl rfl trivial) rfl rfl rfl (fun _ => ?_)
  refine TO.y (Y.assign rfl) rfl rfl rfl ?_
  refine TO.nil ?_
  refine TE.next ?_
  refine TW.seq ?_
  refine TW.region ?_
  refine TO.y (Y.field_box kf31_1 rfl rfl) rfl rfl rfl ?_
  refine TO.y (Y.load_box (v := V_a1) 1 kk29 rfl rfl rfl) rfl rfl rfl ?_
  refine TO.y (Y.move rfl) rfl rfl rfl ?_
  refine TO.bind fun R5 H6 => ?_
  refine TO.ef (Ef.call (rest := [.own V_a0 (lc R2.2), .box B1 31 [V_a0, V_a1, .int .i64 a.Seq, V_a3], .own V_a3 (lc a.Snaps)]) [2, 0, 0, 0] (laws_markEntSS_con a.Tables R2.1 V_a1 R5 H6) kc22 rfl rfl trivial) rfl rfl rfl (fun _ => ?_)
  refine TO.y (Y.assign rfl) rfl rfl rfl ?_
  refine TO.nil ?_
  refine TE.next ?_
  refine TW.seq ?_
  refine TW.region ?_
  refine TO.y (Y.field_box kf31_3 rfl rfl) rfl rfl rfl ?_
  refine TO.y (Y.load_box (v := V_a3) 2 kk24 rfl rfl rfl) rfl rfl rfl ?_
  refine TO.y (Y.move rfl) rfl rfl rfl ?_
  refine TO.bind fun R8 H9 => ?_
  refine TO.ef (Ef.call (rest := [.own V_a1 (lc R5.2), .own V_a0 (lc R2.2), .box B1 31 [V_a0, V_a1, .int .i64 a.Seq, V_a3]]) [3, 0, 0, 0] (laws_markIntS_con a.Snaps R5.1 V_a3 R8 H9) kc40 rfl rfl trivial) rfl rfl rfl (fun _ => ?_)
  refine TO.y (Y.assign rfl) rfl rfl rfl ?_
  refine TO.nil ?_
  refine TE.next ?_
  refine TW.seq ?_
  refine TW.region ?_
  refine TO.y (Y.move rfl) rfl rfl rfl ?_
  refine TO.y (Y.assign rfl) rfl rfl rfl ?_
  refine TO.nil ?_
  refine TE.next ?_
  refine TW.ret ?_
  exact TE.leaf fun _ _ hf_ hs_ => ret_any (rs := [.tmp 4]) (vs := [.int .i64 R8.1]) (.inl rfl) rfl ⟨rfl, trivial⟩ hf_ hs_ ⟨(), rfl, hs_.pulls [2, 1, 0] rfl⟩

/-- loop.example/g00950/laws.heldEntS -/
noncomputable def laws_heldEntS (a : List Ent) (k : Int) : Option Int :=
  bindC (loopO (fun (S1 : Int × Int) => if (decide (S1.2 < ((a.length : Nat) : Int))) = true then ((idx a S1.2).bind fun E6 =>
  (laws_markText S1.1).bind fun R8 =>
  if (!(decide (E6.Key = R8))) = true then (some (.done (.done (-1 : Int))))
  else (if (!(decide (E6.Seq = IntKind.i64.wrap (S1.1 + (1 : Int))))) = true then (some (.done (.done (-1 : Int))))
  else (if (!(decide (E6.Del = (decide (Int.tmod (IntKind.i64.wrap (IntKind.i64.wrap (S1.1 + (1 : Int)) + (1 : Int))) (3 : Int) = (0 : Int)))))) = true then (some (.done (.done (-1 : Int))))
  else ((laws_markText (IntKind.i64.wrap (IntKind.i64.wrap (IntKind.i64.wrap (S1.1 + (1 : Int)) + (1 : Int)) + (1 : Int)))).bind fun R14 =>
  if (!(decide (E6.Val = R14))) = true then (some (.done (.done (-1 : Int))))
  else (some (.go (IntKind.i64.wrap (IntKind.i64.wrap (IntKind.i64.wrap (IntKind.i64.wrap (S1.1 + (1 : Int)) + (1 : Int)) + (1 : Int)) + (1 : Int)), IntKind.i64.wrap (S1.2 + (1 : Int)))))))))
  else (some (.done (.go S1.1))))
  (k, (0 : Int)))
  (fun (T3 : Int) => some T3)

theorem laws_heldEntS_con (a : List Ent) (k : Int) (V_a0 : Value) (r : Int) (hm : laws_heldEntS a k = some r) :
    Con Try.prog 24 [V_a0, .int .i64 k] [] [(V_a0, lc a)] (fun _ : Unit => .int .i64 r) (fun _ => []) := by
  refine Con.intro (args := [V_a0, .int .i64 k]) (n := 53) (val := fun r (_ : Unit) => .int .i64 r) (post := fun _ _ => []) (m := laws_heldEntS a k) Try.func24 rfl rfl rfl hm ?_
  intro w S hrd
  have HB_V_a0 := hrd _ (.head _)
  clear hrd
  unfold laws_heldEntS
  refine TW.seq ?_
  refine TW.region ?_
  refine TO.y (Y.assign rfl) rfl rfl rfl ?_
  refine TO.nil ?_
  refine TE.next ?_
  refine TW.seq ?_
  refine TW.seq ?_
  refine TW.region ?_
  refine TO.y (Y.assign rfl) rfl rfl rfl ?_
  refine TO.nil ?_
  refine TE.next ?_
  refine TW.joinX (τ := Int) (X := Unit) (fun T _ => [(1, .int .i64 T)]) (fun _ _ => []) ?_ (fun T3 X4 => ?_)
  ·refine TW.block ?_
   refine TW.loopX (σ := Int × Int) (X := Unit) (fun T _ => [(0, V_a0), (1, .int .i64 T.1), (5, .int .i64 T.2)]) (fun _ _ => []) () [] ⟨rfl, rfl, rfl, trivial⟩ rfl (fun S1 X2 => ?_)
   refine TW.seq ?_
   refine TW.seq ?_
   refine TW.region ?_
   refine TO.y (Y.move rfl) rfl rfl rfl ?_
   refine TO.y (Y.move rfl) rfl rfl rfl ?_
   refine TO.y (Y.len (l := a) ke28 (Base.can HB_V_a0) rfl) rfl rfl rfl ?_
   refine TO.y (Y.lss rfl rfl) rfl rfl rfl ?_
   refine TO.nil ?_
   refine TE.next ?_
   refine TW.cond rfl (fun H5 => ?_) (fun H5 => ?_)
   ·refine TW.skip ?_
    refine TE.next ?_
    refine TW.seq ?_
    refine TW.block ?_
    refine TW.seq ?_
    refine TW.seq ?_
    refine TW.draw (isH := []) hMix ?_
    refine TA.y 0 [] rfl (Y.move rfl) rfl rfl rfl (by kernel_rfl) rfl ?_
    refine TA.y 1 [] rfl (Y.move rfl) rfl rfl rfl (by kernel_rfl) rfl ?_
    refine TA.bind fun E6 H7 => ?_
    refine TA.y 2 [] rfl (Y.index ke28 (Base.can HB_V_a0) H7 rfl rfl) rfl rfl rfl (by kernel_rfl) rfl ?_
    refine TA.y 3 [] rfl (Y.field_el kf51_0 (Base.can HB_V_a0) (idx_get H7).2.2 rfl rfl) rfl rfl rfl (by kernel_rfl) rfl ?_
    refine TA.y 4 [] rfl (Y.load_el (us := [strV E6.Key]) (u := strV E6.Key) kk9 rfl (Base.can HB_V_a0) (idx_get H7).2.2 rfl rfl rfl rfl rfl) rfl rfl rfl (by kernel_rfl) rfl ?_
    refine TA.y 5 [] rfl (Y.move rfl) rfl rfl rfl (by kernel_rfl) rfl ?_
    refine TA.bind fun R8 H9 => ?_
    refine TA.one 6 (by kernel_rfl) ?_
    refine TX.ef [] rfl (Ef.call (rest := []) [] (laws_markText_con S1.1  R8 H9) kc51 rfl rfl trivial) rfl rfl rfl (fun _ => rfl) (fun _ => ?_)
    refine TA.y 7 [] rfl (Y.sneq rfl rfl) rfl rfl rfl (by kernel_rfl) rfl ?_
    refine TA.nil (by kernel_rfl) ?_
    refine TE.next ?_
    refine TW.cond rfl (fun H11 => ?_) (fun H11 => ?_)
    ·refine TW.seq ?_
     refine TW.region ?_
     refine TO.y (Y.assign rfl) rfl rfl rfl ?_
     refine TO.nil ?_
     refine TE.next ?_
     refine TW.ret ?_
     refine TE.then_ret ?_
     refine TE.block_ret ?_
     refine TE.then_ret ?_
     refine TE.lp_ret ?_
     refine TE.block_ret ?_
     refine TE.jn_done ?_
     refine TE.then_ret ?_
     exact TE.leaf fun _ _ hf_ hs_ => ret_any (rs := [.tmp 4]) (vs := [.int .i64 (-1 : Int)]) (.inl rfl) rfl ⟨rfl, trivial⟩ hf_ hs_ ⟨(), rfl, hs_.pulls [] rfl⟩
    refine TW.skip ?_
    refine TE.next ?_
    refine TW.seq ?_
    refine TW.region ?_
    refine TO.y (Y.move rfl) rfl rfl rfl ?_
    refine TO.y (Y.add rfl rfl) rfl rfl rfl ?_
    refine TO.y (Y.assign rfl) rfl rfl rfl ?_
    refine TO.nil ?_
    refine TE.next ?_
    refine TW.seq ?_
    refine TW.seq ?_
    refine TW.region ?_
    refine TO.y (Y.move rfl) rfl rfl rfl ?_
    refine TO.y (Y.move rfl) rfl rfl rfl ?_
    refine TO.y (Y.index ke28 (Base.can HB_V_a0) H7 rfl rfl) rfl rfl rfl ?_
    refine TO.y (Y.field_el kf51_1 (Base.can HB_V_a0) (idx_get H7).2.2 rfl rfl) rfl rfl rfl ?_
    refine TO.y (Y.load_el (us := [.int .i64 E6.Seq]) (u := .int .i64 E6.Seq) kk3 rfl (Base.can HB_V_a0) (idx_get H7).2.2 rfl rfl rfl rfl rfl) rfl rfl rfl ?_
    refine TO.y (Y.move rfl) rfl rfl rfl ?_
    refine TO.y (Y.neq rfl rfl) rfl rfl rfl ?_
    refine TO.nil ?_
    refine TE.next ?_
    refine TW.cond rfl (fun H12 => ?_) (fun H12 => ?_)
    ·refine TW.seq ?_
     refine TW.region ?_
     refine TO.y (Y.assign rfl) rfl rfl rfl ?_
     refine TO.nil ?_
     refine TE.next ?_
     refine TW.ret ?_
     refine TE.then_ret ?_
     refine TE.block_ret ?_
     refine TE.then_ret ?_
     refine TE.lp_ret ?_
     refine TE.block_ret ?_
     refine TE.jn_done ?_
     refine TE.then_ret ?_
     exact TE.leaf fun _ _ hf_ hs_ => ret_any (rs := [.tmp 4]) (vs := [.int .i64 (-1 : Int)]) (.inl rfl) rfl ⟨rfl, trivial⟩ hf_ hs_ ⟨(), rfl, hs_.pulls [] rfl⟩
    refine TW.skip ?_
    refine TE.next ?_
    refine TW.seq ?_
    refine TW.region ?_
    refine TO.y (Y.move rfl) rfl rfl rfl ?_
    refine TO.y (Y.add rfl rfl) rfl rfl rfl ?_
    refine TO.y (Y.assign rfl) rfl rfl rfl ?_
    refine TO.nil ?_
    refine TE.next ?_
    refine TW.seq ?_
    refine TW.seq ?_
    refine TW.region ?_
    refine TO.y (Y.move rfl) rfl rfl rfl ?_
    refine TO.y (Y.move rfl) rfl rfl rfl ?_
    refine TO.y (Y.index ke28 (Base.can HB_V_a0) H7 rfl rfl) rfl rfl rfl ?_
    refine TO.y (Y.field_el kf51_2 (Base.can HB_V_a0) (idx_get H7).2.2 rfl rfl) rfl rfl rfl ?_
    refine TO.y (Y.load_el (us := [.bool E6.Del]) (u := .bool E6.Del) kk4 rfl (Base.can HB_V_a0) (idx_get H7).2.2 rfl rfl rfl rfl rfl) rfl rfl rfl ?_
    refine TO.y (Y.move rfl) rfl rfl rfl ?_
    refine TO.y (Y.rem (by decide) rfl rfl) rfl rfl rfl ?_
    refine TO.y (Y.eql rfl rfl) rfl rfl rfl ?_
    refine TO.y (Y.neb kb4 rfl rfl) rfl rfl rfl ?_
    refine TO.nil ?_
    refine TE.next ?_
    refine TW.cond rfl (fun H13 => ?_) (fun H13 => ?_)
    ·refine TW.seq ?_
     refine TW.region ?_
     refine TO.y (Y.assign rfl) rfl rfl rfl ?_
     refine TO.nil ?_
     refine TE.next ?_
     refine TW.ret ?_
     refine TE.then_ret ?_
     refine TE.block_ret ?_
     refine TE.then_ret ?_
     refine TE.lp_ret ?_
     refine TE.block_ret ?_
     refine TE.jn_done ?_
     refine TE.then_ret ?_
     exact TE.leaf fun _ _ hf_ hs_ => ret_any (rs := [.tmp 4]) (vs := [.int .i64 (-1 : Int)]) (.inl rfl) rfl ⟨rfl, trivial⟩ hf_ hs_ ⟨(), rfl, hs_.pulls [] rfl⟩
    refine TW.skip ?_
    refine TE.next ?_
    refine TW.seq ?_
    refine TW.region ?_
    refine TO.y (Y.move rfl) rfl rfl rfl ?_
    refine TO.y (Y.add rfl rfl) rfl rfl rfl ?_
    refine TO.y (Y.assign rfl) rfl rfl rfl ?_
    refine TO.nil ?_
    refine TE.next ?_
    refine TW.seq ?_
    refine TW.seq ?_
    refine TW.draw (isH := []) hMix ?_
    refine TA.y 0 [] rfl (Y.move rfl) rfl rfl rfl (by kernel_rfl) rfl ?_
    refine TA.y 1 [] rfl (Y.move rfl) rfl rfl rfl (by kernel_rfl) rfl ?_
    refine TA.y 2 [] rfl (Y.index ke28 (Base.can HB_V_a0) H7 rfl rfl) rfl rfl rfl (by kernel_rfl) rfl ?_
    refine TA.y 3 [] rfl (Y.field_el kf51_3 (Base.can HB_V_a0) (idx_get H7).2.2 rfl rfl) rfl rfl rfl (by kernel_rfl) rfl ?_
    refine TA.y 4 [] rfl (Y.load_el (us := [strV E6.Val]) (u := strV E6.Val) kk9 rfl (Base.can HB_V_a0) (idx_get H7).2.2 rfl rfl rfl rfl rfl) rfl rfl rfl (by kernel_rfl) rfl ?_
    refine TA.y 5 [] rfl (Y.move rfl) rfl rfl rfl (by kernel_rfl) rfl ?_
    refine TA.bind fun R14 H15 => ?_
    refine TA.one 6 (by kernel_rfl) ?_
    refine TX.ef [] rfl (Ef.call (rest := []) [] (laws_markText_con (IntKind.i64.wrap (IntKind.i64.wrap (IntKind.i64.wrap (S1.1 + (1 : Int)) + (1 : Int)) + (1 : Int)))  R14 H15) kc51 rfl rfl trivial) rfl rfl rfl (fun _ => rfl) (fun _ => ?_)
    refine TA.y 7 [] rfl (Y.sneq rfl rfl) rfl rfl rfl (by kernel_rfl) rfl ?_
    refine TA.nil (by kernel_rfl) ?_
    refine TE.next ?_
    refine TW.cond rfl (fun H17 => ?_) (fun H17 => ?_)
    ·refine TW.seq ?_
     refine TW.region ?_
     refine TO.y (Y.assign rfl) rfl rfl rfl ?_
     refine TO.nil ?_
     refine TE.next ?_
     refine TW.ret ?_
     refine TE.then_ret ?_
     refine TE.block_ret ?_
     refine TE.then_ret ?_
     refine TE.lp_ret ?_
     refine TE.block_ret ?_
     refine TE.jn_done ?_
     refine TE.then_ret ?_
     exact TE.leaf fun _ _ hf_ hs_ => ret_any (rs := [.tmp 4]) (vs := [.int .i64 (-1 : Int)]) (.inl rfl) rfl ⟨rfl, trivial⟩ hf_ hs_ ⟨(), rfl, hs_.pulls [] rfl⟩
    refine TW.skip ?_
    refine TE.next ?_
    refine TW.region ?_
    refine TO.y (Y.move rfl) rfl rfl rfl ?_
    refine TO.y (Y.add rfl rfl) rfl rfl rfl ?_
    refine TO.y (Y.assign rfl) rfl rfl rfl ?_
    refine TO.nil ?_
    refine TE.block_normal ?_
    refine TE.next ?_
    refine TW.region ?_
    refine TO.y (Y.move rfl) rfl rfl rfl ?_
    refine TO.y (Y.add rfl rfl) rfl rfl rfl ?_
    refine TO.y (Y.assign rfl) rfl rfl rfl ?_
    refine TO.nil ?_
    exact TE.lp_go () [] ⟨rfl, rfl, rfl, trivial⟩ rfl
   refine TW.exit ?_
   refine TE.then_exit ?_
   refine TE.lp_exit ?_
   refine TE.block_exit ?_
   exact TE.jn_go () [] ⟨rfl, trivial⟩ rfl
  refine TE.next ?_
  refine TW.seq ?_
  refine TW.region ?_
  refine TO.y (Y.move rfl) rfl rfl rfl ?_
  refine TO.y (Y.assign rfl) rfl rfl rfl ?_
  refine TO.nil ?_
  refine TE.next ?_
  refine TW.ret ?_
  exact TE.leaf fun _ _ hf_ hs_ => ret_any (rs := [.tmp 4]) (vs := [.int .i64 T3]) (.inl rfl) rfl ⟨rfl, trivial⟩ hf_ hs_ ⟨(), rfl, hs_.pulls [] rfl⟩

/-- loop.example/g00950/laws.heldEntSS -/
noncomputable def laws_heldEntSS (a : List (List Ent)) (k : Int) : Option Int :=
  bindC (loopO (fun (S1 : Int × Int) => if (decide (S1.2 < ((a.length : Nat) : Int))) = true then ((idx a S1.2).bind fun E6 =>
  (laws_heldEntS E6 S1.1).bind fun R9 =>
  if (decide (R9 < (0 : Int))) = true then (some (.done (.done (-1 : Int))))
  else (some (.go (R9, IntKind.i64.wrap (S1.2 + (1 : Int))))))
  else (some (.done (.go S1.1))))
  (k, (0 : Int)))
  (fun (T3 : Int) => some T3)

theorem laws_heldEntSS_con (a : List (List Ent)) (k : Int) (V_a0 : Value) (r : Int) (hm : laws_heldEntSS a k = some r) :
    Con Try.prog 41 [V_a0, .int .i64 k] [] [(V_a0, lc a)] (fun _ : Unit => .int .i64 r) (fun _ => []) := by
  refine Con.intro (args := [V_a0, .int .i64 k]) (n := 21) (val := fun r (_ : Unit) => .int .i64 r) (post := fun _ _ => []) (m := laws_heldEntSS a k) Try.func41 rfl rfl rfl hm ?_
  intro w S hrd
  have HB_V_a0 := hrd _ (.head _)
  clear hrd
  unfold laws_heldEntSS
  refine TW.seq ?_
  refine TW.region ?_
  refine TO.y (Y.assign rfl) rfl rfl rfl ?_
  refine TO.nil ?_
  refine TE.next ?_
  refine TW.seq ?_
  refine TW.seq ?_
  refine TW.region ?_
  refine TO.y (Y.assign rfl) rfl rfl rfl ?_
  refine TO.nil ?_
  refine TE.next ?_
  refine TW.joinX (τ := Int) (X := Unit) (fun T _ => [(1, .int .i64 T)]) (fun _ _ => []) ?_ (fun T3 X4 => ?_)
  ·refine TW.block ?_
   refine TW.loopX (σ := Int × Int) (X := Unit) (fun T _ => [(0, V_a0), (1, .int .i64 T.1), (5, .int .i64 T.2)]) (fun _ _ => []) () [] ⟨rfl, rfl, rfl, trivial⟩ rfl (fun S1 X2 => ?_)
   refine TW.seq ?_
   refine TW.seq ?_
   refine TW.region ?_
   refine TO.y (Y.move rfl) rfl rfl rfl ?_
   refine TO.y (Y.move rfl) rfl rfl rfl ?_
   refine TO.y (Y.len (l := a) ke29 (Base.can HB_V_a0) rfl) rfl rfl rfl ?_
   refine TO.y (Y.lss rfl rfl) rfl rfl rfl ?_
   refine TO.nil ?_
   refine TE.next ?_
   refine TW.cond rfl (fun H5 => ?_) (fun H5 => ?_)
   ·refine TW.skip ?_
    refine TE.next ?_
    refine TW.seq ?_
    refine TW.block ?_
    refine TW.seq ?_
    refine TW.region ?_
    refine TO.y (Y.move rfl) rfl rfl rfl ?_
    refine TO.y (Y.move rfl) rfl rfl rfl ?_
    refine TO.bind fun E6 H7 => ?_
    refine TO.y (Y.index ke29 (Base.can HB_V_a0) H7 rfl rfl) rfl rfl rfl ?_
    have Q8 : Base w S (elv w V_a0 (S1.2.toNat * 1 + 0)) (lc E6) := Base.el HB_V_a0 (idx_get H7).2.2 rfl rfl
    refine TO.y (Y.load_base (α := List Ent) (u := (elv w V_a0 (S1.2.toNat * 1 + 0))) kk28 rfl HB_V_a0 (idx_get H7).2.2 rfl rfl rfl rfl rfl) rfl rfl rfl ?_
    refine TO.y (Y.move rfl) rfl rfl rfl ?_
    refine TO.bind fun R9 H10 => ?_
    refine TO.ef (Ef.call (rest := []) [] (laws_heldEntS_con E6 S1.1 (elv w V_a0 (S1.2.toNat * 1 + 0)) R9 H10) kc24 rfl rfl ⟨(Base.can Q8), trivial⟩) rfl rfl rfl (fun _ => ?_)
    refine TO.y (Y.assign rfl) rfl rfl rfl ?_
    refine TO.nil ?_
    refine TE.next ?_
    refine TW.seq ?_
    refine TW.region ?_
    refine TO.y (Y.move rfl) rfl rfl rfl ?_
    refine TO.y (Y.lss rfl rfl) rfl rfl rfl ?_
    refine TO.nil ?_
    refine TE.next ?_
    refine TW.cond rfl (fun H12 => ?_) (fun H12 => ?_)
    ·refine TW.seq ?_
     refine TW.region ?_
     refine TO.y (Y.assign rfl) rfl rfl rfl ?_
     refine TO.nil ?_
     refine TE.next ?_
     refine TW.ret ?_
     refine TE.block_ret ?_
     refine TE.then_ret ?_
     refine TE.lp_ret ?_
     refine TE.block_ret ?_
     refine TE.jn_done ?_
     refine TE.then_ret ?_
     exact TE.leaf fun _ _ hf_ hs_ => ret_any (rs := [.tmp 4]) (vs := [.int .i64 (-1 : Int)]) (.inl rfl) rfl ⟨rfl, trivial⟩ hf_ hs_ ⟨(), rfl, hs_.pulls [] rfl⟩
    refine TW.skip ?_
    refine TE.block_normal ?_
    refine TE.next ?_
    refine TW.region ?_
    refine TO.y (Y.move rfl) rfl rfl rfl ?_
    refine TO.y (Y.add rfl rfl) rfl rfl rfl ?_
    refine TO.y (Y.assign rfl) rfl rfl rfl ?_
    refine TO.nil ?_
    exact TE.lp_go () [] ⟨rfl, rfl, rfl, trivial⟩ rfl
   refine TW.exit ?_
   refine TE.then_exit ?_
   refine TE.lp_exit ?_
   refine TE.block_exit ?_
   exact TE.jn_go () [] ⟨rfl, trivial⟩ rfl
  refine TE.next ?_
  refine TW.seq ?_
  refine TW.region ?_
  refine TO.y (Y.move rfl) rfl rfl rfl ?_
  refine TO.y (Y.assign rfl) rfl rfl rfl ?_
  refine TO.nil ?_
  refine TE.next ?_
  refine TW.ret ?_
  exact TE.leaf fun _ _ hf_ hs_ => ret_any (rs := [.tmp 4]) (vs := [.int .i64 T3]) (.inl rfl) rfl ⟨rfl, trivial⟩ hf_ hs_ ⟨(), rfl, hs_.pulls [] rfl⟩

/-- loop.example/g00950/laws.heldIntS -/
noncomputable def laws_heldIntS (a : List Int) (k : Int) : Option Int :=
  bindC (loopO (fun (S1 : Int × Int) => if (decide (S1.2 < ((a.length : Nat) : Int))) = true then ((idx a S1.2).bind fun E6 =>
  if (!(decide (E6 = S1.1))) = true then (some (.done (.done (-1 : Int))))
  else (some (.go (IntKind.i64.wrap (S1.1 + (1 : Int)), IntKind.i64.wrap (S1.2 + (1 : Int))))))
  else (some (.done (.go S1.1))))
  (k, (0 : Int)))
  (fun (T3 : Int) => some T3)

theorem laws_heldIntS_con (a : List Int) (k : Int) (V_a0 : Value) (r : Int) (hm : laws_heldIntS a k = some r) :
    Con Try.prog 42 [V_a0, .int .i64 k] [] [(V_a0, lc a)] (fun _ : Unit => .int .i64 r) (fun _ => []) := by
  refine Con.intro (args := [V_a0, .int .i64 k]) (n := 21) (val := fun r (_ : Unit) => .int .i64 r) (post := fun _ _ => []) (m := laws_heldIntS a k) Try.func42 rfl rfl rfl hm ?_
  intro w S hrd
  have HB_V_a0 := hrd _ (.head _)
  clear hrd
  unfold laws_heldIntS
  refine TW.seq ?_
  refine TW.region ?_
  refine TO.y (Y.assign rfl) rfl rfl rfl ?_
  refine TO.nil ?_
  refine TE.next ?_
  refine TW.seq ?_
  refine TW.seq ?_
  refine TW.region ?_
  refine TO.y (Y.assign rfl) rfl rfl rfl ?_
  refine TO.nil ?_
  refine TE.next ?_
  refine TW.joinX (τ := Int) (X := Unit) (fun T _ => [(1, .int .i64 T)]) (fun _ _ => []) ?_ (fun T3 X4 => ?_)
  ·refine TW.block ?_
   refine TW.loopX (σ := Int × Int) (X := Unit) (fun T _ => [(0, V_a0), (1, .int .i64 T.1), (5, .int .i64 T.2)]) (fun _ _ => []) () [] ⟨rfl, rfl, rfl, trivial⟩ rfl (fun S1 X2 => ?_)
   refine TW.seq ?_
   refine TW.seq ?_
   refine TW.region ?_
   refine TO.y (Y.move rfl) rfl rfl rfl ?_
   refine TO.y (Y.move rfl) rfl rfl rfl ?_
   refine TO.y (Y.len (l := a) ke24 (Base.can HB_V_a0) rfl) rfl rfl rfl ?_
   refine TO.y (Y.lss rfl rfl) rfl rfl rfl ?_
   refine TO.nil ?_
   refine TE.next ?_
   refine TW.cond rfl (fun H5 => ?_) (fun H5 => ?_)
   ·refine TW.skip ?_
    refine TE.next ?_
    refine TW.seq ?_
    refine TW.block ?_
    refine TW.seq ?_
    refine TW.seq ?_
    refine TW.region ?_
    refine TO.y (Y.move rfl) rfl rfl rfl ?_
    refine TO.y (Y.move rfl) rfl rfl rfl ?_
    refine TO.bind fun E6 H7 => ?_
    refine TO.y (Y.index ke24 (Base.can HB_V_a0) H7 rfl rfl) rfl rfl rfl ?_
    refine TO.y (Y.load_el (us := [.int .i64 E6]) (u := .int .i64 E6) kk3 rfl (Base.can HB_V_a0) (idx_get H7).2.2 rfl rfl rfl rfl rfl) rfl rfl rfl ?_
    refine TO.y (Y.move rfl) rfl rfl rfl ?_
    refine TO.y (Y.neq rfl rfl) rfl rfl rfl ?_
    refine TO.nil ?_
    refine TE.next ?_
    refine TW.cond rfl (fun H8 => ?_) (fun H8 => ?_)
    ·refine TW.seq ?_
     refine TW.region ?_
     refine TO.y (Y.assign rfl) rfl rfl rfl ?_
     refine TO.nil ?_
     refine TE.next ?_
     refine TW.ret ?_
     refine TE.then_ret ?_
     refine TE.block_ret ?_
     refine TE.then_ret ?_
     refine TE.lp_ret ?_
     refine TE.block_ret ?_
     refine TE.jn_done ?_
     refine TE.then_ret ?_
     exact TE.leaf fun _ _ hf_ hs_ => ret_any (rs := [.tmp 4]) (vs := [.int .i64 (-1 : Int)]) (.inl rfl) rfl ⟨rfl, trivial⟩ hf_ hs_ ⟨(), rfl, hs_.pulls [] rfl⟩
    refine TW.skip ?_
    refine TE.next ?_
    refine TW.region ?_
    refine TO.y (Y.move rfl) rfl rfl rfl ?_
    refine TO.y (Y.add rfl rfl) rfl rfl rfl ?_
    refine TO.y (Y.assign rfl) rfl rfl rfl ?_
    refine TO.nil ?_
    refine TE.block_normal ?_
    refine TE.next ?_
    refine TW.region ?_
    refine TO.y (Y.move rfl) rfl rfl rfl ?_
    refine TO.y (Y.add rfl rfl) rfl rfl rfl ?_
    refine TO.y (Y.assign rfl) rfl rfl rfl ?_
    refine TO.nil ?_
    exact TE.lp_go () [] ⟨rfl, rfl, rfl, trivial⟩ rfl
   refine TW.exit ?_
   refine TE.then_exit ?_
   refine TE.lp_exit ?_
   refine TE.block_exit ?_
   exact TE.jn_go () [] ⟨rfl, trivial⟩ rfl
  refine TE.next ?_
  refine TW.seq ?_
  refine TW.region ?_
  refine TO.y (Y.move rfl) rfl rfl rfl ?_
  refine TO.y (Y.assign rfl) rfl rfl rfl ?_
  refine TO.nil ?_
  refine TE.next ?_
  refine TW.ret ?_
  exact TE.leaf fun _ _ hf_ hs_ => ret_any (rs := [.tmp 4]) (vs := [.int .i64 T3]) (.inl rfl) rfl ⟨rfl, trivial⟩ hf_ hs_ ⟨(), rfl, hs_.pulls [] rfl⟩

/-- loop.example/g00950/laws.heldEng -/
noncomputable def laws_heldEng (a : Eng) (k : Int) : Option Int :=
  (laws_heldEntS a.Mem k).bind fun R2 =>
  if (decide (R2 < (0 : Int))) = true then (some (-1 : Int))
  else ((laws_heldEntSS a.Tables R2).bind fun R6 =>
  if (decide (R6 < (0 : Int))) = true then (some (-1 : Int))
  else ((laws_heldIntS a.Snaps R6).bind fun R10 =>
  if (decide (R10 < (0 : Int))) = true then (some (-1 : Int))
  else (some R10)))

theorem laws_heldEng_con (a : Eng) (k : Int) (V_a0 : Value) (V_a1 : Value) (V_a3 : Value) (r : Int) (hm : laws_heldEng a k = some r) :
    Con Try.prog 13 [.agg #[V_a0, V_a1, .int .i64 a.Seq, V_a3], .int .i64 k] [] [(V_a0, lc a.Mem), (V_a1, lc a.Tables), (V_a3, lc a.Snaps)] (fun _ : Unit => .int .i64 r) (fun _ => []) := by
  refine Con.intro (args := [.agg #[V_a0, V_a1, .int .i64 a.Seq, V_a3], .int .i64 k]) (n := 24) (val := fun r (_ : Unit) => .int .i64 r) (post := fun _ _ => []) (m := laws_heldEng a k) Try.func13 rfl rfl rfl hm ?_
  intro w S hrd
  have HB_V_a0 := hrd _ (.head _)
  have HB_V_a1 := hrd _ (.tail _ (.head _))
  have HB_V_a3 := hrd _ (.tail _ (.tail _ (.head _)))
  clear hrd
  unfold laws_heldEng
  refine TW.seq ?_
  refine TW.region ?_
  refine TO.ef (Ef.box rfl (Cel.agg ⟨(One.can (Base.can HB_V_a0)), (One.can (Base.can HB_V_a1)), (One.plain rfl), (One.can (Base.can HB_V_a3)), trivial⟩)) rfl rfl rfl (fun B1 => ?_)
  refine TO.y (Y.assign rfl) rfl rfl rfl ?_
  refine TO.nil ?_
  refine TE.next ?_
  refine TW.seq ?_
  refine TW.region ?_
  refine TO.y (Y.field_box kf31_0 rfl rfl) rfl rfl rfl ?_
  refine TO.y (Y.load_box (v := V_a0) 0 kk28 rfl rfl rfl) rfl rfl rfl ?_
  refine TO.y (Y.move rfl) rfl rfl rfl ?_
  refine TO.bind fun R2 H3 => ?_
  refine TO.ef (Ef.call (rest := [.box B1 31 [V_a0, V_a1, .int .i64 a.Seq, V_a3]]) [0] (laws_heldEntS_con a.Mem k V_a0 R2 H3) kc24 rfl rfl ⟨(Base.can HB_V_a0), trivial⟩) rfl rfl rfl (fun _ => ?_)
  refine TO.y (Y.assign rfl) rfl rfl rfl ?_
  refine TO.nil ?_
  refine TE.next ?_
  refine TW.seq ?_
  refine TW.seq ?_
  refine TW.region ?_
  refine TO.y (Y.move rfl) rfl rfl rfl ?_
  refine TO.y (Y.lss rfl rfl) rfl rfl rfl ?_
  refine TO.nil ?_
  refine TE.next ?_
  refine TW.cond rfl (fun H5 => ?_) (fun H5 => ?_)
  ·refine TW.seq ?_
   refine TW.region ?_
   refine TO.y (Y.assign rfl) rfl rfl rfl ?_
   refine TO.nil ?_
   refine TE.next ?_
   refine TW.ret ?_
   refine TE.then_ret ?_
   exact TE.leaf fun _ _ hf_ hs_ => ret_any (rs := [.tmp 4]) (vs := [.int .i64 (-1 : Int)]) (.inl rfl) rfl ⟨rfl, trivial⟩ hf_ hs_ ⟨(), rfl, hs_.pulls [] rfl⟩
  refine TW.skip ?_
  refine TE.next ?_
  refine TW.seq ?_
  refine TW.region ?_
  refine TO.y (Y.field_box kf31_1 rfl rfl) rfl rfl rfl ?_
  refine TO.y (Y.load_box (v := V_a1) 0 kk29 rfl rfl rfl) rfl rfl rfl ?_
  refine TO.y (Y.move rfl) rfl rfl rfl ?_
  refine TO.bind fun R6 H7 => ?_
  refine TO.ef (Ef.call (rest := [.box B1 31 [V_a0, V_a1, .int .i64 a.Seq, V_a3]]) [0] (laws_heldEntSS_con a.Tables R2 V_a1 R6 H7) kc41 rfl rfl ⟨(Base.can HB_V_a1), trivial⟩) rfl rfl rfl (fun _ => ?_)
  refine TO.y (Y.assign rfl) rfl rfl rfl ?_
  refine TO.nil ?_
  refine TE.next ?_
  refine TW.seq ?_
  refine TW.seq ?_
  refine TW.region ?_
  refine TO.y (Y.move rfl) rfl rfl rfl ?_
  refine TO.y (Y.lss rfl rfl) rfl rfl rfl ?_
  refine TO.nil ?_
  refine TE.next ?_
  refine TW.cond rfl (fun H9 => ?_) (fun H9 => ?_)
  ·refine TW.seq ?_
   refine TW.region ?_
   refine TO.y (Y.assign rfl) rfl rfl rfl ?_
   refine TO.nil ?_
   refine TE.next ?_
   refine TW.ret ?_
   refine TE.then_ret ?_
   exact TE.leaf fun _ _ hf_ hs_ => ret_any (rs := [.tmp 4]) (vs := [.int .i64 (-1 : Int)]) (.inl rfl) rfl ⟨rfl, trivial⟩ hf_ hs_ ⟨(), rfl, hs_.pulls [] rfl⟩
  refine TW.skip ?_
  refine TE.next ?_
  refine TW.seq ?_
  refine TW.region ?_
  refine TO.y (Y.field_box kf31_3 rfl rfl) rfl rfl rfl ?_
  refine TO.y (Y.load_box (v := V_a3) 0 kk24 rfl rfl rfl) rfl rfl rfl ?_
  refine TO.y (Y.move rfl) rfl rfl rfl ?_
  refine TO.bind fun R10 H11 => ?_
  refine TO.ef (Ef.call (rest := [.box B1 31 [V_a0, V_a1, .int .i64 a.Seq, V_a3]]) [0] (laws_heldIntS_con a.Snaps R6 V_a3 R10 H11) kc42 rfl rfl ⟨(Base.can HB_V_a3), trivial⟩) rfl rfl rfl (fun _ => ?_)
  refine TO.y (Y.assign rfl) rfl rfl rfl ?_
  refine TO.nil ?_
  refine TE.next ?_
  refine TW.seq ?_
  refine TW.seq ?_
  refine TW.region ?_
  refine TO.y (Y.move rfl) rfl rfl rfl ?_
  refine TO.y (Y.lss rfl rfl) rfl rfl rfl ?_
  refine TO.nil ?_
  refine TE.next ?_
  refine TW.cond rfl (fun H13 => ?_) (fun H13 => ?_)
  ·refine TW.seq ?_
   refine TW.region ?_
   refine TO.y (Y.assign rfl) rfl rfl rfl ?_
   refine TO.nil ?_
   refine TE.next ?_
   refine TW.ret ?_
   refine TE.then_ret ?_
   exact TE.leaf fun _ _ hf_ hs_ => ret_any (rs := [.tmp 4]) (vs := [.int .i64 (-1 : Int)]) (.inl rfl) rfl ⟨rfl, trivial⟩ hf_ hs_ ⟨(), rfl, hs_.pulls [] rfl⟩
  refine TW.skip ?_
  refine TE.next ?_
  refine TW.seq ?_
  refine TW.region ?_
  refine TO.y (Y.move rfl) rfl rfl rfl ?_
  refine TO.y (Y.assign rfl) rfl rfl rfl ?_
  refine TO.nil ?_
  refine TE.next ?_
  refine TW.ret ?_
  exact TE.leaf fun _ _ hf_ hs_ => ret_any (rs := [.tmp 4]) (vs := [.int .i64 R10]) (.inl rfl) rfl ⟨rfl, trivial⟩ hf_ hs_ ⟨(), rfl, hs_.pulls [] rfl⟩

/-- loop.example/g00950/laws.FnExactEngTidy -/
noncomputable def laws_FnExactEngTidy (aE : Eng) : Option Bool :=
  (laws_szEng aE (1048576 : Int)).bind fun R2 =>
  if (decide (R2 < (0 : Int))) = true then (some true)
  else ((laws_toEng aE).bind fun R6 =>
  (spec_EngTidy R6).bind fun R9 =>
  (impl_EngTidy R6).bind fun R15 =>
  ((laws_eqEng R15.1 R9.1).bind fun R21 =>
  if (!R21) = true then (some true)
  else (some (!(decide (R15.2 = R9.2))))).bind (fun (T19 : Bool) =>
  if T19 = true then (some false)
  else ((laws_eqEng R6 R6).bind fun R27 =>
  if (!R27) = true then (some false)
  else ((laws_markEng R6 (1 : Int)).bind fun R31 =>
  (if (decide (R31.1 < (0 : Int))) = true then (some true)
  else ((laws_eqEng R15.1 R9.1).bind fun R37 =>
  if (!R37) = true then (some true)
  else (some (!(decide (R15.2 = R9.2)))))).bind (fun (T34 : Bool) =>
  if T34 = true then (some false)
  else ((laws_markEng R15.1 (1 : Int)).bind fun R42 =>
  (laws_heldEng ({ Mem := R42.2.1, Tables := R42.2.2.1, Seq := R15.1.Seq, Snaps := R42.2.2.2 : Eng }) (1 : Int)).bind fun R45 =>
  if (decide (R45 < (0 : Int))) = true then (some false)
  else (if (!(decide (R45 = R42.1))) = true then (some false)
  else (((laws_eqEng R15.1 R9.1).bind fun R55 =>
  if (!R55) = true then (some true)
  else (some (!(decide (R15.2 = R9.2))))).bind (fun (T53 : Bool) =>
  if T53 = true then (some false)
  else (if (decide (R45 < (0 : Int))) = true then (some false)
  else (if (!(decide (R45 = R42.1))) = true then (some false)
  else (some true))))))))))))

theorem laws_FnExactEngTidy_con (aE : Eng) (V_aE0 : Value) (V_aE1 : Value) (V_aE3 : Value) (r : Bool) (hm : laws_FnExactEngTidy aE = some r) :
    Con Try.prog 4 [.agg #[V_aE0, V_aE1, .int .i64 aE.Seq, V_aE3]] [] [(V_aE0, lc aE.Mem), (V_aE1, lc aE.Tables), (V_aE3, lc aE.Snaps)] (fun _ : Unit => .bool r) (fun _ => []) := by
  refine Con.intro (args := [.agg #[V_aE0, V_aE1, .int .i64 aE.Seq, V_aE3]]) (n := 96) (val := fun r (_ : Unit) => .bool r) (post := fun _ _ => []) (m := laws_FnExactEngTidy aE) Try.func4 rfl rfl rfl hm ?_
  intro w S hrd
  have HB_V_aE0 := hrd _ (.head _)
  have HB_V_aE1 := hrd _ (.tail _ (.head _))
  have HB_V_aE3 := hrd _ (.tail _ (.tail _ (.head _)))
  clear hrd
  unfold laws_FnExactEngTidy
  refine TW.seq ?_
  refine TW.region ?_
  refine TO.ef (Ef.box rfl (Cel.agg ⟨(One.can (Base.can HB_V_aE0)), (One.can (Base.can HB_V_aE1)), (One.plain rfl), (One.can (Base.can HB_V_aE3)), trivial⟩)) rfl rfl rfl (fun B1 => ?_)
  refine TO.y (Y.assign rfl) rfl rfl rfl ?_
  refine TO.nil ?_
  refine TE.next ?_
  refine TW.seq ?_
  refine TW.region ?_
  refine TO.y (Y.assign rfl) rfl rfl rfl ?_
  refine TO.nil ?_
  refine TE.next ?_
  refine TW.seq ?_
  refine TW.region ?_
  refine TO.y (Y.load_box (v := .agg #[V_aE0, V_aE1, .int .i64 aE.Seq, V_aE3]) 0 kk26 rfl rfl rfl) rfl rfl rfl ?_
  refine TO.y (Y.move rfl) rfl rfl rfl ?_
  refine TO.bind fun R2 H3 => ?_
  refine TO.ef (Ef.call (rest := [.box B1 26 [V_aE0, V_aE1, .int .i64 aE.Seq, V_aE3]]) [0] (laws_szEng_con aE (1048576 : Int) V_aE0 V_aE1 V_aE3 R2 H3) kc7 rfl rfl ⟨(Base.can HB_V_aE0), (Base.can HB_V_aE1), (Base.can HB_V_aE3), trivial⟩) rfl rfl rfl (fun _ => ?_)
  refine TO.y (Y.assign rfl) rfl rfl rfl ?_
  refine TO.nil ?_
  refine TE.next ?_
  refine TW.seq ?_
  refine TW.seq ?_
  refine TW.region ?_
  refine TO.y (Y.move rfl) rfl rfl rfl ?_
  refine TO.y (Y.lss rfl rfl) rfl rfl rfl ?_
  refine TO.nil ?_
  refine TE.next ?_
  refine TW.cond rfl (fun H5 => ?_) (fun H5 => ?_)
  ·refine TW.seq ?_
   refine TW.region ?_
   refine TO.y (Y.assign rfl) rfl rfl rfl ?_
   refine TO.nil ?_
   refine TE.next ?_
   refine TW.ret ?_
   refine TE.then_ret ?_
   exact TE.leaf fun _ _ hf_ hs_ => ret_any (rs := [.tmp 2]) (vs := [.bool true]) (.inl rfl) rfl ⟨rfl, trivial⟩ hf_ hs_ ⟨(), rfl, hs_.pulls [] rfl⟩
  refine TW.skip ?_
  refine TE.next ?_
  refine TW.seq ?_
  refine TW.region ?_
  refine TO.y (Y.load_box (v := .agg #[V_aE0, V_aE1, .int .i64 aE.Seq, V_aE3]) 0 kk26 rfl rfl rfl) rfl rfl rfl ?_
  refine TO.bind fun R6 H7 => ?_
  refine TO.ef (Ef.call (rest := [.box B1 26 [V_aE0, V_aE1, .int .i64 aE.Seq, V_aE3]]) [0] (laws_toEng_con aE V_aE0 V_aE1 V_aE3 R6 H7) kc9 rfl rfl ⟨(Base.can HB_V_aE0), (Base.can HB_V_aE1), (Base.can HB_V_aE3), trivial⟩) rfl rfl rfl (fun Y8 => ?_)
  refine TO.bind fun R9 H10 => ?_
  refine TO.ef (Ef.call (rest := [.own Y8.1 (lc R6.Mem), .own Y8.2.1 (lc R6.Tables), .own Y8.2.2 (lc R6.Snaps), .box B1 26 [V_aE0, V_aE1, .int .i64 aE.Seq, V_aE3]]) [0, 0, 0, 0] (spec_EngTidy_con R6 Y8.1 Y8.2.1 Y8.2.2 R9 H10) kc14 rfl rfl ⟨(Can.own 0 rfl), (Can.own 1 rfl), (Can.own 2 rfl), trivial⟩) rfl rfl rfl (fun Y11 => ?_)
  refine TO.y (Y.move rfl) rfl rfl rfl ?_
  refine TO.y (Y.extract rfl rfl) rfl rfl rfl ?_
  refine TO.y (Y.extract rfl rfl) rfl rfl rfl ?_
  refine TO.ef (Ef.alloc kz31 rfl) rfl rfl rfl (fun B12 => ?_)
  refine TO.ef0 (Ef.store_box (us := [Y11.1, Y11.2.1, .int .i64 R9.1.Seq, Y11.2.2]) (vs' := [Y11.1, Y11.2.1, .int .i64 R9.1.Seq, Y11.2.2]) (is' := [.box B12 31 [Y11.1, Y11.2.1, .int .i64 R9.1.Seq, Y11.2.2], .own Y11.1 (lc R9.1.Mem), .own Y11.2.1 (lc R9.1.Tables), .own Y11.2.2 (lc R9.1.Snaps), .own Y8.1 (lc R6.Mem), .own Y8.2.1 (lc R6.Tables), .own Y8.2.2 (lc R6.Snaps), .box B1 26 [V_aE0, V_aE1, .int .i64 aE.Seq, V_aE3]]) 0 kk31 rfl rfl rfl (Cel.agg ⟨(One.can (Can.own 1 rfl)), (One.can (Can.own 2 rfl)), (One.plain rfl), (One.can (Can.own 3 rfl)), trivial⟩) rfl rfl rfl rfl) rfl rfl (fun _ => ?_)
  refine TO.y (Y.assign rfl) rfl rfl rfl ?_
  refine TO.nil ?_
  refine TE.next ?_
  refine TW.seq ?_
  refine TW.region ?_
  refine TO.y (Y.load_box (v := .agg #[V_aE0, V_aE1, .int .i64 aE.Seq, V_aE3]) 7 kk26 rfl rfl rfl) rfl rfl rfl ?_
  refine TO.ef (Ef.call (rest := [.box B12 31 [Y11.1, Y11.2.1, .int .i64 R9.1.Seq, Y11.2.2], .own Y11.1 (lc R9.1.Mem), .own Y11.2.1 (lc R9.1.Tables), .own Y11.2.2 (lc R9.1.Snaps), .own Y8.1 (lc R6.Mem), .own Y8.2.1 (lc R6.Tables), .own Y8.2.2 (lc R6.Snaps), .box B1 26 [V_aE0, V_aE1, .int .i64 aE.Seq, V_aE3]]) [0, 0, 0, 0, 0, 0, 0, 0] (laws_toEng_con aE V_aE0 V_aE1 V_aE3 R6 H7) kc9 rfl rfl ⟨(Base.can HB_V_aE0), (Base.can HB_V_aE1), (Base.can HB_V_aE3), trivial⟩) rfl rfl rfl (fun Y13 => ?_)
  refine TO.ef (Ef.alloc kz31 rfl) rfl rfl rfl (fun B14 => ?_)
  refine TO.ef0 (Ef.store_box (us := [Y13.1, Y13.2.1, .int .i64 R6.Seq, Y13.2.2]) (vs' := [Y13.1, Y13.2.1, .int .i64 R6.Seq, Y13.2.2]) (is' := [.box B14 31 [Y13.1, Y13.2.1, .int .i64 R6.Seq, Y13.2.2], .own Y13.1 (lc R6.Mem), .own Y13.2.1 (lc R6.Tables), .own Y13.2.2 (lc R6.Snaps), .box B12 31 [Y11.1, Y11.2.1, .int .i64 R9.1.Seq, Y11.2.2], .own Y11.1 (lc R9.1.Mem), .own Y11.2.1 (lc R9.1.Tables), .own Y11.2.2 (lc R9.1.Snaps), .own Y8.1 (lc R6.Mem), .own Y8.2.1 (lc R6.Tables), .own Y8.2.2 (lc R6.Snaps), .box B1 26 [V_aE0, V_aE1, .int .i64 aE.Seq, V_aE3]]) 0 kk31 rfl rfl rfl (Cel.agg ⟨(One.can (Can.own 1 rfl)), (One.can (Can.own 2 rfl)), (One.plain rfl), (One.can (Can.own 3 rfl)), trivial⟩) rfl rfl rfl rfl) rfl rfl (fun _ => ?_)
  refine TO.nil ?_
  refine TE.next ?_
  refine TW.seq ?_
  refine TW.region ?_
  refine TO.y (Y.load_box (v := .agg #[Y13.1, Y13.2.1, .int .i64 R6.Seq, Y13.2.2]) 0 kk31 rfl rfl rfl) rfl rfl rfl ?_
  refine TO.bind fun R15 H16 => ?_
  refine TO.ef (Ef.call (rest := [.box B14 31 [Y13.1, Y13.2.1, .int .i64 R6.Seq, Y13.2.2], .own Y13.1 (lc R6.Mem), .own Y13.2.1 (lc R6.Tables), .own Y13.2.2 (lc R6.Snaps), .box B12 31 [Y11.1, Y11.2.1, .int .i64 R9.1.Seq, Y11.2.2], .own Y11.1 (lc R9.1.Mem), .own Y11.2.1 (lc R9.1.Tables), .own Y11.2.2 (lc R9.1.Snaps), .own Y8.1 (lc R6.Mem), .own Y8.2.1 (lc R6.Tables), .own Y8.2.2 (lc R6.Snaps), .box B1 26 [V_aE0, V_aE1, .int .i64 aE.Seq, V_aE3]]) [0, 0, 0, 0, 0, 0, 0, 0, 0, 0, 0, 0] (impl_EngTidy_con R6 Y13.1 Y13.2.1 Y13.2.2 R15 H16) kc15 rfl rfl ⟨(Can.own 1 rfl), (Can.own 2 rfl), (Can.own 3 rfl), trivial⟩) rfl rfl rfl (fun Y17 => ?_)
  refine TO.y (Y.move rfl) rfl rfl rfl ?_
  refine TO.y (Y.extract rfl rfl) rfl rfl rfl ?_
  refine TO.y (Y.extract rfl rfl) rfl rfl rfl ?_
  refine TO.ef (Ef.alloc kz31 rfl) rfl rfl rfl (fun B18 => ?_)
  refine TO.ef0 (Ef.store_box (us := [Y17.1, Y17.2.1, .int .i64 R15.1.Seq, Y17.2.2]) (vs' := [Y17.1, Y17.2.1, .int .i64 R15.1.Seq, Y17.2.2]) (is' := [.box B18 31 [Y17.1, Y17.2.1, .int .i64 R15.1.Seq, Y17.2.2], .own Y17.1 (lc R15.1.Mem), .own Y17.2.1 (lc R15.1.Tables), .own Y17.2.2 (lc R15.1.Snaps), .box B14 31 [Y13.1, Y13.2.1, .int .i64 R6.Seq, Y13.2.2], .own Y13.1 (lc R6.Mem), .own Y13.2.1 (lc R6.Tables), .own Y13.2.2 (lc R6.Snaps), .box B12 31 [Y11.1, Y11.2.1, .int .i64 R9.1.Seq, Y11.2.2], .own Y11.1 (lc R9.1.Mem), .own Y11.2.1 (lc R9.1.Tables), .own Y11.2.2 (lc R9.1.Snaps), .own Y8.1 (lc R6.Mem), .own Y8.2.1 (lc R6.Tables), .own Y8.2.2 (lc R6.Snaps), .box B1 26 [V_aE0, V_aE1, .int .i64 aE.Seq, V_aE3]]) 0 kk31 rfl rfl rfl (Cel.agg ⟨(One.can (Can.own 1 rfl)), (One.can (Can.own 2 rfl)), (One.plain rfl), (One.can (Can.own 3 rfl)), trivial⟩) rfl rfl rfl rfl) rfl rfl (fun _ => ?_)
  refine TO.y (Y.assign rfl) rfl rfl rfl ?_
  refine TO.nil ?_
  refine TE.next ?_
  refine TW.seq ?_
  refine TW.seq ?_
  refine TW.joinBX (τ := Bool) (X := Unit) (fun T _ => [(1, .pointer (some ⟨B1, 0, none⟩)), (4, .pointer (some ⟨B12, 0, none⟩)), (5, .bool R9.2), (6, .pointer (some ⟨B14, 0, none⟩)), (7, .pointer (some ⟨B18, 0, none⟩)), (8, .bool R15.2), (40, .bool T)]) (fun _ _ => [.box B1 26 [V_aE0, V_aE1, .int .i64 aE.Seq, V_aE3], .box B12 31 [Y11.1, Y11.2.1, .int .i64 R9.1.Seq, Y11.2.2], .box B14 31 [Y13.1, Y13.2.1, .int .i64 R6.Seq, Y13.2.2], .box B18 31 [Y17.1, Y17.2.1, .int .i64 R15.1.Seq, Y17.2.2], .own Y11.1 (lc R9.1.Mem), .own Y11.2.1 (lc R9.1.Tables), .own Y11.2.2 (lc R9.1.Snaps), .own Y13.1 (lc R6.Mem), .own Y13.2.1 (lc R6.Tables), .own Y13.2.2 (lc R6.Snaps), .own Y17.1 (lc R15.1.Mem), .own Y17.2.1 (lc R15.1.Tables), .own Y17.2.2 (lc R15.1.Snaps)]) ?_ (fun T19 X20 => ?_)
  ·refine TW.region ?_
   refine TO.y (Y.load_box (v := .agg #[Y17.1, Y17.2.1, .int .i64 R15.1.Seq, Y17.2.2]) 0 kk31 rfl rfl rfl) rfl rfl rfl ?_
   refine TO.y (Y.load_box (v := .agg #[Y11.1, Y11.2.1, .int .i64 R9.1.Seq, Y11.2.2]) 8 kk31 rfl rfl rfl) rfl rfl rfl ?_
   refine TO.bind fun R21 H22 => ?_
   refine TO.ef (Ef.call (rest := [.box B18 31 [Y17.1, Y17.2.1, .int .i64 R15.1.Seq, Y17.2.2], .own Y17.1 (lc R15.1.Mem), .own Y17.2.1 (lc R15.1.Tables), .own Y17.2.2 (lc R15.1.Snaps), .box B14 31 [Y13.1, Y13.2.1, .int .i64 R6.Seq, Y13.2.2], .own Y13.1 (lc R6.Mem), .own Y13.2.1 (lc R6.Tables), .own Y13.2.2 (lc R6.Snaps), .box B12 31 [Y11.1, Y11.2.1, .int .i64 R9.1.Seq, Y11.2.2], .own Y11.1 (lc R9.1.Mem), .own Y11.2.1 (lc R9.1.Tables), .own Y11.2.2 (lc R9.1.Snaps), .own Y8.1 (lc R6.Mem), .own Y8.2.1 (lc R6.Tables), .own Y8.2.2 (lc R6.Snaps), .box B1 26 [V_aE0, V_aE1, .int .i64 aE.Seq, V_aE3]]) [0, 0, 0, 0, 0, 0, 0, 0, 0, 0, 0, 0, 0, 0, 0, 0] (laws_eqEng_con R15.1 R9.1 Y17.1 Y17.2.1 Y17.2.2 Y11.1 Y11.2.1 Y11.2.2 R21 H22) kc11 rfl rfl ⟨(Can.own 1 rfl), (Can.own 2 rfl), (Can.own 3 rfl), (Can.own 9 rfl), (Can.own 10 rfl), (Can.own 11 rfl), trivial⟩) rfl rfl rfl (fun _ => ?_)
   refine TO.y (Y.not rfl) rfl rfl rfl ?_
   refine TO.y (Y.move rfl) rfl rfl rfl ?_
   refine TO.ite (b := !R21) (fun H24 => ?_) (fun H24 => ?_)
   ·refine TO.off (Gd.at 4 false 36 (!R21) rfl rfl rfl (beq_tf H24)) rfl rfl ?_
    refine TO.off (Gd.at 4 false 36 (!R21) rfl rfl rfl (beq_tf H24)) rfl rfl ?_
    refine TO.off (Gd.at 4 false 36 (!R21) rfl rfl rfl (beq_tf H24)) rfl rfl ?_
    refine TO.y (Y.pick_t H24 rfl rfl) rfl rfl rfl ?_
    refine TO.nil ?_
    exact TE.jb_go () [15, 8, 4, 0, 6, 6, 6, 3, 3, 3, 0, 0, 0] ⟨rfl, rfl, rfl, rfl, rfl, rfl, rfl, trivial⟩ rfl
   refine TO.y (Y.move rfl) (Gd.at 4 false 36 (!R21) rfl rfl rfl (beq_ff H24)) rfl rfl ?_
   refine TO.y (Y.move rfl) (Gd.at 4 false 36 (!R21) rfl rfl rfl (beq_ff H24)) rfl rfl ?_
   refine TO.y (Y.neb kb4 rfl rfl) (Gd.at 4 false 36 (!R21) rfl rfl rfl (beq_ff H24)) rfl rfl ?_
   refine TO.y (Y.pick_f H24 rfl rfl) rfl rfl rfl ?_
   refine TO.nil ?_
   exact TE.jb_go () [15, 8, 4, 0, 6, 6, 6, 3, 3, 3, 0, 0, 0] ⟨rfl, rfl, rfl, rfl, rfl, rfl, rfl, trivial⟩ rfl
  refine TE.next ?_
  refine TW.cond rfl (fun H25 => ?_) (fun H25 => ?_)
  ·refine TW.seq ?_
   refine TW.region ?_
   refine TO.y (Y.assign rfl) rfl rfl rfl ?_
   refine TO.nil ?_
   refine TE.next ?_
   refine TW.ret ?_
   refine TE.then_ret ?_
   exact TE.leaf fun _ _ hf_ hs_ => ret_any (rs := [.tmp 2]) (vs := [.bool false]) (.inl rfl) rfl ⟨rfl, trivial⟩ hf_ hs_ ⟨(), rfl, hs_.pulls [] rfl⟩
  refine TW.skip ?_
  refine TE.next ?_
  refine TW.seq ?_
  refine TW.seq ?_
  refine TW.draw (isH := [.box B1 26 [V_aE0, V_aE1, .int .i64 aE.Seq, V_aE3], .box B12 31 [Y11.1, Y11.2.1, .int .i64 R9.1.Seq, Y11.2.2], .box B14 31 [Y13.1, Y13.2.1, .int .i64 R6.Seq, Y13.2.2], .box B18 31 [Y17.1, Y17.2.1, .int .i64 R15.1.Seq, Y17.2.2], .own Y11.1 (lc R9.1.Mem), .own Y11.2.1 (lc R9.1.Tables), .own Y11.2.2 (lc R9.1.Snaps), .own Y13.1 (lc R6.Mem), .own Y13.2.1 (lc R6.Tables), .own Y13.2.2 (lc R6.Snaps), .own Y17.1 (lc R15.1.Mem), .own Y17.2.1 (lc R15.1.Tables), .own Y17.2.2 (lc R15.1.Snaps)]) hMix ?_
  refine TA.y 0 [0, 0, 0, 0, 0, 0, 0, 0, 0, 0, 0, 0, 0] rfl (Y.load_box (v := .agg #[Y13.1, Y13.2.1, .int .i64 R6.Seq, Y13.2.2]) 2 kk31 rfl rfl rfl) rfl rfl rfl (by kernel_rfl) rfl ?_
  refine TA.y 1 [0, 0, 0, 0, 0, 0, 0, 0, 0, 0, 0, 0, 0] rfl (Y.load_box (v := .agg #[V_aE0, V_aE1, .int .i64 aE.Seq, V_aE3]) 0 kk26 rfl rfl rfl) rfl rfl rfl (by kernel_rfl) rfl ?_
  refine TA.one 2 (by kernel_rfl) ?_
  refine TX.ef [3, 3, 3, 3, 3, 3, 3, 3, 3, 3, 3, 3, 3] rfl (Ef.call (rest := [.box B1 26 [V_aE0, V_aE1, .int .i64 aE.Seq, V_aE3], .box B12 31 [Y11.1, Y11.2.1, .int .i64 R9.1.Seq, Y11.2.2], .box B14 31 [Y13.1, Y13.2.1, .int .i64 R6.Seq, Y13.2.2], .box B18 31 [Y17.1, Y17.2.1, .int .i64 R15.1.Seq, Y17.2.2], .own Y11.1 (lc R9.1.Mem), .own Y11.2.1 (lc R9.1.Tables), .own Y11.2.2 (lc R9.1.Snaps), .own Y13.1 (lc R6.Mem), .own Y13.2.1 (lc R6.Tables), .own Y13.2.2 (lc R6.Snaps), .own Y17.1 (lc R15.1.Mem), .own Y17.2.1 (lc R15.1.Tables), .own Y17.2.2 (lc R15.1.Snaps)]) [0, 0, 0, 0, 0, 0, 0, 0, 0, 0, 0, 0, 0] (laws_toEng_con aE V_aE0 V_aE1 V_aE3 R6 H7) kc9 rfl rfl ⟨(Base.can HB_V_aE0), (Base.can HB_V_aE1), (Base.can HB_V_aE3), trivial⟩) rfl rfl rfl (fun _ => rfl) (fun Y26 => ?_)
  refine TA.bind fun R27 H28 => ?_
  refine TA.one 3 (by kernel_rfl) ?_
  refine TX.ef [3, 3, 3, 3, 3, 3, 3, 3, 3, 3, 3, 3, 3] rfl (Ef.call (rest := [.own Y26.1 (lc R6.Mem), .own Y26.2.1 (lc R6.Tables), .own Y26.2.2 (lc R6.Snaps), .box B1 26 [V_aE0, V_aE1, .int .i64 aE.Seq, V_aE3], .box B12 31 [Y11.1, Y11.2.1, .int .i64 R9.1.Seq, Y11.2.2], .box B14 31 [Y13.1, Y13.2.1, .int .i64 R6.Seq, Y13.2.2], .box B18 31 [Y17.1, Y17.2.1, .int .i64 R15.1.Seq, Y17.2.2], .own Y11.1 (lc R9.1.Mem), .own Y11.2.1 (lc R9.1.Tables), .own Y11.2.2 (lc R9.1.Snaps), .own Y13.1 (lc R6.Mem), .own Y13.2.1 (lc R6.Tables), .own Y13.2.2 (lc R6.Snaps), .own Y17.1 (lc R15.1.Mem), .own Y17.2.1 (lc R15.1.Tables), .own Y17.2.2 (lc R15.1.Snaps)]) [0, 0, 0, 0, 0, 0, 0, 0, 0, 0, 0, 0, 0, 0, 0, 0] (laws_eqEng_con R6 R6 Y13.1 Y13.2.1 Y13.2.2 Y26.1 Y26.2.1 Y26.2.2 R27 H28) kc11 rfl rfl ⟨(Can.own 10 rfl), (Can.own 11 rfl), (Can.own 12 rfl), (Can.own 0 rfl), (Can.own 1 rfl), (Can.own 2 rfl), trivial⟩) rfl rfl rfl (fun _ => rfl) (fun _ => ?_)
  refine TA.y 4 [3, 3, 3, 3, 3, 3, 3, 3, 3, 3, 3, 3, 3] rfl (Y.not rfl) rfl rfl rfl (by kernel_rfl) rfl ?_
  refine TA.nil (by kernel_rfl) ?_
  refine TE.next ?_
  refine TW.cond rfl (fun H30 => ?_) (fun H30 => ?_)
  ·refine TW.seq ?_
   refine TW.region ?_
   refine TO.y (Y.assign rfl) rfl rfl rfl ?_
   refine TO.nil ?_
   refine TE.next ?_
   refine TW.ret ?_
   refine TE.then_ret ?_
   exact TE.leaf fun _ _ hf_ hs_ => ret_any (rs := [.tmp 2]) (vs := [.bool false]) (.inl rfl) rfl ⟨rfl, trivial⟩ hf_ hs_ ⟨(), rfl, hs_.pulls [] rfl⟩
  refine TW.skip ?_
  refine TE.next ?_
  refine TW.seq ?_
  refine TW.region ?_
  refine TO.y (Y.assign rfl) rfl rfl rfl ?_
  refine TO.nil ?_
  refine TE.next ?_
  refine TW.seq ?_
  refine TW.region ?_
  refine TO.y (Y.load_box (v := .agg #[Y13.1, Y13.2.1, .int .i64 R6.Seq, Y13.2.2]) 5 kk31 rfl rfl rfl) rfl rfl rfl ?_
  refine TO.y (Y.move rfl) rfl rfl rfl ?_
  refine TO.bind fun R31 H32 => ?_
  refine TO.ef (Ef.call (rest := [.own Y26.1 (lc R6.Mem), .own Y26.2.1 (lc R6.Tables), .own Y26.2.2 (lc R6.Snaps), .box B1 26 [V_aE0, V_aE1, .int .i64 aE.Seq, V_aE3], .box B12 31 [Y11.1, Y11.2.1, .int .i64 R9.1.Seq, Y11.2.2], .box B14 31 [Y13.1, Y13.2.1, .int .i64 R6.Seq, Y13.2.2], .box B18 31 [Y17.1, Y17.2.1, .int .i64 R15.1.Seq, Y17.2.2], .own Y11.1 (lc R9.1.Mem), .own Y11.2.1 (lc R9.1.Tables), .own Y11.2.2 (lc R9.1.Snaps), .own Y17.1 (lc R15.1.Mem), .own Y17.2.1 (lc R15.1.Tables), .own Y17.2.2 (lc R15.1.Snaps)]) [10, 10, 10, 0, 0, 0, 0, 0, 0, 0, 0, 0, 0, 0, 0, 0] (laws_markEng_con R6 (1 : Int) Y13.1 Y13.2.1 Y13.2.2 R31 H32) kc12 rfl rfl trivial) rfl rfl rfl (fun _ => ?_)
  refine TO.y (Y.assign rfl) rfl rfl rfl ?_
  refine TO.nil ?_
  refine TE.next ?_
  refine TW.seq ?_
  refine TW.seq ?_
  refine TW.joinBX (τ := Bool) (X := Unit) (fun T _ => [(1, .pointer (some ⟨B1, 0, none⟩)), (4, .pointer (some ⟨B12, 0, none⟩)), (5, .bool R9.2), (7, .pointer (some ⟨B18, 0, none⟩)), (61, .bool T)]) (fun _ _ => [.box B1 26 [V_aE0, V_aE1, .int .i64 aE.Seq, V_aE3], .box B12 31 [Y11.1, Y11.2.1, .int .i64 R9.1.Seq, Y11.2.2], .box B18 31 [Y17.1, Y17.2.1, .int .i64 R15.1.Seq, Y17.2.2], .own Y11.1 (lc R9.1.Mem), .own Y11.2.1 (lc R9.1.Tables), .own Y11.2.2 (lc R9.1.Snaps), .own Y17.1 (lc R15.1.Mem), .own Y17.2.1 (lc R15.1.Tables), .own Y17.2.2 (lc R15.1.Snaps)]) ?_ (fun T34 X35 => ?_)
  ·refine TW.region ?_
   refine TO.y (Y.move rfl) rfl rfl rfl ?_
   refine TO.y (Y.lss rfl rfl) rfl rfl rfl ?_
   refine TO.y (Y.move rfl) rfl rfl rfl ?_
   refine TO.ite (b := decide (R31.1 < (0 : Int))) (fun H36 => ?_) (fun H36 => ?_)
   ·refine TO.off (Gd.at 2 false 51 (decide (R31.1 < (0 : Int))) rfl rfl rfl (beq_tf H36)) rfl rfl ?_
    refine TO.off (Gd.at 2 false 51 (decide (R31.1 < (0 : Int))) rfl rfl rfl (beq_tf H36)) rfl rfl ?_
    refine TO.off (Gd.at 2 false 51 (decide (R31.1 < (0 : Int))) rfl rfl rfl (beq_tf H36)) rfl rfl ?_
    refine TO.off (Gd.at 2 false 51 (decide (R31.1 < (0 : Int))) rfl rfl rfl (beq_tf H36)) rfl rfl ?_
    refine TO.y (Y.pick_t H36 rfl rfl) rfl rfl rfl ?_
    refine TO.y (Y.move rfl) rfl rfl rfl ?_
    refine TO.off (Gd.at 8 false 57 true rfl rfl rfl rfl) rfl rfl ?_
    refine TO.off (Gd.at 8 false 57 true rfl rfl rfl rfl) rfl rfl ?_
    refine TO.off (Gd.at 8 false 57 true rfl rfl rfl rfl) rfl rfl ?_
    refine TO.y (Y.pick_t rfl rfl rfl) rfl rfl rfl ?_
    refine TO.nil ?_
    exact TE.jb_go () [6, 6, 7, 7, 7, 7, 7, 7, 7] ⟨rfl, rfl, rfl, rfl, rfl, trivial⟩ rfl
   refine TO.y (Y.load_box (v := .agg #[Y17.1, Y17.2.1, .int .i64 R15.1.Seq, Y17.2.2]) 9 kk31 rfl rfl rfl) (Gd.at 2 false 51 (decide (R31.1 < (0 : Int))) rfl rfl rfl (beq_ff H36)) rfl rfl ?_
   refine TO.y (Y.load_box (v := .agg #[Y11.1, Y11.2.1, .int .i64 R9.1.Seq, Y11.2.2]) 7 kk31 rfl rfl rfl) (Gd.at 2 false 51 (decide (R31.1 < (0 : Int))) rfl rfl rfl (beq_ff H36)) rfl rfl ?_
   refine TO.bind fun R37 H38 => ?_
   refine TO.ef (Ef.call (rest := [.own Y13.1 (lc R31.2.1), .own Y13.2.1 (lc R31.2.2.1), .own Y13.2.2 (lc R31.2.2.2), .own Y26.1 (lc R6.Mem), .own Y26.2.1 (lc R6.Tables), .own Y26.2.2 (lc R6.Snaps), .box B1 26 [V_aE0, V_aE1, .int .i64 aE.Seq, V_aE3], .box B12 31 [Y11.1, Y11.2.1, .int .i64 R9.1.Seq, Y11.2.2], .box B14 31 [Y13.1, Y13.2.1, .int .i64 R6.Seq, Y13.2.2], .box B18 31 [Y17.1, Y17.2.1, .int .i64 R15.1.Seq, Y17.2.2], .own Y11.1 (lc R9.1.Mem), .own Y11.2.1 (lc R9.1.Tables), .own Y11.2.2 (lc R9.1.Snaps), .own Y17.1 (lc R15.1.Mem), .own Y17.2.1 (lc R15.1.Tables), .own Y17.2.2 (lc R15.1.Snaps)]) [0, 0, 0, 0, 0, 0, 0, 0, 0, 0, 0, 0, 0, 0, 0, 0] (laws_eqEng_con R15.1 R9.1 Y17.1 Y17.2.1 Y17.2.2 Y11.1 Y11.2.1 Y11.2.2 R37 H38) kc11 rfl rfl ⟨(Can.own 13 rfl), (Can.own 14 rfl), (Can.own 15 rfl), (Can.own 10 rfl), (Can.own 11 rfl), (Can.own 12 rfl), trivial⟩) (Gd.at 2 false 51 (decide (R31.1 < (0 : Int))) rfl rfl rfl (beq_ff H36)) rfl rfl (fun _ => ?_)
   refine TO.y (Y.not rfl) (Gd.at 2 false 51 (decide (R31.1 < (0 : Int))) rfl rfl rfl (beq_ff H36)) rfl rfl ?_
   refine TO.y (Y.pick_f H36 rfl rfl) rfl rfl rfl ?_
   refine TO.y (Y.move rfl) rfl rfl rfl ?_
   refine TO.ite (b := !R37) (fun H40 => ?_) (fun H40 => ?_)
   ·refine TO.off (Gd.at 8 false 57 (!R37) rfl rfl rfl (beq_tf H40)) rfl rfl ?_
    refine TO.off (Gd.at 8 false 57 (!R37) rfl rfl rfl (beq_tf H40)) rfl rfl ?_
    refine TO.off (Gd.at 8 false 57 (!R37) rfl rfl rfl (beq_tf H40)) rfl rfl ?_
    refine TO.y (Y.pick_t H40 rfl rfl) rfl rfl rfl ?_
    refine TO.nil ?_
    exact TE.jb_go () [6, 6, 7, 7, 7, 7, 7, 7, 7] ⟨rfl, rfl, rfl, rfl, rfl, trivial⟩ rfl
   refine TO.y (Y.move rfl) (Gd.at 8 false 57 (!R37) rfl rfl rfl (beq_ff H40)) rfl rfl ?_
   refine TO.y (Y.move rfl) (Gd.at 8 false 57 (!R37) rfl rfl rfl (beq_ff H40)) rfl rfl ?_
   refine TO.y (Y.neb kb4 rfl rfl) (Gd.at 8 false 57 (!R37) rfl rfl rfl (beq_ff H40)) rfl rfl ?_
   refine TO.y (Y.pick_f H40 rfl rfl) rfl rfl rfl ?_
   refine TO.nil ?_
   exact TE.jb_go () [6, 6, 7, 7, 7, 7, 7, 7, 7] ⟨rfl, rfl, rfl, rfl, rfl, trivial⟩ rfl
  refine TE.next ?_
  refine TW.cond rfl (fun H41 => ?_) (fun H41 => ?_)
  ·refine TW.seq ?_
   refine TW.region ?_
   refine TO.y (Y.assign rfl) rfl rfl rfl ?_
   refine TO.nil ?_
   refine TE.next ?_
   refine TW.ret ?_
   refine TE.then_ret ?_
   exact TE.leaf fun _ _ hf_ hs_ => ret_any (rs := [.tmp 2]) (vs := [.bool false]) (.inl rfl) rfl ⟨rfl, trivial⟩ hf_ hs_ ⟨(), rfl, hs_.pulls [] rfl⟩
  refine TW.skip ?_
  refine TE.next ?_
  refine TW.seq ?_
  refine TW.region ?_
  refine TO.y (Y.assign rfl) rfl rfl rfl ?_
  refine TO.nil ?_
  refine TE.next ?_
  refine TW.seq ?_
  refine TW.region ?_
  refine TO.y (Y.load_box (v := .agg #[Y17.1, Y17.2.1, .int .i64 R15.1.Seq, Y17.2.2]) 2 kk31 rfl rfl rfl) rfl rfl rfl ?_
  refine TO.y (Y.move rfl) rfl rfl rfl ?_
  refine TO.bind fun R42 H43 => ?_
  refine TO.ef (Ef.call (rest := [.box B1 26 [V_aE0, V_aE1, .int .i64 aE.Seq, V_aE3], .box B12 31 [Y11.1, Y11.2.1, .int .i64 R9.1.Seq, Y11.2.2], .box B18 31 [Y17.1, Y17.2.1, .int .i64 R15.1.Seq, Y17.2.2], .own Y11.1 (lc R9.1.Mem), .own Y11.2.1 (lc R9.1.Tables), .own Y11.2.2 (lc R9.1.Snaps)]) [6, 6, 6, 0, 0, 0, 0, 0, 0] (laws_markEng_con R15.1 (1 : Int) Y17.1 Y17.2.1 Y17.2.2 R42 H43) kc12 rfl rfl trivial) rfl rfl rfl (fun _ => ?_)
  refine TO.y (Y.assign rfl) rfl rfl rfl ?_
  refine TO.nil ?_
  refine TE.next ?_
  refine TW.seq ?_
  refine TW.region ?_
  refine TO.y (Y.assign rfl) rfl rfl rfl ?_
  refine TO.nil ?_
  refine TE.next ?_
  refine TW.seq ?_
  refine TW.region ?_
  refine TO.y (Y.load_box (v := .agg #[Y17.1, Y17.2.1, .int .i64 R15.1.Seq, Y17.2.2]) 5 kk31 rfl rfl rfl) rfl rfl rfl ?_
  refine TO.y (Y.move rfl) rfl rfl rfl ?_
  refine TO.bind fun R45 H46 => ?_
  refine TO.ef (Ef.call (rest := [.own Y17.1 (lc R42.2.1), .own Y17.2.1 (lc R42.2.2.1), .own Y17.2.2 (lc R42.2.2.2), .box B1 26 [V_aE0, V_aE1, .int .i64 aE.Seq, V_aE3], .box B12 31 [Y11.1, Y11.2.1, .int .i64 R9.1.Seq, Y11.2.2], .box B18 31 [Y17.1, Y17.2.1, .int .i64 R15.1.Seq, Y17.2.2], .own Y11.1 (lc R9.1.Mem), .own Y11.2.1 (lc R9.1.Tables), .own Y11.2.2 (lc R9.1.Snaps)]) [0, 0, 0, 0, 0, 0, 0, 0, 0] (laws_heldEng_con ({ Mem := R42.2.1, Tables := R42.2.2.1, Seq := R15.1.Seq, Snaps := R42.2.2.2 : Eng }) (1 : Int) Y17.1 Y17.2.1 Y17.2.2 R45 H46) kc13 rfl rfl ⟨(Can.own 0 rfl), (Can.own 1 rfl), (Can.own 2 rfl), trivial⟩) rfl rfl rfl (fun _ => ?_)
  refine TO.y (Y.assign rfl) rfl rfl rfl ?_
  refine TO.nil ?_
  refine TE.next ?_
  refine TW.seq ?_
  refine TW.seq ?_
  refine TW.region ?_
  refine TO.y (Y.move rfl) rfl rfl rfl ?_
  refine TO.y (Y.lss rfl rfl) rfl rfl rfl ?_
  refine TO.nil ?_
  refine TE.next ?_
  refine TW.cond rfl (fun H48 => ?_) (fun H48 => ?_)
  ·refine TW.seq ?_
   refine TW.region ?_
   refine TO.y (Y.assign rfl) rfl rfl rfl ?_
   refine TO.nil ?_
   refine TE.next ?_
   refine TW.ret ?_
   refine TE.then_ret ?_
   exact TE.leaf fun _ _ hf_ hs_ => ret_any (rs := [.tmp 2]) (vs := [.bool false]) (.inl rfl) rfl ⟨rfl, trivial⟩ hf_ hs_ ⟨(), rfl, hs_.pulls [] rfl⟩
  refine TW.skip ?_
  refine TE.next ?_
  refine TW.seq ?_
  refine TW.seq ?_
  refine TW.region ?_
  refine TO.y (Y.move rfl) rfl rfl rfl ?_
  refine TO.y (Y.move rfl) rfl rfl rfl ?_
  refine TO.y (Y.neq rfl rfl) rfl rfl rfl ?_
  refine TO.nil ?_
  refine TE.next ?_
  refine TW.cond rfl (fun H49 => ?_) (fun H49 => ?_)
  ·refine TW.seq ?_
   refine TW.region ?_
   refine TO.y (Y.assign rfl) rfl rfl rfl ?_
   refine TO.nil ?_
   refine TE.next ?_
   refine TW.ret ?_
   refine TE.then_ret ?_
   exact TE.leaf fun _ _ hf_ hs_ => ret_any (rs := [.tmp 2]) (vs := [.bool false]) (.inl rfl) rfl ⟨rfl, trivial⟩ hf_ hs_ ⟨(), rfl, hs_.pulls [] rfl⟩
  refine TW.skip ?_
  refine TE.next ?_
  refine TW.seq ?_
  refine TW.region ?_
  refine TO.y (Y.load_box (v := .agg #[V_aE0, V_aE1, .int .i64 aE.Seq, V_aE3]) 3 kk26 rfl rfl rfl) rfl rfl rfl ?_
  refine TO.ef (Ef.call (rest := [.own Y17.1 (lc R42.2.1), .own Y17.2.1 (lc R42.2.2.1), .own Y17.2.2 (lc R42.2.2.2), .box B1 26 [V_aE0, V_aE1, .int .i64 aE.Seq, V_aE3], .box B12 31 [Y11.1, Y11.2.1, .int .i64 R9.1.Seq, Y11.2.2], .box B18 31 [Y17.1, Y17.2.1, .int .i64 R15.1.Seq, Y17.2.2], .own Y11.1 (lc R9.1.Mem), .own Y11.2.1 (lc R9.1.Tables), .own Y11.2.2 (lc R9.1.Snaps)]) [0, 0, 0, 0, 0, 0, 0, 0, 0] (laws_toEng_con aE V_aE0 V_aE1 V_aE3 R6 H7) kc9 rfl rfl ⟨(Base.can HB_V_aE0), (Base.can HB_V_aE1), (Base.can HB_V_aE3), trivial⟩) rfl rfl rfl (fun Y50 => ?_)
  refine TO.ef (Ef.call (rest := [.own Y50.1 (lc R6.Mem), .own Y50.2.1 (lc R6.Tables), .own Y50.2.2 (lc R6.Snaps), .own Y17.1 (lc R42.2.1), .own Y17.2.1 (lc R42.2.2.1), .own Y17.2.2 (lc R42.2.2.2), .box B1 26 [V_aE0, V_aE1, .int .i64 aE.Seq, V_aE3], .box B12 31 [Y11.1, Y11.2.1, .int .i64 R9.1.Seq, Y11.2.2], .box B18 31 [Y17.1, Y17.2.1, .int .i64 R15.1.Seq, Y17.2.2], .own Y11.1 (lc R9.1.Mem), .own Y11.2.1 (lc R9.1.Tables), .own Y11.2.2 (lc R9.1.Snaps)]) [0, 0, 0, 0, 0, 0, 0, 0, 0, 0, 0, 0] (impl_EngTidy_con R6 Y50.1 Y50.2.1 Y50.2.2 R15 H16) kc15 rfl rfl ⟨(Can.own 0 rfl), (Can.own 1 rfl), (Can.own 2 rfl), trivial⟩) rfl rfl rfl (fun Y51 => ?_)
  refine TO.y (Y.move rfl) rfl rfl rfl ?_
  refine TO.y (Y.extract rfl rfl) rfl rfl rfl ?_
  refine TO.y (Y.extract rfl rfl) rfl rfl rfl ?_
  refine TO.ef (Ef.alloc kz31 rfl) rfl rfl rfl (fun B52 => ?_)
  refine TO.ef0 (Ef.store_box (us := [Y51.1, Y51.2.1, .int .i64 R15.1.Seq, Y51.2.2]) (vs' := [Y51.1, Y51.2.1, .int .i64 R15.1.Seq, Y51.2.2]) (is' := [.box B52 31 [Y51.1, Y51.2.1, .int .i64 R15.1.Seq, Y51.2.2], .own Y51.1 (lc R15.1.Mem), .own Y51.2.1 (lc R15.1.Tables), .own Y51.2.2 (lc R15.1.Snaps), .own Y50.1 (lc R6.Mem), .own Y50.2.1 (lc R6.Tables), .own Y50.2.2 (lc R6.Snaps), .own Y17.1 (lc R42.2.1), .own Y17.2.1 (lc R42.2.2.1), .own Y17.2.2 (lc R42.2.2.2), .box B1 26 [V_aE0, V_aE1, .int .i64 aE.Seq, V_aE3], .box B12 31 [Y11.1, Y11.2.1, .int .i64 R9.1.Seq, Y11.2.2], .box B18 31 [Y17.1, Y17.2.1, .int .i64 R15.1.Seq, Y17.2.2], .own Y11.1 (lc R9.1.Mem), .own Y11.2.1 (lc R9.1.Tables), .own Y11.2.2 (lc R9.1.Snaps)]) 0 kk31 rfl rfl rfl (Cel.agg ⟨(One.can (Can.own 1 rfl)), (One.can (Can.own 2 rfl)), (One.plain rfl), (One.can (Can.own 3 rfl)), trivial⟩) rfl rfl rfl rfl) rfl rfl (fun _ => ?_)
  refine TO.y (Y.assign rfl) rfl rfl rfl ?_
  refine TO.nil ?_
  refine TE.next ?_
  refine TW.seq ?_
  refine TW.seq ?_
  refine TW.joinBX (τ := Bool) (X := Unit) (fun T _ => [(7, .pointer (some ⟨B18, 0, none⟩)), (10, .int .i64 R42.1), (87, .bool T)]) (fun _ _ => [.box B18 31 [Y17.1, Y17.2.1, .int .i64 R15.1.Seq, Y17.2.2], .own Y17.1 (lc R42.2.1), .own Y17.2.1 (lc R42.2.2.1), .own Y17.2.2 (lc R42.2.2.2)]) ?_ (fun T53 X54 => ?_)
  ·refine TW.region ?_
   refine TO.y (Y.load_box (v := .agg #[Y51.1, Y51.2.1, .int .i64 R15.1.Seq, Y51.2.2]) 0 kk31 rfl rfl rfl) rfl rfl rfl ?_
   refine TO.y (Y.load_box (v := .agg #[Y11.1, Y11.2.1, .int .i64 R9.1.Seq, Y11.2.2]) 11 kk31 rfl rfl rfl) rfl rfl rfl ?_
   refine TO.bind fun R55 H56 => ?_
   refine TO.ef (Ef.call (rest := [.box B52 31 [Y51.1, Y51.2.1, .int .i64 R15.1.Seq, Y51.2.2], .own Y51.1 (lc R15.1.Mem), .own Y51.2.1 (lc R15.1.Tables), .own Y51.2.2 (lc R15.1.Snaps), .own Y50.1 (lc R6.Mem), .own Y50.2.1 (lc R6.Tables), .own Y50.2.2 (lc R6.Snaps), .own Y17.1 (lc R42.2.1), .own Y17.2.1 (lc R42.2.2.1), .own Y17.2.2 (lc R42.2.2.2), .box B1 26 [V_aE0, V_aE1, .int .i64 aE.Seq, V_aE3], .box B12 31 [Y11.1, Y11.2.1, .int .i64 R9.1.Seq, Y11.2.2], .box B18 31 [Y17.1, Y17.2.1, .int .i64 R15.1.Seq, Y17.2.2], .own Y11.1 (lc R9.1.Mem), .own Y11.2.1 (lc R9.1.Tables), .own Y11.2.2 (lc R9.1.Snaps)]) [0, 0, 0, 0, 0, 0, 0, 0, 0, 0, 0, 0, 0, 0, 0, 0] (laws_eqEng_con R15.1 R9.1 Y51.1 Y51.2.1 Y51.2.2 Y11.1 Y11.2.1 Y11.2.2 R55 H56) kc11 rfl rfl ⟨(Can.own 1 rfl), (Can.own 2 rfl), (Can.own 3 rfl), (Can.own 13 rfl), (Can.own 14 rfl), (Can.own 15 rfl), trivial⟩) rfl rfl rfl (fun _ => ?_)
   refine TO.y (Y.not rfl) rfl rfl rfl ?_
   refine TO.y (Y.move rfl) rfl rfl rfl ?_
   refine TO.ite (b := !R55) (fun H58 => ?_) (fun H58 => ?_)
   ·refine TO.off (Gd.at 4 false 83 (!R55) rfl rfl rfl (beq_tf H58)) rfl rfl ?_
    refine TO.off (Gd.at 4 false 83 (!R55) rfl rfl rfl (beq_tf H58)) rfl rfl ?_
    refine TO.off (Gd.at 4 false 83 (!R55) rfl rfl rfl (beq_tf H58)) rfl rfl ?_
    refine TO.y (Y.pick_t H58 rfl rfl) rfl rfl rfl ?_
    refine TO.nil ?_
    exact TE.jb_go () [12, 7, 7, 7] ⟨rfl, rfl, rfl, trivial⟩ rfl
   refine TO.y (Y.move rfl) (Gd.at 4 false 83 (!R55) rfl rfl rfl (beq_ff H58)) rfl rfl ?_
   refine TO.y (Y.move rfl) (Gd.at 4 false 83 (!R55) rfl rfl rfl (beq_ff H58)) rfl rfl ?_
   refine TO.y (Y.neb kb4 rfl rfl) (Gd.at 4 false 83 (!R55) rfl rfl rfl (beq_ff H58)) rfl rfl ?_
   refine TO.y (Y.pick_f H58 rfl rfl) rfl rfl rfl ?_
   refine TO.nil ?_
   exact TE.jb_go () [12, 7, 7, 7] ⟨rfl, rfl, rfl, trivial⟩ rfl
  refine TE.next ?_
  refine TW.cond rfl (fun H59 => ?_) (fun H59 => ?_)
  ·refine TW.seq ?_
   refine TW.region ?_
   refine TO.y (Y.assign rfl) rfl rfl rfl ?_
   refine TO.nil ?_
   refine TE.next ?_
   refine TW.ret ?_
   refine TE.then_ret ?_
   exact TE.leaf fun _ _ hf_ hs_ => ret_any (rs := [.tmp 2]) (vs := [.bool false]) (.inl rfl) rfl ⟨rfl, trivial⟩ hf_ hs_ ⟨(), rfl, hs_.pulls [] rfl⟩
  refine TW.skip ?_
  refine TE.next ?_
  refine TW.seq ?_
  refine TW.region ?_
  refine TO.y (Y.assign rfl) rfl rfl rfl ?_
  refine TO.nil ?_
  refine TE.next ?_
  refine TW.seq ?_
  refine TW.region ?_
  refine TO.y (Y.load_box (v := .agg #[Y17.1, Y17.2.1, .int .i64 R15.1.Seq, Y17.2.2]) 0 kk31 rfl rfl rfl) rfl rfl rfl ?_
  refine TO.y (Y.move rfl) rfl rfl rfl ?_
  refine TO.ef (Ef.call (rest := [.box B18 31 [Y17.1, Y17.2.1, .int .i64 R15.1.Seq, Y17.2.2], .own Y17.1 (lc R42.2.1), .own Y17.2.1 (lc R42.2.2.1), .own Y17.2.2 (lc R42.2.2.2)]) [0, 0, 0, 0] (laws_heldEng_con ({ Mem := R42.2.1, Tables := R42.2.2.1, Seq := R15.1.Seq, Snaps := R42.2.2.2 : Eng }) (1 : Int) Y17.1 Y17.2.1 Y17.2.2 R45 H46) kc13 rfl rfl ⟨(Can.own 1 rfl), (Can.own 2 rfl), (Can.own 3 rfl), trivial⟩) rfl rfl rfl (fun _ => ?_)
  refine TO.y (Y.assign rfl) rfl rfl rfl ?_
  refine TO.nil ?_
  refine TE.next ?_
  refine TW.seq ?_
  refine TW.seq ?_
  refine TW.region ?_
  refine TO.y (Y.move rfl) rfl rfl rfl ?_
  refine TO.y (Y.lss rfl rfl) rfl rfl rfl ?_
  refine TO.nil ?_
  refine TE.next ?_
  refine TW.cond rfl (fun H61 => ?_) (fun H61 => ?_)
  ·refine TW.seq ?_
   refine TW.region ?_
   refine TO.y (Y.assign rfl) rfl rfl rfl ?_
   refine TO.nil ?_
   refine TE.next ?_
   refine TW.ret ?_
   refine TE.then_ret ?_
   exact TE.leaf fun _ _ hf_ hs_ => ret_any (rs := [.tmp 2]) (vs := [.bool false]) (.inl rfl) rfl ⟨rfl, trivial⟩ hf_ hs_ ⟨(), rfl, hs_.pulls [] rfl⟩
  refine TW.skip ?_
  refine TE.next ?_
  refine TW.seq ?_
  refine TW.seq ?_
  refine TW.region ?_
  refine TO.y (Y.move rfl) rfl rfl rfl ?_
  refine TO.y (Y.move rfl) rfl rfl rfl ?_
  refine TO.y (Y.neq rfl rfl) rfl rfl rfl ?_
  refine TO.nil ?_
  refine TE.next ?_
  refine TW.cond rfl (fun H62 => ?_) (fun H62 => ?_)
  ·refine TW.seq ?_
   refine TW.region ?_
   refine TO.y (Y.assign rfl) rfl rfl rfl ?_
   refine TO.nil ?_
   refine TE.next ?_
   refine TW.ret ?_
   refine TE.then_ret ?_
   exact TE.leaf fun _ _ hf_ hs_ => ret_any (rs := [.tmp 2]) (vs := [.bool false]) (.inl rfl) rfl ⟨rfl, trivial⟩ hf_ hs_ ⟨(), rfl, hs_.pulls [] rfl⟩
  refine TW.skip ?_
  refine TE.next ?_
  refine TW.seq ?_
  refine TW.region ?_
  refine TO.y (Y.assign rfl) rfl rfl rfl ?_
  refine TO.nil ?_
  refine TE.next ?_
  refine TW.ret ?_
  exact TE.leaf fun _ _ hf_ hs_ => ret_any (rs := [.tmp 2]) (vs := [.bool true]) (.inl rfl) rfl ⟨rfl, trivial⟩ hf_ hs_ ⟨(), rfl, hs_.pulls [] rfl⟩

end Go.Proofs.Ytjodikomidlhjaa
