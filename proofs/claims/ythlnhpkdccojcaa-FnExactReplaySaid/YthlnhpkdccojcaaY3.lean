/-
  The functions that a law reaches, each as a pure function, with the proof that the program computes it, and the step from a pure law to the given statement. Conditions: none.
-/
import Derived.Test.YthlnhpkdccojcaaY2
set_option linter.unusedVariables false
set_option maxRecDepth 100000
set_option maxHeartbeats 4000000
namespace Go.Proofs.Ythlnhpkdccojcaa
open Go Sl

/-- (*loop.example/g00950/impl.reader).done -/
noncomputable def impl_reader_done (r_ : Reader) : Option Bool :=
  (if (!r_.bad) = true then (some (decide (r_.at_ = ((r_.text.length : Nat) : Int))))
  else (some false)).bind (fun (T1 : Bool) =>
  some T1)

theorem impl_reader_done_con (r_ : Reader) (B_r_ : Nat) (r : Bool) (hm : impl_reader_done r_ = some r) :
    Con Try.prog 45 [.pointer (some ⟨B_r_, 0, none⟩)] [.box B_r_ 75 [strV r_.text, .int .i64 r_.at_, .bool r_.bad]] [] (fun _ : Unit => .bool r) (fun _ => [.box B_r_ 75 [strV r_.text, .int .i64 r_.at_, .bool r_.bad]]) := by
  refine Con.intro (args := [.pointer (some ⟨B_r_, 0, none⟩)]) (n := 20) (val := fun r (_ : Unit) => .bool r) (post := fun _ _ => [.box B_r_ 75 [strV r_.text, .int .i64 r_.at_, .bool r_.bad]]) (m := impl_reader_done r_) Try.func45 rfl rfl rfl hm ?_
  intro w S _
  unfold impl_reader_done
  refine TW.seq ?_
  refine TW.region ?_
  refine TO.y (Y.assign rfl) rfl rfl rfl ?_
  refine TO.nil ?_
  refine TE.next ?_
  refine TW.seq ?_
  refine TW.joinBX (τ := Bool) (X := Unit) (fun T _ => [(2, .bool T)]) (fun _ _ => [.box B_r_ 75 [strV r_.text, .int .i64 r_.at_, .bool r_.bad]]) ?_ (fun T1 X2 => ?_)
  · refine TW.draw (isH := [.box B_r_ 75 [strV r_.text, .int .i64 r_.at_, .bool r_.bad]]) hMix ?_
    refine TA.y (listed' := #[true, false, false, false, false, false, false, false, false, false, false, false, false, false, false, false, false, false]) 0 [0] rfl (Y.move rfl) rfl rfl rfl (by kernel_rfl) (by kernel_rfl) (by kernel_rfl) rfl rfl ?_
    refine TA.y (listed' := #[true, true, false, false, false, false, false, false, false, false, false, false, false, false, false, false, false, false]) 1 [0] rfl (Y.nilCheck rfl) rfl rfl rfl (by kernel_rfl) (by kernel_rfl) (by kernel_rfl) rfl rfl ?_
    refine TA.y (listed' := #[true, true, true, false, false, false, false, false, false, false, false, false, false, false, false, false, false, false]) 2 [0] rfl (Y.field_box kf75_2 rfl rfl) rfl rfl rfl (by kernel_rfl) (by kernel_rfl) (by kernel_rfl) rfl rfl ?_
    refine TA.y (listed' := #[true, true, true, true, false, false, false, false, false, false, false, false, false, false, false, false, false, false]) 3 [0] rfl (Y.load_box (v := .bool r_.bad) 0 kk4 rfl rfl rfl) rfl rfl rfl (by kernel_rfl) (by kernel_rfl) (by kernel_rfl) rfl rfl ?_
    refine TA.y (listed' := #[true, true, true, true, true, false, false, false, false, false, false, false, false, false, false, false, false, false]) 4 [0] rfl (Y.not rfl) rfl rfl rfl (by kernel_rfl) (by kernel_rfl) (by kernel_rfl) rfl rfl ?_
    refine TA.y (listed' := #[true, true, true, true, true, true, false, false, false, false, false, false, false, false, false, false, false, false]) 5 [0] rfl (Y.move rfl) rfl rfl rfl (by kernel_rfl) (by kernel_rfl) (by kernel_rfl) rfl rfl ?_
    refine TA.ite (b := !r_.bad) (fun H3 => ?_) (fun H3 => ?_)
    · refine TA.y (listed' := #[true, true, true, true, true, true, true, false, false, false, false, false, false, false, false, false, false, false]) 6 [0] rfl (Y.move rfl) (Gd.at 5 true 8 (!r_.bad) rfl rfl rfl (beq_tt H3)) rfl rfl (by kernel_rfl) (by kernel_rfl) (by kernel_rfl) rfl rfl ?_
      refine TA.y (listed' := #[true, true, true, true, true, true, true, true, false, false, false, false, false, false, false, false, false, false]) 7 [0] rfl (Y.nilCheck rfl) (Gd.at 5 true 8 (!r_.bad) rfl rfl rfl (beq_tt H3)) rfl rfl (by kernel_rfl) (by kernel_rfl) (by kernel_rfl) rfl rfl ?_
      refine TA.y (listed' := #[true, true, true, true, true, true, true, true, true, false, false, false, false, false, false, false, false, false]) 8 [0] rfl (Y.field_box kf75_1 rfl rfl) (Gd.at 5 true 8 (!r_.bad) rfl rfl rfl (beq_tt H3)) rfl rfl (by kernel_rfl) (by kernel_rfl) (by kernel_rfl) rfl rfl ?_
      refine TA.y (listed' := #[true, true, true, true, true, true, true, true, true, true, false, false, false, false, false, false, false, false]) 9 [0] rfl (Y.load_box (v := .int .i64 r_.at_) 0 kk3 rfl rfl rfl) (Gd.at 5 true 8 (!r_.bad) rfl rfl rfl (beq_tt H3)) rfl rfl (by kernel_rfl) (by kernel_rfl) (by kernel_rfl) rfl rfl ?_
      refine TA.y (listed' := #[true, true, true, true, true, true, true, true, true, true, true, false, false, false, false, false, false, false]) 10 [0] rfl (Y.move rfl) (Gd.at 5 true 8 (!r_.bad) rfl rfl rfl (beq_tt H3)) rfl rfl (by kernel_rfl) (by kernel_rfl) (by kernel_rfl) rfl rfl ?_
      refine TA.y (listed' := #[true, true, true, true, true, true, true, true, true, true, true, true, false, false, false, false, false, false]) 11 [0] rfl (Y.nilCheck rfl) (Gd.at 5 true 8 (!r_.bad) rfl rfl rfl (beq_tt H3)) rfl rfl (by kernel_rfl) (by kernel_rfl) (by kernel_rfl) rfl rfl ?_
      refine TA.y (listed' := #[true, true, true, true, true, true, true, true, true, true, true, true, true, false, false, false, false, false]) 12 [0] rfl (Y.field_box kf75_0 rfl rfl) (Gd.at 5 true 8 (!r_.bad) rfl rfl rfl (beq_tt H3)) rfl rfl (by kernel_rfl) (by kernel_rfl) (by kernel_rfl) rfl rfl ?_
      refine TA.y (listed' := #[true, true, true, true, true, true, true, true, true, true, true, true, true, true, false, false, false, false]) 13 [0] rfl (Y.load_box (v := strV r_.text) 0 kk9 rfl rfl rfl) (Gd.at 5 true 8 (!r_.bad) rfl rfl rfl (beq_tt H3)) rfl rfl (by kernel_rfl) (by kernel_rfl) (by kernel_rfl) rfl rfl ?_
      refine TA.y (listed' := #[true, true, true, true, true, true, true, true, true, true, true, true, true, true, true, false, false, false]) 14 [0] rfl (Y.slen ks9 rfl) (Gd.at 5 true 8 (!r_.bad) rfl rfl rfl (beq_tt H3)) rfl rfl (by kernel_rfl) (by kernel_rfl) (by kernel_rfl) rfl rfl ?_
      refine TA.y (listed' := #[true, true, true, true, true, true, true, true, true, true, true, true, true, true, true, true, false, false]) 15 [0] rfl (Y.eql rfl rfl) (Gd.at 5 true 8 (!r_.bad) rfl rfl rfl (beq_tt H3)) rfl rfl (by kernel_rfl) (by kernel_rfl) (by kernel_rfl) rfl rfl ?_
      refine TA.y (listed' := #[true, true, true, true, true, true, true, true, true, true, true, true, true, true, true, true, true, false]) 16 [0] rfl (Y.pick_t H3 rfl rfl) rfl rfl rfl (by kernel_rfl) (by kernel_rfl) (by kernel_rfl) rfl rfl ?_
      refine TA.y (listed' := #[true, true, true, true, true, true, true, true, true, true, true, true, true, true, true, true, true, true]) 17 [0] rfl (Y.assign rfl) rfl rfl rfl (by kernel_rfl) (by kernel_rfl) (by kernel_rfl) rfl rfl ?_
      refine TA.nil (by kernel_rfl) ?_
      exact TE.jb_go () [0] ⟨rfl, trivial⟩ rfl
    · refine TA.off (listed' := #[true, true, true, true, true, true, true, false, false, false, false, false, false, false, false, false, false, false]) 6 [0] rfl (Gd.at 5 true 8 (!r_.bad) rfl rfl rfl (beq_ft H3)) rfl rfl (by kernel_rfl) (by kernel_rfl) (by kernel_rfl) rfl rfl ?_
      refine TA.off (listed' := #[true, true, true, true, true, true, true, true, false, false, false, false, false, false, false, false, false, false]) 7 [0] rfl (Gd.at 5 true 8 (!r_.bad) rfl rfl rfl (beq_ft H3)) rfl rfl (by kernel_rfl) (by kernel_rfl) (by kernel_rfl) rfl rfl ?_
      refine TA.off (listed' := #[true, true, true, true, true, true, true, true, true, false, false, false, false, false, false, false, false, false]) 8 [0] rfl (Gd.at 5 true 8 (!r_.bad) rfl rfl rfl (beq_ft H3)) rfl rfl (by kernel_rfl) (by kernel_rfl) (by kernel_rfl) rfl rfl ?_
      refine TA.off (listed' := #[true, true, true, true, true, true, true, true, true, true, false, false, false, false, false, false, false, false]) 9 [0] rfl (Gd.at 5 true 8 (!r_.bad) rfl rfl rfl (beq_ft H3)) rfl rfl (by kernel_rfl) (by kernel_rfl) (by kernel_rfl) rfl rfl ?_
      refine TA.off (listed' := #[true, true, true, true, true, true, true, true, true, true, true, false, false, false, false, false, false, false]) 10 [0] rfl (Gd.at 5 true 8 (!r_.bad) rfl rfl rfl (beq_ft H3)) rfl rfl (by kernel_rfl) (by kernel_rfl) (by kernel_rfl) rfl rfl ?_
      refine TA.off (listed' := #[true, true, true, true, true, true, true, true, true, true, true, true, false, false, false, false, false, false]) 11 [0] rfl (Gd.at 5 true 8 (!r_.bad) rfl rfl rfl (beq_ft H3)) rfl rfl (by kernel_rfl) (by kernel_rfl) (by kernel_rfl) rfl rfl ?_
      refine TA.off (listed' := #[true, true, true, true, true, true, true, true, true, true, true, true, true, false, false, false, false, false]) 12 [0] rfl (Gd.at 5 true 8 (!r_.bad) rfl rfl rfl (beq_ft H3)) rfl rfl (by kernel_rfl) (by kernel_rfl) (by kernel_rfl) rfl rfl ?_
      refine TA.off (listed' := #[true, true, true, true, true, true, true, true, true, true, true, true, true, true, false, false, false, false]) 13 [0] rfl (Gd.at 5 true 8 (!r_.bad) rfl rfl rfl (beq_ft H3)) rfl rfl (by kernel_rfl) (by kernel_rfl) (by kernel_rfl) rfl rfl ?_
      refine TA.off (listed' := #[true, true, true, true, true, true, true, true, true, true, true, true, true, true, true, false, false, false]) 14 [0] rfl (Gd.at 5 true 8 (!r_.bad) rfl rfl rfl (beq_ft H3)) rfl rfl (by kernel_rfl) (by kernel_rfl) (by kernel_rfl) rfl rfl ?_
      refine TA.off (listed' := #[true, true, true, true, true, true, true, true, true, true, true, true, true, true, true, true, false, false]) 15 [0] rfl (Gd.at 5 true 8 (!r_.bad) rfl rfl rfl (beq_ft H3)) rfl rfl (by kernel_rfl) (by kernel_rfl) (by kernel_rfl) rfl rfl ?_
      refine TA.y (listed' := #[true, true, true, true, true, true, true, true, true, true, true, true, true, true, true, true, true, false]) 16 [0] rfl (Y.pick_f H3 rfl rfl) rfl rfl rfl (by kernel_rfl) (by kernel_rfl) (by kernel_rfl) rfl rfl ?_
      refine TA.y (listed' := #[true, true, true, true, true, true, true, true, true, true, true, true, true, true, true, true, true, true]) 17 [0] rfl (Y.assign rfl) rfl rfl rfl (by kernel_rfl) (by kernel_rfl) (by kernel_rfl) rfl rfl ?_
      refine TA.nil (by kernel_rfl) ?_
      exact TE.jb_go () [0] ⟨rfl, trivial⟩ rfl
  · refine TE.next ?_
    refine TW.ret ?_
    exact TE.leaf fun _ _ hf_ hs_ => ret_any (rs := [.tmp 2]) (vs := [.bool T1]) (.inl rfl) rfl ⟨rfl, trivial⟩ hf_ hs_ ⟨(), rfl, hs_.pulls [0] rfl⟩

/-- loop.example/g00950/impl.isNumber -/
noncomputable def impl_isNumber (n : Int) : Option Bool :=
  (impl_inRange n (0 : Int) (1000000 : Int)).bind fun R1 =>
  some R1

theorem impl_isNumber_con (n : Int)  (r : Bool) (hm : impl_isNumber n = some r) :
    Con Try.prog 55 [.int .i64 n] [] [] (fun _ : Unit => .bool r) (fun _ => []) := by
  refine Con.intro (args := [.int .i64 n]) (n := 5) (val := fun r (_ : Unit) => .bool r) (post := fun _ _ => []) (m := impl_isNumber n) Try.func55 rfl rfl rfl hm ?_
  intro w S _
  unfold impl_isNumber
  refine TW.seq ?_
  refine TW.region ?_
  refine TO.y (Y.assign rfl) rfl rfl rfl ?_
  refine TO.nil ?_
  refine TE.next ?_
  refine TW.seq ?_
  refine TW.region ?_
  refine TO.y (Y.move rfl) rfl rfl rfl ?_
  refine TO.bind fun R1 H2 => ?_
  refine TO.ef (Ef.call (rest := []) [] (impl_inRange_con n (0 : Int) (1000000 : Int)  R1 H2) kc57 rfl rfl trivial) rfl rfl rfl (fun _ => ?_)
  refine TO.y (Y.assign rfl) rfl rfl rfl ?_
  refine TO.nil ?_
  refine TE.next ?_
  refine TW.ret ?_
  exact TE.leaf fun _ _ hf_ hs_ => ret_any (rs := [.tmp 2]) (vs := [.bool R1]) (.inl rfl) rfl ⟨rfl, trivial⟩ hf_ hs_ ⟨(), rfl, hs_.pulls [] rfl⟩

/-- loop.example/g00950/impl.editOk -/
noncomputable def impl_editOk (e : Edit) : Option Bool :=
  (if (decide (((e.Add.length : Nat) : Int) > (12 : Int))) = true then (some true)
  else (some (decide (((e.Drop.length : Nat) : Int) > (12 : Int))))).bind (fun (T2 : Bool) =>
  if T2 = true then (some false)
  else (bindC (loopO (fun (S6 : Int) => if (decide (S6 < ((e.Drop.length : Nat) : Int))) = true then ((idx e.Drop S6).bind fun E11 =>
  (impl_isNumber E11).bind fun R13 =>
  if (!R13) = true then (some (.done (.done false)))
  else (some (.go (IntKind.i64.wrap (S6 + (1 : Int))))))
  else (some (.done (.go ()))))
  (0 : Int))
  (fun (T8 : Unit) => bindC (loopO (fun (S17 : Int) => if (decide (S17 < ((e.Add.length : Nat) : Int))) = true then ((idx e.Add S17).bind fun E22 =>
  ((impl_isNumber E22.No).bind fun R27 =>
  if (!R27) = true then (some true)
  else ((impl_isNumber E22.Level).bind fun R31 =>
  if (!R31) = true then (some true)
  else (if (decide (((E22.Lo.length : Nat) : Int) > (10 : Int))) = true then (some true)
  else (some (decide (((E22.Hi.length : Nat) : Int) > (10 : Int))))))).bind (fun (T25 : Bool) =>
  if T25 = true then (some (.done (.done false)))
  else (some (.go (IntKind.i64.wrap (S17 + (1 : Int)))))))
  else (some (.done (.go ()))))
  (0 : Int))
  (fun (T19 : Unit) => some true))))

theorem impl_editOk_con (e : Edit) (V_e0 : Value) (V_e1 : Value) (r : Bool) (hm : impl_editOk e = some r) :
    Con Try.prog 33 [.agg #[V_e0, V_e1]] [] [(V_e0, lc e.Add), (V_e1, lc e.Drop)] (fun _ : Unit => .bool r) (fun _ => []) := by
  refine Con.intro (args := [.agg #[V_e0, V_e1]]) (n := 58) (val := fun r (_ : Unit) => .bool r) (post := fun _ _ => []) (m := impl_editOk e) Try.func33 rfl rfl rfl hm ?_
  intro w S hrd
  have HB_V_e0 := hrd _ (.head _)
  have HB_V_e1 := hrd _ (.tail _ (.head _))
  clear hrd
  unfold impl_editOk
  refine TW.seq ?_
  refine TW.region ?_
  refine TO.ef (Ef.box rfl (Cel.agg ⟨(One.can (Base.can HB_V_e0)), (One.can (Base.can HB_V_e1)), trivial⟩)) rfl rfl rfl (fun B1 => ?_)
  refine TO.y (Y.assign rfl) rfl rfl rfl ?_
  refine TO.nil ?_
  refine TE.next ?_
  refine TW.seq ?_
  refine TW.seq ?_
  refine TW.joinBX (τ := Bool) (X := Unit) (fun T _ => [(1, .pointer (some ⟨B1, 0, none⟩)), (16, .bool T)]) (fun _ _ => [.box B1 30 [V_e0, V_e1]]) ?_ (fun T2 X3 => ?_)
  · refine TW.region ?_
    refine TO.y (Y.field_box kf30_0 rfl rfl) rfl rfl rfl ?_
    refine TO.y (Y.load_box (v := V_e0) 0 kk28 rfl rfl rfl) rfl rfl rfl ?_
    refine TO.y (Y.len (l := e.Add) ke28 (Base.can HB_V_e0) rfl) rfl rfl rfl ?_
    refine TO.y (Y.gtr rfl rfl) rfl rfl rfl ?_
    refine TO.y (Y.move rfl) rfl rfl rfl ?_
    refine TO.ite (b := decide (((e.Add.length : Nat) : Int) > (12 : Int))) (fun H4 => ?_) (fun H4 => ?_)
    · refine TO.off (Gd.at 4 false 11 (decide (((e.Add.length : Nat) : Int) > (12 : Int))) rfl rfl rfl (beq_tf H4)) rfl rfl ?_
      refine TO.off (Gd.at 4 false 11 (decide (((e.Add.length : Nat) : Int) > (12 : Int))) rfl rfl rfl (beq_tf H4)) rfl rfl ?_
      refine TO.off (Gd.at 4 false 11 (decide (((e.Add.length : Nat) : Int) > (12 : Int))) rfl rfl rfl (beq_tf H4)) rfl rfl ?_
      refine TO.off (Gd.at 4 false 11 (decide (((e.Add.length : Nat) : Int) > (12 : Int))) rfl rfl rfl (beq_tf H4)) rfl rfl ?_
      refine TO.y (Y.pick_t H4 rfl rfl) rfl rfl rfl ?_
      refine TO.nil ?_
      exact TE.jb_go () [0] ⟨rfl, rfl, trivial⟩ rfl
    · refine TO.y (Y.field_box kf30_1 rfl rfl) (Gd.at 4 false 11 (decide (((e.Add.length : Nat) : Int) > (12 : Int))) rfl rfl rfl (beq_ff H4)) rfl rfl ?_
      refine TO.y (Y.load_box (v := V_e1) 0 kk23 rfl rfl rfl) (Gd.at 4 false 11 (decide (((e.Add.length : Nat) : Int) > (12 : Int))) rfl rfl rfl (beq_ff H4)) rfl rfl ?_
      refine TO.y (Y.len (l := e.Drop) ke23 (Base.can HB_V_e1) rfl) (Gd.at 4 false 11 (decide (((e.Add.length : Nat) : Int) > (12 : Int))) rfl rfl rfl (beq_ff H4)) rfl rfl ?_
      refine TO.y (Y.gtr rfl rfl) (Gd.at 4 false 11 (decide (((e.Add.length : Nat) : Int) > (12 : Int))) rfl rfl rfl (beq_ff H4)) rfl rfl ?_
      refine TO.y (Y.pick_f H4 rfl rfl) rfl rfl rfl ?_
      refine TO.nil ?_
      exact TE.jb_go () [0] ⟨rfl, rfl, trivial⟩ rfl
  · refine TE.next ?_
    refine TW.cond rfl (fun H5 => ?_) (fun H5 => ?_)
    · refine TW.seq ?_
      refine TW.region ?_
      refine TO.y (Y.assign rfl) rfl rfl rfl ?_
      refine TO.nil ?_
      refine TE.next ?_
      refine TW.ret ?_
      refine TE.then_ret ?_
      exact TE.leaf fun _ _ hf_ hs_ => ret_any (rs := [.tmp 2]) (vs := [.bool false]) (.inl rfl) rfl ⟨rfl, trivial⟩ hf_ hs_ ⟨(), rfl, hs_.pulls [] rfl⟩
    · refine TW.skip ?_
      refine TE.next ?_
      refine TW.seq ?_
      refine TW.seq ?_
      refine TW.region ?_
      refine TO.y (Y.field_box kf30_1 rfl rfl) rfl rfl rfl ?_
      refine TO.y (Y.load_box (v := V_e1) 0 kk23 rfl rfl rfl) rfl rfl rfl ?_
      refine TO.y (Y.len (l := e.Drop) ke23 (Base.can HB_V_e1) rfl) rfl rfl rfl ?_
      refine TO.y (Y.move rfl) rfl rfl rfl ?_
      refine TO.nil ?_
      refine TE.next ?_
      refine TW.joinX (τ := Unit) (X := Unit) (fun _ _ => [(1, .pointer (some ⟨B1, 0, none⟩))]) (fun _ _ => [.box B1 30 [V_e0, V_e1]]) ?_ (fun T8 X9 => ?_)
      · refine TW.block ?_
        refine TW.loopX (σ := Int) (X := Unit) (fun T _ => [(1, .pointer (some ⟨B1, 0, none⟩)), (18, V_e1), (19, .int .i64 ((e.Drop.length : Nat) : Int)), (20, .int .i64 T)]) (fun _ _ => [.box B1 30 [V_e0, V_e1]]) () [0] ⟨rfl, rfl, rfl, rfl, trivial⟩ rfl (fun S6 X7 => ?_)
        refine TW.seq ?_
        refine TW.region ?_
        refine TO.y (Y.lss rfl rfl) rfl rfl rfl ?_
        refine TO.nil ?_
        refine TE.next ?_
        refine TW.seq ?_
        refine TW.cond rfl (fun H10 => ?_) (fun H10 => ?_)
        · refine TW.skip ?_
          refine TE.next ?_
          refine TW.seq ?_
          refine TW.block ?_
          refine TW.seq ?_
          refine TW.region ?_
          refine TO.bind fun E11 H12 => ?_
          refine TO.y (Y.index ke23 (Base.can HB_V_e1) H12 rfl rfl) rfl rfl rfl ?_
          refine TO.y (Y.load_el (us := [.int .i64 E11]) (u := .int .i64 E11) kk3 rfl (Base.can HB_V_e1) (idx_get H12).2.2 rfl rfl rfl rfl rfl) rfl rfl rfl ?_
          refine TO.y (Y.assign rfl) rfl rfl rfl ?_
          refine TO.nil ?_
          refine TE.next ?_
          refine TW.seq ?_
          refine TW.region ?_
          refine TO.y (Y.move rfl) rfl rfl rfl ?_
          refine TO.bind fun R13 H14 => ?_
          refine TO.ef (Ef.call (rest := [.box B1 30 [V_e0, V_e1]]) [0] (impl_isNumber_con E11  R13 H14) kc55 rfl rfl trivial) rfl rfl rfl (fun _ => ?_)
          refine TO.y (Y.not rfl) rfl rfl rfl ?_
          refine TO.nil ?_
          refine TE.next ?_
          refine TW.cond rfl (fun H16 => ?_) (fun H16 => ?_)
          · refine TW.seq ?_
            refine TW.region ?_
            refine TO.y (Y.assign rfl) rfl rfl rfl ?_
            refine TO.nil ?_
            refine TE.next ?_
            refine TW.ret ?_
            refine TE.block_ret ?_
            refine TE.then_ret ?_
            refine TE.lp_ret ?_
            refine TE.block_ret ?_
            refine TE.jn_done ?_
            refine TE.then_ret ?_
            exact TE.leaf fun _ _ hf_ hs_ => ret_any (rs := [.tmp 2]) (vs := [.bool false]) (.inl rfl) rfl ⟨rfl, trivial⟩ hf_ hs_ ⟨(), rfl, hs_.pulls [] rfl⟩
          · refine TW.skip ?_
            refine TE.block_normal ?_
            refine TE.next ?_
            refine TW.region ?_
            refine TO.y (Y.add rfl rfl) rfl rfl rfl ?_
            refine TO.y (Y.move rfl) rfl rfl rfl ?_
            refine TO.nil ?_
            exact TE.lp_go () [0] ⟨rfl, rfl, rfl, rfl, trivial⟩ rfl
        · refine TW.exit ?_
          refine TE.then_exit ?_
          refine TE.lp_exit ?_
          refine TE.block_exit ?_
          exact TE.jn_go () [0] ⟨rfl, trivial⟩ rfl
      · refine TE.next ?_
        refine TW.seq ?_
        refine TW.seq ?_
        refine TW.region ?_
        refine TO.y (Y.field_box kf30_0 rfl rfl) rfl rfl rfl ?_
        refine TO.y (Y.load_box (v := V_e0) 0 kk28 rfl rfl rfl) rfl rfl rfl ?_
        refine TO.y (Y.len (l := e.Add) ke28 (Base.can HB_V_e0) rfl) rfl rfl rfl ?_
        refine TO.y (Y.move rfl) rfl rfl rfl ?_
        refine TO.nil ?_
        refine TE.next ?_
        refine TW.joinX (τ := Unit) (X := Unit) (fun _ _ => []) (fun _ _ => []) ?_ (fun T19 X20 => ?_)
        · refine TW.block ?_
          refine TW.loopX (σ := Int) (X := Unit) (fun T _ => [(29, V_e0), (30, .int .i64 ((e.Add.length : Nat) : Int)), (31, .int .i64 T)]) (fun _ _ => []) () [] ⟨rfl, rfl, rfl, trivial⟩ rfl (fun S17 X18 => ?_)
          refine TW.seq ?_
          refine TW.region ?_
          refine TO.y (Y.lss rfl rfl) rfl rfl rfl ?_
          refine TO.nil ?_
          refine TE.next ?_
          refine TW.seq ?_
          refine TW.cond rfl (fun H21 => ?_) (fun H21 => ?_)
          · refine TW.skip ?_
            refine TE.next ?_
            refine TW.seq ?_
            refine TW.block ?_
            refine TW.seq ?_
            refine TW.region ?_
            refine TO.bind fun E22 H23 => ?_
            refine TO.y (Y.index ke28 (Base.can HB_V_e0) H23 rfl rfl) rfl rfl rfl ?_
            refine TO.y (Y.load_el (us := [.int .i64 E22.No, .int .i64 E22.Level, strV E22.Lo, strV E22.Hi]) (u := .agg #[.int .i64 E22.No, .int .i64 E22.Level, strV E22.Lo, strV E22.Hi]) kk52 rfl (Base.can HB_V_e0) (idx_get H23).2.2 rfl rfl rfl rfl rfl) rfl rfl rfl ?_
            refine TO.ef (Ef.alloc kz52 rfl) rfl rfl rfl (fun B24 => ?_)
            refine TO.ef0 (Ef.store_box (us := [.int .i64 E22.No, .int .i64 E22.Level, strV E22.Lo, strV E22.Hi]) (vs' := [.int .i64 E22.No, .int .i64 E22.Level, strV E22.Lo, strV E22.Hi]) (is' := [.box B24 52 [.int .i64 E22.No, .int .i64 E22.Level, strV E22.Lo, strV E22.Hi]]) 0 kk52 rfl rfl rfl (Cel.plain rfl rfl) rfl rfl rfl rfl) rfl rfl (fun _ => ?_)
            refine TO.nil ?_
            refine TE.next ?_
            refine TW.seq ?_
            refine TW.joinBX (τ := Bool) (X := Unit) (fun T _ => [(29, V_e0), (30, .int .i64 ((e.Add.length : Nat) : Int)), (31, .int .i64 S17), (56, .bool T)]) (fun _ _ => []) ?_ (fun T25 X26 => ?_)
            · refine TW.region ?_
              refine TO.y (Y.field_box kf52_0 rfl rfl) rfl rfl rfl ?_
              refine TO.y (Y.load_box (v := .int .i64 E22.No) 0 kk3 rfl rfl rfl) rfl rfl rfl ?_
              refine TO.bind fun R27 H28 => ?_
              refine TO.ef (Ef.call (rest := [.box B24 52 [.int .i64 E22.No, .int .i64 E22.Level, strV E22.Lo, strV E22.Hi]]) [0] (impl_isNumber_con E22.No  R27 H28) kc55 rfl rfl trivial) rfl rfl rfl (fun _ => ?_)
              refine TO.y (Y.not rfl) rfl rfl rfl ?_
              refine TO.y (Y.move rfl) rfl rfl rfl ?_
              refine TO.ite (b := !R27) (fun H30 => ?_) (fun H30 => ?_)
              · refine TO.off (Gd.at 4 false 39 (!R27) rfl rfl rfl (beq_tf H30)) rfl rfl ?_
                refine TO.off (Gd.at 4 false 39 (!R27) rfl rfl rfl (beq_tf H30)) rfl rfl ?_
                refine TO.off (Gd.at 4 false 39 (!R27) rfl rfl rfl (beq_tf H30)) rfl rfl ?_
                refine TO.off (Gd.at 4 false 39 (!R27) rfl rfl rfl (beq_tf H30)) rfl rfl ?_
                refine TO.y (Y.pick_t H30 rfl rfl) rfl rfl rfl ?_
                refine TO.y (Y.move rfl) rfl rfl rfl ?_
                refine TO.off (Gd.at 10 false 45 true rfl rfl rfl rfl) rfl rfl ?_
                refine TO.off (Gd.at 10 false 45 true rfl rfl rfl rfl) rfl rfl ?_
                refine TO.off (Gd.at 10 false 45 true rfl rfl rfl rfl) rfl rfl ?_
                refine TO.off (Gd.at 10 false 45 true rfl rfl rfl rfl) rfl rfl ?_
                refine TO.y (Y.pick_t rfl rfl rfl) rfl rfl rfl ?_
                refine TO.y (Y.move rfl) rfl rfl rfl ?_
                refine TO.off (Gd.at 16 false 51 true rfl rfl rfl rfl) rfl rfl ?_
                refine TO.off (Gd.at 16 false 51 true rfl rfl rfl rfl) rfl rfl ?_
                refine TO.off (Gd.at 16 false 51 true rfl rfl rfl rfl) rfl rfl ?_
                refine TO.off (Gd.at 16 false 51 true rfl rfl rfl rfl) rfl rfl ?_
                refine TO.y (Y.pick_t rfl rfl rfl) rfl rfl rfl ?_
                refine TO.nil ?_
                exact TE.jb_go () [] ⟨rfl, rfl, rfl, rfl, trivial⟩ rfl
              · refine TO.y (Y.field_box kf52_1 rfl rfl) (Gd.at 4 false 39 (!R27) rfl rfl rfl (beq_ff H30)) rfl rfl ?_
                refine TO.y (Y.load_box (v := .int .i64 E22.Level) 0 kk3 rfl rfl rfl) (Gd.at 4 false 39 (!R27) rfl rfl rfl (beq_ff H30)) rfl rfl ?_
                refine TO.bind fun R31 H32 => ?_
                refine TO.ef (Ef.call (rest := [.box B24 52 [.int .i64 E22.No, .int .i64 E22.Level, strV E22.Lo, strV E22.Hi]]) [0] (impl_isNumber_con E22.Level  R31 H32) kc55 rfl rfl trivial) (Gd.at 4 false 39 (!R27) rfl rfl rfl (beq_ff H30)) rfl rfl (fun _ => ?_)
                refine TO.y (Y.not rfl) (Gd.at 4 false 39 (!R27) rfl rfl rfl (beq_ff H30)) rfl rfl ?_
                refine TO.y (Y.pick_f H30 rfl rfl) rfl rfl rfl ?_
                refine TO.y (Y.move rfl) rfl rfl rfl ?_
                refine TO.ite (b := !R31) (fun H34 => ?_) (fun H34 => ?_)
                · refine TO.off (Gd.at 10 false 45 (!R31) rfl rfl rfl (beq_tf H34)) rfl rfl ?_
                  refine TO.off (Gd.at 10 false 45 (!R31) rfl rfl rfl (beq_tf H34)) rfl rfl ?_
                  refine TO.off (Gd.at 10 false 45 (!R31) rfl rfl rfl (beq_tf H34)) rfl rfl ?_
                  refine TO.off (Gd.at 10 false 45 (!R31) rfl rfl rfl (beq_tf H34)) rfl rfl ?_
                  refine TO.y (Y.pick_t H34 rfl rfl) rfl rfl rfl ?_
                  refine TO.y (Y.move rfl) rfl rfl rfl ?_
                  refine TO.off (Gd.at 16 false 51 true rfl rfl rfl rfl) rfl rfl ?_
                  refine TO.off (Gd.at 16 false 51 true rfl rfl rfl rfl) rfl rfl ?_
                  refine TO.off (Gd.at 16 false 51 true rfl rfl rfl rfl) rfl rfl ?_
                  refine TO.off (Gd.at 16 false 51 true rfl rfl rfl rfl) rfl rfl ?_
                  refine TO.y (Y.pick_t rfl rfl rfl) rfl rfl rfl ?_
                  refine TO.nil ?_
                  exact TE.jb_go () [] ⟨rfl, rfl, rfl, rfl, trivial⟩ rfl
                · refine TO.y (Y.field_box kf52_2 rfl rfl) (Gd.at 10 false 45 (!R31) rfl rfl rfl (beq_ff H34)) rfl rfl ?_
                  refine TO.y (Y.load_box (v := strV E22.Lo) 0 kk9 rfl rfl rfl) (Gd.at 10 false 45 (!R31) rfl rfl rfl (beq_ff H34)) rfl rfl ?_
                  refine TO.y (Y.slen ks9 rfl) (Gd.at 10 false 45 (!R31) rfl rfl rfl (beq_ff H34)) rfl rfl ?_
                  refine TO.y (Y.gtr rfl rfl) (Gd.at 10 false 45 (!R31) rfl rfl rfl (beq_ff H34)) rfl rfl ?_
                  refine TO.y (Y.pick_f H34 rfl rfl) rfl rfl rfl ?_
                  refine TO.y (Y.move rfl) rfl rfl rfl ?_
                  refine TO.ite (b := decide (((E22.Lo.length : Nat) : Int) > (10 : Int))) (fun H35 => ?_) (fun H35 => ?_)
                  · refine TO.off (Gd.at 16 false 51 (decide (((E22.Lo.length : Nat) : Int) > (10 : Int))) rfl rfl rfl (beq_tf H35)) rfl rfl ?_
                    refine TO.off (Gd.at 16 false 51 (decide (((E22.Lo.length : Nat) : Int) > (10 : Int))) rfl rfl rfl (beq_tf H35)) rfl rfl ?_
                    refine TO.off (Gd.at 16 false 51 (decide (((E22.Lo.length : Nat) : Int) > (10 : Int))) rfl rfl rfl (beq_tf H35)) rfl rfl ?_
                    refine TO.off (Gd.at 16 false 51 (decide (((E22.Lo.length : Nat) : Int) > (10 : Int))) rfl rfl rfl (beq_tf H35)) rfl rfl ?_
                    refine TO.y (Y.pick_t H35 rfl rfl) rfl rfl rfl ?_
                    refine TO.nil ?_
                    exact TE.jb_go () [] ⟨rfl, rfl, rfl, rfl, trivial⟩ rfl
                  · refine TO.y (Y.field_box kf52_3 rfl rfl) (Gd.at 16 false 51 (decide (((E22.Lo.length : Nat) : Int) > (10 : Int))) rfl rfl rfl (beq_ff H35)) rfl rfl ?_
                    refine TO.y (Y.load_box (v := strV E22.Hi) 0 kk9 rfl rfl rfl) (Gd.at 16 false 51 (decide (((E22.Lo.length : Nat) : Int) > (10 : Int))) rfl rfl rfl (beq_ff H35)) rfl rfl ?_
                    refine TO.y (Y.slen ks9 rfl) (Gd.at 16 false 51 (decide (((E22.Lo.length : Nat) : Int) > (10 : Int))) rfl rfl rfl (beq_ff H35)) rfl rfl ?_
                    refine TO.y (Y.gtr rfl rfl) (Gd.at 16 false 51 (decide (((E22.Lo.length : Nat) : Int) > (10 : Int))) rfl rfl rfl (beq_ff H35)) rfl rfl ?_
                    refine TO.y (Y.pick_f H35 rfl rfl) rfl rfl rfl ?_
                    refine TO.nil ?_
                    exact TE.jb_go () [] ⟨rfl, rfl, rfl, rfl, trivial⟩ rfl
            · refine TE.next ?_
              refine TW.cond rfl (fun H36 => ?_) (fun H36 => ?_)
              · refine TW.seq ?_
                refine TW.region ?_
                refine TO.y (Y.assign rfl) rfl rfl rfl ?_
                refine TO.nil ?_
                refine TE.next ?_
                refine TW.ret ?_
                refine TE.block_ret ?_
                refine TE.then_ret ?_
                refine TE.lp_ret ?_
                refine TE.block_ret ?_
                refine TE.jn_done ?_
                refine TE.then_ret ?_
                exact TE.leaf fun _ _ hf_ hs_ => ret_any (rs := [.tmp 2]) (vs := [.bool false]) (.inl rfl) rfl ⟨rfl, trivial⟩ hf_ hs_ ⟨(), rfl, hs_.pulls [] rfl⟩
              · refine TW.skip ?_
                refine TE.block_normal ?_
                refine TE.next ?_
                refine TW.region ?_
                refine TO.y (Y.add rfl rfl) rfl rfl rfl ?_
                refine TO.y (Y.move rfl) rfl rfl rfl ?_
                refine TO.nil ?_
                exact TE.lp_go () [] ⟨rfl, rfl, rfl, trivial⟩ rfl
          · refine TW.exit ?_
            refine TE.then_exit ?_
            refine TE.lp_exit ?_
            refine TE.block_exit ?_
            exact TE.jn_go () [] trivial rfl
        · refine TE.next ?_
          refine TW.seq ?_
          refine TW.region ?_
          refine TO.y (Y.assign rfl) rfl rfl rfl ?_
          refine TO.nil ?_
          refine TE.next ?_
          refine TW.ret ?_
          exact TE.leaf fun _ _ hf_ hs_ => ret_any (rs := [.tmp 2]) (vs := [.bool true]) (.inl rfl) rfl ⟨rfl, trivial⟩ hf_ hs_ ⟨(), rfl, hs_.pulls [] rfl⟩

/-- loop.example/g00950/impl.Var -/
noncomputable def impl_Var (n : Int) : Option (List UInt8) :=
  (impl_inRange n (0 : Int) (562949953421311 : Int)).bind fun R1 =>
  if (!R1) = true then (some ([]))
  else (bindC (loopO (fun (S5 : Int × List UInt8) => if (decide (S5.1 > (127 : Int))) = true then ((app 1 S5.2 ([toU8 (ior .i64 (128 : Int) (iand .i64 S5.1 (127 : Int)))])).bind fun E12 =>
  some (.go (ishr .i64 S5.1 (7 : Int), E12)))
  else (some (.done (.go (S5.1, S5.2)))))
  (n, ([] : List UInt8)))
  (fun (T7 : Int × List UInt8) => (app 1 T7.2 ([toU8 T7.1])).bind fun E16 =>
  some E16))

theorem impl_Var_con (n : Int)  (r : List UInt8) (hm : impl_Var n = some r) :
    Con Try.prog 35 [.int .i64 n] [] [] (fun _ : Unit => strV r) (fun _ => []) := by
  refine Con.intro (args := [.int .i64 n]) (n := 24) (val := fun r (_ : Unit) => strV r) (post := fun _ _ => []) (m := impl_Var n) Try.func35 rfl rfl rfl hm ?_
  intro w S _
  unfold impl_Var
  refine TW.seq ?_
  refine TW.region ?_
  refine TO.y (Y.assign rfl) rfl rfl rfl ?_
  refine TO.nil ?_
  refine TE.next ?_
  refine TW.seq ?_
  refine TW.seq ?_
  refine TW.region ?_
  refine TO.y (Y.move rfl) rfl rfl rfl ?_
  refine TO.bind fun R1 H2 => ?_
  refine TO.ef (Ef.call (rest := []) [] (impl_inRange_con n (0 : Int) (562949953421311 : Int)  R1 H2) kc57 rfl rfl trivial) rfl rfl rfl (fun _ => ?_)
  refine TO.y (Y.not rfl) rfl rfl rfl ?_
  refine TO.nil ?_
  refine TE.next ?_
  refine TW.cond rfl (fun H4 => ?_) (fun H4 => ?_)
  · refine TW.seq ?_
    refine TW.region ?_
    refine TO.y (Y.assign rfl) rfl rfl rfl ?_
    refine TO.nil ?_
    refine TE.next ?_
    refine TW.ret ?_
    refine TE.then_ret ?_
    exact TE.leaf fun _ _ hf_ hs_ => ret_any (rs := [.tmp 2]) (vs := [strV ([])]) (.inl rfl) rfl ⟨rfl, trivial⟩ hf_ hs_ ⟨(), rfl, hs_.pulls [] rfl⟩
  · refine TW.skip ?_
    refine TE.next ?_
    refine TW.seq ?_
    refine TW.region ?_
    refine TO.y (Y.assign rfl) rfl rfl rfl ?_
    refine TO.nil ?_
    refine TE.next ?_
    refine TW.seq ?_
    refine TW.joinX (τ := Int × List UInt8) (X := Value) (fun T X => [(0, .int .i64 T.1), (3, X)]) (fun T X => [.own X (lc T.2)]) ?_ (fun T7 X8 => ?_)
    · refine TW.block ?_
      refine TW.nilItem 1 ?_
      refine TW.loopX (σ := Int × List UInt8) (X := Value) (fun T X => [(0, .int .i64 T.1), (3, X)]) (fun T X => [.own X (lc T.2)]) (.slice none 0 0) [0] ⟨rfl, rfl, trivial⟩ rfl (fun S5 X6 => ?_)
      refine TW.seq ?_
      refine TW.seq ?_
      refine TW.region ?_
      refine TO.y (Y.move rfl) rfl rfl rfl ?_
      refine TO.y (Y.gtr rfl rfl) rfl rfl rfl ?_
      refine TO.nil ?_
      refine TE.next ?_
      refine TW.cond rfl (fun H9 => ?_) (fun H9 => ?_)
      · refine TW.skip ?_
        refine TE.next ?_
        refine TW.block ?_
        refine TW.seq ?_
        refine TW.region ?_
        refine TO.y (Y.move rfl) rfl rfl rfl ?_
        refine TO.y (Y.move rfl) rfl rfl rfl ?_
        refine TO.y (Y.and rfl rfl) rfl rfl rfl ?_
        refine TO.y (Y.or rfl rfl) rfl rfl rfl ?_
        refine TO.y (Y.conv8 ki3 ki5 rfl) rfl rfl rfl ?_
        refine TO.ef (Ef.buildSlice (α := UInt8) (Vs := [.int .u8 (((toU8 (ior .i64 (128 : Int) (iand .i64 S5.1 (127 : Int)))).toNat : Nat) : Int)]) [toU8 (ior .i64 (128 : Int) (iand .i64 S5.1 (127 : Int)))] ke59 kz5 rfl rfl rfl rfl rfl) rfl rfl rfl (fun B10 => ?_)
        refine TO.bind fun E12 H13 => ?_
        refine TO.ef (Ef.append (α := UInt8) (is' := [.own (.slice (some ⟨B10, 0, none⟩) 1 1) (lc ([toU8 (ior .i64 (128 : Int) (iand .i64 S5.1 (127 : Int)))]))]) [1, 0] H13 ke59 kz5 rfl rfl rfl rfl rfl (Can.own 0 rfl)) rfl rfl rfl (fun V11 => ?_)
        refine TO.y (Y.assign rfl) rfl rfl rfl ?_
        refine TO.nil ?_
        refine TE.next ?_
        refine TW.region ?_
        refine TO.y (Y.move rfl) rfl rfl rfl ?_
        refine TO.y (Y.shr (by decide) rfl rfl) rfl rfl rfl ?_
        refine TO.y (Y.assign rfl) rfl rfl rfl ?_
        refine TO.nil ?_
        refine TE.block_normal ?_
        exact TE.lp_go V11 [0] ⟨rfl, rfl, trivial⟩ rfl
      · refine TW.exit ?_
        refine TE.then_exit ?_
        refine TE.lp_exit ?_
        refine TE.block_exit ?_
        exact TE.jn_go X6 [0] ⟨rfl, rfl, trivial⟩ rfl
    · refine TE.next ?_
      refine TW.seq ?_
      refine TW.region ?_
      refine TO.y (Y.move rfl) rfl rfl rfl ?_
      refine TO.y (Y.move rfl) rfl rfl rfl ?_
      refine TO.y (Y.conv8 ki3 ki5 rfl) rfl rfl rfl ?_
      refine TO.ef (Ef.buildSlice (α := UInt8) (Vs := [.int .u8 (((toU8 T7.1).toNat : Nat) : Int)]) [toU8 T7.1] ke59 kz5 rfl rfl rfl rfl rfl) rfl rfl rfl (fun B14 => ?_)
      refine TO.bind fun E16 H17 => ?_
      refine TO.ef (Ef.append (α := UInt8) (is' := [.own (.slice (some ⟨B14, 0, none⟩) 1 1) (lc ([toU8 T7.1]))]) [1, 0] H17 ke59 kz5 rfl rfl rfl rfl rfl (Can.own 0 rfl)) rfl rfl rfl (fun V15 => ?_)
      refine TO.y (Y.toStr ke59 ki5 ks9 (Can.own 0 rfl) rfl) rfl rfl rfl ?_
      refine TO.y (Y.assign rfl) rfl rfl rfl ?_
      refine TO.nil ?_
      refine TE.next ?_
      refine TW.ret ?_
      exact TE.leaf fun _ _ hf_ hs_ => ret_any (rs := [.tmp 2]) (vs := [strV E16]) (.inl rfl) rfl ⟨rfl, trivial⟩ hf_ hs_ ⟨(), rfl, hs_.pulls [] rfl⟩

/-- loop.example/g00950/impl.short -/
noncomputable def impl_short (s : List UInt8) : Option (List UInt8) :=
  (impl_Var ((s.length : Nat) : Int)).bind fun R1 =>
  (cat R1 s).bind fun E4 =>
  some E4

theorem impl_short_con (s : List UInt8)  (r : List UInt8) (hm : impl_short s = some r) :
    Con Try.prog 36 [strV s] [] [] (fun _ : Unit => strV r) (fun _ => []) := by
  refine Con.intro (args := [strV s]) (n := 8) (val := fun r (_ : Unit) => strV r) (post := fun _ _ => []) (m := impl_short s) Try.func36 rfl rfl rfl hm ?_
  intro w S _
  unfold impl_short
  refine TW.seq ?_
  refine TW.region ?_
  refine TO.y (Y.assign rfl) rfl rfl rfl ?_
  refine TO.nil ?_
  refine TE.next ?_
  refine TW.seq ?_
  refine TW.region ?_
  refine TO.y (Y.move rfl) rfl rfl rfl ?_
  refine TO.y (Y.slen ks9 rfl) rfl rfl rfl ?_
  refine TO.bind fun R1 H2 => ?_
  refine TO.ef (Ef.call (rest := []) [] (impl_Var_con ((s.length : Nat) : Int)  R1 H2) kc35 rfl rfl trivial) rfl rfl rfl (fun _ => ?_)
  refine TO.y (Y.move rfl) rfl rfl rfl ?_
  refine TO.bind fun E4 H5 => ?_
  refine TO.y (Y.cat H5 rfl rfl) rfl rfl rfl ?_
  refine TO.y (Y.assign rfl) rfl rfl rfl ?_
  refine TO.nil ?_
  refine TE.next ?_
  refine TW.ret ?_
  exact TE.leaf fun _ _ hf_ hs_ => ret_any (rs := [.tmp 2]) (vs := [strV E4]) (.inl rfl) rfl ⟨rfl, trivial⟩ hf_ hs_ ⟨(), rfl, hs_.pulls [] rfl⟩

/-- loop.example/g00950/impl.summed -/
noncomputable def impl_summed (s : List UInt8) : Option (List UInt8) :=
  (impl_Crc s).bind fun R1 =>
  (impl_Fixed R1 (4 : Int)).bind fun R4 =>
  (cat R4 s).bind fun E7 =>
  some E7

theorem impl_summed_con (s : List UInt8)  (r : List UInt8) (hm : impl_summed s = some r) :
    Con Try.prog 37 [strV s] [] [] (fun _ : Unit => strV r) (fun _ => []) := by
  refine Con.intro (args := [strV s]) (n := 8) (val := fun r (_ : Unit) => strV r) (post := fun _ _ => []) (m := impl_summed s) Try.func37 rfl rfl rfl hm ?_
  intro w S _
  unfold impl_summed
  refine TW.seq ?_
  refine TW.region ?_
  refine TO.y (Y.assign rfl) rfl rfl rfl ?_
  refine TO.nil ?_
  refine TE.next ?_
  refine TW.seq ?_
  refine TW.region ?_
  refine TO.y (Y.move rfl) rfl rfl rfl ?_
  refine TO.bind fun R1 H2 => ?_
  refine TO.ef (Ef.call (rest := []) [] (impl_Crc_con s  R1 H2) kc59 rfl rfl trivial) rfl rfl rfl (fun _ => ?_)
  refine TO.bind fun R4 H5 => ?_
  refine TO.ef (Ef.call (rest := []) [] (impl_Fixed_con R1 (4 : Int)  R4 H5) kc58 rfl rfl trivial) rfl rfl rfl (fun _ => ?_)
  refine TO.y (Y.move rfl) rfl rfl rfl ?_
  refine TO.bind fun E7 H8 => ?_
  refine TO.y (Y.cat H8 rfl rfl) rfl rfl rfl ?_
  refine TO.y (Y.assign rfl) rfl rfl rfl ?_
  refine TO.nil ?_
  refine TE.next ?_
  refine TW.ret ?_
  exact TE.leaf fun _ _ hf_ hs_ => ret_any (rs := [.tmp 2]) (vs := [strV E7]) (.inl rfl) rfl ⟨rfl, trivial⟩ hf_ hs_ ⟨(), rfl, hs_.pulls [] rfl⟩

/-- strings.Builder -/
theorem strings_Builder_copyCheck_new (B : Nat) : Con Try.prog 56 [.pointer (some ⟨B, 0, none⟩)] [.box B 61 [.pointer none, .slice none 0 0]] [] (fun _ : Unit => .tuple #[]) (fun _ => [.box B 61 [.pointer (some ⟨B, 0, none⟩), .slice none 0 0]]) := by
  refine Con.intro (args := [.pointer (some ⟨B, 0, none⟩)]) (n := 20) (val := fun _ (_ : Unit) => .tuple #[]) (post := fun _ _ => [.box B 61 [.pointer (some ⟨B, 0, none⟩), .slice none 0 0]]) (m := some ()) (r := ()) Try.func56 rfl rfl rfl rfl ?_
  intro w S _
  refine TW.seq ?_
  refine TW.region ?_
  refine TO.y (Y.move rfl) rfl rfl rfl ?_
  refine TO.y (Y.nilCheck rfl) rfl rfl rfl ?_
  refine TO.y (Y.field_box kf61_0 rfl rfl) rfl rfl rfl ?_
  refine TO.y (Y.load_box (v := .pointer none) 0 kk58 rfl rfl rfl) rfl rfl rfl ?_
  refine TO.y (Y.ptr_nil kp58 rfl rfl) rfl rfl rfl ?_
  refine TO.nil ?_
  refine TE.next ?_
  refine TW.cond_true rfl ?_
  refine TW.region ?_
  refine TO.y (Y.move rfl) rfl rfl rfl ?_
  refine TO.y (Y.move rfl) rfl rfl rfl ?_
  refine TO.y (Y.toUnsafe 0 kp58 rfl ku95 rfl rfl rfl) rfl rfl rfl ?_
  refine TO.y (Y.noEscape Try.func70 (by kernel_rfl) (by kernel_rfl) (by kernel_rfl) (by kernel_rfl) rfl) rfl rfl rfl ?_
  refine TO.y (Y.fromUnsafe 0 kp58 ku95 rfl kl61 rfl) rfl rfl rfl ?_
  refine TO.y (Y.nilCheck rfl) rfl rfl rfl ?_
  refine TO.y (Y.field_box kf61_0 rfl rfl) rfl rfl rfl ?_
  refine TO.ef0 (Ef.store_box (us := [.pointer (some ⟨B, 0, none⟩)]) (vs' := [.pointer (some ⟨B, 0, none⟩), .slice none 0 0]) (is' := [.box B 61 [.pointer (some ⟨B, 0, none⟩), .slice none 0 0]]) 0 kk58 rfl rfl rfl (Cel.plain rfl rfl) rfl rfl rfl rfl) rfl rfl (fun _ => ?_)
  refine TO.nil ?_
  exact TE.leaf fun _ _ hf_ hs_ => ret_any (rs := []) (vs := []) (.inr rfl) rfl trivial hf_ hs_ ⟨(), rfl, hs_.pulls [0] rfl⟩

theorem strings_Builder_copyCheck_old (B : Nat) (V : Value) : Con Try.prog 56 [.pointer (some ⟨B, 0, none⟩)] [.box B 61 [.pointer (some ⟨B, 0, none⟩), V]] [] (fun _ : Unit => .tuple #[]) (fun _ => [.box B 61 [.pointer (some ⟨B, 0, none⟩), V]]) := by
  refine Con.intro (args := [.pointer (some ⟨B, 0, none⟩)]) (n := 20) (val := fun _ (_ : Unit) => .tuple #[]) (post := fun _ _ => [.box B 61 [.pointer (some ⟨B, 0, none⟩), V]]) (m := some ()) (r := ()) Try.func56 rfl rfl rfl rfl ?_
  intro w S _
  refine TW.seq ?_
  refine TW.region ?_
  refine TO.y (Y.move rfl) rfl rfl rfl ?_
  refine TO.y (Y.nilCheck rfl) rfl rfl rfl ?_
  refine TO.y (Y.field_box kf61_0 rfl rfl) rfl rfl rfl ?_
  refine TO.y (Y.load_box (v := .pointer (some ⟨B, 0, none⟩)) 0 kk58 rfl rfl rfl) rfl rfl rfl ?_
  refine TO.y (Y.ptr_some kp58 rfl rfl) rfl rfl rfl ?_
  refine TO.nil ?_
  refine TE.next ?_
  refine TW.cond_false rfl ?_
  refine TW.seq ?_
  refine TW.region ?_
  refine TO.y (Y.move rfl) rfl rfl rfl ?_
  refine TO.y (Y.nilCheck rfl) rfl rfl rfl ?_
  refine TO.y (Y.field_box kf61_0 rfl rfl) rfl rfl rfl ?_
  refine TO.y (Y.load_box (v := .pointer (some ⟨B, 0, none⟩)) 0 kk58 rfl rfl rfl) rfl rfl rfl ?_
  refine TO.y (Y.move rfl) rfl rfl rfl ?_
  refine TO.y (Y.ptr_self kp58 rfl rfl) rfl rfl rfl ?_
  refine TO.nil ?_
  refine TE.next ?_
  refine TW.cond_false rfl ?_
  refine TW.skip ?_
  exact TE.leaf fun _ _ hf_ hs_ => ret_any (rs := []) (vs := []) (.inr rfl) rfl trivial hf_ hs_ ⟨(), rfl, hs_.pulls [0] rfl⟩

theorem strings_Builder_WriteString_new (s r : List UInt8) (B : Nat) (hm : app 1 ([] : List UInt8) s = some r) : Con Try.prog 34 [.pointer (some ⟨B, 0, none⟩), strV s] [.box B 61 [.pointer none, .slice none 0 0]] [] (fun _ : Value => .tuple #[.int .i64 s.length, .nilIface]) (fun X => [.box B 61 [.pointer (some ⟨B, 0, none⟩), X], .buf X 5 r]) := by
  refine Con.intro (args := [.pointer (some ⟨B, 0, none⟩), strV s]) (n := 19) (val := fun _ (_ : Value) => .tuple #[.int .i64 s.length, .nilIface]) (post := fun r X => [.box B 61 [.pointer (some ⟨B, 0, none⟩), X], .buf X 5 r]) (m := some r) (r := r) Try.func34 rfl rfl rfl rfl ?_
  intro w S _
  refine TW.seq ?_
  refine TW.region ?_
  refine TO.y (Y.assign rfl) rfl rfl rfl ?_
  refine TO.y (Y.assign rfl) rfl rfl rfl ?_
  refine TO.nil ?_
  refine TE.next ?_
  refine TW.seq ?_
  refine TW.region ?_
  refine TO.y (Y.move rfl) rfl rfl rfl ?_
  refine TO.ef (Ef.call (rest := []) [0] (strings_Builder_copyCheck_new B) kc56 rfl rfl trivial) rfl rfl rfl (fun _ => ?_)
  refine TO.nil ?_
  refine TE.next ?_
  refine TW.seq ?_
  refine TW.region ?_
  refine TO.y (Y.move rfl) rfl rfl rfl ?_
  refine TO.y (Y.move rfl) rfl rfl rfl ?_
  refine TO.y (Y.nilCheck rfl) rfl rfl rfl ?_
  refine TO.y (Y.field_box kf61_1 rfl rfl) rfl rfl rfl ?_
  refine TO.y (Y.load_box (v := .slice none 0 0) 0 kk59 rfl rfl rfl) rfl rfl rfl ?_
  refine TO.y (Y.move rfl) rfl rfl rfl ?_
  refine TO.ef (Ef.bufNew hm ke59 ks9 kz5 rfl rfl) rfl rfl rfl (fun X => ?_)
  refine TO.y (Y.nilCheck rfl) rfl rfl rfl ?_
  refine TO.y (Y.field_box kf61_1 rfl rfl) rfl rfl rfl ?_
  refine TO.ef0 (Ef.store_box (us := [X]) (vs' := [.pointer (some ⟨B, 0, none⟩), X]) (is' := [.buf X 5 r, .box B 61 [.pointer (some ⟨B, 0, none⟩), X]]) 1 kk59 rfl rfl rfl (Cel.one (One.buf (i := 0) rfl)) rfl rfl rfl rfl) rfl rfl (fun _ => ?_)
  refine TO.nil ?_
  refine TE.next ?_
  refine TW.seq ?_
  refine TW.region ?_
  refine TO.y (Y.move rfl) rfl rfl rfl ?_
  refine TO.y (Y.slen ks9 rfl) rfl rfl rfl ?_
  refine TO.y (Y.assign rfl) rfl rfl rfl ?_
  refine TO.y (Y.assign rfl) rfl rfl rfl ?_
  refine TO.nil ?_
  refine TE.next ?_
  refine TW.ret ?_
  exact TE.leaf fun _ _ hf_ hs_ => ret_any (rs := [.tmp 4, .tmp 5]) (vs := [.int .i64 s.length, .nilIface]) (.inl rfl) rfl ⟨rfl, rfl, trivial⟩ hf_ hs_ ⟨X, rfl, hs_.pulls [1, 0] rfl⟩

theorem strings_Builder_WriteString_old (l s r : List UInt8) (B : Nat) (V : Value) (hm : app 1 l s = some r) : Con Try.prog 34 [.pointer (some ⟨B, 0, none⟩), strV s] [.box B 61 [.pointer (some ⟨B, 0, none⟩), V], .buf V 5 l] [] (fun _ : Value => .tuple #[.int .i64 s.length, .nilIface]) (fun X => [.box B 61 [.pointer (some ⟨B, 0, none⟩), X], .buf X 5 r]) := by
  refine Con.intro (args := [.pointer (some ⟨B, 0, none⟩), strV s]) (n := 19) (val := fun _ (_ : Value) => .tuple #[.int .i64 s.length, .nilIface]) (post := fun r X => [.box B 61 [.pointer (some ⟨B, 0, none⟩), X], .buf X 5 r]) (m := some r) (r := r) Try.func34 rfl rfl rfl rfl ?_
  intro w S _
  refine TW.seq ?_
  refine TW.region ?_
  refine TO.y (Y.assign rfl) rfl rfl rfl ?_
  refine TO.y (Y.assign rfl) rfl rfl rfl ?_
  refine TO.nil ?_
  refine TE.next ?_
  refine TW.seq ?_
  refine TW.region ?_
  refine TO.y (Y.move rfl) rfl rfl rfl ?_
  refine TO.ef (Ef.call (rest := [.buf V 5 l]) [0, 0] (strings_Builder_copyCheck_old B V) kc56 rfl rfl trivial) rfl rfl rfl (fun _ => ?_)
  refine TO.nil ?_
  refine TE.next ?_
  refine TW.seq ?_
  refine TW.region ?_
  refine TO.y (Y.move rfl) rfl rfl rfl ?_
  refine TO.y (Y.move rfl) rfl rfl rfl ?_
  refine TO.y (Y.nilCheck rfl) rfl rfl rfl ?_
  refine TO.y (Y.field_box kf61_1 rfl rfl) rfl rfl rfl ?_
  refine TO.y (Y.load_box (v := V) 0 kk59 rfl rfl rfl) rfl rfl rfl ?_
  refine TO.y (Y.move rfl) rfl rfl rfl ?_
  refine TO.ef (Ef.bufAppend [1, 0] hm ke59 ks9 kz5 rfl rfl rfl) rfl rfl rfl (fun X => ?_)
  refine TO.y (Y.nilCheck rfl) rfl rfl rfl ?_
  refine TO.y (Y.field_box kf61_1 rfl rfl) rfl rfl rfl ?_
  refine TO.ef0 (Ef.store_box (us := [X]) (vs' := [.pointer (some ⟨B, 0, none⟩), X]) (is' := [.buf X 5 r, .box B 61 [.pointer (some ⟨B, 0, none⟩), X]]) 1 kk59 rfl rfl rfl (Cel.one (One.buf (i := 0) rfl)) rfl rfl rfl rfl) rfl rfl (fun _ => ?_)
  refine TO.nil ?_
  refine TE.next ?_
  refine TW.seq ?_
  refine TW.region ?_
  refine TO.y (Y.move rfl) rfl rfl rfl ?_
  refine TO.y (Y.slen ks9 rfl) rfl rfl rfl ?_
  refine TO.y (Y.assign rfl) rfl rfl rfl ?_
  refine TO.y (Y.assign rfl) rfl rfl rfl ?_
  refine TO.nil ?_
  refine TE.next ?_
  refine TW.ret ?_
  exact TE.leaf fun _ _ hf_ hs_ => ret_any (rs := [.tmp 4, .tmp 5]) (vs := [.int .i64 s.length, .nilIface]) (.inl rfl) rfl ⟨rfl, rfl, trivial⟩ hf_ hs_ ⟨X, rfl, hs_.pulls [1, 0] rfl⟩

theorem strings_Builder_String_con (l : List UInt8) (B : Nat) (V : Value) (r : List UInt8) (hm : strOf l = some r) : Con Try.prog 38 [.pointer (some ⟨B, 0, none⟩)] [.box B 61 [.pointer (some ⟨B, 0, none⟩), V], .buf V 5 l] [] (fun _ : Unit => strV r) (fun _ => [.box B 61 [.pointer (some ⟨B, 0, none⟩), V]]) := by
  obtain ⟨hl, hr_⟩ := strOf_eq hm
  subst hr_
  refine Con.intro (args := [.pointer (some ⟨B, 0, none⟩)]) (n := 14) (val := fun _ (_ : Unit) => strV l) (post := fun _ _ => [.box B 61 [.pointer (some ⟨B, 0, none⟩), V]]) (m := some ()) (r := ()) Try.func38 rfl rfl rfl rfl ?_
  intro w S _
  refine TW.fact (buf_place (i := 1) rfl hl) fun hpl => ?_
  obtain ⟨g, c, rfl, hc⟩ := hpl
  refine TW.seq ?_
  refine TW.region ?_
  refine TO.y (Y.assign rfl) rfl rfl rfl ?_
  refine TO.nil ?_
  refine TE.next ?_
  refine TW.seq ?_
  refine TW.draw (isH := [.box B 61 [.pointer (some ⟨B, 0, none⟩), .slice (some ⟨g, 0, none⟩) l.length c]]) hMix ?_
  refine TA.y (listed' := #[true, false, false, false, false, false, false, false, false, false, false, false]) 0 [0] rfl (Y.move rfl) rfl rfl rfl (by kernel_rfl) (by kernel_rfl) (by kernel_rfl) rfl rfl ?_
  refine TA.y (listed' := #[true, true, false, false, false, false, false, false, false, false, false, false]) 1 [0] rfl (Y.nilCheck rfl) rfl rfl rfl (by kernel_rfl) (by kernel_rfl) (by kernel_rfl) rfl rfl ?_
  refine TA.y (listed' := #[true, true, true, false, false, false, false, false, false, false, false, false]) 2 [0] rfl (Y.field_box kf61_1 rfl rfl) rfl rfl rfl (by kernel_rfl) (by kernel_rfl) (by kernel_rfl) rfl rfl ?_
  refine TA.y (listed' := #[true, true, true, true, false, false, false, false, false, false, false, false]) 3 [0] rfl (Y.load_box (v := .slice (some ⟨g, 0, none⟩) l.length c) 0 kk59 rfl rfl rfl) rfl rfl rfl (by kernel_rfl) (by kernel_rfl) (by kernel_rfl) rfl rfl ?_
  refine TA.y (listed' := #[true, true, true, true, true, false, false, false, false, false, false, false]) 4 [0] rfl (Y.sliceData hc rfl) rfl rfl rfl (by kernel_rfl) (by kernel_rfl) (by kernel_rfl) rfl rfl ?_
  refine TA.y (listed' := #[true, true, true, true, true, true, false, false, false, false, false, false]) 5 [0] rfl (Y.move rfl) rfl rfl rfl (by kernel_rfl) (by kernel_rfl) (by kernel_rfl) rfl rfl ?_
  refine TA.y (listed' := #[true, true, true, true, true, true, true, false, false, false, false, false]) 6 [0] rfl (Y.nilCheck rfl) rfl rfl rfl (by kernel_rfl) (by kernel_rfl) (by kernel_rfl) rfl rfl ?_
  refine TA.y (listed' := #[true, true, true, true, true, true, true, true, false, false, false, false]) 7 [0] rfl (Y.field_box kf61_1 rfl rfl) rfl rfl rfl (by kernel_rfl) (by kernel_rfl) (by kernel_rfl) rfl rfl ?_
  refine TA.y (listed' := #[true, true, true, true, true, true, true, true, true, false, false, false]) 8 [0] rfl (Y.load_box (v := .slice (some ⟨g, 0, none⟩) l.length c) 0 kk59 rfl rfl rfl) rfl rfl rfl (by kernel_rfl) (by kernel_rfl) (by kernel_rfl) rfl rfl ?_
  refine TA.y (listed' := #[true, true, true, true, true, true, true, true, true, true, false, false]) 9 [0] rfl (Y.lenV ke59 rfl) rfl rfl rfl (by kernel_rfl) (by kernel_rfl) (by kernel_rfl) rfl rfl ?_
  refine TA.one 10 (by kernel_rfl) ?_
  refine TX.ef (listed' := #[true, true, true, true, true, true, true, true, true, true, true, false]) [0] rfl (Ef.takeStr [1, 0] hl kp87 rfl rfl rfl rfl) rfl rfl rfl rfl (fun _ => rfl) (fun _ => ?_)
  refine TA.y (listed' := #[true, true, true, true, true, true, true, true, true, true, true, true]) 11 [0] rfl (Y.assign rfl) rfl rfl rfl (by kernel_rfl) (by kernel_rfl) (by kernel_rfl) rfl rfl ?_
  refine TA.nil (by kernel_rfl) ?_
  refine TE.next ?_
  refine TW.ret ?_
  exact TE.leaf fun _ _ hf_ hs_ => ret_any (rs := [.tmp 2]) (vs := [strV l]) (.inl rfl) rfl ⟨rfl, trivial⟩ hf_ hs_ ⟨(), rfl, hs_.pulls [0] rfl⟩

/-- loop.example/g00950/impl.ShowEdit -/
noncomputable def impl_ShowEdit (e : Edit) : Option (List UInt8) :=
  (impl_editOk e).bind fun R2 =>
  if (!R2) = true then (some ([]))
  else ((impl_Var ((e.Drop.length : Nat) : Int)).bind fun R7 =>
  (app 1 ([] : List UInt8) R7).bind fun R11 =>
  bindC (loopO (fun (S13 : Int × List UInt8) => if (decide (S13.1 < ((e.Drop.length : Nat) : Int))) = true then ((idx e.Drop S13.1).bind fun E18 =>
  (impl_Var E18).bind fun R20 =>
  (app 1 S13.2 R20).bind fun R24 =>
  some (.go (IntKind.i64.wrap (S13.1 + (1 : Int)), R24)))
  else (some (.done (.go S13.2))))
  ((0 : Int), R11))
  (fun (T15 : List UInt8) => (impl_Var ((e.Add.length : Nat) : Int)).bind fun R26 =>
  (app 1 T15 R26).bind fun R30 =>
  bindC (loopO (fun (S32 : Int × List UInt8) => if (decide (S32.1 < ((e.Add.length : Nat) : Int))) = true then ((idx e.Add S32.1).bind fun E37 =>
  (impl_Var E37.No).bind fun R40 =>
  (impl_Var E37.Level).bind fun R43 =>
  (cat R40 R43).bind fun E46 =>
  (impl_short E37.Lo).bind fun R48 =>
  (cat E46 R48).bind fun E51 =>
  (impl_short E37.Hi).bind fun R53 =>
  (cat E51 R53).bind fun E56 =>
  (app 1 S32.2 E56).bind fun R59 =>
  some (.go (IntKind.i64.wrap (S32.1 + (1 : Int)), R59)))
  else (some (.done (.go S32.2))))
  ((0 : Int), R30))
  (fun (T34 : List UInt8) => (strOf T34).bind fun R61 =>
  (impl_summed R61).bind fun R63 =>
  some R63)))

theorem impl_ShowEdit_con (e : Edit) (V_e0 : Value) (V_e1 : Value) (r : List UInt8) (hm : impl_ShowEdit e = some r) :
    Con Try.prog 9 [.agg #[V_e0, V_e1]] [] [(V_e0, lc e.Add), (V_e1, lc e.Drop)] (fun _ : Unit => strV r) (fun _ => []) := by
  refine Con.intro (args := [.agg #[V_e0, V_e1]]) (n := 58) (val := fun r (_ : Unit) => strV r) (post := fun _ _ => []) (m := impl_ShowEdit e) Try.func9 rfl rfl rfl hm ?_
  intro w S hrd
  have HB_V_e0 := hrd _ (.head _)
  have HB_V_e1 := hrd _ (.tail _ (.head _))
  clear hrd
  unfold impl_ShowEdit
  refine TW.seq ?_
  refine TW.region ?_
  refine TO.ef (Ef.box rfl (Cel.agg ⟨(One.can (Base.can HB_V_e0)), (One.can (Base.can HB_V_e1)), trivial⟩)) rfl rfl rfl (fun B1 => ?_)
  refine TO.y (Y.assign rfl) rfl rfl rfl ?_
  refine TO.nil ?_
  refine TE.next ?_
  refine TW.seq ?_
  refine TW.seq ?_
  refine TW.region ?_
  refine TO.y (Y.load_box (v := .agg #[V_e0, V_e1]) 0 kk30 rfl rfl rfl) rfl rfl rfl ?_
  refine TO.bind fun R2 H3 => ?_
  refine TO.ef (Ef.call (rest := [.box B1 30 [V_e0, V_e1]]) [0] (impl_editOk_con e V_e0 V_e1 R2 H3) kc33 rfl rfl ⟨(Base.can HB_V_e0), (Base.can HB_V_e1), trivial⟩) rfl rfl rfl (fun _ => ?_)
  refine TO.y (Y.not rfl) rfl rfl rfl ?_
  refine TO.nil ?_
  refine TE.next ?_
  refine TW.cond rfl (fun H5 => ?_) (fun H5 => ?_)
  · refine TW.seq ?_
    refine TW.region ?_
    refine TO.y (Y.assign rfl) rfl rfl rfl ?_
    refine TO.nil ?_
    refine TE.next ?_
    refine TW.ret ?_
    refine TE.then_ret ?_
    exact TE.leaf fun _ _ hf_ hs_ => ret_any (rs := [.tmp 2]) (vs := [strV ([])]) (.inl rfl) rfl ⟨rfl, trivial⟩ hf_ hs_ ⟨(), rfl, hs_.pulls [] rfl⟩
  · refine TW.skip ?_
    refine TE.next ?_
    refine TW.seq ?_
    refine TW.region ?_
    refine TO.ef (Ef.alloc kz61 rfl) rfl rfl rfl (fun B6 => ?_)
    refine TO.nil ?_
    refine TE.next ?_
    refine TW.seq ?_
    refine TW.region ?_
    refine TO.y (Y.field_box kf30_1 rfl rfl) rfl rfl rfl ?_
    refine TO.y (Y.load_box (v := V_e1) 1 kk23 rfl rfl rfl) rfl rfl rfl ?_
    refine TO.y (Y.len (l := e.Drop) ke23 (Base.can HB_V_e1) rfl) rfl rfl rfl ?_
    refine TO.bind fun R7 H8 => ?_
    refine TO.ef (Ef.call (rest := [.box B6 61 [.pointer none, .slice none 0 0], .box B1 30 [V_e0, V_e1]]) [0, 0] (impl_Var_con ((e.Drop.length : Nat) : Int)  R7 H8) kc35 rfl rfl trivial) rfl rfl rfl (fun _ => ?_)
    refine TO.bind fun R11 H12 => ?_
    refine TO.ef (Ef.call (rest := [.box B1 30 [V_e0, V_e1]]) [0, 0] (strings_Builder_WriteString_new R7 R11 B6 H12) kc34 rfl rfl trivial) rfl rfl rfl (fun Y10 => ?_)
    refine TO.nil ?_
    refine TE.next ?_
    refine TW.seq ?_
    refine TW.seq ?_
    refine TW.region ?_
    refine TO.y (Y.field_box kf30_1 rfl rfl) rfl rfl rfl ?_
    refine TO.y (Y.load_box (v := V_e1) 2 kk23 rfl rfl rfl) rfl rfl rfl ?_
    refine TO.y (Y.len (l := e.Drop) ke23 (Base.can HB_V_e1) rfl) rfl rfl rfl ?_
    refine TO.y (Y.move rfl) rfl rfl rfl ?_
    refine TO.nil ?_
    refine TE.next ?_
    refine TW.joinX (τ := List UInt8) (X := Value) (fun _ _ => [(1, .pointer (some ⟨B1, 0, none⟩)), (3, .pointer (some ⟨B6, 0, none⟩))]) (fun T X => [.box B1 30 [V_e0, V_e1], .box B6 61 [.pointer (some ⟨B6, 0, none⟩), X], .buf X 5 T]) ?_ (fun T15 X16 => ?_)
    · refine TW.block ?_
      refine TW.loopX (σ := Int × List UInt8) (X := Value) (fun T _ => [(1, .pointer (some ⟨B1, 0, none⟩)), (3, .pointer (some ⟨B6, 0, none⟩)), (17, V_e1), (18, .int .i64 ((e.Drop.length : Nat) : Int)), (19, .int .i64 T.1)]) (fun T X => [.box B1 30 [V_e0, V_e1], .box B6 61 [.pointer (some ⟨B6, 0, none⟩), X], .buf X 5 T.2]) Y10 [2, 0, 0] ⟨rfl, rfl, rfl, rfl, rfl, trivial⟩ rfl (fun S13 X14 => ?_)
      refine TW.seq ?_
      refine TW.region ?_
      refine TO.y (Y.lss rfl rfl) rfl rfl rfl ?_
      refine TO.nil ?_
      refine TE.next ?_
      refine TW.seq ?_
      refine TW.cond rfl (fun H17 => ?_) (fun H17 => ?_)
      · refine TW.skip ?_
        refine TE.next ?_
        refine TW.seq ?_
        refine TW.block ?_
        refine TW.seq ?_
        refine TW.region ?_
        refine TO.bind fun E18 H19 => ?_
        refine TO.y (Y.index ke23 (Base.can HB_V_e1) H19 rfl rfl) rfl rfl rfl ?_
        refine TO.y (Y.load_el (us := [.int .i64 E18]) (u := .int .i64 E18) kk3 rfl (Base.can HB_V_e1) (idx_get H19).2.2 rfl rfl rfl rfl rfl) rfl rfl rfl ?_
        refine TO.y (Y.assign rfl) rfl rfl rfl ?_
        refine TO.nil ?_
        refine TE.next ?_
        refine TW.region ?_
        refine TO.y (Y.move rfl) rfl rfl rfl ?_
        refine TO.bind fun R20 H21 => ?_
        refine TO.ef (Ef.call (rest := [.box B1 30 [V_e0, V_e1], .box B6 61 [.pointer (some ⟨B6, 0, none⟩), X14], .buf X14 5 S13.2]) [0, 0, 0] (impl_Var_con E18  R20 H21) kc35 rfl rfl trivial) rfl rfl rfl (fun _ => ?_)
        refine TO.bind fun R24 H25 => ?_
        refine TO.ef (Ef.call (rest := [.box B1 30 [V_e0, V_e1]]) [1, 1, 0] (strings_Builder_WriteString_old S13.2 R20 R24 B6 X14 H25) kc34 rfl rfl trivial) rfl rfl rfl (fun Y23 => ?_)
        refine TO.nil ?_
        refine TE.block_normal ?_
        refine TE.next ?_
        refine TW.region ?_
        refine TO.y (Y.add rfl rfl) rfl rfl rfl ?_
        refine TO.y (Y.move rfl) rfl rfl rfl ?_
        refine TO.nil ?_
        exact TE.lp_go Y23 [2, 0, 0] ⟨rfl, rfl, rfl, rfl, rfl, trivial⟩ rfl
      · refine TW.exit ?_
        refine TE.then_exit ?_
        refine TE.lp_exit ?_
        refine TE.block_exit ?_
        exact TE.jn_go X14 [0, 0, 0] ⟨rfl, rfl, trivial⟩ rfl
    · refine TE.next ?_
      refine TW.seq ?_
      refine TW.region ?_
      refine TO.y (Y.field_box kf30_0 rfl rfl) rfl rfl rfl ?_
      refine TO.y (Y.load_box (v := V_e0) 0 kk28 rfl rfl rfl) rfl rfl rfl ?_
      refine TO.y (Y.len (l := e.Add) ke28 (Base.can HB_V_e0) rfl) rfl rfl rfl ?_
      refine TO.bind fun R26 H27 => ?_
      refine TO.ef (Ef.call (rest := [.box B1 30 [V_e0, V_e1], .box B6 61 [.pointer (some ⟨B6, 0, none⟩), X16], .buf X16 5 T15]) [0, 0, 0] (impl_Var_con ((e.Add.length : Nat) : Int)  R26 H27) kc35 rfl rfl trivial) rfl rfl rfl (fun _ => ?_)
      refine TO.bind fun R30 H31 => ?_
      refine TO.ef (Ef.call (rest := [.box B1 30 [V_e0, V_e1]]) [1, 1, 0] (strings_Builder_WriteString_old T15 R26 R30 B6 X16 H31) kc34 rfl rfl trivial) rfl rfl rfl (fun Y29 => ?_)
      refine TO.nil ?_
      refine TE.next ?_
      refine TW.seq ?_
      refine TW.seq ?_
      refine TW.region ?_
      refine TO.y (Y.field_box kf30_0 rfl rfl) rfl rfl rfl ?_
      refine TO.y (Y.load_box (v := V_e0) 2 kk28 rfl rfl rfl) rfl rfl rfl ?_
      refine TO.y (Y.len (l := e.Add) ke28 (Base.can HB_V_e0) rfl) rfl rfl rfl ?_
      refine TO.y (Y.move rfl) rfl rfl rfl ?_
      refine TO.nil ?_
      refine TE.next ?_
      refine TW.joinX (τ := List UInt8) (X := Value) (fun _ _ => [(3, .pointer (some ⟨B6, 0, none⟩))]) (fun T X => [.box B6 61 [.pointer (some ⟨B6, 0, none⟩), X], .buf X 5 T]) ?_ (fun T34 X35 => ?_)
      · refine TW.block ?_
        refine TW.loopX (σ := Int × List UInt8) (X := Value) (fun T _ => [(3, .pointer (some ⟨B6, 0, none⟩)), (33, V_e0), (34, .int .i64 ((e.Add.length : Nat) : Int)), (35, .int .i64 T.1)]) (fun T X => [.box B6 61 [.pointer (some ⟨B6, 0, none⟩), X], .buf X 5 T.2]) Y29 [0, 0] ⟨rfl, rfl, rfl, rfl, trivial⟩ rfl (fun S32 X33 => ?_)
        refine TW.seq ?_
        refine TW.region ?_
        refine TO.y (Y.lss rfl rfl) rfl rfl rfl ?_
        refine TO.nil ?_
        refine TE.next ?_
        refine TW.seq ?_
        refine TW.cond rfl (fun H36 => ?_) (fun H36 => ?_)
        · refine TW.skip ?_
          refine TE.next ?_
          refine TW.seq ?_
          refine TW.block ?_
          refine TW.seq ?_
          refine TW.region ?_
          refine TO.bind fun E37 H38 => ?_
          refine TO.y (Y.index ke28 (Base.can HB_V_e0) H38 rfl rfl) rfl rfl rfl ?_
          refine TO.y (Y.load_el (us := [.int .i64 E37.No, .int .i64 E37.Level, strV E37.Lo, strV E37.Hi]) (u := .agg #[.int .i64 E37.No, .int .i64 E37.Level, strV E37.Lo, strV E37.Hi]) kk52 rfl (Base.can HB_V_e0) (idx_get H38).2.2 rfl rfl rfl rfl rfl) rfl rfl rfl ?_
          refine TO.ef (Ef.alloc kz52 rfl) rfl rfl rfl (fun B39 => ?_)
          refine TO.ef0 (Ef.store_box (us := [.int .i64 E37.No, .int .i64 E37.Level, strV E37.Lo, strV E37.Hi]) (vs' := [.int .i64 E37.No, .int .i64 E37.Level, strV E37.Lo, strV E37.Hi]) (is' := [.box B39 52 [.int .i64 E37.No, .int .i64 E37.Level, strV E37.Lo, strV E37.Hi], .box B6 61 [.pointer (some ⟨B6, 0, none⟩), X33], .buf X33 5 S32.2]) 0 kk52 rfl rfl rfl (Cel.plain rfl rfl) rfl rfl rfl rfl) rfl rfl (fun _ => ?_)
          refine TO.nil ?_
          refine TE.next ?_
          refine TW.draw (isH := [.box B39 52 [.int .i64 E37.No, .int .i64 E37.Level, strV E37.Lo, strV E37.Hi]]) hMix ?_
          refine TA.y (listed' := #[true, false, false, false, false, false, false, false, false, false, false, false, false, false, false, false]) 0 [0] rfl (Y.field_box kf52_0 rfl rfl) rfl rfl rfl (by kernel_rfl) (by kernel_rfl) (by kernel_rfl) rfl rfl ?_
          refine TA.y (listed' := #[true, true, false, false, false, false, false, false, false, false, false, false, false, false, false, false]) 1 [0] rfl (Y.load_box (v := .int .i64 E37.No) 0 kk3 rfl rfl rfl) rfl rfl rfl (by kernel_rfl) (by kernel_rfl) (by kernel_rfl) rfl rfl ?_
          refine TA.y (listed' := #[true, true, false, true, false, false, false, false, false, false, false, false, false, false, false, false]) 3 [0] rfl (Y.field_box kf52_1 rfl rfl) rfl rfl rfl (by kernel_rfl) (by kernel_rfl) (by kernel_rfl) rfl rfl ?_
          refine TA.y (listed' := #[true, true, false, true, true, false, false, false, false, false, false, false, false, false, false, false]) 4 [0] rfl (Y.load_box (v := .int .i64 E37.Level) 0 kk3 rfl rfl rfl) rfl rfl rfl (by kernel_rfl) (by kernel_rfl) (by kernel_rfl) rfl rfl ?_
          refine TA.y (listed' := #[true, true, false, true, true, false, false, true, false, false, false, false, false, false, false, false]) 7 [0] rfl (Y.field_box kf52_2 rfl rfl) rfl rfl rfl (by kernel_rfl) (by kernel_rfl) (by kernel_rfl) rfl rfl ?_
          refine TA.y (listed' := #[true, true, false, true, true, false, false, true, true, false, false, false, false, false, false, false]) 8 [0] rfl (Y.load_box (v := strV E37.Lo) 0 kk9 rfl rfl rfl) rfl rfl rfl (by kernel_rfl) (by kernel_rfl) (by kernel_rfl) rfl rfl ?_
          refine TA.y (listed' := #[true, true, false, true, true, false, false, true, true, false, false, true, false, false, false, false]) 11 [0] rfl (Y.field_box kf52_3 rfl rfl) rfl rfl rfl (by kernel_rfl) (by kernel_rfl) (by kernel_rfl) rfl rfl ?_
          refine TA.y (listed' := #[true, true, false, true, true, false, false, true, true, false, false, true, true, false, false, false]) 12 [0] rfl (Y.load_box (v := strV E37.Hi) 0 kk9 rfl rfl rfl) rfl rfl rfl (by kernel_rfl) (by kernel_rfl) (by kernel_rfl) rfl rfl ?_
          refine TA.bind fun R40 H41 => ?_
          refine TA.one 2 (by kernel_rfl) ?_
          refine TX.ef (listed' := #[true, true, true, true, true, false, false, true, true, false, false, true, true, false, false, false]) [0] rfl (Ef.call (rest := [.box B39 52 [.int .i64 E37.No, .int .i64 E37.Level, strV E37.Lo, strV E37.Hi], .box B6 61 [.pointer (some ⟨B6, 0, none⟩), X33], .buf X33 5 S32.2]) [0, 0, 0] (impl_Var_con E37.No  R40 H41) kc35 rfl rfl trivial) rfl rfl rfl rfl (fun _ => rfl) (fun _ => ?_)
          refine TA.bind fun R43 H44 => ?_
          refine TA.one 5 (by kernel_rfl) ?_
          refine TX.ef (listed' := #[true, true, true, true, true, true, false, true, true, false, false, true, true, false, false, false]) [0] rfl (Ef.call (rest := [.box B39 52 [.int .i64 E37.No, .int .i64 E37.Level, strV E37.Lo, strV E37.Hi], .box B6 61 [.pointer (some ⟨B6, 0, none⟩), X33], .buf X33 5 S32.2]) [0, 0, 0] (impl_Var_con E37.Level  R43 H44) kc35 rfl rfl trivial) rfl rfl rfl rfl (fun _ => rfl) (fun _ => ?_)
          refine TA.bind fun E46 H47 => ?_
          refine TA.y (listed' := #[true, true, true, true, true, true, true, true, true, false, false, true, true, false, false, false]) 6 [0] rfl (Y.cat H47 rfl rfl) rfl rfl rfl (by kernel_rfl) (by kernel_rfl) (by kernel_rfl) rfl rfl ?_
          refine TA.bind fun R48 H49 => ?_
          refine TA.one 9 (by kernel_rfl) ?_
          refine TX.ef (listed' := #[true, true, true, true, true, true, true, true, true, true, false, true, true, false, false, false]) [0] rfl (Ef.call (rest := [.box B39 52 [.int .i64 E37.No, .int .i64 E37.Level, strV E37.Lo, strV E37.Hi], .box B6 61 [.pointer (some ⟨B6, 0, none⟩), X33], .buf X33 5 S32.2]) [0, 0, 0] (impl_short_con E37.Lo  R48 H49) kc36 rfl rfl trivial) rfl rfl rfl rfl (fun _ => rfl) (fun _ => ?_)
          refine TA.bind fun E51 H52 => ?_
          refine TA.y (listed' := #[true, true, true, true, true, true, true, true, true, true, true, true, true, false, false, false]) 10 [0] rfl (Y.cat H52 rfl rfl) rfl rfl rfl (by kernel_rfl) (by kernel_rfl) (by kernel_rfl) rfl rfl ?_
          refine TA.bind fun R53 H54 => ?_
          refine TA.one 13 (by kernel_rfl) ?_
          refine TX.ef (listed' := #[true, true, true, true, true, true, true, true, true, true, true, true, true, true, false, false]) [0] rfl (Ef.call (rest := [.box B39 52 [.int .i64 E37.No, .int .i64 E37.Level, strV E37.Lo, strV E37.Hi], .box B6 61 [.pointer (some ⟨B6, 0, none⟩), X33], .buf X33 5 S32.2]) [0, 0, 0] (impl_short_con E37.Hi  R53 H54) kc36 rfl rfl trivial) rfl rfl rfl rfl (fun _ => rfl) (fun _ => ?_)
          refine TA.bind fun E56 H57 => ?_
          refine TA.y (listed' := #[true, true, true, true, true, true, true, true, true, true, true, true, true, true, true, false]) 14 [0] rfl (Y.cat H57 rfl rfl) rfl rfl rfl (by kernel_rfl) (by kernel_rfl) (by kernel_rfl) rfl rfl ?_
          refine TA.bind fun R59 H60 => ?_
          refine TA.one 15 (by kernel_rfl) ?_
          refine TX.ef (listed' := #[true, true, true, true, true, true, true, true, true, true, true, true, true, true, true, true]) [2] rfl (Ef.call (rest := [.box B39 52 [.int .i64 E37.No, .int .i64 E37.Level, strV E37.Lo, strV E37.Hi]]) [1, 1, 0] (strings_Builder_WriteString_old S32.2 E56 R59 B6 X33 H60) kc34 rfl rfl trivial) rfl rfl rfl rfl (fun _ => rfl) (fun Y58 => ?_)
          refine TA.nil (by kernel_rfl) ?_
          refine TE.block_normal ?_
          refine TE.next ?_
          refine TW.region ?_
          refine TO.y (Y.add rfl rfl) rfl rfl rfl ?_
          refine TO.y (Y.move rfl) rfl rfl rfl ?_
          refine TO.nil ?_
          exact TE.lp_go Y58 [0, 0] ⟨rfl, rfl, rfl, rfl, trivial⟩ rfl
        · refine TW.exit ?_
          refine TE.then_exit ?_
          refine TE.lp_exit ?_
          refine TE.block_exit ?_
          exact TE.jn_go X33 [0, 0] ⟨rfl, trivial⟩ rfl
      · refine TE.next ?_
        refine TW.seq ?_
        refine TW.region ?_
        refine TO.bind fun R61 H62 => ?_
        refine TO.ef (Ef.call (rest := []) [0, 0] (strings_Builder_String_con T34 B6 X35 R61 H62) kc38 rfl rfl trivial) rfl rfl rfl (fun _ => ?_)
        refine TO.bind fun R63 H64 => ?_
        refine TO.ef (Ef.call (rest := [.box B6 61 [.pointer (some ⟨B6, 0, none⟩), X35]]) [0] (impl_summed_con R61  R63 H64) kc37 rfl rfl trivial) rfl rfl rfl (fun _ => ?_)
        refine TO.y (Y.assign rfl) rfl rfl rfl ?_
        refine TO.nil ?_
        refine TE.next ?_
        refine TW.ret ?_
        exact TE.leaf fun _ _ hf_ hs_ => ret_any (rs := [.tmp 2]) (vs := [strV R63]) (.inl rfl) rfl ⟨rfl, trivial⟩ hf_ hs_ ⟨(), rfl, hs_.pulls [] rfl⟩

/-- loop.example/g00950/impl.ReadEdit -/
noncomputable def impl_ReadEdit (s : List UInt8) : Option (Edit × Bool) :=
  (impl_unsummed s).bind fun R2 =>
  if (!R2.2) = true then (some ({ Add := ([] : List File), Drop := ([] : List Int) : Edit }, false))
  else ((impl_reader_number ({ text := R2.1, at_ := (0 : Int), bad := false : Reader })).bind fun R10 =>
  bindC (loopO (fun (S13 : List UInt8 × Int × Bool × Int × List Int) => (if (decide (S13.2.2.2.1 > (0 : Int))) = true then (some (!S13.2.2.1))
  else (some false)).bind (fun (T17 : Bool) =>
  if T17 = true then ((impl_reader_number ({ text := S13.1, at_ := S13.2.1, bad := S13.2.2.1 : Reader })).bind fun R21 =>
  (app 8 S13.2.2.2.2 ([R21.1])).bind fun E26 =>
  some (.go (R21.2.text, R21.2.at_, R21.2.bad, IntKind.i64.wrap (S13.2.2.2.1 - (1 : Int)), E26)))
  else (some (.done (.go (S13.1, S13.2.1, S13.2.2.1, S13.2.2.2.2))))))
  (R10.2.text, R10.2.at_, R10.2.bad, R10.1, ([] : List Int)))
  (fun (T15 : List UInt8 × Int × Bool × List Int) => (impl_reader_number ({ text := T15.1, at_ := T15.2.1, bad := T15.2.2.1 : Reader })).bind fun R28 =>
  bindC (loopO (fun (S31 : List UInt8 × Int × Bool × Int × List File) => (if (decide (S31.2.2.2.1 > (0 : Int))) = true then (some (!S31.2.2.1))
  else (some false)).bind (fun (T35 : Bool) =>
  if T35 = true then ((impl_reader_number ({ text := S31.1, at_ := S31.2.1, bad := S31.2.2.1 : Reader })).bind fun R39 =>
  (impl_reader_number R39.2).bind fun R43 =>
  (impl_reader_short R43.2).bind fun R46 =>
  (impl_reader_short R46.2).bind fun R49 =>
  (app 48 S31.2.2.2.2 ([{ No := R39.1, Level := R43.1, Lo := R46.1, Hi := R49.1 : File }])).bind fun E54 =>
  some (.go (R49.2.text, R49.2.at_, R49.2.bad, IntKind.i64.wrap (S31.2.2.2.1 - (1 : Int)), E54)))
  else (some (.done (.go (S31.1, S31.2.1, S31.2.2.1, S31.2.2.2.2))))))
  (R28.2.text, R28.2.at_, R28.2.bad, R28.1, ([] : List File)))
  (fun (T33 : List UInt8 × Int × Bool × List File) => ((impl_reader_done ({ text := T33.1, at_ := T33.2.1, bad := T33.2.2.1 : Reader })).bind fun R58 =>
  if (!R58) = true then (some true)
  else ((impl_ShowEdit ({ Add := T33.2.2.2, Drop := T15.2.2.2 : Edit })).bind fun R62 =>
  some (!(decide (R62 = s))))).bind (fun (T56 : Bool) =>
  if T56 = true then (some ({ Add := ([] : List File), Drop := ([] : List Int) : Edit }, false))
  else (some ({ Add := T33.2.2.2, Drop := T15.2.2.2 : Edit }, true))))))

theorem impl_ReadEdit_con (s : List UInt8)  (r : Edit × Bool) (hm : impl_ReadEdit s = some r) :
    Con Try.prog 12 [strV s] [] [] (fun X : Value × Value => .tuple #[.agg #[X.1, X.2], .bool r.2]) (fun X => [.own X.1 (lc r.1.Add), .own X.2 (lc r.1.Drop)]) := by
  refine Con.intro (args := [strV s]) (n := 73) (val := fun r (X : Value × Value) => .tuple #[.agg #[X.1, X.2], .bool r.2]) (post := fun r X => [.own X.1 (lc r.1.Add), .own X.2 (lc r.1.Drop)]) (m := impl_ReadEdit s) Try.func12 rfl rfl rfl hm ?_
  intro w S _
  unfold impl_ReadEdit
  refine TW.seq ?_
  refine TW.region ?_
  refine TO.ef (Ef.alloc kz30 rfl) rfl rfl rfl (fun B1 => ?_)
  refine TO.y (Y.assign rfl) rfl rfl rfl ?_
  refine TO.nil ?_
  refine TE.next ?_
  refine TW.seq ?_
  refine TW.region ?_
  refine TO.y (Y.move rfl) rfl rfl rfl ?_
  refine TO.bind fun R2 H3 => ?_
  refine TO.ef (Ef.call (rest := [.box B1 30 [.slice none 0 0, .slice none 0 0]]) [0] (impl_unsummed_con s  R2 H3) kc42 rfl rfl trivial) rfl rfl rfl (fun _ => ?_)
  refine TO.y (Y.move rfl) rfl rfl rfl ?_
  refine TO.y (Y.extract rfl rfl) rfl rfl rfl ?_
  refine TO.y (Y.extract rfl rfl) rfl rfl rfl ?_
  refine TO.y (Y.assign rfl) rfl rfl rfl ?_
  refine TO.y (Y.assign rfl) rfl rfl rfl ?_
  refine TO.nil ?_
  refine TE.next ?_
  refine TW.seq ?_
  refine TW.seq ?_
  refine TW.region ?_
  refine TO.y (Y.move rfl) rfl rfl rfl ?_
  refine TO.y (Y.not rfl) rfl rfl rfl ?_
  refine TO.nil ?_
  refine TE.next ?_
  refine TW.cond rfl (fun H5 => ?_) (fun H5 => ?_)
  · refine TW.seq ?_
    refine TW.region ?_
    refine TO.y (Y.build (cells := [.slice none 0 0, .slice none 0 0]) [] kp30 kz30 trivial rfl) rfl rfl rfl ?_
    refine TO.ef0 (Ef.store_box (us := [.slice none 0 0, .slice none 0 0]) (vs' := [.slice none 0 0, .slice none 0 0]) (is' := [.box B1 30 [.slice none 0 0, .slice none 0 0]]) 0 kk30 rfl rfl rfl (Cel.plain rfl rfl) rfl rfl rfl rfl) rfl rfl (fun _ => ?_)
    refine TO.y (Y.assign rfl) rfl rfl rfl ?_
    refine TO.nil ?_
    refine TE.next ?_
    refine TW.ret ?_
    refine TE.then_ret ?_
    exact TE.leaf fun _ _ hf_ hs_ => ret_any (rs := [.cell 2 30, .tmp 3]) (vs := [.agg #[.slice none 0 0, .slice none 0 0], .bool false]) (.inl rfl) rfl (RV.cell 0 rfl rfl kk30 rfl ⟨rfl, trivial⟩) hf_ hs_ ⟨((.slice none 0 0), (.slice none 0 0)), rfl, ((hs_.nilItem 4).nilItem 1).pulls [1, 0] rfl⟩
  · refine TW.skip ?_
    refine TE.next ?_
    refine TW.seq ?_
    refine TW.region ?_
    refine TO.y (Y.move rfl) rfl rfl rfl ?_
    refine TO.y (Y.build (cells := [strV R2.1, .int .i64 (0 : Int), .bool false]) [(0, [strV R2.1])] kp75 kz75 ⟨rfl, ⟨_, rfl, (Cel.plain rfl rfl)⟩, trivial⟩ rfl) rfl rfl rfl ?_
    refine TO.ef (Ef.alloc kz75 rfl) rfl rfl rfl (fun B8 => ?_)
    refine TO.ef0 (Ef.store_box (us := [strV R2.1, .int .i64 (0 : Int), .bool false]) (vs' := [strV R2.1, .int .i64 (0 : Int), .bool false]) (is' := [.box B8 75 [strV R2.1, .int .i64 (0 : Int), .bool false], .box B1 30 [.slice none 0 0, .slice none 0 0]]) 0 kk75 rfl rfl rfl (Cel.plain rfl rfl) rfl rfl rfl rfl) rfl rfl (fun _ => ?_)
    refine TO.nil ?_
    refine TE.next ?_
    refine TW.seq ?_
    refine TW.region ?_
    refine TO.ef (Ef.alloc kz30 rfl) rfl rfl rfl (fun B9 => ?_)
    refine TO.nil ?_
    refine TE.next ?_
    refine TW.seq ?_
    refine TW.seq ?_
    refine TW.region ?_
    refine TO.bind fun R10 H11 => ?_
    refine TO.ef (Ef.call (rest := [.box B9 30 [.slice none 0 0, .slice none 0 0], .box B1 30 [.slice none 0 0, .slice none 0 0]]) [1, 0, 0] (impl_reader_number_con ({ text := R2.1, at_ := (0 : Int), bad := false : Reader }) B8 R10 H11) kc43 rfl rfl trivial) rfl rfl rfl (fun _ => ?_)
    refine TO.y (Y.assign rfl) rfl rfl rfl ?_
    refine TO.nil ?_
    refine TE.next ?_
    refine TW.joinX (τ := List UInt8 × Int × Bool × List Int) (X := Value) (fun _ _ => [(0, strV s), (2, .pointer (some ⟨B1, 0, none⟩)), (6, .pointer (some ⟨B8, 0, none⟩)), (7, .pointer (some ⟨B9, 0, none⟩))]) (fun T X => [.box B1 30 [.slice none 0 0, .slice none 0 0], .box B8 75 [strV T.1, .int .i64 T.2.1, .bool T.2.2.1], .box B9 30 [.slice none 0 0, X], .own X (lc T.2.2.2)]) ?_ (fun T15 X16 => ?_)
    · refine TW.block ?_
      refine TW.nilItem 1 ?_
      refine TW.loopX (σ := List UInt8 × Int × Bool × Int × List Int) (X := Value) (fun T _ => [(0, strV s), (2, .pointer (some ⟨B1, 0, none⟩)), (6, .pointer (some ⟨B8, 0, none⟩)), (7, .pointer (some ⟨B9, 0, none⟩)), (8, .int .i64 T.2.2.2.1)]) (fun T X => [.box B1 30 [.slice none 0 0, .slice none 0 0], .box B8 75 [strV T.1, .int .i64 T.2.1, .bool T.2.2.1], .box B9 30 [.slice none 0 0, X], .own X (lc T.2.2.2.2)]) (.slice none 0 0) [3, 1, 1, 0] ⟨rfl, rfl, rfl, rfl, rfl, trivial⟩ rfl (fun S13 X14 => ?_)
      refine TW.seq ?_
      refine TW.seq ?_
      refine TW.joinBX (τ := Bool) (X := Unit) (fun T _ => [(0, strV s), (2, .pointer (some ⟨B1, 0, none⟩)), (6, .pointer (some ⟨B8, 0, none⟩)), (7, .pointer (some ⟨B9, 0, none⟩)), (8, .int .i64 S13.2.2.2.1), (29, .bool T)]) (fun _ _ => [.box B1 30 [.slice none 0 0, .slice none 0 0], .box B8 75 [strV S13.1, .int .i64 S13.2.1, .bool S13.2.2.1], .box B9 30 [.slice none 0 0, X14], .own X14 (lc S13.2.2.2.2)]) ?_ (fun T17 X18 => ?_)
      · refine TW.region ?_
        refine TO.y (Y.move rfl) rfl rfl rfl ?_
        refine TO.y (Y.gtr rfl rfl) rfl rfl rfl ?_
        refine TO.y (Y.move rfl) rfl rfl rfl ?_
        refine TO.ite (b := decide (S13.2.2.2.1 > (0 : Int))) (fun H19 => ?_) (fun H19 => ?_)
        · refine TO.y (Y.field_box kf75_2 rfl rfl) (Gd.at 2 true 25 (decide (S13.2.2.2.1 > (0 : Int))) rfl rfl rfl (beq_tt H19)) rfl rfl ?_
          refine TO.y (Y.load_box (v := .bool S13.2.2.1) 1 kk4 rfl rfl rfl) (Gd.at 2 true 25 (decide (S13.2.2.2.1 > (0 : Int))) rfl rfl rfl (beq_tt H19)) rfl rfl ?_
          refine TO.y (Y.not rfl) (Gd.at 2 true 25 (decide (S13.2.2.2.1 > (0 : Int))) rfl rfl rfl (beq_tt H19)) rfl rfl ?_
          refine TO.y (Y.pick_t H19 rfl rfl) rfl rfl rfl ?_
          refine TO.nil ?_
          exact TE.jb_go () [0, 0, 0, 0] ⟨rfl, rfl, rfl, rfl, rfl, rfl, trivial⟩ rfl
        · refine TO.off (Gd.at 2 true 25 (decide (S13.2.2.2.1 > (0 : Int))) rfl rfl rfl (beq_ft H19)) rfl rfl ?_
          refine TO.off (Gd.at 2 true 25 (decide (S13.2.2.2.1 > (0 : Int))) rfl rfl rfl (beq_ft H19)) rfl rfl ?_
          refine TO.off (Gd.at 2 true 25 (decide (S13.2.2.2.1 > (0 : Int))) rfl rfl rfl (beq_ft H19)) rfl rfl ?_
          refine TO.y (Y.pick_f H19 rfl rfl) rfl rfl rfl ?_
          refine TO.nil ?_
          exact TE.jb_go () [0, 0, 0, 0] ⟨rfl, rfl, rfl, rfl, rfl, rfl, trivial⟩ rfl
      · refine TE.next ?_
        refine TW.cond rfl (fun H20 => ?_) (fun H20 => ?_)
        · refine TW.skip ?_
          refine TE.next ?_
          refine TW.seq ?_
          refine TW.block ?_
          refine TW.seq ?_
          refine TW.region ?_
          refine TO.bind fun R21 H22 => ?_
          refine TO.ef (Ef.call (rest := [.box B1 30 [.slice none 0 0, .slice none 0 0], .box B9 30 [.slice none 0 0, X14], .own X14 (lc S13.2.2.2.2)]) [1, 0, 0, 0] (impl_reader_number_con ({ text := S13.1, at_ := S13.2.1, bad := S13.2.2.1 : Reader }) B8 R21 H22) kc43 rfl rfl trivial) rfl rfl rfl (fun _ => ?_)
          refine TO.y (Y.assign rfl) rfl rfl rfl ?_
          refine TO.nil ?_
          refine TE.next ?_
          refine TW.region ?_
          refine TO.y (Y.field_box kf30_1 rfl rfl) rfl rfl rfl ?_
          refine TO.y (Y.load_box (v := X14) 2 kk23 rfl rfl rfl) rfl rfl rfl ?_
          refine TO.y (Y.move rfl) rfl rfl rfl ?_
          refine TO.ef (Ef.buildSlice (α := Int) (Vs := [.int .i64 R21.1]) [R21.1] ke23 kz3 rfl rfl rfl rfl rfl) rfl rfl rfl (fun B24 => ?_)
          refine TO.bind fun E26 H27 => ?_
          refine TO.ef (Ef.append (α := Int) (is' := [.own (.slice (some ⟨B24, 0, none⟩) 1 1) (lc ([R21.1])), .box B8 75 [strV R21.2.text, .int .i64 R21.2.at_, .bool R21.2.bad], .box B1 30 [.slice none 0 0, .slice none 0 0], .box B9 30 [.slice none 0 0, X14]]) [4, 0, 0, 0, 0] H27 ke23 kz3 rfl rfl rfl rfl rfl (Can.own 0 rfl)) rfl rfl rfl (fun V25 => ?_)
          refine TO.y (Y.field_box kf30_1 rfl rfl) rfl rfl rfl ?_
          refine TO.ef0 (Ef.store_box (us := [V25]) (vs' := [.slice none 0 0, V25]) (is' := [.own V25 (lc E26), .own (.slice (some ⟨B24, 0, none⟩) 1 1) (lc ([R21.1])), .box B8 75 [strV R21.2.text, .int .i64 R21.2.at_, .bool R21.2.bad], .box B1 30 [.slice none 0 0, .slice none 0 0], .box B9 30 [.slice none 0 0, V25]]) 4 kk23 rfl rfl rfl (Cel.one (One.can (Can.own 0 rfl))) rfl rfl rfl rfl) rfl rfl (fun _ => ?_)
          refine TO.nil ?_
          refine TE.block_normal ?_
          refine TE.next ?_
          refine TW.region ?_
          refine TO.y (Y.move rfl) rfl rfl rfl ?_
          refine TO.y (Y.sub rfl rfl) rfl rfl rfl ?_
          refine TO.y (Y.assign rfl) rfl rfl rfl ?_
          refine TO.nil ?_
          exact TE.lp_go V25 [3, 2, 2, 0] ⟨rfl, rfl, rfl, rfl, rfl, trivial⟩ rfl
        · refine TW.exit ?_
          refine TE.then_exit ?_
          refine TE.lp_exit ?_
          refine TE.block_exit ?_
          exact TE.jn_go X14 [0, 0, 0, 0] ⟨rfl, rfl, rfl, rfl, trivial⟩ rfl
    · refine TE.next ?_
      refine TW.seq ?_
      refine TW.seq ?_
      refine TW.region ?_
      refine TO.bind fun R28 H29 => ?_
      refine TO.ef (Ef.call (rest := [.box B1 30 [.slice none 0 0, .slice none 0 0], .box B9 30 [.slice none 0 0, X16], .own X16 (lc T15.2.2.2)]) [1, 0, 0, 0] (impl_reader_number_con ({ text := T15.1, at_ := T15.2.1, bad := T15.2.2.1 : Reader }) B8 R28 H29) kc43 rfl rfl trivial) rfl rfl rfl (fun _ => ?_)
      refine TO.y (Y.assign rfl) rfl rfl rfl ?_
      refine TO.nil ?_
      refine TE.next ?_
      refine TW.joinX (τ := List UInt8 × Int × Bool × List File) (X := Value) (fun _ _ => [(0, strV s), (2, .pointer (some ⟨B1, 0, none⟩)), (6, .pointer (some ⟨B8, 0, none⟩)), (7, .pointer (some ⟨B9, 0, none⟩))]) (fun T X => [.box B1 30 [.slice none 0 0, .slice none 0 0], .box B8 75 [strV T.1, .int .i64 T.2.1, .bool T.2.2.1], .box B9 30 [X, X16], .own X (lc T.2.2.2), .own X16 (lc T15.2.2.2)]) ?_ (fun T33 X34 => ?_)
      · refine TW.block ?_
        refine TW.nilItem 4 ?_
        refine TW.loopX (σ := List UInt8 × Int × Bool × Int × List File) (X := Value) (fun T _ => [(0, strV s), (2, .pointer (some ⟨B1, 0, none⟩)), (6, .pointer (some ⟨B8, 0, none⟩)), (7, .pointer (some ⟨B9, 0, none⟩)), (10, .int .i64 T.2.2.2.1)]) (fun T X => [.box B1 30 [.slice none 0 0, .slice none 0 0], .box B8 75 [strV T.1, .int .i64 T.2.1, .bool T.2.2.1], .box B9 30 [X, X16], .own X (lc T.2.2.2.2), .own X16 (lc T15.2.2.2)]) (.slice none 0 0) [2, 1, 1, 0, 0] ⟨rfl, rfl, rfl, rfl, rfl, trivial⟩ rfl (fun S31 X32 => ?_)
        refine TW.seq ?_
        refine TW.seq ?_
        refine TW.joinBX (τ := Bool) (X := Unit) (fun T _ => [(0, strV s), (2, .pointer (some ⟨B1, 0, none⟩)), (6, .pointer (some ⟨B8, 0, none⟩)), (7, .pointer (some ⟨B9, 0, none⟩)), (10, .int .i64 S31.2.2.2.1), (46, .bool T)]) (fun _ _ => [.box B1 30 [.slice none 0 0, .slice none 0 0], .box B8 75 [strV S31.1, .int .i64 S31.2.1, .bool S31.2.2.1], .box B9 30 [X32, X16], .own X32 (lc S31.2.2.2.2), .own X16 (lc T15.2.2.2)]) ?_ (fun T35 X36 => ?_)
        · refine TW.region ?_
          refine TO.y (Y.move rfl) rfl rfl rfl ?_
          refine TO.y (Y.gtr rfl rfl) rfl rfl rfl ?_
          refine TO.y (Y.move rfl) rfl rfl rfl ?_
          refine TO.ite (b := decide (S31.2.2.2.1 > (0 : Int))) (fun H37 => ?_) (fun H37 => ?_)
          · refine TO.y (Y.field_box kf75_2 rfl rfl) (Gd.at 2 true 42 (decide (S31.2.2.2.1 > (0 : Int))) rfl rfl rfl (beq_tt H37)) rfl rfl ?_
            refine TO.y (Y.load_box (v := .bool S31.2.2.1) 1 kk4 rfl rfl rfl) (Gd.at 2 true 42 (decide (S31.2.2.2.1 > (0 : Int))) rfl rfl rfl (beq_tt H37)) rfl rfl ?_
            refine TO.y (Y.not rfl) (Gd.at 2 true 42 (decide (S31.2.2.2.1 > (0 : Int))) rfl rfl rfl (beq_tt H37)) rfl rfl ?_
            refine TO.y (Y.pick_t H37 rfl rfl) rfl rfl rfl ?_
            refine TO.nil ?_
            exact TE.jb_go () [0, 0, 0, 0, 0] ⟨rfl, rfl, rfl, rfl, rfl, rfl, trivial⟩ rfl
          · refine TO.off (Gd.at 2 true 42 (decide (S31.2.2.2.1 > (0 : Int))) rfl rfl rfl (beq_ft H37)) rfl rfl ?_
            refine TO.off (Gd.at 2 true 42 (decide (S31.2.2.2.1 > (0 : Int))) rfl rfl rfl (beq_ft H37)) rfl rfl ?_
            refine TO.off (Gd.at 2 true 42 (decide (S31.2.2.2.1 > (0 : Int))) rfl rfl rfl (beq_ft H37)) rfl rfl ?_
            refine TO.y (Y.pick_f H37 rfl rfl) rfl rfl rfl ?_
            refine TO.nil ?_
            exact TE.jb_go () [0, 0, 0, 0, 0] ⟨rfl, rfl, rfl, rfl, rfl, rfl, trivial⟩ rfl
        · refine TE.next ?_
          refine TW.cond rfl (fun H38 => ?_) (fun H38 => ?_)
          · refine TW.skip ?_
            refine TE.next ?_
            refine TW.seq ?_
            refine TW.block ?_
            refine TW.seq ?_
            refine TW.region ?_
            refine TO.bind fun R39 H40 => ?_
            refine TO.ef (Ef.call (rest := [.box B1 30 [.slice none 0 0, .slice none 0 0], .box B9 30 [X32, X16], .own X32 (lc S31.2.2.2.2), .own X16 (lc T15.2.2.2)]) [1, 0, 0, 0, 0] (impl_reader_number_con ({ text := S31.1, at_ := S31.2.1, bad := S31.2.2.1 : Reader }) B8 R39 H40) kc43 rfl rfl trivial) rfl rfl rfl (fun _ => ?_)
            refine TO.y (Y.build (cells := [.int .i64 R39.1, .int .i64 (0 : Int), strV ([]), strV ([])]) [(0, [.int .i64 R39.1])] kp52 kz52 ⟨rfl, ⟨_, rfl, (Cel.plain rfl rfl)⟩, trivial⟩ rfl) rfl rfl rfl ?_
            refine TO.ef (Ef.alloc kz52 rfl) rfl rfl rfl (fun B42 => ?_)
            refine TO.ef0 (Ef.store_box (us := [.int .i64 R39.1, .int .i64 (0 : Int), strV ([]), strV ([])]) (vs' := [.int .i64 R39.1, .int .i64 (0 : Int), strV ([]), strV ([])]) (is' := [.box B42 52 [.int .i64 R39.1, .int .i64 (0 : Int), strV ([]), strV ([])], .box B8 75 [strV R39.2.text, .int .i64 R39.2.at_, .bool R39.2.bad], .box B1 30 [.slice none 0 0, .slice none 0 0], .box B9 30 [X32, X16], .own X32 (lc S31.2.2.2.2), .own X16 (lc T15.2.2.2)]) 0 kk52 rfl rfl rfl (Cel.plain rfl rfl) rfl rfl rfl rfl) rfl rfl (fun _ => ?_)
            refine TO.nil ?_
            refine TE.next ?_
            refine TW.seq ?_
            refine TW.region ?_
            refine TO.bind fun R43 H44 => ?_
            refine TO.ef (Ef.call (rest := [.box B42 52 [.int .i64 R39.1, .int .i64 (0 : Int), strV ([]), strV ([])], .box B1 30 [.slice none 0 0, .slice none 0 0], .box B9 30 [X32, X16], .own X32 (lc S31.2.2.2.2), .own X16 (lc T15.2.2.2)]) [1, 0, 0, 0, 0, 0] (impl_reader_number_con R39.2 B8 R43 H44) kc43 rfl rfl trivial) rfl rfl rfl (fun _ => ?_)
            refine TO.y (Y.field_box kf52_1 rfl rfl) rfl rfl rfl ?_
            refine TO.ef0 (Ef.store_box (us := [.int .i64 R43.1]) (vs' := [.int .i64 R39.1, .int .i64 R43.1, strV ([]), strV ([])]) (is' := [.box B8 75 [strV R43.2.text, .int .i64 R43.2.at_, .bool R43.2.bad], .box B42 52 [.int .i64 R39.1, .int .i64 R43.1, strV ([]), strV ([])], .box B1 30 [.slice none 0 0, .slice none 0 0], .box B9 30 [X32, X16], .own X32 (lc S31.2.2.2.2), .own X16 (lc T15.2.2.2)]) 1 kk3 rfl rfl rfl (Cel.plain rfl rfl) rfl rfl rfl rfl) rfl rfl (fun _ => ?_)
            refine TO.nil ?_
            refine TE.next ?_
            refine TW.seq ?_
            refine TW.region ?_
            refine TO.bind fun R46 H47 => ?_
            refine TO.ef (Ef.call (rest := [.box B42 52 [.int .i64 R39.1, .int .i64 R43.1, strV ([]), strV ([])], .box B1 30 [.slice none 0 0, .slice none 0 0], .box B9 30 [X32, X16], .own X32 (lc S31.2.2.2.2), .own X16 (lc T15.2.2.2)]) [0, 0, 0, 0, 0, 0] (impl_reader_short_con R43.2 B8 R46 H47) kc44 rfl rfl trivial) rfl rfl rfl (fun _ => ?_)
            refine TO.y (Y.field_box kf52_2 rfl rfl) rfl rfl rfl ?_
            refine TO.ef0 (Ef.store_box (us := [strV R46.1]) (vs' := [.int .i64 R39.1, .int .i64 R43.1, strV R46.1, strV ([])]) (is' := [.box B8 75 [strV R46.2.text, .int .i64 R46.2.at_, .bool R46.2.bad], .box B42 52 [.int .i64 R39.1, .int .i64 R43.1, strV R46.1, strV ([])], .box B1 30 [.slice none 0 0, .slice none 0 0], .box B9 30 [X32, X16], .own X32 (lc S31.2.2.2.2), .own X16 (lc T15.2.2.2)]) 1 kk9 rfl rfl rfl (Cel.plain rfl rfl) rfl rfl rfl rfl) rfl rfl (fun _ => ?_)
            refine TO.nil ?_
            refine TE.next ?_
            refine TW.seq ?_
            refine TW.region ?_
            refine TO.bind fun R49 H50 => ?_
            refine TO.ef (Ef.call (rest := [.box B42 52 [.int .i64 R39.1, .int .i64 R43.1, strV R46.1, strV ([])], .box B1 30 [.slice none 0 0, .slice none 0 0], .box B9 30 [X32, X16], .own X32 (lc S31.2.2.2.2), .own X16 (lc T15.2.2.2)]) [0, 0, 0, 0, 0, 0] (impl_reader_short_con R46.2 B8 R49 H50) kc44 rfl rfl trivial) rfl rfl rfl (fun _ => ?_)
            refine TO.y (Y.field_box kf52_3 rfl rfl) rfl rfl rfl ?_
            refine TO.ef0 (Ef.store_box (us := [strV R49.1]) (vs' := [.int .i64 R39.1, .int .i64 R43.1, strV R46.1, strV R49.1]) (is' := [.box B8 75 [strV R49.2.text, .int .i64 R49.2.at_, .bool R49.2.bad], .box B42 52 [.int .i64 R39.1, .int .i64 R43.1, strV R46.1, strV R49.1], .box B1 30 [.slice none 0 0, .slice none 0 0], .box B9 30 [X32, X16], .own X32 (lc S31.2.2.2.2), .own X16 (lc T15.2.2.2)]) 1 kk9 rfl rfl rfl (Cel.plain rfl rfl) rfl rfl rfl rfl) rfl rfl (fun _ => ?_)
            refine TO.nil ?_
            refine TE.next ?_
            refine TW.region ?_
            refine TO.y (Y.field_box kf30_0 rfl rfl) rfl rfl rfl ?_
            refine TO.y (Y.load_box (v := X32) 3 kk28 rfl rfl rfl) rfl rfl rfl ?_
            refine TO.y (Y.load_box (v := .agg #[.int .i64 R39.1, .int .i64 R43.1, strV R46.1, strV R49.1]) 1 kk52 rfl rfl rfl) rfl rfl rfl ?_
            refine TO.ef (Ef.buildSlice (α := File) (Vs := [.agg #[.int .i64 R39.1, .int .i64 R43.1, strV R46.1, strV R49.1]]) [{ No := R39.1, Level := R43.1, Lo := R46.1, Hi := R49.1 : File }] ke28 kz52 rfl rfl rfl rfl rfl) rfl rfl rfl (fun B52 => ?_)
            refine TO.bind fun E54 H55 => ?_
            refine TO.ef (Ef.append (α := File) (is' := [.own (.slice (some ⟨B52, 0, none⟩) 1 1) (lc ([{ No := R39.1, Level := R43.1, Lo := R46.1, Hi := R49.1 : File }])), .box B8 75 [strV R49.2.text, .int .i64 R49.2.at_, .bool R49.2.bad], .box B42 52 [.int .i64 R39.1, .int .i64 R43.1, strV R46.1, strV R49.1], .box B1 30 [.slice none 0 0, .slice none 0 0], .box B9 30 [X32, X16], .own X16 (lc T15.2.2.2)]) [5, 0, 0, 0, 0, 0, 0] H55 ke28 kz52 rfl rfl rfl rfl rfl (Can.own 0 rfl)) rfl rfl rfl (fun V53 => ?_)
            refine TO.y (Y.field_box kf30_0 rfl rfl) rfl rfl rfl ?_
            refine TO.ef0 (Ef.store_box (us := [V53]) (vs' := [V53, X16]) (is' := [.own V53 (lc E54), .own (.slice (some ⟨B52, 0, none⟩) 1 1) (lc ([{ No := R39.1, Level := R43.1, Lo := R46.1, Hi := R49.1 : File }])), .box B8 75 [strV R49.2.text, .int .i64 R49.2.at_, .bool R49.2.bad], .box B42 52 [.int .i64 R39.1, .int .i64 R43.1, strV R46.1, strV R49.1], .box B1 30 [.slice none 0 0, .slice none 0 0], .box B9 30 [V53, X16], .own X16 (lc T15.2.2.2)]) 5 kk28 rfl rfl rfl (Cel.one (One.can (Can.own 0 rfl))) rfl rfl rfl rfl) rfl rfl (fun _ => ?_)
            refine TO.nil ?_
            refine TE.block_normal ?_
            refine TE.next ?_
            refine TW.region ?_
            refine TO.y (Y.move rfl) rfl rfl rfl ?_
            refine TO.y (Y.sub rfl rfl) rfl rfl rfl ?_
            refine TO.y (Y.assign rfl) rfl rfl rfl ?_
            refine TO.nil ?_
            exact TE.lp_go V53 [4, 2, 3, 0, 2] ⟨rfl, rfl, rfl, rfl, rfl, trivial⟩ rfl
          · refine TW.exit ?_
            refine TE.then_exit ?_
            refine TE.lp_exit ?_
            refine TE.block_exit ?_
            exact TE.jn_go X32 [0, 0, 0, 0, 0] ⟨rfl, rfl, rfl, rfl, trivial⟩ rfl
      · refine TE.next ?_
        refine TW.seq ?_
        refine TW.seq ?_
        refine TW.joinBX (τ := Bool) (X := Unit) (fun T _ => [(2, .pointer (some ⟨B1, 0, none⟩)), (7, .pointer (some ⟨B9, 0, none⟩)), (70, .bool T)]) (fun _ _ => [.box B1 30 [.slice none 0 0, .slice none 0 0], .box B9 30 [X34, X16], .own X34 (lc T33.2.2.2), .own X16 (lc T15.2.2.2)]) ?_ (fun T56 X57 => ?_)
        · refine TW.region ?_
          refine TO.bind fun R58 H59 => ?_
          refine TO.ef (Ef.call (rest := [.box B1 30 [.slice none 0 0, .slice none 0 0], .box B9 30 [X34, X16], .own X34 (lc T33.2.2.2), .own X16 (lc T15.2.2.2)]) [1, 0, 0, 0, 0] (impl_reader_done_con ({ text := T33.1, at_ := T33.2.1, bad := T33.2.2.1 : Reader }) B8 R58 H59) kc45 rfl rfl trivial) rfl rfl rfl (fun _ => ?_)
          refine TO.y (Y.not rfl) rfl rfl rfl ?_
          refine TO.y (Y.move rfl) rfl rfl rfl ?_
          refine TO.ite (b := !R58) (fun H61 => ?_) (fun H61 => ?_)
          · refine TO.off (Gd.at 2 false 65 (!R58) rfl rfl rfl (beq_tf H61)) rfl rfl ?_
            refine TO.off (Gd.at 2 false 65 (!R58) rfl rfl rfl (beq_tf H61)) rfl rfl ?_
            refine TO.off (Gd.at 2 false 65 (!R58) rfl rfl rfl (beq_tf H61)) rfl rfl ?_
            refine TO.off (Gd.at 2 false 65 (!R58) rfl rfl rfl (beq_tf H61)) rfl rfl ?_
            refine TO.y (Y.pick_t H61 rfl rfl) rfl rfl rfl ?_
            refine TO.nil ?_
            exact TE.jb_go () [1, 1, 1, 1] ⟨rfl, rfl, rfl, trivial⟩ rfl
          · refine TO.y (Y.load_box (v := .agg #[X34, X16]) 2 kk30 rfl rfl rfl) (Gd.at 2 false 65 (!R58) rfl rfl rfl (beq_ff H61)) rfl rfl ?_
            refine TO.bind fun R62 H63 => ?_
            refine TO.ef (Ef.call (rest := [.box B8 75 [strV T33.1, .int .i64 T33.2.1, .bool T33.2.2.1], .box B1 30 [.slice none 0 0, .slice none 0 0], .box B9 30 [X34, X16], .own X34 (lc T33.2.2.2), .own X16 (lc T15.2.2.2)]) [0, 0, 0, 0, 0] (impl_ShowEdit_con ({ Add := T33.2.2.2, Drop := T15.2.2.2 : Edit }) X34 X16 R62 H63) kc9 rfl rfl ⟨(Can.own 3 rfl), (Can.own 4 rfl), trivial⟩) (Gd.at 2 false 65 (!R58) rfl rfl rfl (beq_ff H61)) rfl rfl (fun _ => ?_)
            refine TO.y (Y.move rfl) (Gd.at 2 false 65 (!R58) rfl rfl rfl (beq_ff H61)) rfl rfl ?_
            refine TO.y (Y.sneq rfl rfl) (Gd.at 2 false 65 (!R58) rfl rfl rfl (beq_ff H61)) rfl rfl ?_
            refine TO.y (Y.pick_f H61 rfl rfl) rfl rfl rfl ?_
            refine TO.nil ?_
            exact TE.jb_go () [1, 1, 1, 1] ⟨rfl, rfl, rfl, trivial⟩ rfl
        · refine TE.next ?_
          refine TW.cond rfl (fun H65 => ?_) (fun H65 => ?_)
          · refine TW.seq ?_
            refine TW.region ?_
            refine TO.y (Y.build (cells := [.slice none 0 0, .slice none 0 0]) [] kp30 kz30 trivial rfl) rfl rfl rfl ?_
            refine TO.ef0 (Ef.store_box (us := [.slice none 0 0, .slice none 0 0]) (vs' := [.slice none 0 0, .slice none 0 0]) (is' := [.box B1 30 [.slice none 0 0, .slice none 0 0], .box B9 30 [X34, X16], .own X34 (lc T33.2.2.2), .own X16 (lc T15.2.2.2)]) 0 kk30 rfl rfl rfl (Cel.plain rfl rfl) rfl rfl rfl rfl) rfl rfl (fun _ => ?_)
            refine TO.y (Y.assign rfl) rfl rfl rfl ?_
            refine TO.nil ?_
            refine TE.next ?_
            refine TW.ret ?_
            refine TE.then_ret ?_
            exact TE.leaf fun _ _ hf_ hs_ => ret_any (rs := [.cell 2 30, .tmp 3]) (vs := [.agg #[.slice none 0 0, .slice none 0 0], .bool false]) (.inl rfl) rfl (RV.cell 0 rfl rfl kk30 rfl ⟨rfl, trivial⟩) hf_ hs_ ⟨((.slice none 0 0), (.slice none 0 0)), rfl, ((hs_.nilItem 4).nilItem 1).pulls [1, 0] rfl⟩
          · refine TW.skip ?_
            refine TE.next ?_
            refine TW.seq ?_
            refine TW.region ?_
            refine TO.y (Y.load_box (v := .agg #[X34, X16]) 1 kk30 rfl rfl rfl) rfl rfl rfl ?_
            refine TO.ef0 (Ef.store_box (us := [X34, X16]) (vs' := [X34, X16]) (is' := [.box B1 30 [X34, X16], .box B9 30 [X34, X16], .own X34 (lc T33.2.2.2), .own X16 (lc T15.2.2.2)]) 0 kk30 rfl rfl rfl (Cel.agg ⟨(One.can (Can.own 2 rfl)), (One.can (Can.own 3 rfl)), trivial⟩) rfl rfl rfl rfl) rfl rfl (fun _ => ?_)
            refine TO.y (Y.assign rfl) rfl rfl rfl ?_
            refine TO.nil ?_
            refine TE.next ?_
            refine TW.ret ?_
            exact TE.leaf fun _ _ hf_ hs_ => ret_any (rs := [.cell 2 30, .tmp 3]) (vs := [.agg #[X34, X16], .bool true]) (.inl rfl) rfl (RV.cell 0 rfl rfl kk30 rfl ⟨rfl, trivial⟩) hf_ hs_ ⟨(X34, X16), rfl, hs_.pulls [2, 2] rfl⟩

/-- loop.example/g00950/impl.isKey -/
noncomputable def impl_isKey (s : List UInt8) : Option Bool :=
  (impl_inRange ((s.length : Nat) : Int) (1 : Int) (10 : Int)).bind fun R1 =>
  some R1

theorem impl_isKey_con (s : List UInt8)  (r : Bool) (hm : impl_isKey s = some r) :
    Con Try.prog 78 [strV s] [] [] (fun _ : Unit => .bool r) (fun _ => []) := by
  refine Con.intro (args := [strV s]) (n := 6) (val := fun r (_ : Unit) => .bool r) (post := fun _ _ => []) (m := impl_isKey s) Try.func78 rfl rfl rfl hm ?_
  intro w S _
  unfold impl_isKey
  refine TW.seq ?_
  refine TW.region ?_
  refine TO.y (Y.assign rfl) rfl rfl rfl ?_
  refine TO.nil ?_
  refine TE.next ?_
  refine TW.seq ?_
  refine TW.region ?_
  refine TO.y (Y.move rfl) rfl rfl rfl ?_
  refine TO.y (Y.slen ks9 rfl) rfl rfl rfl ?_
  refine TO.bind fun R1 H2 => ?_
  refine TO.ef (Ef.call (rest := []) [] (impl_inRange_con ((s.length : Nat) : Int) (1 : Int) (10 : Int)  R1 H2) kc57 rfl rfl trivial) rfl rfl rfl (fun _ => ?_)
  refine TO.y (Y.assign rfl) rfl rfl rfl ?_
  refine TO.nil ?_
  refine TE.next ?_
  refine TW.ret ?_
  exact TE.leaf fun _ _ hf_ hs_ => ret_any (rs := [.tmp 2]) (vs := [.bool R1]) (.inl rfl) rfl ⟨rfl, trivial⟩ hf_ hs_ ⟨(), rfl, hs_.pulls [] rfl⟩

/-- loop.example/g00950/impl.fileOk -/
noncomputable def impl_fileOk (f : File) : Option Bool :=
  ((impl_inRange f.No (1 : Int) (1000000 : Int)).bind fun R4 =>
  if R4 = true then ((impl_inRange f.Level (0 : Int) (2 : Int)).bind fun R8 =>
  if R8 = true then ((impl_isKey f.Lo).bind fun R12 =>
  if R12 = true then ((impl_isKey f.Hi).bind fun R16 =>
  if R16 = true then (some (sLt f.Lo f.Hi || decide (f.Lo = f.Hi)))
  else (some false))
  else (some false))
  else (some false))
  else (some false)).bind (fun (T2 : Bool) =>
  some T2)

theorem impl_fileOk_con (f : File)  (r : Bool) (hm : impl_fileOk f = some r) :
    Con Try.prog 73 [.agg #[.int .i64 f.No, .int .i64 f.Level, strV f.Lo, strV f.Hi]] [] [] (fun _ : Unit => .bool r) (fun _ => []) := by
  refine Con.intro (args := [.agg #[.int .i64 f.No, .int .i64 f.Level, strV f.Lo, strV f.Hi]]) (n := 28) (val := fun r (_ : Unit) => .bool r) (post := fun _ _ => []) (m := impl_fileOk f) Try.func73 rfl rfl rfl hm ?_
  intro w S _
  unfold impl_fileOk
  refine TW.seq ?_
  refine TW.region ?_
  refine TO.ef (Ef.box rfl (Cel.plain rfl rfl)) rfl rfl rfl (fun B1 => ?_)
  refine TO.y (Y.assign rfl) rfl rfl rfl ?_
  refine TO.nil ?_
  refine TE.next ?_
  refine TW.seq ?_
  refine TW.joinBX (τ := Bool) (X := Unit) (fun T _ => [(2, .bool T)]) (fun _ _ => []) ?_ (fun T2 X3 => ?_)
  · refine TW.region ?_
    refine TO.y (Y.field_box kf52_0 rfl rfl) rfl rfl rfl ?_
    refine TO.y (Y.load_box (v := .int .i64 f.No) 0 kk3 rfl rfl rfl) rfl rfl rfl ?_
    refine TO.bind fun R4 H5 => ?_
    refine TO.ef (Ef.call (rest := [.box B1 52 [.int .i64 f.No, .int .i64 f.Level, strV f.Lo, strV f.Hi]]) [0] (impl_inRange_con f.No (1 : Int) (1000000 : Int)  R4 H5) kc57 rfl rfl trivial) rfl rfl rfl (fun _ => ?_)
    refine TO.y (Y.move rfl) rfl rfl rfl ?_
    refine TO.ite (b := R4) (fun H7 => ?_) (fun H7 => ?_)
    · refine TO.y (Y.field_box kf52_1 rfl rfl) (Gd.at 3 true 6 R4 rfl rfl rfl (beq_tt H7)) rfl rfl ?_
      refine TO.y (Y.load_box (v := .int .i64 f.Level) 0 kk3 rfl rfl rfl) (Gd.at 3 true 6 R4 rfl rfl rfl (beq_tt H7)) rfl rfl ?_
      refine TO.bind fun R8 H9 => ?_
      refine TO.ef (Ef.call (rest := [.box B1 52 [.int .i64 f.No, .int .i64 f.Level, strV f.Lo, strV f.Hi]]) [0] (impl_inRange_con f.Level (0 : Int) (2 : Int)  R8 H9) kc57 rfl rfl trivial) (Gd.at 3 true 6 R4 rfl rfl rfl (beq_tt H7)) rfl rfl (fun _ => ?_)
      refine TO.y (Y.pick_t H7 rfl rfl) rfl rfl rfl ?_
      refine TO.y (Y.move rfl) rfl rfl rfl ?_
      refine TO.ite (b := R8) (fun H11 => ?_) (fun H11 => ?_)
      · refine TO.y (Y.field_box kf52_2 rfl rfl) (Gd.at 8 true 11 R8 rfl rfl rfl (beq_tt H11)) rfl rfl ?_
        refine TO.y (Y.load_box (v := strV f.Lo) 0 kk9 rfl rfl rfl) (Gd.at 8 true 11 R8 rfl rfl rfl (beq_tt H11)) rfl rfl ?_
        refine TO.bind fun R12 H13 => ?_
        refine TO.ef (Ef.call (rest := [.box B1 52 [.int .i64 f.No, .int .i64 f.Level, strV f.Lo, strV f.Hi]]) [0] (impl_isKey_con f.Lo  R12 H13) kc78 rfl rfl trivial) (Gd.at 8 true 11 R8 rfl rfl rfl (beq_tt H11)) rfl rfl (fun _ => ?_)
        refine TO.y (Y.pick_t H11 rfl rfl) rfl rfl rfl ?_
        refine TO.y (Y.move rfl) rfl rfl rfl ?_
        refine TO.ite (b := R12) (fun H15 => ?_) (fun H15 => ?_)
        · refine TO.y (Y.field_box kf52_3 rfl rfl) (Gd.at 13 true 16 R12 rfl rfl rfl (beq_tt H15)) rfl rfl ?_
          refine TO.y (Y.load_box (v := strV f.Hi) 0 kk9 rfl rfl rfl) (Gd.at 13 true 16 R12 rfl rfl rfl (beq_tt H15)) rfl rfl ?_
          refine TO.bind fun R16 H17 => ?_
          refine TO.ef (Ef.call (rest := [.box B1 52 [.int .i64 f.No, .int .i64 f.Level, strV f.Lo, strV f.Hi]]) [0] (impl_isKey_con f.Hi  R16 H17) kc78 rfl rfl trivial) (Gd.at 13 true 16 R12 rfl rfl rfl (beq_tt H15)) rfl rfl (fun _ => ?_)
          refine TO.y (Y.pick_t H15 rfl rfl) rfl rfl rfl ?_
          refine TO.y (Y.move rfl) rfl rfl rfl ?_
          refine TO.ite (b := R16) (fun H19 => ?_) (fun H19 => ?_)
          · refine TO.y (Y.field_box kf52_2 rfl rfl) (Gd.at 18 true 21 R16 rfl rfl rfl (beq_tt H19)) rfl rfl ?_
            refine TO.y (Y.load_box (v := strV f.Lo) 0 kk9 rfl rfl rfl) (Gd.at 18 true 21 R16 rfl rfl rfl (beq_tt H19)) rfl rfl ?_
            refine TO.y (Y.field_box kf52_3 rfl rfl) (Gd.at 18 true 21 R16 rfl rfl rfl (beq_tt H19)) rfl rfl ?_
            refine TO.y (Y.load_box (v := strV f.Hi) 0 kk9 rfl rfl rfl) (Gd.at 18 true 21 R16 rfl rfl rfl (beq_tt H19)) rfl rfl ?_
            refine TO.y (Y.sleq rfl rfl) (Gd.at 18 true 21 R16 rfl rfl rfl (beq_tt H19)) rfl rfl ?_
            refine TO.y (Y.pick_t H19 rfl rfl) rfl rfl rfl ?_
            refine TO.y (Y.assign rfl) rfl rfl rfl ?_
            refine TO.nil ?_
            exact TE.jb_go () [] ⟨rfl, trivial⟩ rfl
          · refine TO.off (Gd.at 18 true 21 R16 rfl rfl rfl (beq_ft H19)) rfl rfl ?_
            refine TO.off (Gd.at 18 true 21 R16 rfl rfl rfl (beq_ft H19)) rfl rfl ?_
            refine TO.off (Gd.at 18 true 21 R16 rfl rfl rfl (beq_ft H19)) rfl rfl ?_
            refine TO.off (Gd.at 18 true 21 R16 rfl rfl rfl (beq_ft H19)) rfl rfl ?_
            refine TO.off (Gd.at 18 true 21 R16 rfl rfl rfl (beq_ft H19)) rfl rfl ?_
            refine TO.y (Y.pick_f H19 rfl rfl) rfl rfl rfl ?_
            refine TO.y (Y.assign rfl) rfl rfl rfl ?_
            refine TO.nil ?_
            exact TE.jb_go () [] ⟨rfl, trivial⟩ rfl
        · refine TO.off (Gd.at 13 true 16 R12 rfl rfl rfl (beq_ft H15)) rfl rfl ?_
          refine TO.off (Gd.at 13 true 16 R12 rfl rfl rfl (beq_ft H15)) rfl rfl ?_
          refine TO.off (Gd.at 13 true 16 R12 rfl rfl rfl (beq_ft H15)) rfl rfl ?_
          refine TO.y (Y.pick_f H15 rfl rfl) rfl rfl rfl ?_
          refine TO.y (Y.move rfl) rfl rfl rfl ?_
          refine TO.off (Gd.at 18 true 21 false rfl rfl rfl rfl) rfl rfl ?_
          refine TO.off (Gd.at 18 true 21 false rfl rfl rfl rfl) rfl rfl ?_
          refine TO.off (Gd.at 18 true 21 false rfl rfl rfl rfl) rfl rfl ?_
          refine TO.off (Gd.at 18 true 21 false rfl rfl rfl rfl) rfl rfl ?_
          refine TO.off (Gd.at 18 true 21 false rfl rfl rfl rfl) rfl rfl ?_
          refine TO.y (Y.pick_f rfl rfl rfl) rfl rfl rfl ?_
          refine TO.y (Y.assign rfl) rfl rfl rfl ?_
          refine TO.nil ?_
          exact TE.jb_go () [] ⟨rfl, trivial⟩ rfl
      · refine TO.off (Gd.at 8 true 11 R8 rfl rfl rfl (beq_ft H11)) rfl rfl ?_
        refine TO.off (Gd.at 8 true 11 R8 rfl rfl rfl (beq_ft H11)) rfl rfl ?_
        refine TO.off (Gd.at 8 true 11 R8 rfl rfl rfl (beq_ft H11)) rfl rfl ?_
        refine TO.y (Y.pick_f H11 rfl rfl) rfl rfl rfl ?_
        refine TO.y (Y.move rfl) rfl rfl rfl ?_
        refine TO.off (Gd.at 13 true 16 false rfl rfl rfl rfl) rfl rfl ?_
        refine TO.off (Gd.at 13 true 16 false rfl rfl rfl rfl) rfl rfl ?_
        refine TO.off (Gd.at 13 true 16 false rfl rfl rfl rfl) rfl rfl ?_
        refine TO.y (Y.pick_f rfl rfl rfl) rfl rfl rfl ?_
        refine TO.y (Y.move rfl) rfl rfl rfl ?_
        refine TO.off (Gd.at 18 true 21 false rfl rfl rfl rfl) rfl rfl ?_
        refine TO.off (Gd.at 18 true 21 false rfl rfl rfl rfl) rfl rfl ?_
        refine TO.off (Gd.at 18 true 21 false rfl rfl rfl rfl) rfl rfl ?_
        refine TO.off (Gd.at 18 true 21 false rfl rfl rfl rfl) rfl rfl ?_
        refine TO.off (Gd.at 18 true 21 false rfl rfl rfl rfl) rfl rfl ?_
        refine TO.y (Y.pick_f rfl rfl rfl) rfl rfl rfl ?_
        refine TO.y (Y.assign rfl) rfl rfl rfl ?_
        refine TO.nil ?_
        exact TE.jb_go () [] ⟨rfl, trivial⟩ rfl
    · refine TO.off (Gd.at 3 true 6 R4 rfl rfl rfl (beq_ft H7)) rfl rfl ?_
      refine TO.off (Gd.at 3 true 6 R4 rfl rfl rfl (beq_ft H7)) rfl rfl ?_
      refine TO.off (Gd.at 3 true 6 R4 rfl rfl rfl (beq_ft H7)) rfl rfl ?_
      refine TO.y (Y.pick_f H7 rfl rfl) rfl rfl rfl ?_
      refine TO.y (Y.move rfl) rfl rfl rfl ?_
      refine TO.off (Gd.at 8 true 11 false rfl rfl rfl rfl) rfl rfl ?_
      refine TO.off (Gd.at 8 true 11 false rfl rfl rfl rfl) rfl rfl ?_
      refine TO.off (Gd.at 8 true 11 false rfl rfl rfl rfl) rfl rfl ?_
      refine TO.y (Y.pick_f rfl rfl rfl) rfl rfl rfl ?_
      refine TO.y (Y.move rfl) rfl rfl rfl ?_
      refine TO.off (Gd.at 13 true 16 false rfl rfl rfl rfl) rfl rfl ?_
      refine TO.off (Gd.at 13 true 16 false rfl rfl rfl rfl) rfl rfl ?_
      refine TO.off (Gd.at 13 true 16 false rfl rfl rfl rfl) rfl rfl ?_
      refine TO.y (Y.pick_f rfl rfl rfl) rfl rfl rfl ?_
      refine TO.y (Y.move rfl) rfl rfl rfl ?_
      refine TO.off (Gd.at 18 true 21 false rfl rfl rfl rfl) rfl rfl ?_
      refine TO.off (Gd.at 18 true 21 false rfl rfl rfl rfl) rfl rfl ?_
      refine TO.off (Gd.at 18 true 21 false rfl rfl rfl rfl) rfl rfl ?_
      refine TO.off (Gd.at 18 true 21 false rfl rfl rfl rfl) rfl rfl ?_
      refine TO.off (Gd.at 18 true 21 false rfl rfl rfl rfl) rfl rfl ?_
      refine TO.y (Y.pick_f rfl rfl rfl) rfl rfl rfl ?_
      refine TO.y (Y.assign rfl) rfl rfl rfl ?_
      refine TO.nil ?_
      exact TE.jb_go () [] ⟨rfl, trivial⟩ rfl
  · refine TE.next ?_
    refine TW.ret ?_
    exact TE.leaf fun _ _ hf_ hs_ => ret_any (rs := [.tmp 2]) (vs := [.bool T2]) (.inl rfl) rfl ⟨rfl, trivial⟩ hf_ hs_ ⟨(), rfl, hs_.pulls [] rfl⟩

/-- loop.example/g00950/impl.fileAt$1 -/
noncomputable def impl_fileAt_1 (f : File) (c0_ : Int) : Option Bool :=
  some (decide (f.No = c0_))

theorem impl_fileAt_1_con (f : File) (c0_ : Int) (B_c0_ : Nat) (r : Bool) (hm : impl_fileAt_1 f c0_ = some r) :
    Con Try.prog 80 [.agg #[.int .i64 f.No, .int .i64 f.Level, strV f.Lo, strV f.Hi], .pointer (some ⟨B_c0_, 0, none⟩)] [.box B_c0_ 3 [.int .i64 c0_]] [] (fun _ : Unit => .bool r) (fun _ => [.box B_c0_ 3 [.int .i64 c0_]]) := by
  refine Con.intro (args := [.agg #[.int .i64 f.No, .int .i64 f.Level, strV f.Lo, strV f.Hi], .pointer (some ⟨B_c0_, 0, none⟩)]) (n := 8) (val := fun r (_ : Unit) => .bool r) (post := fun _ _ => [.box B_c0_ 3 [.int .i64 c0_]]) (m := impl_fileAt_1 f c0_) Try.func80 rfl rfl rfl hm ?_
  intro w S _
  unfold impl_fileAt_1
  refine TW.seq ?_
  refine TW.region ?_
  refine TO.ef (Ef.box rfl (Cel.plain rfl rfl)) rfl rfl rfl (fun B1 => ?_)
  refine TO.y (Y.assign rfl) rfl rfl rfl ?_
  refine TO.nil ?_
  refine TE.next ?_
  refine TW.seq ?_
  refine TW.region ?_
  refine TO.y (Y.field_box kf52_0 rfl rfl) rfl rfl rfl ?_
  refine TO.y (Y.load_box (v := .int .i64 f.No) 0 kk3 rfl rfl rfl) rfl rfl rfl ?_
  refine TO.y (Y.load_box (v := .int .i64 c0_) 1 kk3 rfl rfl rfl) rfl rfl rfl ?_
  refine TO.y (Y.eql rfl rfl) rfl rfl rfl ?_
  refine TO.y (Y.assign rfl) rfl rfl rfl ?_
  refine TO.nil ?_
  refine TE.next ?_
  refine TW.ret ?_
  exact TE.leaf fun _ _ hf_ hs_ => ret_any (rs := [.tmp 3]) (vs := [.bool (decide (f.No = c0_))]) (.inl rfl) rfl ⟨rfl, trivial⟩ hf_ hs_ ⟨(), rfl, hs_.pulls [1] rfl⟩

/-- slices.IndexFunc[[]loop.example/g00950/impl.File,loop.example/g00950/impl.File] -/
noncomputable def slices_IndexFunc_68810_at_impl_fileAt_1 (s : List File) (f_c0 : Int) : Option Int :=
  bindC (loopO (fun (S1 : Int) => if (decide (S1 < ((s.length : Nat) : Int))) = true then ((idx s S1).bind fun E6 =>
  (impl_fileAt_1 E6 f_c0).bind fun R8 =>
  if R8 = true then (some (.done (.done S1)))
  else (some (.go (IntKind.i64.wrap (S1 + (1 : Int))))))
  else (some (.done (.go ()))))
  (0 : Int))
  (fun (T3 : Unit) => some (-1 : Int))

theorem slices_IndexFunc_68810_at_impl_fileAt_1_con (s : List File) (f_c0 : Int) (V_s0 : Value) (B_f_c0 : Nat) (r : Int) (hm : slices_IndexFunc_68810_at_impl_fileAt_1 s f_c0 = some r) :
    Con Try.prog 79 [V_s0, .func (.func 80) #[] #[.pointer (some ⟨B_f_c0, 0, none⟩)]] [.box B_f_c0 3 [.int .i64 f_c0]] [(V_s0, lc s)] (fun _ : Unit => .int .i64 r) (fun _ => [.box B_f_c0 3 [.int .i64 f_c0]]) := by
  refine Con.intro (args := [V_s0, .func (.func 80) #[] #[.pointer (some ⟨B_f_c0, 0, none⟩)]]) (n := 19) (val := fun r (_ : Unit) => .int .i64 r) (post := fun _ _ => [.box B_f_c0 3 [.int .i64 f_c0]]) (m := slices_IndexFunc_68810_at_impl_fileAt_1 s f_c0) Try.func79 rfl rfl rfl hm ?_
  intro w S hrd
  have HB_V_s0 := hrd _ (.head _)
  clear hrd
  unfold slices_IndexFunc_68810_at_impl_fileAt_1
  refine TW.seq ?_
  refine TW.region ?_
  refine TO.y (Y.assign rfl) rfl rfl rfl ?_
  refine TO.nil ?_
  refine TE.next ?_
  refine TW.seq ?_
  refine TW.seq ?_
  refine TW.region ?_
  refine TO.y (Y.move rfl) rfl rfl rfl ?_
  refine TO.y (Y.len (l := s) ke28 (Base.can HB_V_s0) rfl) rfl rfl rfl ?_
  refine TO.y (Y.move rfl) rfl rfl rfl ?_
  refine TO.nil ?_
  refine TE.next ?_
  refine TW.joinX (τ := Unit) (X := Unit) (fun _ _ => []) (fun _ _ => [.box B_f_c0 3 [.int .i64 f_c0]]) ?_ (fun T3 X4 => ?_)
  · refine TW.block ?_
    refine TW.loopX (σ := Int) (X := Unit) (fun T _ => [(0, V_s0), (1, .func (.func 80) #[] #[.pointer (some ⟨B_f_c0, 0, none⟩)]), (7, .int .i64 ((s.length : Nat) : Int)), (8, .int .i64 T)]) (fun _ _ => [.box B_f_c0 3 [.int .i64 f_c0]]) () [0] ⟨rfl, rfl, rfl, rfl, trivial⟩ rfl (fun S1 X2 => ?_)
    refine TW.seq ?_
    refine TW.region ?_
    refine TO.y (Y.lss rfl rfl) rfl rfl rfl ?_
    refine TO.nil ?_
    refine TE.next ?_
    refine TW.seq ?_
    refine TW.cond rfl (fun H5 => ?_) (fun H5 => ?_)
    · refine TW.skip ?_
      refine TE.next ?_
      refine TW.seq ?_
      refine TW.block ?_
      refine TW.seq ?_
      refine TW.region ?_
      refine TO.y (Y.move rfl) rfl rfl rfl ?_
      refine TO.y (Y.assign rfl) rfl rfl rfl ?_
      refine TO.nil ?_
      refine TE.next ?_
      refine TW.seq ?_
      refine TW.region ?_
      refine TO.y (Y.move rfl) rfl rfl rfl ?_
      refine TO.y (Y.move rfl) rfl rfl rfl ?_
      refine TO.y (Y.move rfl) rfl rfl rfl ?_
      refine TO.bind fun E6 H7 => ?_
      refine TO.y (Y.index ke28 (Base.can HB_V_s0) H7 rfl rfl) rfl rfl rfl ?_
      refine TO.y (Y.load_el (us := [.int .i64 E6.No, .int .i64 E6.Level, strV E6.Lo, strV E6.Hi]) (u := .agg #[.int .i64 E6.No, .int .i64 E6.Level, strV E6.Lo, strV E6.Hi]) kk52 rfl (Base.can HB_V_s0) (idx_get H7).2.2 rfl rfl rfl rfl rfl) rfl rfl rfl ?_
      refine TO.bind fun R8 H9 => ?_
      refine TO.ef (Ef.callv (rest := []) [0] (impl_fileAt_1_con E6 f_c0 B_f_c0 R8 H9) kc80 rfl rfl rfl rfl trivial) rfl rfl rfl (fun _ => ?_)
      refine TO.nil ?_
      refine TE.next ?_
      refine TW.cond rfl (fun H11 => ?_) (fun H11 => ?_)
      · refine TW.seq ?_
        refine TW.region ?_
        refine TO.y (Y.move rfl) rfl rfl rfl ?_
        refine TO.y (Y.assign rfl) rfl rfl rfl ?_
        refine TO.nil ?_
        refine TE.next ?_
        refine TW.ret ?_
        refine TE.block_ret ?_
        refine TE.then_ret ?_
        refine TE.lp_ret ?_
        refine TE.block_ret ?_
        refine TE.jn_done ?_
        refine TE.then_ret ?_
        exact TE.leaf fun _ _ hf_ hs_ => ret_any (rs := [.tmp 4]) (vs := [.int .i64 S1]) (.inl rfl) rfl ⟨rfl, trivial⟩ hf_ hs_ ⟨(), rfl, hs_.pulls [0] rfl⟩
      · refine TW.skip ?_
        refine TE.block_normal ?_
        refine TE.next ?_
        refine TW.region ?_
        refine TO.y (Y.add rfl rfl) rfl rfl rfl ?_
        refine TO.y (Y.move rfl) rfl rfl rfl ?_
        refine TO.nil ?_
        exact TE.lp_go () [0] ⟨rfl, rfl, rfl, rfl, trivial⟩ rfl
    · refine TW.exit ?_
      refine TE.then_exit ?_
      refine TE.lp_exit ?_
      refine TE.block_exit ?_
      exact TE.jn_go () [0] trivial rfl
  · refine TE.next ?_
    refine TW.seq ?_
    refine TW.region ?_
    refine TO.y (Y.assign rfl) rfl rfl rfl ?_
    refine TO.nil ?_
    refine TE.next ?_
    refine TW.ret ?_
    exact TE.leaf fun _ _ hf_ hs_ => ret_any (rs := [.tmp 4]) (vs := [.int .i64 (-1 : Int)]) (.inl rfl) rfl ⟨rfl, trivial⟩ hf_ hs_ ⟨(), rfl, hs_.pulls [0] rfl⟩

/-- loop.example/g00950/impl.fileAt -/
noncomputable def impl_fileAt (l : List File) (no : Int) : Option Int :=
  (slices_IndexFunc_68810_at_impl_fileAt_1 l no).bind fun R2 =>
  some R2

theorem impl_fileAt_con (l : List File) (no : Int) (V_l0 : Value) (r : Int) (hm : impl_fileAt l no = some r) :
    Con Try.prog 74 [V_l0, .int .i64 no] [] [(V_l0, lc l)] (fun _ : Unit => .int .i64 r) (fun _ => []) := by
  refine Con.intro (args := [V_l0, .int .i64 no]) (n := 8) (val := fun r (_ : Unit) => .int .i64 r) (post := fun _ _ => []) (m := impl_fileAt l no) Try.func74 rfl rfl rfl hm ?_
  intro w S hrd
  have HB_V_l0 := hrd _ (.head _)
  clear hrd
  unfold impl_fileAt
  refine TW.seq ?_
  refine TW.region ?_
  refine TO.ef (Ef.box rfl (Cel.plain rfl rfl)) rfl rfl rfl (fun B1 => ?_)
  refine TO.y (Y.assign rfl) rfl rfl rfl ?_
  refine TO.nil ?_
  refine TE.next ?_
  refine TW.seq ?_
  refine TW.region ?_
  refine TO.y (Y.move rfl) rfl rfl rfl ?_
  refine TO.y (Y.makeFunc rfl) rfl rfl rfl ?_
  refine TO.bind fun R2 H3 => ?_
  refine TO.ef (Ef.call (rest := []) [0] (slices_IndexFunc_68810_at_impl_fileAt_1_con l no V_l0 B1 R2 H3) kc79 rfl rfl ⟨(Base.can HB_V_l0), trivial⟩) rfl rfl rfl (fun _ => ?_)
  refine TO.y (Y.assign rfl) rfl rfl rfl ?_
  refine TO.nil ?_
  refine TE.next ?_
  refine TW.ret ?_
  exact TE.leaf fun _ _ hf_ hs_ => ret_any (rs := [.tmp 4]) (vs := [.int .i64 R2]) (.inl rfl) rfl ⟨rfl, trivial⟩ hf_ hs_ ⟨(), rfl, hs_.pulls [] rfl⟩

/-- cmp.isNaN[int] -/
noncomputable def cmp_isNaN_26527 (x : Int) : Option Bool :=
  some (!(decide (x = x)))

theorem cmp_isNaN_26527_con (x : Int)  (r : Bool) (hm : cmp_isNaN_26527 x = some r) :
    Con Try.prog 85 [.int .i64 x] [] [] (fun _ : Unit => .bool r) (fun _ => []) := by
  refine Con.intro (args := [.int .i64 x]) (n := 6) (val := fun r (_ : Unit) => .bool r) (post := fun _ _ => []) (m := cmp_isNaN_26527 x) Try.func85 rfl rfl rfl hm ?_
  intro w S _
  unfold cmp_isNaN_26527
  refine TW.seq ?_
  refine TW.region ?_
  refine TO.y (Y.assign rfl) rfl rfl rfl ?_
  refine TO.nil ?_
  refine TE.next ?_
  refine TW.seq ?_
  refine TW.region ?_
  refine TO.y (Y.move rfl) rfl rfl rfl ?_
  refine TO.y (Y.move rfl) rfl rfl rfl ?_
  refine TO.y (Y.neq rfl rfl) rfl rfl rfl ?_
  refine TO.y (Y.assign rfl) rfl rfl rfl ?_
  refine TO.nil ?_
  refine TE.next ?_
  refine TW.ret ?_
  exact TE.leaf fun _ _ hf_ hs_ => ret_any (rs := [.tmp 2]) (vs := [.bool (!(decide (x = x)))]) (.inl rfl) rfl ⟨rfl, trivial⟩ hf_ hs_ ⟨(), rfl, hs_.pulls [] rfl⟩

/-- cmp.Compare[int] -/
noncomputable def cmp_Compare_26527 (x : Int) (y : Int) : Option Int :=
  (cmp_isNaN_26527 x).bind fun R1 =>
  (cmp_isNaN_26527 y).bind fun R4 =>
  if R1 = true then (if R4 = true then (some (0 : Int))
  else (some (-1 : Int)))
  else (if R4 = true then (some (1 : Int))
  else (if (decide (x < y)) = true then (some (-1 : Int))
  else (if (decide (x > y)) = true then (some (1 : Int))
  else (some (0 : Int)))))

theorem cmp_Compare_26527_con (x : Int) (y : Int)  (r : Int) (hm : cmp_Compare_26527 x y = some r) :
    Con Try.prog 81 [.int .i64 x, .int .i64 y] [] [] (fun _ : Unit => .int .i64 r) (fun _ => []) := by
  refine Con.intro (args := [.int .i64 x, .int .i64 y]) (n := 20) (val := fun r (_ : Unit) => .int .i64 r) (post := fun _ _ => []) (m := cmp_Compare_26527 x y) Try.func81 rfl rfl rfl hm ?_
  intro w S _
  unfold cmp_Compare_26527
  refine TW.seq ?_
  refine TW.region ?_
  refine TO.y (Y.assign rfl) rfl rfl rfl ?_
  refine TO.nil ?_
  refine TE.next ?_
  refine TW.seq ?_
  refine TW.region ?_
  refine TO.y (Y.move rfl) rfl rfl rfl ?_
  refine TO.bind fun R1 H2 => ?_
  refine TO.ef (Ef.call (rest := []) [] (cmp_isNaN_26527_con x  R1 H2) kc85 rfl rfl trivial) rfl rfl rfl (fun _ => ?_)
  refine TO.y (Y.assign rfl) rfl rfl rfl ?_
  refine TO.nil ?_
  refine TE.next ?_
  refine TW.seq ?_
  refine TW.region ?_
  refine TO.y (Y.move rfl) rfl rfl rfl ?_
  refine TO.bind fun R4 H5 => ?_
  refine TO.ef (Ef.call (rest := []) [] (cmp_isNaN_26527_con y  R4 H5) kc85 rfl rfl trivial) rfl rfl rfl (fun _ => ?_)
  refine TO.y (Y.assign rfl) rfl rfl rfl ?_
  refine TO.nil ?_
  refine TE.next ?_
  refine TW.seq ?_
  refine TW.seq ?_
  refine TW.region ?_
  refine TO.y (Y.move rfl) rfl rfl rfl ?_
  refine TO.nil ?_
  refine TE.next ?_
  refine TW.cond rfl (fun H7 => ?_) (fun H7 => ?_)
  · refine TW.seq ?_
    refine TW.seq ?_
    refine TW.region ?_
    refine TO.y (Y.move rfl) rfl rfl rfl ?_
    refine TO.nil ?_
    refine TE.next ?_
    refine TW.cond rfl (fun H8 => ?_) (fun H8 => ?_)
    · refine TW.seq ?_
      refine TW.region ?_
      refine TO.y (Y.assign rfl) rfl rfl rfl ?_
      refine TO.nil ?_
      refine TE.next ?_
      refine TW.ret ?_
      refine TE.then_ret ?_
      refine TE.then_ret ?_
      exact TE.leaf fun _ _ hf_ hs_ => ret_any (rs := [.tmp 4]) (vs := [.int .i64 (0 : Int)]) (.inl rfl) rfl ⟨rfl, trivial⟩ hf_ hs_ ⟨(), rfl, hs_.pulls [] rfl⟩
    · refine TW.skip ?_
      refine TE.next ?_
      refine TW.seq ?_
      refine TW.region ?_
      refine TO.y (Y.assign rfl) rfl rfl rfl ?_
      refine TO.nil ?_
      refine TE.next ?_
      refine TW.ret ?_
      refine TE.then_ret ?_
      exact TE.leaf fun _ _ hf_ hs_ => ret_any (rs := [.tmp 4]) (vs := [.int .i64 (-1 : Int)]) (.inl rfl) rfl ⟨rfl, trivial⟩ hf_ hs_ ⟨(), rfl, hs_.pulls [] rfl⟩
  · refine TW.skip ?_
    refine TE.next ?_
    refine TW.seq ?_
    refine TW.seq ?_
    refine TW.region ?_
    refine TO.y (Y.move rfl) rfl rfl rfl ?_
    refine TO.nil ?_
    refine TE.next ?_
    refine TW.cond rfl (fun H9 => ?_) (fun H9 => ?_)
    · refine TW.seq ?_
      refine TW.region ?_
      refine TO.y (Y.assign rfl) rfl rfl rfl ?_
      refine TO.nil ?_
      refine TE.next ?_
      refine TW.ret ?_
      refine TE.then_ret ?_
      exact TE.leaf fun _ _ hf_ hs_ => ret_any (rs := [.tmp 4]) (vs := [.int .i64 (1 : Int)]) (.inl rfl) rfl ⟨rfl, trivial⟩ hf_ hs_ ⟨(), rfl, hs_.pulls [] rfl⟩
    · refine TW.skip ?_
      refine TE.next ?_
      refine TW.seq ?_
      refine TW.seq ?_
      refine TW.region ?_
      refine TO.y (Y.move rfl) rfl rfl rfl ?_
      refine TO.y (Y.move rfl) rfl rfl rfl ?_
      refine TO.y (Y.lss rfl rfl) rfl rfl rfl ?_
      refine TO.nil ?_
      refine TE.next ?_
      refine TW.cond rfl (fun H10 => ?_) (fun H10 => ?_)
      · refine TW.seq ?_
        refine TW.region ?_
        refine TO.y (Y.assign rfl) rfl rfl rfl ?_
        refine TO.nil ?_
        refine TE.next ?_
        refine TW.ret ?_
        refine TE.then_ret ?_
        exact TE.leaf fun _ _ hf_ hs_ => ret_any (rs := [.tmp 4]) (vs := [.int .i64 (-1 : Int)]) (.inl rfl) rfl ⟨rfl, trivial⟩ hf_ hs_ ⟨(), rfl, hs_.pulls [] rfl⟩
      · refine TW.skip ?_
        refine TE.next ?_
        refine TW.seq ?_
        refine TW.seq ?_
        refine TW.region ?_
        refine TO.y (Y.move rfl) rfl rfl rfl ?_
        refine TO.y (Y.move rfl) rfl rfl rfl ?_
        refine TO.y (Y.gtr rfl rfl) rfl rfl rfl ?_
        refine TO.nil ?_
        refine TE.next ?_
        refine TW.cond rfl (fun H11 => ?_) (fun H11 => ?_)
        · refine TW.seq ?_
          refine TW.region ?_
          refine TO.y (Y.assign rfl) rfl rfl rfl ?_
          refine TO.nil ?_
          refine TE.next ?_
          refine TW.ret ?_
          refine TE.then_ret ?_
          exact TE.leaf fun _ _ hf_ hs_ => ret_any (rs := [.tmp 4]) (vs := [.int .i64 (1 : Int)]) (.inl rfl) rfl ⟨rfl, trivial⟩ hf_ hs_ ⟨(), rfl, hs_.pulls [] rfl⟩
        · refine TW.skip ?_
          refine TE.next ?_
          refine TW.seq ?_
          refine TW.region ?_
          refine TO.y (Y.assign rfl) rfl rfl rfl ?_
          refine TO.nil ?_
          refine TE.next ?_
          refine TW.ret ?_
          exact TE.leaf fun _ _ hf_ hs_ => ret_any (rs := [.tmp 4]) (vs := [.int .i64 (0 : Int)]) (.inl rfl) rfl ⟨rfl, trivial⟩ hf_ hs_ ⟨(), rfl, hs_.pulls [] rfl⟩

/-- cmp.isNaN[string] -/
noncomputable def cmp_isNaN_83645 (x : List UInt8) : Option Bool :=
  some (!(decide (x = x)))

theorem cmp_isNaN_83645_con (x : List UInt8)  (r : Bool) (hm : cmp_isNaN_83645 x = some r) :
    Con Try.prog 86 [strV x] [] [] (fun _ : Unit => .bool r) (fun _ => []) := by
  refine Con.intro (args := [strV x]) (n := 6) (val := fun r (_ : Unit) => .bool r) (post := fun _ _ => []) (m := cmp_isNaN_83645 x) Try.func86 rfl rfl rfl hm ?_
  intro w S _
  unfold cmp_isNaN_83645
  refine TW.seq ?_
  refine TW.region ?_
  refine TO.y (Y.assign rfl) rfl rfl rfl ?_
  refine TO.nil ?_
  refine TE.next ?_
  refine TW.seq ?_
  refine TW.region ?_
  refine TO.y (Y.move rfl) rfl rfl rfl ?_
  refine TO.y (Y.move rfl) rfl rfl rfl ?_
  refine TO.y (Y.sneq rfl rfl) rfl rfl rfl ?_
  refine TO.y (Y.assign rfl) rfl rfl rfl ?_
  refine TO.nil ?_
  refine TE.next ?_
  refine TW.ret ?_
  exact TE.leaf fun _ _ hf_ hs_ => ret_any (rs := [.tmp 2]) (vs := [.bool (!(decide (x = x)))]) (.inl rfl) rfl ⟨rfl, trivial⟩ hf_ hs_ ⟨(), rfl, hs_.pulls [] rfl⟩

/-- cmp.Compare[string] -/
noncomputable def cmp_Compare_83645 (x : List UInt8) (y : List UInt8) : Option Int :=
  (cmp_isNaN_83645 x).bind fun R1 =>
  (cmp_isNaN_83645 y).bind fun R4 =>
  if R1 = true then (if R4 = true then (some (0 : Int))
  else (some (-1 : Int)))
  else (if R4 = true then (some (1 : Int))
  else (if (sLt x y) = true then (some (-1 : Int))
  else (if (!(sLt x y || decide (x = y))) = true then (some (1 : Int))
  else (some (0 : Int)))))

theorem cmp_Compare_83645_con (x : List UInt8) (y : List UInt8)  (r : Int) (hm : cmp_Compare_83645 x y = some r) :
    Con Try.prog 82 [strV x, strV y] [] [] (fun _ : Unit => .int .i64 r) (fun _ => []) := by
  refine Con.intro (args := [strV x, strV y]) (n := 20) (val := fun r (_ : Unit) => .int .i64 r) (post := fun _ _ => []) (m := cmp_Compare_83645 x y) Try.func82 rfl rfl rfl hm ?_
  intro w S _
  unfold cmp_Compare_83645
  refine TW.seq ?_
  refine TW.region ?_
  refine TO.y (Y.assign rfl) rfl rfl rfl ?_
  refine TO.nil ?_
  refine TE.next ?_
  refine TW.seq ?_
  refine TW.region ?_
  refine TO.y (Y.move rfl) rfl rfl rfl ?_
  refine TO.bind fun R1 H2 => ?_
  refine TO.ef (Ef.call (rest := []) [] (cmp_isNaN_83645_con x  R1 H2) kc86 rfl rfl trivial) rfl rfl rfl (fun _ => ?_)
  refine TO.y (Y.assign rfl) rfl rfl rfl ?_
  refine TO.nil ?_
  refine TE.next ?_
  refine TW.seq ?_
  refine TW.region ?_
  refine TO.y (Y.move rfl) rfl rfl rfl ?_
  refine TO.bind fun R4 H5 => ?_
  refine TO.ef (Ef.call (rest := []) [] (cmp_isNaN_83645_con y  R4 H5) kc86 rfl rfl trivial) rfl rfl rfl (fun _ => ?_)
  refine TO.y (Y.assign rfl) rfl rfl rfl ?_
  refine TO.nil ?_
  refine TE.next ?_
  refine TW.seq ?_
  refine TW.seq ?_
  refine TW.region ?_
  refine TO.y (Y.move rfl) rfl rfl rfl ?_
  refine TO.nil ?_
  refine TE.next ?_
  refine TW.cond rfl (fun H7 => ?_) (fun H7 => ?_)
  · refine TW.seq ?_
    refine TW.seq ?_
    refine TW.region ?_
    refine TO.y (Y.move rfl) rfl rfl rfl ?_
    refine TO.nil ?_
    refine TE.next ?_
    refine TW.cond rfl (fun H8 => ?_) (fun H8 => ?_)
    · refine TW.seq ?_
      refine TW.region ?_
      refine TO.y (Y.assign rfl) rfl rfl rfl ?_
      refine TO.nil ?_
      refine TE.next ?_
      refine TW.ret ?_
      refine TE.then_ret ?_
      refine TE.then_ret ?_
      exact TE.leaf fun _ _ hf_ hs_ => ret_any (rs := [.tmp 4]) (vs := [.int .i64 (0 : Int)]) (.inl rfl) rfl ⟨rfl, trivial⟩ hf_ hs_ ⟨(), rfl, hs_.pulls [] rfl⟩
    · refine TW.skip ?_
      refine TE.next ?_
      refine TW.seq ?_
      refine TW.region ?_
      refine TO.y (Y.assign rfl) rfl rfl rfl ?_
      refine TO.nil ?_
      refine TE.next ?_
      refine TW.ret ?_
      refine TE.then_ret ?_
      exact TE.leaf fun _ _ hf_ hs_ => ret_any (rs := [.tmp 4]) (vs := [.int .i64 (-1 : Int)]) (.inl rfl) rfl ⟨rfl, trivial⟩ hf_ hs_ ⟨(), rfl, hs_.pulls [] rfl⟩
  · refine TW.skip ?_
    refine TE.next ?_
    refine TW.seq ?_
    refine TW.seq ?_
    refine TW.region ?_
    refine TO.y (Y.move rfl) rfl rfl rfl ?_
    refine TO.nil ?_
    refine TE.next ?_
    refine TW.cond rfl (fun H9 => ?_) (fun H9 => ?_)
    · refine TW.seq ?_
      refine TW.region ?_
      refine TO.y (Y.assign rfl) rfl rfl rfl ?_
      refine TO.nil ?_
      refine TE.next ?_
      refine TW.ret ?_
      refine TE.then_ret ?_
      exact TE.leaf fun _ _ hf_ hs_ => ret_any (rs := [.tmp 4]) (vs := [.int .i64 (1 : Int)]) (.inl rfl) rfl ⟨rfl, trivial⟩ hf_ hs_ ⟨(), rfl, hs_.pulls [] rfl⟩
    · refine TW.skip ?_
      refine TE.next ?_
      refine TW.seq ?_
      refine TW.seq ?_
      refine TW.region ?_
      refine TO.y (Y.move rfl) rfl rfl rfl ?_
      refine TO.y (Y.move rfl) rfl rfl rfl ?_
      refine TO.y (Y.slss rfl rfl) rfl rfl rfl ?_
      refine TO.nil ?_
      refine TE.next ?_
      refine TW.cond rfl (fun H10 => ?_) (fun H10 => ?_)
      · refine TW.seq ?_
        refine TW.region ?_
        refine TO.y (Y.assign rfl) rfl rfl rfl ?_
        refine TO.nil ?_
        refine TE.next ?_
        refine TW.ret ?_
        refine TE.then_ret ?_
        exact TE.leaf fun _ _ hf_ hs_ => ret_any (rs := [.tmp 4]) (vs := [.int .i64 (-1 : Int)]) (.inl rfl) rfl ⟨rfl, trivial⟩ hf_ hs_ ⟨(), rfl, hs_.pulls [] rfl⟩
      · refine TW.skip ?_
        refine TE.next ?_
        refine TW.seq ?_
        refine TW.seq ?_
        refine TW.region ?_
        refine TO.y (Y.move rfl) rfl rfl rfl ?_
        refine TO.y (Y.move rfl) rfl rfl rfl ?_
        refine TO.y (Y.sgtr rfl rfl) rfl rfl rfl ?_
        refine TO.nil ?_
        refine TE.next ?_
        refine TW.cond rfl (fun H11 => ?_) (fun H11 => ?_)
        · refine TW.seq ?_
          refine TW.region ?_
          refine TO.y (Y.assign rfl) rfl rfl rfl ?_
          refine TO.nil ?_
          refine TE.next ?_
          refine TW.ret ?_
          refine TE.then_ret ?_
          exact TE.leaf fun _ _ hf_ hs_ => ret_any (rs := [.tmp 4]) (vs := [.int .i64 (1 : Int)]) (.inl rfl) rfl ⟨rfl, trivial⟩ hf_ hs_ ⟨(), rfl, hs_.pulls [] rfl⟩
        · refine TW.skip ?_
          refine TE.next ?_
          refine TW.seq ?_
          refine TW.region ?_
          refine TO.y (Y.assign rfl) rfl rfl rfl ?_
          refine TO.nil ?_
          refine TE.next ?_
          refine TW.ret ?_
          exact TE.leaf fun _ _ hf_ hs_ => ret_any (rs := [.tmp 4]) (vs := [.int .i64 (0 : Int)]) (.inl rfl) rfl ⟨rfl, trivial⟩ hf_ hs_ ⟨(), rfl, hs_.pulls [] rfl⟩

/-- loop.example/g00950/impl.compareFiles -/
noncomputable def impl_compareFiles (a : File) (b : File) : Option Int :=
  if (!(decide (a.Level = b.Level))) = true then ((cmp_Compare_26527 a.Level b.Level).bind fun R4 =>
  some R4)
  else (if (decide (a.Level = (0 : Int))) = true then ((cmp_Compare_26527 b.No a.No).bind fun R8 =>
  some R8)
  else ((cmp_Compare_83645 a.Lo b.Lo).bind fun R11 =>
  some R11))

theorem impl_compareFiles_con (a : File) (b : File)  (r : Int) (hm : impl_compareFiles a b = some r) :
    Con Try.prog 75 [.agg #[.int .i64 a.No, .int .i64 a.Level, strV a.Lo, strV a.Hi], .agg #[.int .i64 b.No, .int .i64 b.Level, strV b.Lo, strV b.Hi]] [] [] (fun _ : Unit => .int .i64 r) (fun _ => []) := by
  refine Con.intro (args := [.agg #[.int .i64 a.No, .int .i64 a.Level, strV a.Lo, strV a.Hi], .agg #[.int .i64 b.No, .int .i64 b.Level, strV b.Lo, strV b.Hi]]) (n := 28) (val := fun r (_ : Unit) => .int .i64 r) (post := fun _ _ => []) (m := impl_compareFiles a b) Try.func75 rfl rfl rfl hm ?_
  intro w S _
  unfold impl_compareFiles
  refine TW.seq ?_
  refine TW.region ?_
  refine TO.ef (Ef.box rfl (Cel.plain rfl rfl)) rfl rfl rfl (fun B1 => ?_)
  refine TO.ef (Ef.box rfl (Cel.plain rfl rfl)) rfl rfl rfl (fun B2 => ?_)
  refine TO.y (Y.assign rfl) rfl rfl rfl ?_
  refine TO.nil ?_
  refine TE.next ?_
  refine TW.seq ?_
  refine TW.seq ?_
  refine TW.region ?_
  refine TO.y (Y.field_box kf52_1 rfl rfl) rfl rfl rfl ?_
  refine TO.y (Y.load_box (v := .int .i64 a.Level) 1 kk3 rfl rfl rfl) rfl rfl rfl ?_
  refine TO.y (Y.field_box kf52_1 rfl rfl) rfl rfl rfl ?_
  refine TO.y (Y.load_box (v := .int .i64 b.Level) 0 kk3 rfl rfl rfl) rfl rfl rfl ?_
  refine TO.y (Y.neq rfl rfl) rfl rfl rfl ?_
  refine TO.nil ?_
  refine TE.next ?_
  refine TW.cond rfl (fun H3 => ?_) (fun H3 => ?_)
  · refine TW.seq ?_
    refine TW.region ?_
    refine TO.y (Y.field_box kf52_1 rfl rfl) rfl rfl rfl ?_
    refine TO.y (Y.load_box (v := .int .i64 a.Level) 1 kk3 rfl rfl rfl) rfl rfl rfl ?_
    refine TO.y (Y.field_box kf52_1 rfl rfl) rfl rfl rfl ?_
    refine TO.y (Y.load_box (v := .int .i64 b.Level) 0 kk3 rfl rfl rfl) rfl rfl rfl ?_
    refine TO.bind fun R4 H5 => ?_
    refine TO.ef (Ef.call (rest := [.box B2 52 [.int .i64 b.No, .int .i64 b.Level, strV b.Lo, strV b.Hi], .box B1 52 [.int .i64 a.No, .int .i64 a.Level, strV a.Lo, strV a.Hi]]) [0, 0] (cmp_Compare_26527_con a.Level b.Level  R4 H5) kc81 rfl rfl trivial) rfl rfl rfl (fun _ => ?_)
    refine TO.y (Y.assign rfl) rfl rfl rfl ?_
    refine TO.nil ?_
    refine TE.next ?_
    refine TW.ret ?_
    refine TE.then_ret ?_
    exact TE.leaf fun _ _ hf_ hs_ => ret_any (rs := [.tmp 4]) (vs := [.int .i64 R4]) (.inl rfl) rfl ⟨rfl, trivial⟩ hf_ hs_ ⟨(), rfl, hs_.pulls [] rfl⟩
  · refine TW.skip ?_
    refine TE.next ?_
    refine TW.seq ?_
    refine TW.seq ?_
    refine TW.region ?_
    refine TO.y (Y.field_box kf52_1 rfl rfl) rfl rfl rfl ?_
    refine TO.y (Y.load_box (v := .int .i64 a.Level) 1 kk3 rfl rfl rfl) rfl rfl rfl ?_
    refine TO.y (Y.eql rfl rfl) rfl rfl rfl ?_
    refine TO.nil ?_
    refine TE.next ?_
    refine TW.cond rfl (fun H7 => ?_) (fun H7 => ?_)
    · refine TW.seq ?_
      refine TW.region ?_
      refine TO.y (Y.field_box kf52_0 rfl rfl) rfl rfl rfl ?_
      refine TO.y (Y.load_box (v := .int .i64 b.No) 0 kk3 rfl rfl rfl) rfl rfl rfl ?_
      refine TO.y (Y.field_box kf52_0 rfl rfl) rfl rfl rfl ?_
      refine TO.y (Y.load_box (v := .int .i64 a.No) 1 kk3 rfl rfl rfl) rfl rfl rfl ?_
      refine TO.bind fun R8 H9 => ?_
      refine TO.ef (Ef.call (rest := [.box B2 52 [.int .i64 b.No, .int .i64 b.Level, strV b.Lo, strV b.Hi], .box B1 52 [.int .i64 a.No, .int .i64 a.Level, strV a.Lo, strV a.Hi]]) [0, 0] (cmp_Compare_26527_con b.No a.No  R8 H9) kc81 rfl rfl trivial) rfl rfl rfl (fun _ => ?_)
      refine TO.y (Y.assign rfl) rfl rfl rfl ?_
      refine TO.nil ?_
      refine TE.next ?_
      refine TW.ret ?_
      refine TE.then_ret ?_
      exact TE.leaf fun _ _ hf_ hs_ => ret_any (rs := [.tmp 4]) (vs := [.int .i64 R8]) (.inl rfl) rfl ⟨rfl, trivial⟩ hf_ hs_ ⟨(), rfl, hs_.pulls [] rfl⟩
    · refine TW.skip ?_
      refine TE.next ?_
      refine TW.seq ?_
      refine TW.region ?_
      refine TO.y (Y.field_box kf52_2 rfl rfl) rfl rfl rfl ?_
      refine TO.y (Y.load_box (v := strV a.Lo) 1 kk9 rfl rfl rfl) rfl rfl rfl ?_
      refine TO.y (Y.field_box kf52_2 rfl rfl) rfl rfl rfl ?_
      refine TO.y (Y.load_box (v := strV b.Lo) 0 kk9 rfl rfl rfl) rfl rfl rfl ?_
      refine TO.bind fun R11 H12 => ?_
      refine TO.ef (Ef.call (rest := [.box B2 52 [.int .i64 b.No, .int .i64 b.Level, strV b.Lo, strV b.Hi], .box B1 52 [.int .i64 a.No, .int .i64 a.Level, strV a.Lo, strV a.Hi]]) [0, 0] (cmp_Compare_83645_con a.Lo b.Lo  R11 H12) kc82 rfl rfl trivial) rfl rfl rfl (fun _ => ?_)
      refine TO.y (Y.assign rfl) rfl rfl rfl ?_
      refine TO.nil ?_
      refine TE.next ?_
      refine TW.ret ?_
      exact TE.leaf fun _ _ hf_ hs_ => ret_any (rs := [.tmp 4]) (vs := [.int .i64 R11]) (.inl rfl) rfl ⟨rfl, trivial⟩ hf_ hs_ ⟨(), rfl, hs_.pulls [] rfl⟩

/-- loop.example/g00950/impl.FilesOk -/
noncomputable def impl_FilesOk (l : List File) : Option Bool :=
  if (decide (((l.length : Nat) : Int) > (12 : Int))) = true then (some false)
  else (bindC (loopO (fun (S2 : Int) => if (decide (S2 < ((l.length : Nat) : Int))) = true then ((idx l S2).bind fun E7 =>
  ((impl_fileOk E7).bind fun R12 =>
  if (!R12) = true then (some true)
  else ((impl_fileAt l E7.No).bind fun R16 =>
  if (!(decide (R16 = S2))) = true then (some true)
  else (if (decide (S2 > (0 : Int))) = true then ((idx l (IntKind.i64.wrap (S2 - (1 : Int)))).bind fun E21 =>
  (impl_compareFiles E21 E7).bind fun R23 =>
  some (decide (R23 ≥ (0 : Int))))
  else (some false)))).bind (fun (T10 : Bool) =>
  if T10 = true then (some (.done (.done false)))
  else ((if (decide (S2 > (0 : Int))) = true then (if (decide (E7.Level > (0 : Int))) = true then ((idx l (IntKind.i64.wrap (S2 - (1 : Int)))).bind fun E31 =>
  if (decide (E31.Level = E7.Level)) = true then (some (sLt E7.Lo E31.Hi || decide (E7.Lo = E31.Hi)))
  else (some false))
  else (some false))
  else (some false)).bind (fun (T27 : Bool) =>
  if T27 = true then (some (.done (.done false)))
  else (some (.go (IntKind.i64.wrap (S2 + (1 : Int)))))))))
  else (some (.done (.go ()))))
  (0 : Int))
  (fun (T4 : Unit) => some true))

theorem impl_FilesOk_con (l : List File) (V_l0 : Value) (r : Bool) (hm : impl_FilesOk l = some r) :
    Con Try.prog 66 [V_l0] [] [(V_l0, lc l)] (fun _ : Unit => .bool r) (fun _ => []) := by
  refine Con.intro (args := [V_l0]) (n := 70) (val := fun r (_ : Unit) => .bool r) (post := fun _ _ => []) (m := impl_FilesOk l) Try.func66 rfl rfl rfl hm ?_
  intro w S hrd
  have HB_V_l0 := hrd _ (.head _)
  clear hrd
  unfold impl_FilesOk
  refine TW.seq ?_
  refine TW.region ?_
  refine TO.y (Y.assign rfl) rfl rfl rfl ?_
  refine TO.nil ?_
  refine TE.next ?_
  refine TW.seq ?_
  refine TW.seq ?_
  refine TW.region ?_
  refine TO.y (Y.move rfl) rfl rfl rfl ?_
  refine TO.y (Y.len (l := l) ke28 (Base.can HB_V_l0) rfl) rfl rfl rfl ?_
  refine TO.y (Y.gtr rfl rfl) rfl rfl rfl ?_
  refine TO.nil ?_
  refine TE.next ?_
  refine TW.cond rfl (fun H1 => ?_) (fun H1 => ?_)
  · refine TW.seq ?_
    refine TW.region ?_
    refine TO.y (Y.assign rfl) rfl rfl rfl ?_
    refine TO.nil ?_
    refine TE.next ?_
    refine TW.ret ?_
    refine TE.then_ret ?_
    exact TE.leaf fun _ _ hf_ hs_ => ret_any (rs := [.tmp 2]) (vs := [.bool false]) (.inl rfl) rfl ⟨rfl, trivial⟩ hf_ hs_ ⟨(), rfl, hs_.pulls [] rfl⟩
  · refine TW.skip ?_
    refine TE.next ?_
    refine TW.seq ?_
    refine TW.seq ?_
    refine TW.region ?_
    refine TO.y (Y.move rfl) rfl rfl rfl ?_
    refine TO.y (Y.len (l := l) ke28 (Base.can HB_V_l0) rfl) rfl rfl rfl ?_
    refine TO.y (Y.move rfl) rfl rfl rfl ?_
    refine TO.nil ?_
    refine TE.next ?_
    refine TW.joinX (τ := Unit) (X := Unit) (fun _ _ => []) (fun _ _ => []) ?_ (fun T4 X5 => ?_)
    · refine TW.block ?_
      refine TW.loopX (σ := Int) (X := Unit) (fun T _ => [(0, V_l0), (8, V_l0), (9, .int .i64 ((l.length : Nat) : Int)), (10, .int .i64 T)]) (fun _ _ => []) () [] ⟨rfl, rfl, rfl, rfl, trivial⟩ rfl (fun S2 X3 => ?_)
      refine TW.seq ?_
      refine TW.region ?_
      refine TO.y (Y.lss rfl rfl) rfl rfl rfl ?_
      refine TO.nil ?_
      refine TE.next ?_
      refine TW.seq ?_
      refine TW.cond rfl (fun H6 => ?_) (fun H6 => ?_)
      · refine TW.skip ?_
        refine TE.next ?_
        refine TW.seq ?_
        refine TW.block ?_
        refine TW.seq ?_
        refine TW.region ?_
        refine TO.y (Y.move rfl) rfl rfl rfl ?_
        refine TO.bind fun E7 H8 => ?_
        refine TO.y (Y.index ke28 (Base.can HB_V_l0) H8 rfl rfl) rfl rfl rfl ?_
        refine TO.y (Y.load_el (us := [.int .i64 E7.No, .int .i64 E7.Level, strV E7.Lo, strV E7.Hi]) (u := .agg #[.int .i64 E7.No, .int .i64 E7.Level, strV E7.Lo, strV E7.Hi]) kk52 rfl (Base.can HB_V_l0) (idx_get H8).2.2 rfl rfl rfl rfl rfl) rfl rfl rfl ?_
        refine TO.ef (Ef.alloc kz52 rfl) rfl rfl rfl (fun B9 => ?_)
        refine TO.y (Y.assign rfl) rfl rfl rfl ?_
        refine TO.ef0 (Ef.store_box (us := [.int .i64 E7.No, .int .i64 E7.Level, strV E7.Lo, strV E7.Hi]) (vs' := [.int .i64 E7.No, .int .i64 E7.Level, strV E7.Lo, strV E7.Hi]) (is' := [.box B9 52 [.int .i64 E7.No, .int .i64 E7.Level, strV E7.Lo, strV E7.Hi]]) 0 kk52 rfl rfl rfl (Cel.plain rfl rfl) rfl rfl rfl rfl) rfl rfl (fun _ => ?_)
        refine TO.nil ?_
        refine TE.next ?_
        refine TW.seq ?_
        refine TW.seq ?_
        refine TW.joinBX (τ := Bool) (X := Unit) (fun T _ => [(0, V_l0), (3, .int .i64 S2), (4, .pointer (some ⟨B9, 0, none⟩)), (8, V_l0), (9, .int .i64 ((l.length : Nat) : Int)), (10, .int .i64 S2), (39, .bool T)]) (fun _ _ => [.box B9 52 [.int .i64 E7.No, .int .i64 E7.Level, strV E7.Lo, strV E7.Hi]]) ?_ (fun T10 X11 => ?_)
        · refine TW.draw (isH := [.box B9 52 [.int .i64 E7.No, .int .i64 E7.Level, strV E7.Lo, strV E7.Hi]]) hMix ?_
          refine TA.y (listed' := #[true, false, false, false, false, false, false, false, false, false, false, false, false, false, false, false, false, false, false, false, false, false, false, false, false]) 0 [0] rfl (Y.load_box (v := .agg #[.int .i64 E7.No, .int .i64 E7.Level, strV E7.Lo, strV E7.Hi]) 0 kk52 rfl rfl rfl) rfl rfl rfl (by kernel_rfl) (by kernel_rfl) (by kernel_rfl) rfl rfl ?_
          refine TA.bind fun R12 H13 => ?_
          refine TA.one 1 (by kernel_rfl) ?_
          refine TX.ef (listed' := #[true, true, false, false, false, false, false, false, false, false, false, false, false, false, false, false, false, false, false, false, false, false, false, false, false]) [0] rfl (Ef.call (rest := [.box B9 52 [.int .i64 E7.No, .int .i64 E7.Level, strV E7.Lo, strV E7.Hi]]) [0] (impl_fileOk_con E7  R12 H13) kc73 rfl rfl trivial) rfl rfl rfl rfl (fun _ => rfl) (fun _ => ?_)
          refine TA.y (listed' := #[true, true, true, false, false, false, false, false, false, false, false, false, false, false, false, false, false, false, false, false, false, false, false, false, false]) 2 [0] rfl (Y.not rfl) rfl rfl rfl (by kernel_rfl) (by kernel_rfl) (by kernel_rfl) rfl rfl ?_
          refine TA.y (listed' := #[true, true, true, true, false, false, false, false, false, false, false, false, false, false, false, false, false, false, false, false, false, false, false, false, false]) 3 [0] rfl (Y.move rfl) rfl rfl rfl (by kernel_rfl) (by kernel_rfl) (by kernel_rfl) rfl rfl ?_
          refine TA.ite (b := !R12) (fun H15 => ?_) (fun H15 => ?_)
          · refine TA.off (listed' := #[true, true, true, true, true, false, false, false, false, false, false, false, false, false, false, false, false, false, false, false, false, false, false, false, false]) 4 [0] rfl (Gd.at 3 false 18 (!R12) rfl rfl rfl (beq_tf H15)) rfl rfl (by kernel_rfl) (by kernel_rfl) (by kernel_rfl) rfl rfl ?_
            refine TA.off (listed' := #[true, true, true, true, true, true, false, false, false, false, false, false, false, false, false, false, false, false, false, false, false, false, false, false, false]) 5 [0] rfl (Gd.at 3 false 18 (!R12) rfl rfl rfl (beq_tf H15)) rfl rfl (by kernel_rfl) (by kernel_rfl) (by kernel_rfl) rfl rfl ?_
            refine TA.off (listed' := #[true, true, true, true, true, true, true, false, false, false, false, false, false, false, false, false, false, false, false, false, false, false, false, false, false]) 6 [0] rfl (Gd.at 3 false 18 (!R12) rfl rfl rfl (beq_tf H15)) rfl rfl (by kernel_rfl) (by kernel_rfl) (by kernel_rfl) rfl rfl ?_
            refine TA.off (listed' := #[true, true, true, true, true, true, true, true, false, false, false, false, false, false, false, false, false, false, false, false, false, false, false, false, false]) 7 [0] rfl (Gd.at 3 false 18 (!R12) rfl rfl rfl (beq_tf H15)) rfl rfl (by kernel_rfl) (by kernel_rfl) (by kernel_rfl) rfl rfl ?_
            refine TA.off (listed' := #[true, true, true, true, true, true, true, true, true, false, false, false, false, false, false, false, false, false, false, false, false, false, false, false, false]) 8 [0] rfl (Gd.at 3 false 18 (!R12) rfl rfl rfl (beq_tf H15)) rfl rfl (by kernel_rfl) (by kernel_rfl) (by kernel_rfl) rfl rfl ?_
            refine TA.off (listed' := #[true, true, true, true, true, true, true, true, true, true, false, false, false, false, false, false, false, false, false, false, false, false, false, false, false]) 9 [0] rfl (Gd.at 3 false 18 (!R12) rfl rfl rfl (beq_tf H15)) rfl rfl (by kernel_rfl) (by kernel_rfl) (by kernel_rfl) rfl rfl ?_
            refine TA.y (listed' := #[true, true, true, true, true, true, true, true, true, true, true, false, false, false, false, false, false, false, false, false, false, false, false, false, false]) 10 [0] rfl (Y.pick_t H15 rfl rfl) rfl rfl rfl (by kernel_rfl) (by kernel_rfl) (by kernel_rfl) rfl rfl ?_
            refine TA.y (listed' := #[true, true, true, true, true, true, true, true, true, true, true, true, false, false, false, false, false, false, false, false, false, false, false, false, false]) 11 [0] rfl (Y.move rfl) rfl rfl rfl (by kernel_rfl) (by kernel_rfl) (by kernel_rfl) rfl rfl ?_
            refine TA.off (listed' := #[true, true, true, true, true, true, true, true, true, true, true, true, true, false, false, false, false, false, false, false, false, false, false, false, false]) 12 [0] rfl (Gd.at 11 false 26 true rfl rfl rfl rfl) rfl rfl (by kernel_rfl) (by kernel_rfl) (by kernel_rfl) rfl rfl ?_
            refine TA.off (listed' := #[true, true, true, true, true, true, true, true, true, true, true, true, true, true, false, false, false, false, false, false, false, false, false, false, false]) 13 [0] rfl (Gd.at 11 false 26 true rfl rfl rfl rfl) rfl rfl (by kernel_rfl) (by kernel_rfl) (by kernel_rfl) rfl rfl ?_
            refine TA.off (listed' := #[true, true, true, true, true, true, true, true, true, true, true, true, true, true, true, false, false, false, false, false, false, false, false, false, false]) 14 [0] rfl (Gd.at 11 false 26 true rfl rfl rfl rfl) rfl rfl (by kernel_rfl) (by kernel_rfl) (by kernel_rfl) rfl rfl ?_
            refine TA.off (listed' := #[true, true, true, true, true, true, true, true, true, true, true, true, true, true, true, true, false, false, false, false, false, false, false, false, false]) 15 [0] rfl (Gd.un 14 true 29 rfl rfl rfl) rfl rfl (by kernel_rfl) (by kernel_rfl) (by kernel_rfl) rfl rfl ?_
            refine TA.off (listed' := #[true, true, true, true, true, true, true, true, true, true, true, true, true, true, true, true, true, false, false, false, false, false, false, false, false]) 16 [0] rfl (Gd.un 14 true 29 rfl rfl rfl) rfl rfl (by kernel_rfl) (by kernel_rfl) (by kernel_rfl) rfl rfl ?_
            refine TA.off (listed' := #[true, true, true, true, true, true, true, true, true, true, true, true, true, true, true, true, true, true, false, false, false, false, false, false, false]) 17 [0] rfl (Gd.un 14 true 29 rfl rfl rfl) rfl rfl (by kernel_rfl) (by kernel_rfl) (by kernel_rfl) rfl rfl ?_
            refine TA.off (listed' := #[true, true, true, true, true, true, true, true, true, true, true, true, true, true, true, true, true, true, true, false, false, false, false, false, false]) 18 [0] rfl (Gd.un 14 true 29 rfl rfl rfl) rfl rfl (by kernel_rfl) (by kernel_rfl) (by kernel_rfl) rfl rfl ?_
            refine TA.off (listed' := #[true, true, true, true, true, true, true, true, true, true, true, true, true, true, true, true, true, true, true, true, false, false, false, false, false]) 19 [0] rfl (Gd.un 14 true 29 rfl rfl rfl) rfl rfl (by kernel_rfl) (by kernel_rfl) (by kernel_rfl) rfl rfl ?_
            refine TA.off (listed' := #[true, true, true, true, true, true, true, true, true, true, true, true, true, true, true, true, true, true, true, true, true, false, false, false, false]) 20 [0] rfl (Gd.un 14 true 29 rfl rfl rfl) rfl rfl (by kernel_rfl) (by kernel_rfl) (by kernel_rfl) rfl rfl ?_
            refine TA.off (listed' := #[true, true, true, true, true, true, true, true, true, true, true, true, true, true, true, true, true, true, true, true, true, true, false, false, false]) 21 [0] rfl (Gd.un 14 true 29 rfl rfl rfl) rfl rfl (by kernel_rfl) (by kernel_rfl) (by kernel_rfl) rfl rfl ?_
            refine TA.off (listed' := #[true, true, true, true, true, true, true, true, true, true, true, true, true, true, true, true, true, true, true, true, true, true, true, false, false]) 22 [0] rfl (Gd.un 14 true 29 rfl rfl rfl) rfl rfl (by kernel_rfl) (by kernel_rfl) (by kernel_rfl) rfl rfl ?_
            refine TA.off (listed' := #[true, true, true, true, true, true, true, true, true, true, true, true, true, true, true, true, true, true, true, true, true, true, true, true, false]) 23 [0] rfl (Gd.at 11 false 26 true rfl rfl rfl rfl) rfl rfl (by kernel_rfl) (by kernel_rfl) (by kernel_rfl) rfl rfl ?_
            refine TA.y (listed' := #[true, true, true, true, true, true, true, true, true, true, true, true, true, true, true, true, true, true, true, true, true, true, true, true, true]) 24 [0] rfl (Y.pick_t rfl rfl rfl) rfl rfl rfl (by kernel_rfl) (by kernel_rfl) (by kernel_rfl) rfl rfl ?_
            refine TA.nil (by kernel_rfl) ?_
            exact TE.jb_go () [0] ⟨rfl, rfl, rfl, rfl, rfl, rfl, rfl, trivial⟩ rfl
          · refine TA.y (listed' := #[true, true, true, true, true, false, false, false, false, false, false, false, false, false, false, false, false, false, false, false, false, false, false, false, false]) 4 [0] rfl (Y.move rfl) (Gd.at 3 false 18 (!R12) rfl rfl rfl (beq_ff H15)) rfl rfl (by kernel_rfl) (by kernel_rfl) (by kernel_rfl) rfl rfl ?_
            refine TA.y (listed' := #[true, true, true, true, true, true, false, false, false, false, false, false, false, false, false, false, false, false, false, false, false, false, false, false, false]) 5 [0] rfl (Y.field_box kf52_0 rfl rfl) (Gd.at 3 false 18 (!R12) rfl rfl rfl (beq_ff H15)) rfl rfl (by kernel_rfl) (by kernel_rfl) (by kernel_rfl) rfl rfl ?_
            refine TA.y (listed' := #[true, true, true, true, true, true, true, false, false, false, false, false, false, false, false, false, false, false, false, false, false, false, false, false, false]) 6 [0] rfl (Y.load_box (v := .int .i64 E7.No) 0 kk3 rfl rfl rfl) (Gd.at 3 false 18 (!R12) rfl rfl rfl (beq_ff H15)) rfl rfl (by kernel_rfl) (by kernel_rfl) (by kernel_rfl) rfl rfl ?_
            refine TA.y (listed' := #[true, true, true, true, true, true, true, false, true, false, false, false, false, false, false, false, false, false, false, false, false, false, false, false, false]) 8 [0] rfl (Y.move rfl) (Gd.at 3 false 18 (!R12) rfl rfl rfl (beq_ff H15)) rfl rfl (by kernel_rfl) (by kernel_rfl) (by kernel_rfl) rfl rfl ?_
            refine TA.bind fun R16 H17 => ?_
            refine TA.one 7 (by kernel_rfl) ?_
            refine TX.ef (listed' := #[true, true, true, true, true, true, true, true, true, false, false, false, false, false, false, false, false, false, false, false, false, false, false, false, false]) [0] rfl (Ef.call (rest := [.box B9 52 [.int .i64 E7.No, .int .i64 E7.Level, strV E7.Lo, strV E7.Hi]]) [0] (impl_fileAt_con l E7.No V_l0 R16 H17) kc74 rfl rfl ⟨(Base.can HB_V_l0), trivial⟩) (Gd.at 3 false 18 (!R12) rfl rfl rfl (beq_ff H15)) rfl rfl rfl (fun _ => rfl) (fun _ => ?_)
            refine TA.y (listed' := #[true, true, true, true, true, true, true, true, true, true, false, false, false, false, false, false, false, false, false, false, false, false, false, false, false]) 9 [0] rfl (Y.neq rfl rfl) (Gd.at 3 false 18 (!R12) rfl rfl rfl (beq_ff H15)) rfl rfl (by kernel_rfl) (by kernel_rfl) (by kernel_rfl) rfl rfl ?_
            refine TA.y (listed' := #[true, true, true, true, true, true, true, true, true, true, true, false, false, false, false, false, false, false, false, false, false, false, false, false, false]) 10 [0] rfl (Y.pick_f H15 rfl rfl) rfl rfl rfl (by kernel_rfl) (by kernel_rfl) (by kernel_rfl) rfl rfl ?_
            refine TA.y (listed' := #[true, true, true, true, true, true, true, true, true, true, true, true, false, false, false, false, false, false, false, false, false, false, false, false, false]) 11 [0] rfl (Y.move rfl) rfl rfl rfl (by kernel_rfl) (by kernel_rfl) (by kernel_rfl) rfl rfl ?_
            refine TA.ite (b := !(decide (R16 = S2))) (fun H19 => ?_) (fun H19 => ?_)
            · refine TA.off (listed' := #[true, true, true, true, true, true, true, true, true, true, true, true, true, false, false, false, false, false, false, false, false, false, false, false, false]) 12 [0] rfl (Gd.at 11 false 26 (!(decide (R16 = S2))) rfl rfl rfl (beq_tf H19)) rfl rfl (by kernel_rfl) (by kernel_rfl) (by kernel_rfl) rfl rfl ?_
              refine TA.off (listed' := #[true, true, true, true, true, true, true, true, true, true, true, true, true, true, false, false, false, false, false, false, false, false, false, false, false]) 13 [0] rfl (Gd.at 11 false 26 (!(decide (R16 = S2))) rfl rfl rfl (beq_tf H19)) rfl rfl (by kernel_rfl) (by kernel_rfl) (by kernel_rfl) rfl rfl ?_
              refine TA.off (listed' := #[true, true, true, true, true, true, true, true, true, true, true, true, true, true, true, false, false, false, false, false, false, false, false, false, false]) 14 [0] rfl (Gd.at 11 false 26 (!(decide (R16 = S2))) rfl rfl rfl (beq_tf H19)) rfl rfl (by kernel_rfl) (by kernel_rfl) (by kernel_rfl) rfl rfl ?_
              refine TA.off (listed' := #[true, true, true, true, true, true, true, true, true, true, true, true, true, true, true, true, false, false, false, false, false, false, false, false, false]) 15 [0] rfl (Gd.un 14 true 29 rfl rfl rfl) rfl rfl (by kernel_rfl) (by kernel_rfl) (by kernel_rfl) rfl rfl ?_
              refine TA.off (listed' := #[true, true, true, true, true, true, true, true, true, true, true, true, true, true, true, true, true, false, false, false, false, false, false, false, false]) 16 [0] rfl (Gd.un 14 true 29 rfl rfl rfl) rfl rfl (by kernel_rfl) (by kernel_rfl) (by kernel_rfl) rfl rfl ?_
              refine TA.off (listed' := #[true, true, true, true, true, true, true, true, true, true, true, true, true, true, true, true, true, true, false, false, false, false, false, false, false]) 17 [0] rfl (Gd.un 14 true 29 rfl rfl rfl) rfl rfl (by kernel_rfl) (by kernel_rfl) (by kernel_rfl) rfl rfl ?_
              refine TA.off (listed' := #[true, true, true, true, true, true, true, true, true, true, true, true, true, true, true, true, true, true, true, false, false, false, false, false, false]) 18 [0] rfl (Gd.un 14 true 29 rfl rfl rfl) rfl rfl (by kernel_rfl) (by kernel_rfl) (by kernel_rfl) rfl rfl ?_
              refine TA.off (listed' := #[true, true, true, true, true, true, true, true, true, true, true, true, true, true, true, true, true, true, true, true, false, false, false, false, false]) 19 [0] rfl (Gd.un 14 true 29 rfl rfl rfl) rfl rfl (by kernel_rfl) (by kernel_rfl) (by kernel_rfl) rfl rfl ?_
              refine TA.off (listed' := #[true, true, true, true, true, true, true, true, true, true, true, true, true, true, true, true, true, true, true, true, true, false, false, false, false]) 20 [0] rfl (Gd.un 14 true 29 rfl rfl rfl) rfl rfl (by kernel_rfl) (by kernel_rfl) (by kernel_rfl) rfl rfl ?_
              refine TA.off (listed' := #[true, true, true, true, true, true, true, true, true, true, true, true, true, true, true, true, true, true, true, true, true, true, false, false, false]) 21 [0] rfl (Gd.un 14 true 29 rfl rfl rfl) rfl rfl (by kernel_rfl) (by kernel_rfl) (by kernel_rfl) rfl rfl ?_
              refine TA.off (listed' := #[true, true, true, true, true, true, true, true, true, true, true, true, true, true, true, true, true, true, true, true, true, true, true, false, false]) 22 [0] rfl (Gd.un 14 true 29 rfl rfl rfl) rfl rfl (by kernel_rfl) (by kernel_rfl) (by kernel_rfl) rfl rfl ?_
              refine TA.off (listed' := #[true, true, true, true, true, true, true, true, true, true, true, true, true, true, true, true, true, true, true, true, true, true, true, true, false]) 23 [0] rfl (Gd.at 11 false 26 (!(decide (R16 = S2))) rfl rfl rfl (beq_tf H19)) rfl rfl (by kernel_rfl) (by kernel_rfl) (by kernel_rfl) rfl rfl ?_
              refine TA.y (listed' := #[true, true, true, true, true, true, true, true, true, true, true, true, true, true, true, true, true, true, true, true, true, true, true, true, true]) 24 [0] rfl (Y.pick_t H19 rfl rfl) rfl rfl rfl (by kernel_rfl) (by kernel_rfl) (by kernel_rfl) rfl rfl ?_
              refine TA.nil (by kernel_rfl) ?_
              exact TE.jb_go () [0] ⟨rfl, rfl, rfl, rfl, rfl, rfl, rfl, trivial⟩ rfl
            · refine TA.y (listed' := #[true, true, true, true, true, true, true, true, true, true, true, true, true, false, false, false, false, false, false, false, false, false, false, false, false]) 12 [0] rfl (Y.move rfl) (Gd.at 11 false 26 (!(decide (R16 = S2))) rfl rfl rfl (beq_ff H19)) rfl rfl (by kernel_rfl) (by kernel_rfl) (by kernel_rfl) rfl rfl ?_
              refine TA.y (listed' := #[true, true, true, true, true, true, true, true, true, true, true, true, true, true, false, false, false, false, false, false, false, false, false, false, false]) 13 [0] rfl (Y.gtr rfl rfl) (Gd.at 11 false 26 (!(decide (R16 = S2))) rfl rfl rfl (beq_ff H19)) rfl rfl (by kernel_rfl) (by kernel_rfl) (by kernel_rfl) rfl rfl ?_
              refine TA.y (listed' := #[true, true, true, true, true, true, true, true, true, true, true, true, true, true, true, false, false, false, false, false, false, false, false, false, false]) 14 [0] rfl (Y.move rfl) (Gd.at 11 false 26 (!(decide (R16 = S2))) rfl rfl rfl (beq_ff H19)) rfl rfl (by kernel_rfl) (by kernel_rfl) (by kernel_rfl) rfl rfl ?_
              refine TA.ite (b := decide (S2 > (0 : Int))) (fun H20 => ?_) (fun H20 => ?_)
              · refine TA.y (listed' := #[true, true, true, true, true, true, true, true, true, true, true, true, true, true, true, true, false, false, false, false, false, false, false, false, false]) 15 [0] rfl (Y.move rfl) (Gd.at 14 true 29 (decide (S2 > (0 : Int))) rfl rfl rfl (beq_tt H20)) rfl rfl (by kernel_rfl) (by kernel_rfl) (by kernel_rfl) rfl rfl ?_
                refine TA.y (listed' := #[true, true, true, true, true, true, true, true, true, true, true, true, true, true, true, true, true, false, false, false, false, false, false, false, false]) 16 [0] rfl (Y.move rfl) (Gd.at 14 true 29 (decide (S2 > (0 : Int))) rfl rfl rfl (beq_tt H20)) rfl rfl (by kernel_rfl) (by kernel_rfl) (by kernel_rfl) rfl rfl ?_
                refine TA.y (listed' := #[true, true, true, true, true, true, true, true, true, true, true, true, true, true, true, true, true, true, false, false, false, false, false, false, false]) 17 [0] rfl (Y.sub rfl rfl) (Gd.at 14 true 29 (decide (S2 > (0 : Int))) rfl rfl rfl (beq_tt H20)) rfl rfl (by kernel_rfl) (by kernel_rfl) (by kernel_rfl) rfl rfl ?_
                refine TA.bind fun E21 H22 => ?_
                refine TA.y (listed' := #[true, true, true, true, true, true, true, true, true, true, true, true, true, true, true, true, true, true, true, false, false, false, false, false, false]) 18 [0] rfl (Y.index ke28 (Base.can HB_V_l0) H22 rfl rfl) (Gd.at 14 true 29 (decide (S2 > (0 : Int))) rfl rfl rfl (beq_tt H20)) rfl rfl (by kernel_rfl) (by kernel_rfl) (by kernel_rfl) rfl rfl ?_
                refine TA.y (listed' := #[true, true, true, true, true, true, true, true, true, true, true, true, true, true, true, true, true, true, true, true, false, false, false, false, false]) 19 [0] rfl (Y.load_el (us := [.int .i64 E21.No, .int .i64 E21.Level, strV E21.Lo, strV E21.Hi]) (u := .agg #[.int .i64 E21.No, .int .i64 E21.Level, strV E21.Lo, strV E21.Hi]) kk52 rfl (Base.can HB_V_l0) (idx_get H22).2.2 rfl rfl rfl rfl rfl) (Gd.at 14 true 29 (decide (S2 > (0 : Int))) rfl rfl rfl (beq_tt H20)) rfl rfl (by kernel_rfl) (by kernel_rfl) (by kernel_rfl) rfl rfl ?_
                refine TA.y (listed' := #[true, true, true, true, true, true, true, true, true, true, true, true, true, true, true, true, true, true, true, true, true, false, false, false, false]) 20 [0] rfl (Y.load_box (v := .agg #[.int .i64 E7.No, .int .i64 E7.Level, strV E7.Lo, strV E7.Hi]) 0 kk52 rfl rfl rfl) (Gd.at 14 true 29 (decide (S2 > (0 : Int))) rfl rfl rfl (beq_tt H20)) rfl rfl (by kernel_rfl) (by kernel_rfl) (by kernel_rfl) rfl rfl ?_
                refine TA.bind fun R23 H24 => ?_
                refine TA.one 21 (by kernel_rfl) ?_
                refine TX.ef (listed' := #[true, true, true, true, true, true, true, true, true, true, true, true, true, true, true, true, true, true, true, true, true, true, false, false, false]) [0] rfl (Ef.call (rest := [.box B9 52 [.int .i64 E7.No, .int .i64 E7.Level, strV E7.Lo, strV E7.Hi]]) [0] (impl_compareFiles_con E21 E7  R23 H24) kc75 rfl rfl trivial) (Gd.at 14 true 29 (decide (S2 > (0 : Int))) rfl rfl rfl (beq_tt H20)) rfl rfl rfl (fun _ => rfl) (fun _ => ?_)
                refine TA.y (listed' := #[true, true, true, true, true, true, true, true, true, true, true, true, true, true, true, true, true, true, true, true, true, true, true, false, false]) 22 [0] rfl (Y.geq rfl rfl) (Gd.at 14 true 29 (decide (S2 > (0 : Int))) rfl rfl rfl (beq_tt H20)) rfl rfl (by kernel_rfl) (by kernel_rfl) (by kernel_rfl) rfl rfl ?_
                refine TA.y (listed' := #[true, true, true, true, true, true, true, true, true, true, true, true, true, true, true, true, true, true, true, true, true, true, true, true, false]) 23 [0] rfl (Y.pick_t H20 rfl rfl) (Gd.at 11 false 26 (!(decide (R16 = S2))) rfl rfl rfl (beq_ff H19)) rfl rfl (by kernel_rfl) (by kernel_rfl) (by kernel_rfl) rfl rfl ?_
                refine TA.y (listed' := #[true, true, true, true, true, true, true, true, true, true, true, true, true, true, true, true, true, true, true, true, true, true, true, true, true]) 24 [0] rfl (Y.pick_f H19 rfl rfl) rfl rfl rfl (by kernel_rfl) (by kernel_rfl) (by kernel_rfl) rfl rfl ?_
                refine TA.nil (by kernel_rfl) ?_
                exact TE.jb_go () [0] ⟨rfl, rfl, rfl, rfl, rfl, rfl, rfl, trivial⟩ rfl
              · refine TA.off (listed' := #[true, true, true, true, true, true, true, true, true, true, true, true, true, true, true, true, false, false, false, false, false, false, false, false, false]) 15 [0] rfl (Gd.at 14 true 29 (decide (S2 > (0 : Int))) rfl rfl rfl (beq_ft H20)) rfl rfl (by kernel_rfl) (by kernel_rfl) (by kernel_rfl) rfl rfl ?_
                refine TA.off (listed' := #[true, true, true, true, true, true, true, true, true, true, true, true, true, true, true, true, true, false, false, false, false, false, false, false, false]) 16 [0] rfl (Gd.at 14 true 29 (decide (S2 > (0 : Int))) rfl rfl rfl (beq_ft H20)) rfl rfl (by kernel_rfl) (by kernel_rfl) (by kernel_rfl) rfl rfl ?_
                refine TA.off (listed' := #[true, true, true, true, true, true, true, true, true, true, true, true, true, true, true, true, true, true, false, false, false, false, false, false, false]) 17 [0] rfl (Gd.at 14 true 29 (decide (S2 > (0 : Int))) rfl rfl rfl (beq_ft H20)) rfl rfl (by kernel_rfl) (by kernel_rfl) (by kernel_rfl) rfl rfl ?_
                refine TA.off (listed' := #[true, true, true, true, true, true, true, true, true, true, true, true, true, true, true, true, true, true, true, false, false, false, false, false, false]) 18 [0] rfl (Gd.at 14 true 29 (decide (S2 > (0 : Int))) rfl rfl rfl (beq_ft H20)) rfl rfl (by kernel_rfl) (by kernel_rfl) (by kernel_rfl) rfl rfl ?_
                refine TA.off (listed' := #[true, true, true, true, true, true, true, true, true, true, true, true, true, true, true, true, true, true, true, true, false, false, false, false, false]) 19 [0] rfl (Gd.at 14 true 29 (decide (S2 > (0 : Int))) rfl rfl rfl (beq_ft H20)) rfl rfl (by kernel_rfl) (by kernel_rfl) (by kernel_rfl) rfl rfl ?_
                refine TA.off (listed' := #[true, true, true, true, true, true, true, true, true, true, true, true, true, true, true, true, true, true, true, true, true, false, false, false, false]) 20 [0] rfl (Gd.at 14 true 29 (decide (S2 > (0 : Int))) rfl rfl rfl (beq_ft H20)) rfl rfl (by kernel_rfl) (by kernel_rfl) (by kernel_rfl) rfl rfl ?_
                refine TA.off (listed' := #[true, true, true, true, true, true, true, true, true, true, true, true, true, true, true, true, true, true, true, true, true, true, false, false, false]) 21 [0] rfl (Gd.at 14 true 29 (decide (S2 > (0 : Int))) rfl rfl rfl (beq_ft H20)) rfl rfl (by kernel_rfl) (by kernel_rfl) (by kernel_rfl) rfl rfl ?_
                refine TA.off (listed' := #[true, true, true, true, true, true, true, true, true, true, true, true, true, true, true, true, true, true, true, true, true, true, true, false, false]) 22 [0] rfl (Gd.at 14 true 29 (decide (S2 > (0 : Int))) rfl rfl rfl (beq_ft H20)) rfl rfl (by kernel_rfl) (by kernel_rfl) (by kernel_rfl) rfl rfl ?_
                refine TA.y (listed' := #[true, true, true, true, true, true, true, true, true, true, true, true, true, true, true, true, true, true, true, true, true, true, true, true, false]) 23 [0] rfl (Y.pick_f H20 rfl rfl) (Gd.at 11 false 26 (!(decide (R16 = S2))) rfl rfl rfl (beq_ff H19)) rfl rfl (by kernel_rfl) (by kernel_rfl) (by kernel_rfl) rfl rfl ?_
                refine TA.y (listed' := #[true, true, true, true, true, true, true, true, true, true, true, true, true, true, true, true, true, true, true, true, true, true, true, true, true]) 24 [0] rfl (Y.pick_f H19 rfl rfl) rfl rfl rfl (by kernel_rfl) (by kernel_rfl) (by kernel_rfl) rfl rfl ?_
                refine TA.nil (by kernel_rfl) ?_
                exact TE.jb_go () [0] ⟨rfl, rfl, rfl, rfl, rfl, rfl, rfl, trivial⟩ rfl
        · refine TE.next ?_
          refine TW.cond rfl (fun H26 => ?_) (fun H26 => ?_)
          · refine TW.seq ?_
            refine TW.region ?_
            refine TO.y (Y.assign rfl) rfl rfl rfl ?_
            refine TO.nil ?_
            refine TE.next ?_
            refine TW.ret ?_
            refine TE.then_ret ?_
            refine TE.block_ret ?_
            refine TE.then_ret ?_
            refine TE.lp_ret ?_
            refine TE.block_ret ?_
            refine TE.jn_done ?_
            refine TE.then_ret ?_
            exact TE.leaf fun _ _ hf_ hs_ => ret_any (rs := [.tmp 2]) (vs := [.bool false]) (.inl rfl) rfl ⟨rfl, trivial⟩ hf_ hs_ ⟨(), rfl, hs_.pulls [] rfl⟩
          · refine TW.skip ?_
            refine TE.next ?_
            refine TW.seq ?_
            refine TW.joinBX (τ := Bool) (X := Unit) (fun T _ => [(0, V_l0), (8, V_l0), (9, .int .i64 ((l.length : Nat) : Int)), (10, .int .i64 S2), (68, .bool T)]) (fun _ _ => []) ?_ (fun T27 X28 => ?_)
            · refine TW.draw (isH := [.box B9 52 [.int .i64 E7.No, .int .i64 E7.Level, strV E7.Lo, strV E7.Hi]]) hMix ?_
              refine TA.y (listed' := #[true, false, false, false, false, false, false, false, false, false, false, false, false, false, false, false, false, false, false, false, false, false, false, false, false, false, false, false, false]) 0 [0] rfl (Y.move rfl) rfl rfl rfl (by kernel_rfl) (by kernel_rfl) (by kernel_rfl) rfl rfl ?_
              refine TA.y (listed' := #[true, true, false, false, false, false, false, false, false, false, false, false, false, false, false, false, false, false, false, false, false, false, false, false, false, false, false, false, false]) 1 [0] rfl (Y.gtr rfl rfl) rfl rfl rfl (by kernel_rfl) (by kernel_rfl) (by kernel_rfl) rfl rfl ?_
              refine TA.y (listed' := #[true, true, true, false, false, false, false, false, false, false, false, false, false, false, false, false, false, false, false, false, false, false, false, false, false, false, false, false, false]) 2 [0] rfl (Y.move rfl) rfl rfl rfl (by kernel_rfl) (by kernel_rfl) (by kernel_rfl) rfl rfl ?_
              refine TA.ite (b := decide (S2 > (0 : Int))) (fun H29 => ?_) (fun H29 => ?_)
              · refine TA.y (listed' := #[true, true, true, true, false, false, false, false, false, false, false, false, false, false, false, false, false, false, false, false, false, false, false, false, false, false, false, false, false]) 3 [0] rfl (Y.field_box kf52_1 rfl rfl) (Gd.at 2 true 42 (decide (S2 > (0 : Int))) rfl rfl rfl (beq_tt H29)) rfl rfl (by kernel_rfl) (by kernel_rfl) (by kernel_rfl) rfl rfl ?_
                refine TA.y (listed' := #[true, true, true, true, true, false, false, false, false, false, false, false, false, false, false, false, false, false, false, false, false, false, false, false, false, false, false, false, false]) 4 [0] rfl (Y.load_box (v := .int .i64 E7.Level) 0 kk3 rfl rfl rfl) (Gd.at 2 true 42 (decide (S2 > (0 : Int))) rfl rfl rfl (beq_tt H29)) rfl rfl (by kernel_rfl) (by kernel_rfl) (by kernel_rfl) rfl rfl ?_
                refine TA.y (listed' := #[true, true, true, true, true, true, false, false, false, false, false, false, false, false, false, false, false, false, false, false, false, false, false, false, false, false, false, false, false]) 5 [0] rfl (Y.gtr rfl rfl) (Gd.at 2 true 42 (decide (S2 > (0 : Int))) rfl rfl rfl (beq_tt H29)) rfl rfl (by kernel_rfl) (by kernel_rfl) (by kernel_rfl) rfl rfl ?_
                refine TA.y (listed' := #[true, true, true, true, true, true, true, false, false, false, false, false, false, false, false, false, false, false, false, false, false, false, false, false, false, false, false, false, false]) 6 [0] rfl (Y.pick_t H29 rfl rfl) rfl rfl rfl (by kernel_rfl) (by kernel_rfl) (by kernel_rfl) rfl rfl ?_
                refine TA.y (listed' := #[true, true, true, true, true, true, true, true, false, false, false, false, false, false, false, false, false, false, false, false, false, false, false, false, false, false, false, false, false]) 7 [0] rfl (Y.move rfl) rfl rfl rfl (by kernel_rfl) (by kernel_rfl) (by kernel_rfl) rfl rfl ?_
                refine TA.ite (b := decide (E7.Level > (0 : Int))) (fun H30 => ?_) (fun H30 => ?_)
                · refine TA.y (listed' := #[true, true, true, true, true, true, true, true, true, false, false, false, false, false, false, false, false, false, false, false, false, false, false, false, false, false, false, false, false]) 8 [0] rfl (Y.move rfl) (Gd.at 7 true 47 (decide (E7.Level > (0 : Int))) rfl rfl rfl (beq_tt H30)) rfl rfl (by kernel_rfl) (by kernel_rfl) (by kernel_rfl) rfl rfl ?_
                  refine TA.y (listed' := #[true, true, true, true, true, true, true, true, true, true, false, false, false, false, false, false, false, false, false, false, false, false, false, false, false, false, false, false, false]) 9 [0] rfl (Y.move rfl) (Gd.at 7 true 47 (decide (E7.Level > (0 : Int))) rfl rfl rfl (beq_tt H30)) rfl rfl (by kernel_rfl) (by kernel_rfl) (by kernel_rfl) rfl rfl ?_
                  refine TA.y (listed' := #[true, true, true, true, true, true, true, true, true, true, true, false, false, false, false, false, false, false, false, false, false, false, false, false, false, false, false, false, false]) 10 [0] rfl (Y.sub rfl rfl) (Gd.at 7 true 47 (decide (E7.Level > (0 : Int))) rfl rfl rfl (beq_tt H30)) rfl rfl (by kernel_rfl) (by kernel_rfl) (by kernel_rfl) rfl rfl ?_
                  refine TA.bind fun E31 H32 => ?_
                  refine TA.y (listed' := #[true, true, true, true, true, true, true, true, true, true, true, true, false, false, false, false, false, false, false, false, false, false, false, false, false, false, false, false, false]) 11 [0] rfl (Y.index ke28 (Base.can HB_V_l0) H32 rfl rfl) (Gd.at 7 true 47 (decide (E7.Level > (0 : Int))) rfl rfl rfl (beq_tt H30)) rfl rfl (by kernel_rfl) (by kernel_rfl) (by kernel_rfl) rfl rfl ?_
                  refine TA.y (listed' := #[true, true, true, true, true, true, true, true, true, true, true, true, true, false, false, false, false, false, false, false, false, false, false, false, false, false, false, false, false]) 12 [0] rfl (Y.field_el kf52_1 (Base.can HB_V_l0) (idx_get H32).2.2 rfl rfl) (Gd.at 7 true 47 (decide (E7.Level > (0 : Int))) rfl rfl rfl (beq_tt H30)) rfl rfl (by kernel_rfl) (by kernel_rfl) (by kernel_rfl) rfl rfl ?_
                  refine TA.y (listed' := #[true, true, true, true, true, true, true, true, true, true, true, true, true, true, false, false, false, false, false, false, false, false, false, false, false, false, false, false, false]) 13 [0] rfl (Y.load_el (us := [.int .i64 E31.Level]) (u := .int .i64 E31.Level) kk3 rfl (Base.can HB_V_l0) (idx_get H32).2.2 rfl rfl rfl rfl rfl) (Gd.at 7 true 47 (decide (E7.Level > (0 : Int))) rfl rfl rfl (beq_tt H30)) rfl rfl (by kernel_rfl) (by kernel_rfl) (by kernel_rfl) rfl rfl ?_
                  refine TA.y (listed' := #[true, true, true, true, true, true, true, true, true, true, true, true, true, true, true, false, false, false, false, false, false, false, false, false, false, false, false, false, false]) 14 [0] rfl (Y.field_box kf52_1 rfl rfl) (Gd.at 7 true 47 (decide (E7.Level > (0 : Int))) rfl rfl rfl (beq_tt H30)) rfl rfl (by kernel_rfl) (by kernel_rfl) (by kernel_rfl) rfl rfl ?_
                  refine TA.y (listed' := #[true, true, true, true, true, true, true, true, true, true, true, true, true, true, true, true, false, false, false, false, false, false, false, false, false, false, false, false, false]) 15 [0] rfl (Y.load_box (v := .int .i64 E7.Level) 0 kk3 rfl rfl rfl) (Gd.at 7 true 47 (decide (E7.Level > (0 : Int))) rfl rfl rfl (beq_tt H30)) rfl rfl (by kernel_rfl) (by kernel_rfl) (by kernel_rfl) rfl rfl ?_
                  refine TA.y (listed' := #[true, true, true, true, true, true, true, true, true, true, true, true, true, true, true, true, true, false, false, false, false, false, false, false, false, false, false, false, false]) 16 [0] rfl (Y.eql rfl rfl) (Gd.at 7 true 47 (decide (E7.Level > (0 : Int))) rfl rfl rfl (beq_tt H30)) rfl rfl (by kernel_rfl) (by kernel_rfl) (by kernel_rfl) rfl rfl ?_
                  refine TA.y (listed' := #[true, true, true, true, true, true, true, true, true, true, true, true, true, true, true, true, true, true, false, false, false, false, false, false, false, false, false, false, false]) 17 [0] rfl (Y.pick_t H30 rfl rfl) rfl rfl rfl (by kernel_rfl) (by kernel_rfl) (by kernel_rfl) rfl rfl ?_
                  refine TA.y (listed' := #[true, true, true, true, true, true, true, true, true, true, true, true, true, true, true, true, true, true, true, false, false, false, false, false, false, false, false, false, false]) 18 [0] rfl (Y.move rfl) rfl rfl rfl (by kernel_rfl) (by kernel_rfl) (by kernel_rfl) rfl rfl ?_
                  refine TA.ite (b := decide (E31.Level = E7.Level)) (fun H33 => ?_) (fun H33 => ?_)
                  · refine TA.y (listed' := #[true, true, true, true, true, true, true, true, true, true, true, true, true, true, true, true, true, true, true, true, false, false, false, false, false, false, false, false, false]) 19 [0] rfl (Y.field_box kf52_2 rfl rfl) (Gd.at 18 true 58 (decide (E31.Level = E7.Level)) rfl rfl rfl (beq_tt H33)) rfl rfl (by kernel_rfl) (by kernel_rfl) (by kernel_rfl) rfl rfl ?_
                    refine TA.y (listed' := #[true, true, true, true, true, true, true, true, true, true, true, true, true, true, true, true, true, true, true, true, true, false, false, false, false, false, false, false, false]) 20 [0] rfl (Y.load_box (v := strV E7.Lo) 0 kk9 rfl rfl rfl) (Gd.at 18 true 58 (decide (E31.Level = E7.Level)) rfl rfl rfl (beq_tt H33)) rfl rfl (by kernel_rfl) (by kernel_rfl) (by kernel_rfl) rfl rfl ?_
                    refine TA.y (listed' := #[true, true, true, true, true, true, true, true, true, true, true, true, true, true, true, true, true, true, true, true, true, true, false, false, false, false, false, false, false]) 21 [0] rfl (Y.move rfl) (Gd.at 18 true 58 (decide (E31.Level = E7.Level)) rfl rfl rfl (beq_tt H33)) rfl rfl (by kernel_rfl) (by kernel_rfl) (by kernel_rfl) rfl rfl ?_
                    refine TA.y (listed' := #[true, true, true, true, true, true, true, true, true, true, true, true, true, true, true, true, true, true, true, true, true, true, true, false, false, false, false, false, false]) 22 [0] rfl (Y.move rfl) (Gd.at 18 true 58 (decide (E31.Level = E7.Level)) rfl rfl rfl (beq_tt H33)) rfl rfl (by kernel_rfl) (by kernel_rfl) (by kernel_rfl) rfl rfl ?_
                    refine TA.y (listed' := #[true, true, true, true, true, true, true, true, true, true, true, true, true, true, true, true, true, true, true, true, true, true, true, true, false, false, false, false, false]) 23 [0] rfl (Y.sub rfl rfl) (Gd.at 18 true 58 (decide (E31.Level = E7.Level)) rfl rfl rfl (beq_tt H33)) rfl rfl (by kernel_rfl) (by kernel_rfl) (by kernel_rfl) rfl rfl ?_
                    refine TA.y (listed' := #[true, true, true, true, true, true, true, true, true, true, true, true, true, true, true, true, true, true, true, true, true, true, true, true, true, false, false, false, false]) 24 [0] rfl (Y.index ke28 (Base.can HB_V_l0) H32 rfl rfl) (Gd.at 18 true 58 (decide (E31.Level = E7.Level)) rfl rfl rfl (beq_tt H33)) rfl rfl (by kernel_rfl) (by kernel_rfl) (by kernel_rfl) rfl rfl ?_
                    refine TA.y (listed' := #[true, true, true, true, true, true, true, true, true, true, true, true, true, true, true, true, true, true, true, true, true, true, true, true, true, true, false, false, false]) 25 [0] rfl (Y.field_el kf52_3 (Base.can HB_V_l0) (idx_get H32).2.2 rfl rfl) (Gd.at 18 true 58 (decide (E31.Level = E7.Level)) rfl rfl rfl (beq_tt H33)) rfl rfl (by kernel_rfl) (by kernel_rfl) (by kernel_rfl) rfl rfl ?_
                    refine TA.y (listed' := #[true, true, true, true, true, true, true, true, true, true, true, true, true, true, true, true, true, true, true, true, true, true, true, true, true, true, true, false, false]) 26 [0] rfl (Y.load_el (us := [strV E31.Hi]) (u := strV E31.Hi) kk9 rfl (Base.can HB_V_l0) (idx_get H32).2.2 rfl rfl rfl rfl rfl) (Gd.at 18 true 58 (decide (E31.Level = E7.Level)) rfl rfl rfl (beq_tt H33)) rfl rfl (by kernel_rfl) (by kernel_rfl) (by kernel_rfl) rfl rfl ?_
                    refine TA.y (listed' := #[true, true, true, true, true, true, true, true, true, true, true, true, true, true, true, true, true, true, true, true, true, true, true, true, true, true, true, true, false]) 27 [0] rfl (Y.sleq rfl rfl) (Gd.at 18 true 58 (decide (E31.Level = E7.Level)) rfl rfl rfl (beq_tt H33)) rfl rfl (by kernel_rfl) (by kernel_rfl) (by kernel_rfl) rfl rfl ?_
                    refine TA.y (listed' := #[true, true, true, true, true, true, true, true, true, true, true, true, true, true, true, true, true, true, true, true, true, true, true, true, true, true, true, true, true]) 28 [0] rfl (Y.pick_t H33 rfl rfl) rfl rfl rfl (by kernel_rfl) (by kernel_rfl) (by kernel_rfl) rfl rfl ?_
                    refine TA.nil (by kernel_rfl) ?_
                    exact TE.jb_go () [] ⟨rfl, rfl, rfl, rfl, rfl, trivial⟩ rfl
                  · refine TA.off (listed' := #[true, true, true, true, true, true, true, true, true, true, true, true, true, true, true, true, true, true, true, true, false, false, false, false, false, false, false, false, false]) 19 [0] rfl (Gd.at 18 true 58 (decide (E31.Level = E7.Level)) rfl rfl rfl (beq_ft H33)) rfl rfl (by kernel_rfl) (by kernel_rfl) (by kernel_rfl) rfl rfl ?_
                    refine TA.off (listed' := #[true, true, true, true, true, true, true, true, true, true, true, true, true, true, true, true, true, true, true, true, true, false, false, false, false, false, false, false, false]) 20 [0] rfl (Gd.at 18 true 58 (decide (E31.Level = E7.Level)) rfl rfl rfl (beq_ft H33)) rfl rfl (by kernel_rfl) (by kernel_rfl) (by kernel_rfl) rfl rfl ?_
                    refine TA.off (listed' := #[true, true, true, true, true, true, true, true, true, true, true, true, true, true, true, true, true, true, true, true, true, true, false, false, false, false, false, false, false]) 21 [0] rfl (Gd.at 18 true 58 (decide (E31.Level = E7.Level)) rfl rfl rfl (beq_ft H33)) rfl rfl (by kernel_rfl) (by kernel_rfl) (by kernel_rfl) rfl rfl ?_
                    refine TA.off (listed' := #[true, true, true, true, true, true, true, true, true, true, true, true, true, true, true, true, true, true, true, true, true, true, true, false, false, false, false, false, false]) 22 [0] rfl (Gd.at 18 true 58 (decide (E31.Level = E7.Level)) rfl rfl rfl (beq_ft H33)) rfl rfl (by kernel_rfl) (by kernel_rfl) (by kernel_rfl) rfl rfl ?_
                    refine TA.off (listed' := #[true, true, true, true, true, true, true, true, true, true, true, true, true, true, true, true, true, true, true, true, true, true, true, true, false, false, false, false, false]) 23 [0] rfl (Gd.at 18 true 58 (decide (E31.Level = E7.Level)) rfl rfl rfl (beq_ft H33)) rfl rfl (by kernel_rfl) (by kernel_rfl) (by kernel_rfl) rfl rfl ?_
                    refine TA.off (listed' := #[true, true, true, true, true, true, true, true, true, true, true, true, true, true, true, true, true, true, true, true, true, true, true, true, true, false, false, false, false]) 24 [0] rfl (Gd.at 18 true 58 (decide (E31.Level = E7.Level)) rfl rfl rfl (beq_ft H33)) rfl rfl (by kernel_rfl) (by kernel_rfl) (by kernel_rfl) rfl rfl ?_
                    refine TA.off (listed' := #[true, true, true, true, true, true, true, true, true, true, true, true, true, true, true, true, true, true, true, true, true, true, true, true, true, true, false, false, false]) 25 [0] rfl (Gd.at 18 true 58 (decide (E31.Level = E7.Level)) rfl rfl rfl (beq_ft H33)) rfl rfl (by kernel_rfl) (by kernel_rfl) (by kernel_rfl) rfl rfl ?_
                    refine TA.off (listed' := #[true, true, true, true, true, true, true, true, true, true, true, true, true, true, true, true, true, true, true, true, true, true, true, true, true, true, true, false, false]) 26 [0] rfl (Gd.at 18 true 58 (decide (E31.Level = E7.Level)) rfl rfl rfl (beq_ft H33)) rfl rfl (by kernel_rfl) (by kernel_rfl) (by kernel_rfl) rfl rfl ?_
                    refine TA.off (listed' := #[true, true, true, true, true, true, true, true, true, true, true, true, true, true, true, true, true, true, true, true, true, true, true, true, true, true, true, true, false]) 27 [0] rfl (Gd.at 18 true 58 (decide (E31.Level = E7.Level)) rfl rfl rfl (beq_ft H33)) rfl rfl (by kernel_rfl) (by kernel_rfl) (by kernel_rfl) rfl rfl ?_
                    refine TA.y (listed' := #[true, true, true, true, true, true, true, true, true, true, true, true, true, true, true, true, true, true, true, true, true, true, true, true, true, true, true, true, true]) 28 [0] rfl (Y.pick_f H33 rfl rfl) rfl rfl rfl (by kernel_rfl) (by kernel_rfl) (by kernel_rfl) rfl rfl ?_
                    refine TA.nil (by kernel_rfl) ?_
                    exact TE.jb_go () [] ⟨rfl, rfl, rfl, rfl, rfl, trivial⟩ rfl
                · refine TA.off (listed' := #[true, true, true, true, true, true, true, true, true, false, false, false, false, false, false, false, false, false, false, false, false, false, false, false, false, false, false, false, false]) 8 [0] rfl (Gd.at 7 true 47 (decide (E7.Level > (0 : Int))) rfl rfl rfl (beq_ft H30)) rfl rfl (by kernel_rfl) (by kernel_rfl) (by kernel_rfl) rfl rfl ?_
                  refine TA.off (listed' := #[true, true, true, true, true, true, true, true, true, true, false, false, false, false, false, false, false, false, false, false, false, false, false, false, false, false, false, false, false]) 9 [0] rfl (Gd.at 7 true 47 (decide (E7.Level > (0 : Int))) rfl rfl rfl (beq_ft H30)) rfl rfl (by kernel_rfl) (by kernel_rfl) (by kernel_rfl) rfl rfl ?_
                  refine TA.off (listed' := #[true, true, true, true, true, true, true, true, true, true, true, false, false, false, false, false, false, false, false, false, false, false, false, false, false, false, false, false, false]) 10 [0] rfl (Gd.at 7 true 47 (decide (E7.Level > (0 : Int))) rfl rfl rfl (beq_ft H30)) rfl rfl (by kernel_rfl) (by kernel_rfl) (by kernel_rfl) rfl rfl ?_
                  refine TA.off (listed' := #[true, true, true, true, true, true, true, true, true, true, true, true, false, false, false, false, false, false, false, false, false, false, false, false, false, false, false, false, false]) 11 [0] rfl (Gd.at 7 true 47 (decide (E7.Level > (0 : Int))) rfl rfl rfl (beq_ft H30)) rfl rfl (by kernel_rfl) (by kernel_rfl) (by kernel_rfl) rfl rfl ?_
                  refine TA.off (listed' := #[true, true, true, true, true, true, true, true, true, true, true, true, true, false, false, false, false, false, false, false, false, false, false, false, false, false, false, false, false]) 12 [0] rfl (Gd.at 7 true 47 (decide (E7.Level > (0 : Int))) rfl rfl rfl (beq_ft H30)) rfl rfl (by kernel_rfl) (by kernel_rfl) (by kernel_rfl) rfl rfl ?_
                  refine TA.off (listed' := #[true, true, true, true, true, true, true, true, true, true, true, true, true, true, false, false, false, false, false, false, false, false, false, false, false, false, false, false, false]) 13 [0] rfl (Gd.at 7 true 47 (decide (E7.Level > (0 : Int))) rfl rfl rfl (beq_ft H30)) rfl rfl (by kernel_rfl) (by kernel_rfl) (by kernel_rfl) rfl rfl ?_
                  refine TA.off (listed' := #[true, true, true, true, true, true, true, true, true, true, true, true, true, true, true, false, false, false, false, false, false, false, false, false, false, false, false, false, false]) 14 [0] rfl (Gd.at 7 true 47 (decide (E7.Level > (0 : Int))) rfl rfl rfl (beq_ft H30)) rfl rfl (by kernel_rfl) (by kernel_rfl) (by kernel_rfl) rfl rfl ?_
                  refine TA.off (listed' := #[true, true, true, true, true, true, true, true, true, true, true, true, true, true, true, true, false, false, false, false, false, false, false, false, false, false, false, false, false]) 15 [0] rfl (Gd.at 7 true 47 (decide (E7.Level > (0 : Int))) rfl rfl rfl (beq_ft H30)) rfl rfl (by kernel_rfl) (by kernel_rfl) (by kernel_rfl) rfl rfl ?_
                  refine TA.off (listed' := #[true, true, true, true, true, true, true, true, true, true, true, true, true, true, true, true, true, false, false, false, false, false, false, false, false, false, false, false, false]) 16 [0] rfl (Gd.at 7 true 47 (decide (E7.Level > (0 : Int))) rfl rfl rfl (beq_ft H30)) rfl rfl (by kernel_rfl) (by kernel_rfl) (by kernel_rfl) rfl rfl ?_
                  refine TA.y (listed' := #[true, true, true, true, true, true, true, true, true, true, true, true, true, true, true, true, true, true, false, false, false, false, false, false, false, false, false, false, false]) 17 [0] rfl (Y.pick_f H30 rfl rfl) rfl rfl rfl (by kernel_rfl) (by kernel_rfl) (by kernel_rfl) rfl rfl ?_
                  refine TA.y (listed' := #[true, true, true, true, true, true, true, true, true, true, true, true, true, true, true, true, true, true, true, false, false, false, false, false, false, false, false, false, false]) 18 [0] rfl (Y.move rfl) rfl rfl rfl (by kernel_rfl) (by kernel_rfl) (by kernel_rfl) rfl rfl ?_
                  refine TA.off (listed' := #[true, true, true, true, true, true, true, true, true, true, true, true, true, true, true, true, true, true, true, true, false, false, false, false, false, false, false, false, false]) 19 [0] rfl (Gd.at 18 true 58 false rfl rfl rfl rfl) rfl rfl (by kernel_rfl) (by kernel_rfl) (by kernel_rfl) rfl rfl ?_
                  refine TA.off (listed' := #[true, true, true, true, true, true, true, true, true, true, true, true, true, true, true, true, true, true, true, true, true, false, false, false, false, false, false, false, false]) 20 [0] rfl (Gd.at 18 true 58 false rfl rfl rfl rfl) rfl rfl (by kernel_rfl) (by kernel_rfl) (by kernel_rfl) rfl rfl ?_
                  refine TA.off (listed' := #[true, true, true, true, true, true, true, true, true, true, true, true, true, true, true, true, true, true, true, true, true, true, false, false, false, false, false, false, false]) 21 [0] rfl (Gd.at 18 true 58 false rfl rfl rfl rfl) rfl rfl (by kernel_rfl) (by kernel_rfl) (by kernel_rfl) rfl rfl ?_
                  refine TA.off (listed' := #[true, true, true, true, true, true, true, true, true, true, true, true, true, true, true, true, true, true, true, true, true, true, true, false, false, false, false, false, false]) 22 [0] rfl (Gd.at 18 true 58 false rfl rfl rfl rfl) rfl rfl (by kernel_rfl) (by kernel_rfl) (by kernel_rfl) rfl rfl ?_
                  refine TA.off (listed' := #[true, true, true, true, true, true, true, true, true, true, true, true, true, true, true, true, true, true, true, true, true, true, true, true, false, false, false, false, false]) 23 [0] rfl (Gd.at 18 true 58 false rfl rfl rfl rfl) rfl rfl (by kernel_rfl) (by kernel_rfl) (by kernel_rfl) rfl rfl ?_
                  refine TA.off (listed' := #[true, true, true, true, true, true, true, true, true, true, true, true, true, true, true, true, true, true, true, true, true, true, true, true, true, false, false, false, false]) 24 [0] rfl (Gd.at 18 true 58 false rfl rfl rfl rfl) rfl rfl (by kernel_rfl) (by kernel_rfl) (by kernel_rfl) rfl rfl ?_
                  refine TA.off (listed' := #[true, true, true, true, true, true, true, true, true, true, true, true, true, true, true, true, true, true, true, true, true, true, true, true, true, true, false, false, false]) 25 [0] rfl (Gd.at 18 true 58 false rfl rfl rfl rfl) rfl rfl (by kernel_rfl) (by kernel_rfl) (by kernel_rfl) rfl rfl ?_
                  refine TA.off (listed' := #[true, true, true, true, true, true, true, true, true, true, true, true, true, true, true, true, true, true, true, true, true, true, true, true, true, true, true, false, false]) 26 [0] rfl (Gd.at 18 true 58 false rfl rfl rfl rfl) rfl rfl (by kernel_rfl) (by kernel_rfl) (by kernel_rfl) rfl rfl ?_
                  refine TA.off (listed' := #[true, true, true, true, true, true, true, true, true, true, true, true, true, true, true, true, true, true, true, true, true, true, true, true, true, true, true, true, false]) 27 [0] rfl (Gd.at 18 true 58 false rfl rfl rfl rfl) rfl rfl (by kernel_rfl) (by kernel_rfl) (by kernel_rfl) rfl rfl ?_
                  refine TA.y (listed' := #[true, true, true, true, true, true, true, true, true, true, true, true, true, true, true, true, true, true, true, true, true, true, true, true, true, true, true, true, true]) 28 [0] rfl (Y.pick_f rfl rfl rfl) rfl rfl rfl (by kernel_rfl) (by kernel_rfl) (by kernel_rfl) rfl rfl ?_
                  refine TA.nil (by kernel_rfl) ?_
                  exact TE.jb_go () [] ⟨rfl, rfl, rfl, rfl, rfl, trivial⟩ rfl
              · refine TA.off (listed' := #[true, true, true, true, false, false, false, false, false, false, false, false, false, false, false, false, false, false, false, false, false, false, false, false, false, false, false, false, false]) 3 [0] rfl (Gd.at 2 true 42 (decide (S2 > (0 : Int))) rfl rfl rfl (beq_ft H29)) rfl rfl (by kernel_rfl) (by kernel_rfl) (by kernel_rfl) rfl rfl ?_
                refine TA.off (listed' := #[true, true, true, true, true, false, false, false, false, false, false, false, false, false, false, false, false, false, false, false, false, false, false, false, false, false, false, false, false]) 4 [0] rfl (Gd.at 2 true 42 (decide (S2 > (0 : Int))) rfl rfl rfl (beq_ft H29)) rfl rfl (by kernel_rfl) (by kernel_rfl) (by kernel_rfl) rfl rfl ?_
                refine TA.off (listed' := #[true, true, true, true, true, true, false, false, false, false, false, false, false, false, false, false, false, false, false, false, false, false, false, false, false, false, false, false, false]) 5 [0] rfl (Gd.at 2 true 42 (decide (S2 > (0 : Int))) rfl rfl rfl (beq_ft H29)) rfl rfl (by kernel_rfl) (by kernel_rfl) (by kernel_rfl) rfl rfl ?_
                refine TA.y (listed' := #[true, true, true, true, true, true, true, false, false, false, false, false, false, false, false, false, false, false, false, false, false, false, false, false, false, false, false, false, false]) 6 [0] rfl (Y.pick_f H29 rfl rfl) rfl rfl rfl (by kernel_rfl) (by kernel_rfl) (by kernel_rfl) rfl rfl ?_
                refine TA.y (listed' := #[true, true, true, true, true, true, true, true, false, false, false, false, false, false, false, false, false, false, false, false, false, false, false, false, false, false, false, false, false]) 7 [0] rfl (Y.move rfl) rfl rfl rfl (by kernel_rfl) (by kernel_rfl) (by kernel_rfl) rfl rfl ?_
                refine TA.off (listed' := #[true, true, true, true, true, true, true, true, true, false, false, false, false, false, false, false, false, false, false, false, false, false, false, false, false, false, false, false, false]) 8 [0] rfl (Gd.at 7 true 47 false rfl rfl rfl rfl) rfl rfl (by kernel_rfl) (by kernel_rfl) (by kernel_rfl) rfl rfl ?_
                refine TA.off (listed' := #[true, true, true, true, true, true, true, true, true, true, false, false, false, false, false, false, false, false, false, false, false, false, false, false, false, false, false, false, false]) 9 [0] rfl (Gd.at 7 true 47 false rfl rfl rfl rfl) rfl rfl (by kernel_rfl) (by kernel_rfl) (by kernel_rfl) rfl rfl ?_
                refine TA.off (listed' := #[true, true, true, true, true, true, true, true, true, true, true, false, false, false, false, false, false, false, false, false, false, false, false, false, false, false, false, false, false]) 10 [0] rfl (Gd.at 7 true 47 false rfl rfl rfl rfl) rfl rfl (by kernel_rfl) (by kernel_rfl) (by kernel_rfl) rfl rfl ?_
                refine TA.off (listed' := #[true, true, true, true, true, true, true, true, true, true, true, true, false, false, false, false, false, false, false, false, false, false, false, false, false, false, false, false, false]) 11 [0] rfl (Gd.at 7 true 47 false rfl rfl rfl rfl) rfl rfl (by kernel_rfl) (by kernel_rfl) (by kernel_rfl) rfl rfl ?_
                refine TA.off (listed' := #[true, true, true, true, true, true, true, true, true, true, true, true, true, false, false, false, false, false, false, false, false, false, false, false, false, false, false, false, false]) 12 [0] rfl (Gd.at 7 true 47 false rfl rfl rfl rfl) rfl rfl (by kernel_rfl) (by kernel_rfl) (by kernel_rfl) rfl rfl ?_
                refine TA.off (listed' := #[true, true, true, true, true, true, true, true, true, true, true, true, true, true, false, false, false, false, false, false, false, false, false, false, false, false, false, false, false]) 13 [0] rfl (Gd.at 7 true 47 false rfl rfl rfl rfl) rfl rfl (by kernel_rfl) (by kernel_rfl) (by kernel_rfl) rfl rfl ?_
                refine TA.off (listed' := #[true, true, true, true, true, true, true, true, true, true, true, true, true, true, true, false, false, false, false, false, false, false, false, false, false, false, false, false, false]) 14 [0] rfl (Gd.at 7 true 47 false rfl rfl rfl rfl) rfl rfl (by kernel_rfl) (by kernel_rfl) (by kernel_rfl) rfl rfl ?_
                refine TA.off (listed' := #[true, true, true, true, true, true, true, true, true, true, true, true, true, true, true, true, false, false, false, false, false, false, false, false, false, false, false, false, false]) 15 [0] rfl (Gd.at 7 true 47 false rfl rfl rfl rfl) rfl rfl (by kernel_rfl) (by kernel_rfl) (by kernel_rfl) rfl rfl ?_
                refine TA.off (listed' := #[true, true, true, true, true, true, true, true, true, true, true, true, true, true, true, true, true, false, false, false, false, false, false, false, false, false, false, false, false]) 16 [0] rfl (Gd.at 7 true 47 false rfl rfl rfl rfl) rfl rfl (by kernel_rfl) (by kernel_rfl) (by kernel_rfl) rfl rfl ?_
                refine TA.y (listed' := #[true, true, true, true, true, true, true, true, true, true, true, true, true, true, true, true, true, true, false, false, false, false, false, false, false, false, false, false, false]) 17 [0] rfl (Y.pick_f rfl rfl rfl) rfl rfl rfl (by kernel_rfl) (by kernel_rfl) (by kernel_rfl) rfl rfl ?_
                refine TA.y (listed' := #[true, true, true, true, true, true, true, true, true, true, true, true, true, true, true, true, true, true, true, false, false, false, false, false, false, false, false, false, false]) 18 [0] rfl (Y.move rfl) rfl rfl rfl (by kernel_rfl) (by kernel_rfl) (by kernel_rfl) rfl rfl ?_
                refine TA.off (listed' := #[true, true, true, true, true, true, true, true, true, true, true, true, true, true, true, true, true, true, true, true, false, false, false, false, false, false, false, false, false]) 19 [0] rfl (Gd.at 18 true 58 false rfl rfl rfl rfl) rfl rfl (by kernel_rfl) (by kernel_rfl) (by kernel_rfl) rfl rfl ?_
                refine TA.off (listed' := #[true, true, true, true, true, true, true, true, true, true, true, true, true, true, true, true, true, true, true, true, true, false, false, false, false, false, false, false, false]) 20 [0] rfl (Gd.at 18 true 58 false rfl rfl rfl rfl) rfl rfl (by kernel_rfl) (by kernel_rfl) (by kernel_rfl) rfl rfl ?_
                refine TA.off (listed' := #[true, true, true, true, true, true, true, true, true, true, true, true, true, true, true, true, true, true, true, true, true, true, false, false, false, false, false, false, false]) 21 [0] rfl (Gd.at 18 true 58 false rfl rfl rfl rfl) rfl rfl (by kernel_rfl) (by kernel_rfl) (by kernel_rfl) rfl rfl ?_
                refine TA.off (listed' := #[true, true, true, true, true, true, true, true, true, true, true, true, true, true, true, true, true, true, true, true, true, true, true, false, false, false, false, false, false]) 22 [0] rfl (Gd.at 18 true 58 false rfl rfl rfl rfl) rfl rfl (by kernel_rfl) (by kernel_rfl) (by kernel_rfl) rfl rfl ?_
                refine TA.off (listed' := #[true, true, true, true, true, true, true, true, true, true, true, true, true, true, true, true, true, true, true, true, true, true, true, true, false, false, false, false, false]) 23 [0] rfl (Gd.at 18 true 58 false rfl rfl rfl rfl) rfl rfl (by kernel_rfl) (by kernel_rfl) (by kernel_rfl) rfl rfl ?_
                refine TA.off (listed' := #[true, true, true, true, true, true, true, true, true, true, true, true, true, true, true, true, true, true, true, true, true, true, true, true, true, false, false, false, false]) 24 [0] rfl (Gd.at 18 true 58 false rfl rfl rfl rfl) rfl rfl (by kernel_rfl) (by kernel_rfl) (by kernel_rfl) rfl rfl ?_
                refine TA.off (listed' := #[true, true, true, true, true, true, true, true, true, true, true, true, true, true, true, true, true, true, true, true, true, true, true, true, true, true, false, false, false]) 25 [0] rfl (Gd.at 18 true 58 false rfl rfl rfl rfl) rfl rfl (by kernel_rfl) (by kernel_rfl) (by kernel_rfl) rfl rfl ?_
                refine TA.off (listed' := #[true, true, true, true, true, true, true, true, true, true, true, true, true, true, true, true, true, true, true, true, true, true, true, true, true, true, true, false, false]) 26 [0] rfl (Gd.at 18 true 58 false rfl rfl rfl rfl) rfl rfl (by kernel_rfl) (by kernel_rfl) (by kernel_rfl) rfl rfl ?_
                refine TA.off (listed' := #[true, true, true, true, true, true, true, true, true, true, true, true, true, true, true, true, true, true, true, true, true, true, true, true, true, true, true, true, false]) 27 [0] rfl (Gd.at 18 true 58 false rfl rfl rfl rfl) rfl rfl (by kernel_rfl) (by kernel_rfl) (by kernel_rfl) rfl rfl ?_
                refine TA.y (listed' := #[true, true, true, true, true, true, true, true, true, true, true, true, true, true, true, true, true, true, true, true, true, true, true, true, true, true, true, true, true]) 28 [0] rfl (Y.pick_f rfl rfl rfl) rfl rfl rfl (by kernel_rfl) (by kernel_rfl) (by kernel_rfl) rfl rfl ?_
                refine TA.nil (by kernel_rfl) ?_
                exact TE.jb_go () [] ⟨rfl, rfl, rfl, rfl, rfl, trivial⟩ rfl
            · refine TE.next ?_
              refine TW.cond rfl (fun H34 => ?_) (fun H34 => ?_)
              · refine TW.seq ?_
                refine TW.region ?_
                refine TO.y (Y.assign rfl) rfl rfl rfl ?_
                refine TO.nil ?_
                refine TE.next ?_
                refine TW.ret ?_
                refine TE.block_ret ?_
                refine TE.then_ret ?_
                refine TE.lp_ret ?_
                refine TE.block_ret ?_
                refine TE.jn_done ?_
                refine TE.then_ret ?_
                exact TE.leaf fun _ _ hf_ hs_ => ret_any (rs := [.tmp 2]) (vs := [.bool false]) (.inl rfl) rfl ⟨rfl, trivial⟩ hf_ hs_ ⟨(), rfl, hs_.pulls [] rfl⟩
              · refine TW.skip ?_
                refine TE.block_normal ?_
                refine TE.next ?_
                refine TW.region ?_
                refine TO.y (Y.add rfl rfl) rfl rfl rfl ?_
                refine TO.y (Y.move rfl) rfl rfl rfl ?_
                refine TO.nil ?_
                exact TE.lp_go () [] ⟨rfl, rfl, rfl, rfl, trivial⟩ rfl
      · refine TW.exit ?_
        refine TE.then_exit ?_
        refine TE.lp_exit ?_
        refine TE.block_exit ?_
        exact TE.jn_go () [] trivial rfl
    · refine TE.next ?_
      refine TW.seq ?_
      refine TW.region ?_
      refine TO.y (Y.assign rfl) rfl rfl rfl ?_
      refine TO.nil ?_
      refine TE.next ?_
      refine TW.ret ?_
      exact TE.leaf fun _ _ hf_ hs_ => ret_any (rs := [.tmp 2]) (vs := [.bool true]) (.inl rfl) rfl ⟨rfl, trivial⟩ hf_ hs_ ⟨(), rfl, hs_.pulls [] rfl⟩

/-- slices.Clone[[]loop.example/g00950/impl.File,loop.example/g00950/impl.File] -/
noncomputable def slices_Clone_68810 (s : List File) : Option (List File) :=
  (app 48 ([] : List File) s).bind fun E4 =>
  some E4

theorem slices_Clone_68810_con (s : List File) (V_s0 : Value) (r : List File) (hm : slices_Clone_68810 s = some r) :
    Con Try.prog 67 [V_s0] [] [(V_s0, lc s)] (fun X : Value => X) (fun X => [.own X (lc r)]) := by
  refine Con.intro (args := [V_s0]) (n := 8) (val := fun _ (X : Value) => X) (post := fun r X => [.own X (lc r)]) (m := slices_Clone_68810 s) Try.func67 rfl rfl rfl hm ?_
  intro w S hrd
  have HB_V_s0 := hrd _ (.head _)
  clear hrd
  unfold slices_Clone_68810
  refine TW.seq ?_
  refine TW.region ?_
  refine TO.y (Y.assign rfl) rfl rfl rfl ?_
  refine TO.nil ?_
  refine TE.next ?_
  refine TW.seq ?_
  refine TW.seq ?_
  refine TW.region ?_
  refine TO.y (Y.move rfl) rfl rfl rfl ?_
  refine TO.y (Y.nileq ke28 (Base.can HB_V_s0) rfl rfl) rfl rfl rfl ?_
  refine TO.nil ?_
  refine TE.next ?_
  refine TW.cond_nil (Base.can HB_V_s0) rfl (fun hnil_ => ?_) ?_
  · subst hnil_
    show TW _ _ _ (some ([])) _ _ _ _ _
    refine TW.seq ?_
    refine TW.region ?_
    refine TO.y (Y.assign rfl) rfl rfl rfl ?_
    refine TO.nil ?_
    refine TE.next ?_
    refine TW.ret ?_
    refine TE.then_ret ?_
    exact TE.leaf fun _ _ hf_ hs_ => ret_any (rs := [.tmp 2]) (vs := [.slice none 0 0]) (.inl rfl) rfl ⟨rfl, trivial⟩ hf_ hs_ ⟨(.slice none 0 0), rfl, (hs_.nilItem 4).pulls [0] rfl⟩
  · refine TW.skip ?_
    refine TE.next ?_
    refine TW.seq ?_
    refine TW.region ?_
    refine TO.ef (Ef.buildSlice (α := File) (Vs := []) ([] : List File) ke28 kz52 rfl rfl rfl rfl rfl) rfl rfl rfl (fun B2 => ?_)
    refine TO.y (Y.move rfl) rfl rfl rfl ?_
    refine TO.bind fun E4 H5 => ?_
    refine TO.ef (Ef.append (α := File) (is' := []) [0] H5 ke28 kz52 rfl rfl rfl rfl rfl (Base.can HB_V_s0)) rfl rfl rfl (fun V3 => ?_)
    refine TO.y (Y.assign rfl) rfl rfl rfl ?_
    refine TO.nil ?_
    refine TE.next ?_
    refine TW.ret ?_
    exact TE.leaf fun _ _ hf_ hs_ => ret_any (rs := [.tmp 2]) (vs := [V3]) (.inl rfl) rfl ⟨rfl, trivial⟩ hf_ hs_ ⟨V3, rfl, hs_.pulls [0] rfl⟩

end Go.Proofs.Ythlnhpkdccojcaa
