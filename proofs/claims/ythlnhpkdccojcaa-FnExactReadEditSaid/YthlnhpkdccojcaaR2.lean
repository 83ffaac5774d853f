/-
  The functions that a law reaches, each as a pure function, with the proof that the program computes it, and the step from a pure law to the given statement. Conditions: none.
-/
import Derived.Test.YthlnhpkdccojcaaR1
set_option linter.unusedVariables false
set_option maxRecDepth 100000
set_option maxHeartbeats 4000000
namespace Go.Proofs.Ythlnhpkdccojcaa
open Go Sl

/-- loop.example/g00950/impl.editOk -/
noncomputable def impl_editOk (e : Edit) : Option Bool :=
  (if (decide (((e.Add.length : Nat) : Int) > (12 : Int))) = true then (some true)
  else (some (decide (((e.Drop.length : Nat) : Int) > (12 : Int))))).bind (fun (T2 : Bool) =>
  if T2 = true then (some false)
  else (bindC (loopO (fun (S6 : Int) => if (decide (S6 < ((e.Drop.length : Nat) : Int))) = true then ((idx e.Drop S6).bind fun E11 =>
  (impl_isNumber E11).bind fun R13 =>
  if (!R13) = true then (some (.done (.done false)))
  else (some (.go (IntKind.i64.wrap (S6 + (1 : Int))))))
  else (some (.done (.go ()))))
  (0 : Int))
  (fun (T8 : Unit) => bindC (loopO (fun (S17 : Int) => if (decide (S17 < ((e.Add.length : Nat) : Int))) = true then ((idx e.Add S17).bind fun E22 =>
  ((impl_isNumber E22.No).bind fun R27 =>
  if (!R27) = true then (some true)
  else ((impl_isNumber E22.Level).bind fun R31 =>
  if (!R31) = true then (some true)
  else (if (decide (((E22.Lo.length : Nat) : Int) > (10 : Int))) = true then (some true)
  else (some (decide (((E22.Hi.length : Nat) : Int) > (10 : Int))))))).bind (fun (T25 : Bool) =>
  if T25 = true then (some (.done (.done false)))
  else (some (.go (IntKind.i64.wrap (S17 + (1 : Int)))))))
  else (some (.done (.go ()))))
  (0 : Int))
  (fun (T19 : Unit) => some true))))

theorem impl_editOk_con (e : Edit) (V_e0 : Value) (V_e1 : Value) (r : Bool) (hm : impl_editOk e = some r) :
    Con Try.prog 33 [.agg #[V_e0, V_e1]] [] [(V_e0, lc e.Add), (V_e1, lc e.Drop)] (fun _ : Unit => .bool r) (fun _ => []) := by
  refine Con.intro (args := [.agg #[V_e0, V_e1]]) (n := 58) (val := fun r (_ : Unit) => .bool r) (post := fun _ _ => []) (m := impl_editOk e) Try.func33 rfl rfl rfl hm ?_
  intro w S hrd
  have HB_V_e0 := hrd _ (.head _)
  have HB_V_e1 := hrd _ (.tail _ (.head _))
  clear hrd
  unfold impl_editOk
  refine TW.seq ?_
  refine TW.region ?_
  refine TO.ef (Ef.box rfl (Cel.agg ⟨(One.can (Base.can HB_V_e0)), (One.can (Base.can HB_V_e1)), trivial⟩)) rfl rfl rfl (fun B1 => ?_)
  refine TO.y (Y.assign rfl) rfl rfl rfl ?_
  refine TO.nil ?_
  refine TE.next ?_
  refine TW.seq ?_
  refine TW.seq ?_
  refine TW.joinBX (τ := Bool) (X := Unit) (fun T _ => [(1, .pointer (some ⟨B1, 0, none⟩)), (16, .bool T)]) (fun _ _ => [.box B1 30 [V_e0, V_e1]]) ?_ (fun T2 X3 => ?_)
  · refine TW.region ?_
    refine TO.y (Y.field_box kf30_0 rfl rfl) rfl rfl rfl ?_
    refine TO.y (Y.load_box (v := V_e0) 0 kk28 rfl rfl rfl) rfl rfl rfl ?_
    refine TO.y (Y.len (l := e.Add) ke28 (Base.can HB_V_e0) rfl) rfl rfl rfl ?_
    refine TO.y (Y.gtr rfl rfl) rfl rfl rfl ?_
    refine TO.y (Y.move rfl) rfl rfl rfl ?_
    refine TO.ite (b := decide (((e.Add.length : Nat) : Int) > (12 : Int))) (fun H4 => ?_) (fun H4 => ?_)
    · refine TO.off (Gd.at 4 false 11 (decide (((e.Add.length : Nat) : Int) > (12 : Int))) rfl rfl rfl (beq_tf H4)) rfl rfl ?_
      refine TO.off (Gd.at 4 false 11 (decide (((e.Add.length : Nat) : Int) > (12 : Int))) rfl rfl rfl (beq_tf H4)) rfl rfl ?_
      refine TO.off (Gd.at 4 false 11 (decide (((e.Add.length : Nat) : Int) > (12 : Int))) rfl rfl rfl (beq_tf H4)) rfl rfl ?_
      refine TO.off (Gd.at 4 false 11 (decide (((e.Add.length : Nat) : Int) > (12 : Int))) rfl rfl rfl (beq_tf H4)) rfl rfl ?_
      refine TO.y (Y.pick_t H4 rfl rfl) rfl rfl rfl ?_
      refine TO.nil ?_
      exact TE.jb_go () [0] ⟨rfl, rfl, trivial⟩ rfl
    · refine TO.y (Y.field_box kf30_1 rfl rfl) (Gd.at 4 false 11 (decide (((e.Add.length : Nat) : Int) > (12 : Int))) rfl rfl rfl (beq_ff H4)) rfl rfl ?_
      refine TO.y (Y.load_box (v := V_e1) 0 kk23 rfl rfl rfl) (Gd.at 4 false 11 (decide (((e.Add.length : Nat) : Int) > (12 : Int))) rfl rfl rfl (beq_ff H4)) rfl rfl ?_
      refine TO.y (Y.len (l := e.Drop) ke23 (Base.can HB_V_e1) rfl) (Gd.at 4 false 11 (decide (((e.Add.length : Nat) : Int) > (12 : Int))) rfl rfl rfl (beq_ff H4)) rfl rfl ?_
      refine TO.y (Y.gtr rfl rfl) (Gd.at 4 false 11 (decide (((e.Add.length : Nat) : Int) > (12 : Int))) rfl rfl rfl (beq_ff H4)) rfl rfl ?_
      refine TO.y (Y.pick_f H4 rfl rfl) rfl rfl rfl ?_
      refine TO.nil ?_
      exact TE.jb_go () [0] ⟨rfl, rfl, trivial⟩ rfl
  · refine TE.next ?_
    refine TW.cond rfl (fun H5 => ?_) (fun H5 => ?_)
    · refine TW.seq ?_
      refine TW.region ?_
      refine TO.y (Y.assign rfl) rfl rfl rfl ?_
      refine TO.nil ?_
      refine TE.next ?_
      refine TW.ret ?_
      refine TE.then_ret ?_
      exact TE.leaf fun _ _ hf_ hs_ => ret_any (rs := [.tmp 2]) (vs := [.bool false]) (.inl rfl) rfl ⟨rfl, trivial⟩ hf_ hs_ ⟨(), rfl, hs_.pulls [] rfl⟩
    · refine TW.skip ?_
      refine TE.next ?_
      refine TW.seq ?_
      refine TW.seq ?_
      refine TW.region ?_
      refine TO.y (Y.field_box kf30_1 rfl rfl) rfl rfl rfl ?_
      refine TO.y (Y.load_box (v := V_e1) 0 kk23 rfl rfl rfl) rfl rfl rfl ?_
      refine TO.y (Y.len (l := e.Drop) ke23 (Base.can HB_V_e1) rfl) rfl rfl rfl ?_
      refine TO.y (Y.move rfl) rfl rfl rfl ?_
      refine TO.nil ?_
      refine TE.next ?_
      refine TW.joinX (τ := Unit) (X := Unit) (fun _ _ => [(1, .pointer (some ⟨B1, 0, none⟩))]) (fun _ _ => [.box B1 30 [V_e0, V_e1]]) ?_ (fun T8 X9 => ?_)
      · refine TW.block ?_
        refine TW.loopX (σ := Int) (X := Unit) (fun T _ => [(1, .pointer (some ⟨B1, 0, none⟩)), (18, V_e1), (19, .int .i64 ((e.Drop.length : Nat) : Int)), (20, .int .i64 T)]) (fun _ _ => [.box B1 30 [V_e0, V_e1]]) () [0] ⟨rfl, rfl, rfl, rfl, trivial⟩ rfl (fun S6 X7 => ?_)
        refine TW.seq ?_
        refine TW.region ?_
        refine TO.y (Y.lss rfl rfl) rfl rfl rfl ?_
        refine TO.nil ?_
        refine TE.next ?_
        refine TW.seq ?_
        refine TW.cond rfl (fun H10 => ?_) (fun H10 => ?_)
        · refine TW.skip ?_
          refine TE.next ?_
          refine TW.seq ?_
          refine TW.block ?_
          refine TW.seq ?_
          refine TW.region ?_
          refine TO.bind fun E11 H12 => ?_
          refine TO.y (Y.index ke23 (Base.can HB_V_e1) H12 rfl rfl) rfl rfl rfl ?_
          refine TO.y (Y.load_el (us := [.int .i64 E11]) (u := .int .i64 E11) kk3 rfl (Base.can HB_V_e1) (idx_get H12).2.2 rfl rfl rfl rfl rfl) rfl rfl rfl ?_
          refine TO.y (Y.assign rfl) rfl rfl rfl ?_
          refine TO.nil ?_
          refine TE.next ?_
          refine TW.seq ?_
          refine TW.region ?_
          refine TO.y (Y.move rfl) rfl rfl rfl ?_
          refine TO.bind fun R13 H14 => ?_
          refine TO.ef (Ef.call (rest := [.box B1 30 [V_e0, V_e1]]) [0] (impl_isNumber_con E11  R13 H14) kc55 rfl rfl trivial) rfl rfl rfl (fun _ => ?_)
          refine TO.y (Y.not rfl) rfl rfl rfl ?_
          refine TO.nil ?_
          refine TE.next ?_
          refine TW.cond rfl (fun H16 => ?_) (fun H16 => ?_)
          · refine TW.seq ?_
            refine TW.region ?_
            refine TO.y (Y.assign rfl) rfl rfl rfl ?_
            refine TO.nil ?_
            refine TE.next ?_
            refine TW.ret ?_
            refine TE.block_ret ?_
            refine TE.then_ret ?_
            refine TE.lp_ret ?_
            refine TE.block_ret ?_
            refine TE.jn_done ?_
            refine TE.then_ret ?_
            exact TE.leaf fun _ _ hf_ hs_ => ret_any (rs := [.tmp 2]) (vs := [.bool false]) (.inl rfl) rfl ⟨rfl, trivial⟩ hf_ hs_ ⟨(), rfl, hs_.pulls [] rfl⟩
          · refine TW.skip ?_
            refine TE.block_normal ?_
            refine TE.next ?_
            refine TW.region ?_
            refine TO.y (Y.add rfl rfl) rfl rfl rfl ?_
            refine TO.y (Y.move rfl) rfl rfl rfl ?_
            refine TO.nil ?_
            exact TE.lp_go () [0] ⟨rfl, rfl, rfl, rfl, trivial⟩ rfl
        · refine TW.exit ?_
          refine TE.then_exit ?_
          refine TE.lp_exit ?_
          refine TE.block_exit ?_
          exact TE.jn_go () [0] ⟨rfl, trivial⟩ rfl
      · refine TE.next ?_
        refine TW.seq ?_
        refine TW.seq ?_
        refine TW.region ?_
        refine TO.y (Y.field_box kf30_0 rfl rfl) rfl rfl rfl ?_
        refine TO.y (Y.load_box (v := V_e0) 0 kk28 rfl rfl rfl) rfl rfl rfl ?_
        refine TO.y (Y.len (l := e.Add) ke28 (Base.can HB_V_e0) rfl) rfl rfl rfl ?_
        refine TO.y (Y.move rfl) rfl rfl rfl ?_
        refine TO.nil ?_
        refine TE.next ?_
        refine TW.joinX (τ := Unit) (X := Unit) (fun _ _ => []) (fun _ _ => []) ?_ (fun T19 X20 => ?_)
        · refine TW.block ?_
          refine TW.loopX (σ := Int) (X := Unit) (fun T _ => [(29, V_e0), (30, .int .i64 ((e.Add.length : Nat) : Int)), (31, .int .i64 T)]) (fun _ _ => []) () [] ⟨rfl, rfl, rfl, trivial⟩ rfl (fun S17 X18 => ?_)
          refine TW.seq ?_
          refine TW.region ?_
          refine TO.y (Y.lss rfl rfl) rfl rfl rfl ?_
          refine TO.nil ?_
          refine TE.next ?_
          refine TW.seq ?_
          refine TW.cond rfl (fun H21 => ?_) (fun H21 => ?_)
          · refine TW.skip ?_
            refine TE.next ?_
            refine TW.seq ?_
            refine TW.block ?_
            refine TW.seq ?_
            refine TW.region ?_
            refine TO.bind fun E22 H23 => ?_
            refine TO.y (Y.index ke28 (Base.can HB_V_e0) H23 rfl rfl) rfl rfl rfl ?_
            refine TO.y (Y.load_el (us := [.int .i64 E22.No, .int .i64 E22.Level, strV E22.Lo, strV E22.Hi]) (u := .agg #[.int .i64 E22.No, .int .i64 E22.Level, strV E22.Lo, strV E22.Hi]) kk52 rfl (Base.can HB_V_e0) (idx_get H23).2.2 rfl rfl rfl rfl rfl) rfl rfl rfl ?_
            refine TO.ef (Ef.alloc kz52 rfl) rfl rfl rfl (fun B24 => ?_)
            refine TO.ef0 (Ef.store_box (us := [.int .i64 E22.No, .int .i64 E22.Level, strV E22.Lo, strV E22.Hi]) (vs' := [.int .i64 E22.No, .int .i64 E22.Level, strV E22.Lo, strV E22.Hi]) (is' := [.box B24 52 [.int .i64 E22.No, .int .i64 E22.Level, strV E22.Lo, strV E22.Hi]]) 0 kk52 rfl rfl rfl (Cel.plain rfl rfl) rfl rfl rfl rfl) rfl rfl (fun _ => ?_)
            refine TO.nil ?_
            refine TE.next ?_
            refine TW.seq ?_
            refine TW.joinBX (τ := Bool) (X := Unit) (fun T _ => [(29, V_e0), (30, .int .i64 ((e.Add.length : Nat) : Int)), (31, .int .i64 S17), (56, .bool T)]) (fun _ _ => []) ?_ (fun T25 X26 => ?_)
            · refine TW.region ?_
              refine TO.y (Y.field_box kf52_0 rfl rfl) rfl rfl rfl ?_
              refine TO.y (Y.load_box (v := .int .i64 E22.No) 0 kk3 rfl rfl rfl) rfl rfl rfl ?_
              refine TO.bind fun R27 H28 => ?_
              refine TO.ef (Ef.call (rest := [.box B24 52 [.int .i64 E22.No, .int .i64 E22.Level, strV E22.Lo, strV E22.Hi]]) [0] (impl_isNumber_con E22.No  R27 H28) kc55 rfl rfl trivial) rfl rfl rfl (fun _ => ?_)
              refine TO.y (Y.not rfl) rfl rfl rfl ?_
              refine TO.y (Y.move rfl) rfl rfl rfl ?_
              refine TO.ite (b := !R27) (fun H30 => ?_) (fun H30 => ?_)
              · refine TO.off (Gd.at 4 false 39 (!R27) rfl rfl rfl (beq_tf H30)) rfl rfl ?_
                refine TO.off (Gd.at 4 false 39 (!R27) rfl rfl rfl (beq_tf H30)) rfl rfl ?_
                refine TO.off (Gd.at 4 false 39 (!R27) rfl rfl rfl (beq_tf H30)) rfl rfl ?_
                refine TO.off (Gd.at 4 false 39 (!R27) rfl rfl rfl (beq_tf H30)) rfl rfl ?_
                refine TO.y (Y.pick_t H30 rfl rfl) rfl rfl rfl ?_
                refine TO.y (Y.move rfl) rfl rfl rfl ?_
                refine TO.off (Gd.at 10 false 45 true rfl rfl rfl rfl) rfl rfl ?_
                refine TO.off (Gd.at 10 false 45 true rfl rfl rfl rfl) rfl rfl ?_
                refine TO.off (Gd.at 10 false 45 true rfl rfl rfl rfl) rfl rfl ?_
                refine TO.off (Gd.at 10 false 45 true rfl rfl rfl rfl) rfl rfl ?_
                refine TO.y (Y.pick_t rfl rfl rfl) rfl rfl rfl ?_
                refine TO.y (Y.move rfl) rfl rfl rfl ?_
                refine TO.off (Gd.at 16 false 51 true rfl rfl rfl rfl) rfl rfl ?_
                refine TO.off (Gd.at 16 false 51 true rfl rfl rfl rfl) rfl rfl ?_
                refine TO.off (Gd.at 16 false 51 true rfl rfl rfl rfl) rfl rfl ?_
                refine TO.off (Gd.at 16 false 51 true rfl rfl rfl rfl) rfl rfl ?_
                refine TO.y (Y.pick_t rfl rfl rfl) rfl rfl rfl ?_
                refine TO.nil ?_
                exact TE.jb_go () [] ⟨rfl, rfl, rfl, rfl, trivial⟩ rfl
              · refine TO.y (Y.field_box kf52_1 rfl rfl) (Gd.at 4 false 39 (!R27) rfl rfl rfl (beq_ff H30)) rfl rfl ?_
                refine TO.y (Y.load_box (v := .int .i64 E22.Level) 0 kk3 rfl rfl rfl) (Gd.at 4 false 39 (!R27) rfl rfl rfl (beq_ff H30)) rfl rfl ?_
                refine TO.bind fun R31 H32 => ?_
                refine TO.ef (Ef.call (rest := [.box B24 52 [.int .i64 E22.No, .int .i64 E22.Level, strV E22.Lo, strV E22.Hi]]) [0] (impl_isNumber_con E22.Level  R31 H32) kc55 rfl rfl trivial) (Gd.at 4 false 39 (!R27) rfl rfl rfl (beq_ff H30)) rfl rfl (fun _ => ?_)
                refine TO.y (Y.not rfl) (Gd.at 4 false 39 (!R27) rfl rfl rfl (beq_ff H30)) rfl rfl ?_
                refine TO.y (Y.pick_f H30 rfl rfl) rfl rfl rfl ?_
                refine TO.y (Y.move rfl) rfl rfl rfl ?_
                refine TO.ite (b := !R31) (fun H34 => ?_) (fun H34 => ?_)
                · refine TO.off (Gd.at 10 false 45 (!R31) rfl rfl rfl (beq_tf H34)) rfl rfl ?_
                  refine TO.off (Gd.at 10 false 45 (!R31) rfl rfl rfl (beq_tf H34)) rfl rfl ?_
                  refine TO.off (Gd.at 10 false 45 (!R31) rfl rfl rfl (beq_tf H34)) rfl rfl ?_
                  refine TO.off (Gd.at 10 false 45 (!R31) rfl rfl rfl (beq_tf H34)) rfl rfl ?_
                  refine TO.y (Y.pick_t H34 rfl rfl) rfl rfl rfl ?_
                  refine TO.y (Y.move rfl) rfl rfl rfl ?_
                  refine TO.off (Gd.at 16 false 51 true rfl rfl rfl rfl) rfl rfl ?_
                  refine TO.off (Gd.at 16 false 51 true rfl rfl rfl rfl) rfl rfl ?_
                  refine TO.off (Gd.at 16 false 51 true rfl rfl rfl rfl) rfl rfl ?_
                  refine TO.off (Gd.at 16 false 51 true rfl rfl rfl rfl) rfl rfl ?_
                  refine TO.y (Y.pick_t rfl rfl rfl) rfl rfl rfl ?_
                  refine TO.nil ?_
                  exact TE.jb_go () [] ⟨rfl, rfl, rfl, rfl, trivial⟩ rfl
                · refine TO.y (Y.field_box kf52_2 rfl rfl) (Gd.at 10 false 45 (!R31) rfl rfl rfl (beq_ff H34)) rfl rfl ?_
                  refine TO.y (Y.load_box (v := strV E22.Lo) 0 kk9 rfl rfl rfl) (Gd.at 10 false 45 (!R31) rfl rfl rfl (beq_ff H34)) rfl rfl ?_
                  refine TO.y (Y.slen ks9 rfl) (Gd.at 10 false 45 (!R31) rfl rfl rfl (beq_ff H34)) rfl rfl ?_
                  refine TO.y (Y.gtr rfl rfl) (Gd.at 10 false 45 (!R31) rfl rfl rfl (beq_ff H34)) rfl rfl ?_
                  refine TO.y (Y.pick_f H34 rfl rfl) rfl rfl rfl ?_
                  refine TO.y (Y.move rfl) rfl rfl rfl ?_
                  refine TO.ite (b := decide (((E22.Lo.length : Nat) : Int) > (10 : Int))) (fun H35 => ?_) (fun H35 => ?_)
                  · refine TO.off (Gd.at 16 false 51 (decide (((E22.Lo.length : Nat) : Int) > (10 : Int))) rfl rfl rfl (beq_tf H35)) rfl rfl ?_
                    refine TO.off (Gd.at 16 false 51 (decide (((E22.Lo.length : Nat) : Int) > (10 : Int))) rfl rfl rfl (beq_tf H35)) rfl rfl ?_
                    refine TO.off (Gd.at 16 false 51 (decide (((E22.Lo.length : Nat) : Int) > (10 : Int))) rfl rfl rfl (beq_tf H35)) rfl rfl ?_
                    refine TO.off (Gd.at 16 false 51 (decide (((E22.Lo.length : Nat) : Int) > (10 : Int))) rfl rfl rfl (beq_tf H35)) rfl rfl ?_
                    refine TO.y (Y.pick_t H35 rfl rfl) rfl rfl rfl ?_
                    refine TO.nil ?_
                    exact TE.jb_go () [] ⟨rfl, rfl, rfl, rfl, trivial⟩ rfl
                  · refine TO.y (Y.field_box kf52_3 rfl rfl) (Gd.at 16 false 51 (decide (((E22.Lo.length : Nat) : Int) > (10 : Int))) rfl rfl rfl (beq_ff H35)) rfl rfl ?_
                    refine TO.y (Y.load_box (v := strV E22.Hi) 0 kk9 rfl rfl rfl) (Gd.at 16 false 51 (decide (((E22.Lo.length : Nat) : Int) > (10 : Int))) rfl rfl rfl (beq_ff H35)) rfl rfl ?_
                    refine TO.y (Y.slen ks9 rfl) (Gd.at 16 false 51 (decide (((E22.Lo.length : Nat) : Int) > (10 : Int))) rfl rfl rfl (beq_ff H35)) rfl rfl ?_
                    refine TO.y (Y.gtr rfl rfl) (Gd.at 16 false 51 (decide (((E22.Lo.length : Nat) : Int) > (10 : Int))) rfl rfl rfl (beq_ff H35)) rfl rfl ?_
                    refine TO.y (Y.pick_f H35 rfl rfl) rfl rfl rfl ?_
                    refine TO.nil ?_
                    exact TE.jb_go () [] ⟨rfl, rfl, rfl, rfl, trivial⟩ rfl
            · refine TE.next ?_
              refine TW.cond rfl (fun H36 => ?_) (fun H36 => ?_)
              · refine TW.seq ?_
                refine TW.region ?_
                refine TO.y (Y.assign rfl) rfl rfl rfl ?_
                refine TO.nil ?_
                refine TE.next ?_
                refine TW.ret ?_
                refine TE.block_ret ?_
                refine TE.then_ret ?_
                refine TE.lp_ret ?_
                refine TE.block_ret ?_
                refine TE.jn_done ?_
                refine TE.then_ret ?_
                exact TE.leaf fun _ _ hf_ hs_ => ret_any (rs := [.tmp 2]) (vs := [.bool false]) (.inl rfl) rfl ⟨rfl, trivial⟩ hf_ hs_ ⟨(), rfl, hs_.pulls [] rfl⟩
              · refine TW.skip ?_
                refine TE.block_normal ?_
                refine TE.next ?_
                refine TW.region ?_
                refine TO.y (Y.add rfl rfl) rfl rfl rfl ?_
                refine TO.y (Y.move rfl) rfl rfl rfl ?_
                refine TO.nil ?_
                exact TE.lp_go () [] ⟨rfl, rfl, rfl, trivial⟩ rfl
          · refine TW.exit ?_
            refine TE.then_exit ?_
            refine TE.lp_exit ?_
            refine TE.block_exit ?_
            exact TE.jn_go () [] trivial rfl
        · refine TE.next ?_
          refine TW.seq ?_
          refine TW.region ?_
          refine TO.y (Y.assign rfl) rfl rfl rfl ?_
          refine TO.nil ?_
          refine TE.next ?_
          refine TW.ret ?_
          exact TE.leaf fun _ _ hf_ hs_ => ret_any (rs := [.tmp 2]) (vs := [.bool true]) (.inl rfl) rfl ⟨rfl, trivial⟩ hf_ hs_ ⟨(), rfl, hs_.pulls [] rfl⟩

/-- loop.example/g00950/impl.Var -/
noncomputable def impl_Var (n : Int) : Option (List UInt8) :=
  (impl_inRange n (0 : Int) (562949953421311 : Int)).bind fun R1 =>
  if (!R1) = true then (some ([]))
  else (bindC (loopO (fun (S5 : Int × List UInt8) => if (decide (S5.1 > (127 : Int))) = true then ((app 1 S5.2 ([toU8 (ior .i64 (128 : Int) (iand .i64 S5.1 (127 : Int)))])).bind fun E12 =>
  some (.go (ishr .i64 S5.1 (7 : Int), E12)))
  else (some (.done (.go (S5.1, S5.2)))))
  (n, ([] : List UInt8)))
  (fun (T7 : Int × List UInt8) => (app 1 T7.2 ([toU8 T7.1])).bind fun E16 =>
  some E16))

theorem impl_Var_con (n : Int)  (r : List UInt8) (hm : impl_Var n = some r) :
    Con Try.prog 35 [.int .i64 n] [] [] (fun _ : Unit => strV r) (fun _ => []) := by
  refine Con.intro (args := [.int .i64 n]) (n := 24) (val := fun r (_ : Unit) => strV r) (post := fun _ _ => []) (m := impl_Var n) Try.func35 rfl rfl rfl hm ?_
  intro w S _
  unfold impl_Var
  refine TW.seq ?_
  refine TW.region ?_
  refine TO.y (Y.assign rfl) rfl rfl rfl ?_
  refine TO.nil ?_
  refine TE.next ?_
  refine TW.seq ?_
  refine TW.seq ?_
  refine TW.region ?_
  refine TO.y (Y.move rfl) rfl rfl rfl ?_
  refine TO.bind fun R1 H2 => ?_
  refine TO.ef (Ef.call (rest := []) [] (impl_inRange_con n (0 : Int) (562949953421311 : Int)  R1 H2) kc57 rfl rfl trivial) rfl rfl rfl (fun _ => ?_)
  refine TO.y (Y.not rfl) rfl rfl rfl ?_
  refine TO.nil ?_
  refine TE.next ?_
  refine TW.cond rfl (fun H4 => ?_) (fun H4 => ?_)
  · refine TW.seq ?_
    refine TW.region ?_
    refine TO.y (Y.assign rfl) rfl rfl rfl ?_
    refine TO.nil ?_
    refine TE.next ?_
    refine TW.ret ?_
    refine TE.then_ret ?_
    exact TE.leaf fun _ _ hf_ hs_ => ret_any (rs := [.tmp 2]) (vs := [strV ([])]) (.inl rfl) rfl ⟨rfl, trivial⟩ hf_ hs_ ⟨(), rfl, hs_.pulls [] rfl⟩
  · refine TW.skip ?_
    refine TE.next ?_
    refine TW.seq ?_
    refine TW.region ?_
    refine TO.y (Y.assign rfl) rfl rfl rfl ?_
    refine TO.nil ?_
    refine TE.next ?_
    refine TW.seq ?_
    refine TW.joinX (τ := Int × List UInt8) (X := Value) (fun T X => [(0, .int .i64 T.1), (3, X)]) (fun T X => [.own X (lc T.2)]) ?_ (fun T7 X8 => ?_)
    · refine TW.block ?_
      refine TW.nilItem 1 ?_
      refine TW.loopX (σ := Int × List UInt8) (X := Value) (fun T X => [(0, .int .i64 T.1), (3, X)]) (fun T X => [.own X (lc T.2)]) (.slice none 0 0) [0] ⟨rfl, rfl, trivial⟩ rfl (fun S5 X6 => ?_)
      refine TW.seq ?_
      refine TW.seq ?_
      refine TW.region ?_
      refine TO.y (Y.move rfl) rfl rfl rfl ?_
      refine TO.y (Y.gtr rfl rfl) rfl rfl rfl ?_
      refine TO.nil ?_
      refine TE.next ?_
      refine TW.cond rfl (fun H9 => ?_) (fun H9 => ?_)
      · refine TW.skip ?_
        refine TE.next ?_
        refine TW.block ?_
        refine TW.seq ?_
        refine TW.region ?_
        refine TO.y (Y.move rfl) rfl rfl rfl ?_
        refine TO.y (Y.move rfl) rfl rfl rfl ?_
        refine TO.y (Y.and rfl rfl) rfl rfl rfl ?_
        refine TO.y (Y.or rfl rfl) rfl rfl rfl ?_
        refine TO.y (Y.conv8 ki3 ki5 rfl) rfl rfl rfl ?_
        refine TO.ef (Ef.buildSlice (α := UInt8) (Vs := [.int .u8 (((toU8 (ior .i64 (128 : Int) (iand .i64 S5.1 (127 : Int)))).toNat : Nat) : Int)]) [toU8 (ior .i64 (128 : Int) (iand .i64 S5.1 (127 : Int)))] ke59 kz5 rfl rfl rfl rfl rfl) rfl rfl rfl (fun B10 => ?_)
        refine TO.bind fun E12 H13 => ?_
        refine TO.ef (Ef.append (α := UInt8) (is' := [.own (.slice (some ⟨B10, 0, none⟩) 1 1) (lc ([toU8 (ior .i64 (128 : Int) (iand .i64 S5.1 (127 : Int)))]))]) [1, 0] H13 ke59 kz5 rfl rfl rfl rfl rfl (Can.own 0 rfl)) rfl rfl rfl (fun V11 => ?_)
        refine TO.y (Y.assign rfl) rfl rfl rfl ?_
        refine TO.nil ?_
        refine TE.next ?_
        refine TW.region ?_
        refine TO.y (Y.move rfl) rfl rfl rfl ?_
        refine TO.y (Y.shr (by decide) rfl rfl) rfl rfl rfl ?_
        refine TO.y (Y.assign rfl) rfl rfl rfl ?_
        refine TO.nil ?_
        refine TE.block_normal ?_
        exact TE.lp_go V11 [0] ⟨rfl, rfl, trivial⟩ rfl
      · refine TW.exit ?_
        refine TE.then_exit ?_
        refine TE.lp_exit ?_
        refine TE.block_exit ?_
        exact TE.jn_go X6 [0] ⟨rfl, rfl, trivial⟩ rfl
    · refine TE.next ?_
      refine TW.seq ?_
      refine TW.region ?_
      refine TO.y (Y.move rfl) rfl rfl rfl ?_
      refine TO.y (Y.move rfl) rfl rfl rfl ?_
      refine TO.y (Y.conv8 ki3 ki5 rfl) rfl rfl rfl ?_
      refine TO.ef (Ef.buildSlice (α := UInt8) (Vs := [.int .u8 (((toU8 T7.1).toNat : Nat) : Int)]) [toU8 T7.1] ke59 kz5 rfl rfl rfl rfl rfl) rfl rfl rfl (fun B14 => ?_)
      refine TO.bind fun E16 H17 => ?_
      refine TO.ef (Ef.append (α := UInt8) (is' := [.own (.slice (some ⟨B14, 0, none⟩) 1 1) (lc ([toU8 T7.1]))]) [1, 0] H17 ke59 kz5 rfl rfl rfl rfl rfl (Can.own 0 rfl)) rfl rfl rfl (fun V15 => ?_)
      refine TO.y (Y.toStr ke59 ki5 ks9 (Can.own 0 rfl) rfl) rfl rfl rfl ?_
      refine TO.y (Y.assign rfl) rfl rfl rfl ?_
      refine TO.nil ?_
      refine TE.next ?_
      refine TW.ret ?_
      exact TE.leaf fun _ _ hf_ hs_ => ret_any (rs := [.tmp 2]) (vs := [strV E16]) (.inl rfl) rfl ⟨rfl, trivial⟩ hf_ hs_ ⟨(), rfl, hs_.pulls [] rfl⟩

/-- loop.example/g00950/impl.short -/
noncomputable def impl_short (s : List UInt8) : Option (List UInt8) :=
  (impl_Var ((s.length : Nat) : Int)).bind fun R1 =>
  (cat R1 s).bind fun E4 =>
  some E4

theorem impl_short_con (s : List UInt8)  (r : List UInt8) (hm : impl_short s = some r) :
    Con Try.prog 36 [strV s] [] [] (fun _ : Unit => strV r) (fun _ => []) := by
  refine Con.intro (args := [strV s]) (n := 8) (val := fun r (_ : Unit) => strV r) (post := fun _ _ => []) (m := impl_short s) Try.func36 rfl rfl rfl hm ?_
  intro w S _
  unfold impl_short
  refine TW.seq ?_
  refine TW.region ?_
  refine TO.y (Y.assign rfl) rfl rfl rfl ?_
  refine TO.nil ?_
  refine TE.next ?_
  refine TW.seq ?_
  refine TW.region ?_
  refine TO.y (Y.move rfl) rfl rfl rfl ?_
  refine TO.y (Y.slen ks9 rfl) rfl rfl rfl ?_
  refine TO.bind fun R1 H2 => ?_
  refine TO.ef (Ef.call (rest := []) [] (impl_Var_con ((s.length : Nat) : Int)  R1 H2) kc35 rfl rfl trivial) rfl rfl rfl (fun _ => ?_)
  refine TO.y (Y.move rfl) rfl rfl rfl ?_
  refine TO.bind fun E4 H5 => ?_
  refine TO.y (Y.cat H5 rfl rfl) rfl rfl rfl ?_
  refine TO.y (Y.assign rfl) rfl rfl rfl ?_
  refine TO.nil ?_
  refine TE.next ?_
  refine TW.ret ?_
  exact TE.leaf fun _ _ hf_ hs_ => ret_any (rs := [.tmp 2]) (vs := [strV E4]) (.inl rfl) rfl ⟨rfl, trivial⟩ hf_ hs_ ⟨(), rfl, hs_.pulls [] rfl⟩

/-- loop.example/g00950/impl.summed -/
noncomputable def impl_summed (s : List UInt8) : Option (List UInt8) :=
  (impl_Crc s).bind fun R1 =>
  (impl_Fixed R1 (4 : Int)).bind fun R4 =>
  (cat R4 s).bind fun E7 =>
  some E7

theorem impl_summed_con (s : List UInt8)  (r : List UInt8) (hm : impl_summed s = some r) :
    Con Try.prog 37 [strV s] [] [] (fun _ : Unit => strV r) (fun _ => []) := by
  refine Con.intro (args := [strV s]) (n := 8) (val := fun r (_ : Unit) => strV r) (post := fun _ _ => []) (m := impl_summed s) Try.func37 rfl rfl rfl hm ?_
  intro w S _
  unfold impl_summed
  refine TW.seq ?_
  refine TW.region ?_
  refine TO.y (Y.assign rfl) rfl rfl rfl ?_
  refine TO.nil ?_
  refine TE.next ?_
  refine TW.seq ?_
  refine TW.region ?_
  refine TO.y (Y.move rfl) rfl rfl rfl ?_
  refine TO.bind fun R1 H2 => ?_
  refine TO.ef (Ef.call (rest := []) [] (impl_Crc_con s  R1 H2) kc59 rfl rfl trivial) rfl rfl rfl (fun _ => ?_)
  refine TO.bind fun R4 H5 => ?_
  refine TO.ef (Ef.call (rest := []) [] (impl_Fixed_con R1 (4 : Int)  R4 H5) kc58 rfl rfl trivial) rfl rfl rfl (fun _ => ?_)
  refine TO.y (Y.move rfl) rfl rfl rfl ?_
  refine TO.bind fun E7 H8 => ?_
  refine TO.y (Y.cat H8 rfl rfl) rfl rfl rfl ?_
  refine TO.y (Y.assign rfl) rfl rfl rfl ?_
  refine TO.nil ?_
  refine TE.next ?_
  refine TW.ret ?_
  exact TE.leaf fun _ _ hf_ hs_ => ret_any (rs := [.tmp 2]) (vs := [strV E7]) (.inl rfl) rfl ⟨rfl, trivial⟩ hf_ hs_ ⟨(), rfl, hs_.pulls [] rfl⟩

/-- strings.Builder -/
theorem strings_Builder_copyCheck_new (B : Nat) : Con Try.prog 56 [.pointer (some ⟨B, 0, none⟩)] [.box B 61 [.pointer none, .slice none 0 0]] [] (fun _ : Unit => .tuple #[]) (fun _ => [.box B 61 [.pointer (some ⟨B, 0, none⟩), .slice none 0 0]]) := by
  refine Con.intro (args := [.pointer (some ⟨B, 0, none⟩)]) (n := 20) (val := fun _ (_ : Unit) => .tuple #[]) (post := fun _ _ => [.box B 61 [.pointer (some ⟨B, 0, none⟩), .slice none 0 0]]) (m := some ()) (r := ()) Try.func56 rfl rfl rfl rfl ?_
  intro w S _
  refine TW.seq ?_
  refine TW.region ?_
  refine TO.y (Y.move rfl) rfl rfl rfl ?_
  refine TO.y (Y.nilCheck rfl) rfl rfl rfl ?_
  refine TO.y (Y.field_box kf61_0 rfl rfl) rfl rfl rfl ?_
  refine TO.y (Y.load_box (v := .pointer none) 0 kk58 rfl rfl rfl) rfl rfl rfl ?_
  refine TO.y (Y.ptr_nil kp58 rfl rfl) rfl rfl rfl ?_
  refine TO.nil ?_
  refine TE.next ?_
  refine TW.cond_true rfl ?_
  refine TW.region ?_
  refine TO.y (Y.move rfl) rfl rfl rfl ?_
  refine TO.y (Y.move rfl) rfl rfl rfl ?_
  refine TO.y (Y.toUnsafe 0 kp58 rfl ku95 rfl rfl rfl) rfl rfl rfl ?_
  refine TO.y (Y.noEscape Try.func70 (by kernel_rfl) (by kernel_rfl) (by kernel_rfl) (by kernel_rfl) rfl) rfl rfl rfl ?_
  refine TO.y (Y.fromUnsafe 0 kp58 ku95 rfl kl61 rfl) rfl rfl rfl ?_
  refine TO.y (Y.nilCheck rfl) rfl rfl rfl ?_
  refine TO.y (Y.field_box kf61_0 rfl rfl) rfl rfl rfl ?_
  refine TO.ef0 (Ef.store_box (us := [.pointer (some ⟨B, 0, none⟩)]) (vs' := [.pointer (some ⟨B, 0, none⟩), .slice none 0 0]) (is' := [.box B 61 [.pointer (some ⟨B, 0, none⟩), .slice none 0 0]]) 0 kk58 rfl rfl rfl (Cel.plain rfl rfl) rfl rfl rfl rfl) rfl rfl (fun _ => ?_)
  refine TO.nil ?_
  exact TE.leaf fun _ _ hf_ hs_ => ret_any (rs := []) (vs := []) (.inr rfl) rfl trivial hf_ hs_ ⟨(), rfl, hs_.pulls [0] rfl⟩

theorem strings_Builder_copyCheck_old (B : Nat) (V : Value) : Con Try.prog 56 [.pointer (some ⟨B, 0, none⟩)] [.box B 61 [.pointer (some ⟨B, 0, none⟩), V]] [] (fun _ : Unit => .tuple #[]) (fun _ => [.box B 61 [.pointer (some ⟨B, 0, none⟩), V]]) := by
  refine Con.intro (args := [.pointer (some ⟨B, 0, none⟩)]) (n := 20) (val := fun _ (_ : Unit) => .tuple #[]) (post := fun _ _ => [.box B 61 [.pointer (some ⟨B, 0, none⟩), V]]) (m := some ()) (r := ()) Try.func56 rfl rfl rfl rfl ?_
  intro w S _
  refine TW.seq ?_
  refine TW.region ?_
  refine TO.y (Y.move rfl) rfl rfl rfl ?_
  refine TO.y (Y.nilCheck rfl) rfl rfl rfl ?_
  refine TO.y (Y.field_box kf61_0 rfl rfl) rfl rfl rfl ?_
  refine TO.y (Y.load_box (v := .pointer (some ⟨B, 0, none⟩)) 0 kk58 rfl rfl rfl) rfl rfl rfl ?_
  refine TO.y (Y.ptr_some kp58 rfl rfl) rfl rfl rfl ?_
  refine TO.nil ?_
  refine TE.next ?_
  refine TW.cond_false rfl ?_
  refine TW.seq ?_
  refine TW.region ?_
  refine TO.y (Y.move rfl) rfl rfl rfl ?_
  refine TO.y (Y.nilCheck rfl) rfl rfl rfl ?_
  refine TO.y (Y.field_box kf61_0 rfl rfl) rfl rfl rfl ?_
  refine TO.y (Y.load_box (v := .pointer (some ⟨B, 0, none⟩)) 0 kk58 rfl rfl rfl) rfl rfl rfl ?_
  refine TO.y (Y.move rfl) rfl rfl rfl ?_
  refine TO.y (Y.ptr_self kp58 rfl rfl) rfl rfl rfl ?_
  refine TO.nil ?_
  refine TE.next ?_
  refine TW.cond_false rfl ?_
  refine TW.skip ?_
  exact TE.leaf fun _ _ hf_ hs_ => ret_any (rs := []) (vs := []) (.inr rfl) rfl trivial hf_ hs_ ⟨(), rfl, hs_.pulls [0] rfl⟩

theorem strings_Builder_WriteString_new (s r : List UInt8) (B : Nat) (hm : app 1 ([] : List UInt8) s = some r) : Con Try.prog 34 [.pointer (some ⟨B, 0, none⟩), strV s] [.box B 61 [.pointer none, .slice none 0 0]] [] (fun _ : Value => .tuple #[.int .i64 s.length, .nilIface]) (fun X => [.box B 61 [.pointer (some ⟨B, 0, none⟩), X], .buf X 5 r]) := by
  refine Con.intro (args := [.pointer (some ⟨B, 0, none⟩), strV s]) (n := 19) (val := fun _ (_ : Value) => .tuple #[.int .i64 s.length, .nilIface]) (post := fun r X => [.box B 61 [.pointer (some ⟨B, 0, none⟩), X], .buf X 5 r]) (m := some r) (r := r) Try.func34 rfl rfl rfl rfl ?_
  intro w S _
  refine TW.seq ?_
  refine TW.region ?_
  refine TO.y (Y.assign rfl) rfl rfl rfl ?_
  refine TO.y (Y.assign rfl) rfl rfl rfl ?_
  refine TO.nil ?_
  refine TE.next ?_
  refine TW.seq ?_
  refine TW.region ?_
  refine TO.y (Y.move rfl) rfl rfl rfl ?_
  refine TO.ef (Ef.call (rest := []) [0] (strings_Builder_copyCheck_new B) kc56 rfl rfl trivial) rfl rfl rfl (fun _ => ?_)
  refine TO.nil ?_
  refine TE.next ?_
  refine TW.seq ?_
  refine TW.region ?_
  refine TO.y (Y.move rfl) rfl rfl rfl ?_
  refine TO.y (Y.move rfl) rfl rfl rfl ?_
  refine TO.y (Y.nilCheck rfl) rfl rfl rfl ?_
  refine TO.y (Y.field_box kf61_1 rfl rfl) rfl rfl rfl ?_
  refine TO.y (Y.load_box (v := .slice none 0 0) 0 kk59 rfl rfl rfl) rfl rfl rfl ?_
  refine TO.y (Y.move rfl) rfl rfl rfl ?_
  refine TO.ef (Ef.bufNew hm ke59 ks9 kz5 rfl rfl) rfl rfl rfl (fun X => ?_)
  refine TO.y (Y.nilCheck rfl) rfl rfl rfl ?_
  refine TO.y (Y.field_box kf61_1 rfl rfl) rfl rfl rfl ?_
  refine TO.ef0 (Ef.store_box (us := [X]) (vs' := [.pointer (some ⟨B, 0, none⟩), X]) (is' := [.buf X 5 r, .box B 61 [.pointer (some ⟨B, 0, none⟩), X]]) 1 kk59 rfl rfl rfl (Cel.one (One.buf (i := 0) rfl)) rfl rfl rfl rfl) rfl rfl (fun _ => ?_)
  refine TO.nil ?_
  refine TE.next ?_
  refine TW.seq ?_
  refine TW.region ?_
  refine TO.y (Y.move rfl) rfl rfl rfl ?_
  refine TO.y (Y.slen ks9 rfl) rfl rfl rfl ?_
  refine TO.y (Y.assign rfl) rfl rfl rfl ?_
  refine TO.y (Y.assign rfl) rfl rfl rfl ?_
  refine TO.nil ?_
  refine TE.next ?_
  refine TW.ret ?_
  exact TE.leaf fun _ _ hf_ hs_ => ret_any (rs := [.tmp 4, .tmp 5]) (vs := [.int .i64 s.length, .nilIface]) (.inl rfl) rfl ⟨rfl, rfl, trivial⟩ hf_ hs_ ⟨X, rfl, hs_.pulls [1, 0] rfl⟩

theorem strings_Builder_WriteString_old (l s r : List UInt8) (B : Nat) (V : Value) (hm : app 1 l s = some r) : Con Try.prog 34 [.pointer (some ⟨B, 0, none⟩), strV s] [.box B 61 [.pointer (some ⟨B, 0, none⟩), V], .buf V 5 l] [] (fun _ : Value => .tuple #[.int .i64 s.length, .nilIface]) (fun X => [.box B 61 [.pointer (some ⟨B, 0, none⟩), X], .buf X 5 r]) := by
  refine Con.intro (args := [.pointer (some ⟨B, 0, none⟩), strV s]) (n := 19) (val := fun _ (_ : Value) => .tuple #[.int .i64 s.length, .nilIface]) (post := fun r X => [.box B 61 [.pointer (some ⟨B, 0, none⟩), X], .buf X 5 r]) (m := some r) (r := r) Try.func34 rfl rfl rfl rfl ?_
  intro w S _
  refine TW.seq ?_
  refine TW.region ?_
  refine TO.y (Y.assign rfl) rfl rfl rfl ?_
  refine TO.y (Y.assign rfl) rfl rfl rfl ?_
  refine TO.nil ?_
  refine TE.next ?_
  refine TW.seq ?_
  refine TW.region ?_
  refine TO.y (Y.move rfl) rfl rfl rfl ?_
  refine TO.ef (Ef.call (rest := [.buf V 5 l]) [0, 0] (strings_Builder_copyCheck_old B V) kc56 rfl rfl trivial) rfl rfl rfl (fun _ => ?_)
  refine TO.nil ?_
  refine TE.next ?_
  refine TW.seq ?_
  refine TW.region ?_
  refine TO.y (Y.move rfl) rfl rfl rfl ?_
  refine TO.y (Y.move rfl) rfl rfl rfl ?_
  refine TO.y (Y.nilCheck rfl) rfl rfl rfl ?_
  refine TO.y (Y.field_box kf61_1 rfl rfl) rfl rfl rfl ?_
  refine TO.y (Y.load_box (v := V) 0 kk59 rfl rfl rfl) rfl rfl rfl ?_
  refine TO.y (Y.move rfl) rfl rfl rfl ?_
  refine TO.ef (Ef.bufAppend [1, 0] hm ke59 ks9 kz5 rfl rfl rfl) rfl rfl rfl (fun X => ?_)
  refine TO.y (Y.nilCheck rfl) rfl rfl rfl ?_
  refine TO.y (Y.field_box kf61_1 rfl rfl) rfl rfl rfl ?_
  refine TO.ef0 (Ef.store_box (us := [X]) (vs' := [.pointer (some ⟨B, 0, none⟩), X]) (is' := [.buf X 5 r, .box B 61 [.pointer (some ⟨B, 0, none⟩), X]]) 1 kk59 rfl rfl rfl (Cel.one (One.buf (i := 0) rfl)) rfl rfl rfl rfl) rfl rfl (fun _ => ?_)
  refine TO.nil ?_
  refine TE.next ?_
  refine TW.seq ?_
  refine TW.region ?_
  refine TO.y (Y.move rfl) rfl rfl rfl ?_
  refine TO.y (Y.slen ks9 rfl) rfl rfl rfl ?_
  refine TO.y (Y.assign rfl) rfl rfl rfl ?_
  refine TO.y (Y.assign rfl) rfl rfl rfl ?_
  refine TO.nil ?_
  refine TE.next ?_
  refine TW.ret ?_
  exact TE.leaf fun _ _ hf_ hs_ => ret_any (rs := [.tmp 4, .tmp 5]) (vs := [.int .i64 s.length, .nilIface]) (.inl rfl) rfl ⟨rfl, rfl, trivial⟩ hf_ hs_ ⟨X, rfl, hs_.pulls [1, 0] rfl⟩

theorem strings_Builder_String_con (l : List UInt8) (B : Nat) (V : Value) (r : List UInt8) (hm : strOf l = some r) : Con Try.prog 38 [.pointer (some ⟨B, 0, none⟩)] [.box B 61 [.pointer (some ⟨B, 0, none⟩), V], .buf V 5 l] [] (fun _ : Unit => strV r) (fun _ => [.box B 61 [.pointer (some ⟨B, 0, none⟩), V]]) := by
  obtain ⟨hl, hr_⟩ := strOf_eq hm
  subst hr_
  refine Con.intro (args := [.pointer (some ⟨B, 0, none⟩)]) (n := 14) (val := fun _ (_ : Unit) => strV l) (post := fun _ _ => [.box B 61 [.pointer (some ⟨B, 0, none⟩), V]]) (m := some ()) (r := ()) Try.func38 rfl rfl rfl rfl ?_
  intro w S _
  refine TW.fact (buf_place (i := 1) rfl hl) fun hpl => ?_
  obtain ⟨g, c, rfl, hc⟩ := hpl
  refine TW.seq ?_
  refine TW.region ?_
  refine TO.y (Y.assign rfl) rfl rfl rfl ?_
  refine TO.nil ?_
  refine TE.next ?_
  refine TW.seq ?_
  refine TW.draw (isH := [.box B 61 [.pointer (some ⟨B, 0, none⟩), .slice (some ⟨g, 0, none⟩) l.length c]]) hMix ?_
  refine TA.y (listed' := #[true, false, false, false, false, false, false, false, false, false, false, false]) 0 [0] rfl (Y.move rfl) rfl rfl rfl (by kernel_rfl) (by kernel_rfl) (by kernel_rfl) rfl rfl ?_
  refine TA.y (listed' := #[true, true, false, false, false, false, false, false, false, false, false, false]) 1 [0] rfl (Y.nilCheck rfl) rfl rfl rfl (by kernel_rfl) (by kernel_rfl) (by kernel_rfl) rfl rfl ?_
  refine TA.y (listed' := #[true, true, true, false, false, false, false, false, false, false, false, false]) 2 [0] rfl (Y.field_box kf61_1 rfl rfl) rfl rfl rfl (by kernel_rfl) (by kernel_rfl) (by kernel_rfl) rfl rfl ?_
  refine TA.y (listed' := #[true, true, true, true, false, false, false, false, false, false, false, false]) 3 [0] rfl (Y.load_box (v := .slice (some ⟨g, 0, none⟩) l.length c) 0 kk59 rfl rfl rfl) rfl rfl rfl (by kernel_rfl) (by kernel_rfl) (by kernel_rfl) rfl rfl ?_
  refine TA.y (listed' := #[true, true, true, true, true, false, false, false, false, false, false, false]) 4 [0] rfl (Y.sliceData hc rfl) rfl rfl rfl (by kernel_rfl) (by kernel_rfl) (by kernel_rfl) rfl rfl ?_
  refine TA.y (listed' := #[true, true, true, true, true, true, false, false, false, false, false, false]) 5 [0] rfl (Y.move rfl) rfl rfl rfl (by kernel_rfl) (by kernel_rfl) (by kernel_rfl) rfl rfl ?_
  refine TA.y (listed' := #[true, true, true, true, true, true, true, false, false, false, false, false]) 6 [0] rfl (Y.nilCheck rfl) rfl rfl rfl (by kernel_rfl) (by kernel_rfl) (by kernel_rfl) rfl rfl ?_
  refine TA.y (listed' := #[true, true, true, true, true, true, true, true, false, false, false, false]) 7 [0] rfl (Y.field_box kf61_1 rfl rfl) rfl rfl rfl (by kernel_rfl) (by kernel_rfl) (by kernel_rfl) rfl rfl ?_
  refine TA.y (listed' := #[true, true, true, true, true, true, true, true, true, false, false, false]) 8 [0] rfl (Y.load_box (v := .slice (some ⟨g, 0, none⟩) l.length c) 0 kk59 rfl rfl rfl) rfl rfl rfl (by kernel_rfl) (by kernel_rfl) (by kernel_rfl) rfl rfl ?_
  refine TA.y (listed' := #[true, true, true, true, true, true, true, true, true, true, false, false]) 9 [0] rfl (Y.lenV ke59 rfl) rfl rfl rfl (by kernel_rfl) (by kernel_rfl) (by kernel_rfl) rfl rfl ?_
  refine TA.one 10 (by kernel_rfl) ?_
  refine TX.ef (listed' := #[true, true, true, true, true, true, true, true, true, true, true, false]) [0] rfl (Ef.takeStr [1, 0] hl kp87 rfl rfl rfl rfl) rfl rfl rfl rfl (fun _ => rfl) (fun _ => ?_)
  refine TA.y (listed' := #[true, true, true, true, true, true, true, true, true, true, true, true]) 11 [0] rfl (Y.assign rfl) rfl rfl rfl (by kernel_rfl) (by kernel_rfl) (by kernel_rfl) rfl rfl ?_
  refine TA.nil (by kernel_rfl) ?_
  refine TE.next ?_
  refine TW.ret ?_
  exact TE.leaf fun _ _ hf_ hs_ => ret_any (rs := [.tmp 2]) (vs := [strV l]) (.inl rfl) rfl ⟨rfl, trivial⟩ hf_ hs_ ⟨(), rfl, hs_.pulls [0] rfl⟩

/-- loop.example/g00950/impl.ShowEdit -/
noncomputable def impl_ShowEdit (e : Edit) : Option (List UInt8) :=
  (impl_editOk e).bind fun R2 =>
  if (!R2) = true then (some ([]))
  else ((impl_Var ((e.Drop.length : Nat) : Int)).bind fun R7 =>
  (app 1 ([] : List UInt8) R7).bind fun R11 =>
  bindC (loopO (fun (S13 : Int × List UInt8) => if (decide (S13.1 < ((e.Drop.length : Nat) : Int))) = true then ((idx e.Drop S13.1).bind fun E18 =>
  (impl_Var E18).bind fun R20 =>
  (app 1 S13.2 R20).bind fun R24 =>
  some (.go (IntKind.i64.wrap (S13.1 + (1 : Int)), R24)))
  else (some (.done (.go S13.2))))
  ((0 : Int), R11))
  (fun (T15 : List UInt8) => (impl_Var ((e.Add.length : Nat) : Int)).bind fun R26 =>
  (app 1 T15 R26).bind fun R30 =>
  bindC (loopO (fun (S32 : Int × List UInt8) => if (decide (S32.1 < ((e.Add.length : Nat) : Int))) = true then ((idx e.Add S32.1).bind fun E37 =>
  (impl_Var E37.No).bind fun R40 =>
  (impl_Var E37.Level).bind fun R43 =>
  (cat R40 R43).bind fun E46 =>
  (impl_short E37.Lo).bind fun R48 =>
  (cat E46 R48).bind fun E51 =>
  (impl_short E37.Hi).bind fun R53 =>
  (cat E51 R53).bind fun E56 =>
  (app 1 S32.2 E56).bind fun R59 =>
  some (.go (IntKind.i64.wrap (S32.1 + (1 : Int)), R59)))
  else (some (.done (.go S32.2))))
  ((0 : Int), R30))
  (fun (T34 : List UInt8) => (strOf T34).bind fun R61 =>
  (impl_summed R61).bind fun R63 =>
  some R63)))

theorem impl_ShowEdit_con (e : Edit) (V_e0 : Value) (V_e1 : Value) (r : List UInt8) (hm : impl_ShowEdit e = some r) :
    Con Try.prog 9 [.agg #[V_e0, V_e1]] [] [(V_e0, lc e.Add), (V_e1, lc e.Drop)] (fun _ : Unit => strV r) (fun _ => []) := by
  refine Con.intro (args := [.agg #[V_e0, V_e1]]) (n := 58) (val := fun r (_ : Unit) => strV r) (post := fun _ _ => []) (m := impl_ShowEdit e) Try.func9 rfl rfl rfl hm ?_
  intro w S hrd
  have HB_V_e0 := hrd _ (.head _)
  have HB_V_e1 := hrd _ (.tail _ (.head _))
  clear hrd
  unfold impl_ShowEdit
  refine TW.seq ?_
  refine TW.region ?_
  refine TO.ef (Ef.box rfl (Cel.agg ⟨(One.can (Base.can HB_V_e0)), (One.can (Base.can HB_V_e1)), trivial⟩)) rfl rfl rfl (fun B1 => ?_)
  refine TO.y (Y.assign rfl) rfl rfl rfl ?_
  refine TO.nil ?_
  refine TE.next ?_
  refine TW.seq ?_
  refine TW.seq ?_
  refine TW.region ?_
  refine TO.y (Y.load_box (v := .agg #[V_e0, V_e1]) 0 kk30 rfl rfl rfl) rfl rfl rfl ?_
  refine TO.bind fun R2 H3 => ?_
  refine TO.ef (Ef.call (rest := [.box B1 30 [V_e0, V_e1]]) [0] (impl_editOk_con e V_e0 V_e1 R2 H3) kc33 rfl rfl ⟨(Base.can HB_V_e0), (Base.can HB_V_e1), trivial⟩) rfl rfl rfl (fun _ => ?_)
  refine TO.y (Y.not rfl) rfl rfl rfl ?_
  refine TO.nil ?_
  refine TE.next ?_
  refine TW.cond rfl (fun H5 => ?_) (fun H5 => ?_)
  · refine TW.seq ?_
    refine TW.region ?_
    refine TO.y (Y.assign rfl) rfl rfl rfl ?_
    refine TO.nil ?_
    refine TE.next ?_
    refine TW.ret ?_
    refine TE.then_ret ?_
    exact TE.leaf fun _ _ hf_ hs_ => ret_any (rs := [.tmp 2]) (vs := [strV ([])]) (.inl rfl) rfl ⟨rfl, trivial⟩ hf_ hs_ ⟨(), rfl, hs_.pulls [] rfl⟩
  · refine TW.skip ?_
    refine TE.next ?_
    refine TW.seq ?_
    refine TW.region ?_
    refine TO.ef (Ef.alloc kz61 rfl) rfl rfl rfl (fun B6 => ?_)
    refine TO.nil ?_
    refine TE.next ?_
    refine TW.seq ?_
    refine TW.region ?_
    refine TO.y (Y.field_box kf30_1 rfl rfl) rfl rfl rfl ?_
    refine TO.y (Y.load_box (v := V_e1) 1 kk23 rfl rfl rfl) rfl rfl rfl ?_
    refine TO.y (Y.len (l := e.Drop) ke23 (Base.can HB_V_e1) rfl) rfl rfl rfl ?_
    refine TO.bind fun R7 H8 => ?_
    refine TO.ef (Ef.call (rest := [.box B6 61 [.pointer none, .slice none 0 0], .box B1 30 [V_e0, V_e1]]) [0, 0] (impl_Var_con ((e.Drop.length : Nat) : Int)  R7 H8) kc35 rfl rfl trivial) rfl rfl rfl (fun _ => ?_)
    refine TO.bind fun R11 H12 => ?_
    refine TO.ef (Ef.call (rest := [.box B1 30 [V_e0, V_e1]]) [0, 0] (strings_Builder_WriteString_new R7 R11 B6 H12) kc34 rfl rfl trivial) rfl rfl rfl (fun Y10 => ?_)
    refine TO.nil ?_
    refine TE.next ?_
    refine TW.seq ?_
    refine TW.seq ?_
    refine TW.region ?_
    refine TO.y (Y.field_box kf30_1 rfl rfl) rfl rfl rfl ?_
    refine TO.y (Y.load_box (v := V_e1) 2 kk23 rfl rfl rfl) rfl rfl rfl ?_
    refine TO.y (Y.len (l := e.Drop) ke23 (Base.can HB_V_e1) rfl) rfl rfl rfl ?_
    refine TO.y (Y.move rfl) rfl rfl rfl ?_
    refine TO.nil ?_
    refine TE.next ?_
    refine TW.joinX (τ := List UInt8) (X := Value) (fun _ _ => [(1, .pointer (some ⟨B1, 0, none⟩)), (3, .pointer (some ⟨B6, 0, none⟩))]) (fun T X => [.box B1 30 [V_e0, V_e1], .box B6 61 [.pointer (some ⟨B6, 0, none⟩), X], .buf X 5 T]) ?_ (fun T15 X16 => ?_)
    · refine TW.block ?_
      refine TW.loopX (σ := Int × List UInt8) (X := Value) (fun T _ => [(1, .pointer (some ⟨B1, 0, none⟩)), (3, .pointer (some ⟨B6, 0, none⟩)), (17, V_e1), (18, .int .i64 ((e.Drop.length : Nat) : Int)), (19, .int .i64 T.1)]) (fun T X => [.box B1 30 [V_e0, V_e1], .box B6 61 [.pointer (some ⟨B6, 0, none⟩), X], .buf X 5 T.2]) Y10 [2, 0, 0] ⟨rfl, rfl, rfl, rfl, rfl, trivial⟩ rfl (fun S13 X14 => ?_)
      refine TW.seq ?_
      refine TW.region ?_
      refine TO.y (Y.lss rfl rfl) rfl rfl rfl ?_
      refine TO.nil ?_
      refine TE.next ?_
      refine TW.seq ?_
      refine TW.cond rfl (fun H17 => ?_) (fun H17 => ?_)
      · refine TW.skip ?_
        refine TE.next ?_
        refine TW.seq ?_
        refine TW.block ?_
        refine TW.seq ?_
        refine TW.region ?_
        refine TO.bind fun E18 H19 => ?_
        refine TO.y (Y.index ke23 (Base.can HB_V_e1) H19 rfl rfl) rfl rfl rfl ?_
        refine TO.y (Y.load_el (us := [.int .i64 E18]) (u := .int .i64 E18) kk3 rfl (Base.can HB_V_e1) (idx_get H19).2.2 rfl rfl rfl rfl rfl) rfl rfl rfl ?_
        refine TO.y (Y.assign rfl) rfl rfl rfl ?_
        refine TO.nil ?_
        refine TE.next ?_
        refine TW.region ?_
        refine TO.y (Y.move rfl) rfl rfl rfl ?_
        refine TO.bind fun R20 H21 => ?_
        refine TO.ef (Ef.call (rest := [.box B1 30 [V_e0, V_e1], .box B6 61 [.pointer (some ⟨B6, 0, none⟩), X14], .buf X14 5 S13.2]) [0, 0, 0] (impl_Var_con E18  R20 H21) kc35 rfl rfl trivial) rfl rfl rfl (fun _ => ?_)
        refine TO.bind fun R24 H25 => ?_
        refine TO.ef (Ef.call (rest := [.box B1 30 [V_e0, V_e1]]) [1, 1, 0] (strings_Builder_WriteString_old S13.2 R20 R24 B6 X14 H25) kc34 rfl rfl trivial) rfl rfl rfl (fun Y23 => ?_)
        refine TO.nil ?_
        refine TE.block_normal ?_
        refine TE.next ?_
        refine TW.region ?_
        refine TO.y (Y.add rfl rfl) rfl rfl rfl ?_
        refine TO.y (Y.move rfl) rfl rfl rfl ?_
        refine TO.nil ?_
        exact TE.lp_go Y23 [2, 0, 0] ⟨rfl, rfl, rfl, rfl, rfl, trivial⟩ rfl
      · refine TW.exit ?_
        refine TE.then_exit ?_
        refine TE.lp_exit ?_
        refine TE.block_exit ?_
        exact TE.jn_go X14 [0, 0, 0] ⟨rfl, rfl, trivial⟩ rfl
    · refine TE.next ?_
      refine TW.seq ?_
      refine TW.region ?_
      refine TO.y (Y.field_box kf30_0 rfl rfl) rfl rfl rfl ?_
      refine TO.y (Y.load_box (v := V_e0) 0 kk28 rfl rfl rfl) rfl rfl rfl ?_
      refine TO.y (Y.len (l := e.Add) ke28 (Base.can HB_V_e0) rfl) rfl rfl rfl ?_
      refine TO.bind fun R26 H27 => ?_
      refine TO.ef (Ef.call (rest := [.box B1 30 [V_e0, V_e1], .box B6 61 [.pointer (some ⟨B6, 0, none⟩), X16], .buf X16 5 T15]) [0, 0, 0] (impl_Var_con ((e.Add.length : Nat) : Int)  R26 H27) kc35 rfl rfl trivial) rfl rfl rfl (fun _ => ?_)
      refine TO.bind fun R30 H31 => ?_
      refine TO.ef (Ef.call (rest := [.box B1 30 [V_e0, V_e1]]) [1, 1, 0] (strings_Builder_WriteString_old T15 R26 R30 B6 X16 H31) kc34 rfl rfl trivial) rfl rfl rfl (fun Y29 => ?_)
      refine TO.nil ?_
      refine TE.next ?_
      refine TW.seq ?_
      refine TW.seq ?_
      refine TW.region ?_
      refine TO.y (Y.field_box kf30_0 rfl rfl) rfl rfl rfl ?_
      refine TO.y (Y.load_box (v := V_e0) 2 kk28 rfl rfl rfl) rfl rfl rfl ?_
      refine TO.y (Y.len (l := e.Add) ke28 (Base.can HB_V_e0) rfl) rfl rfl rfl ?_
      refine TO.y (Y.move rfl) rfl rfl rfl ?_
      refine TO.nil ?_
      refine TE.next ?_
      refine TW.joinX (τ := List UInt8) (X := Value) (fun _ _ => [(3, .pointer (some ⟨B6, 0, none⟩))]) (fun T X => [.box B6 61 [.pointer (some ⟨B6, 0, none⟩), X], .buf X 5 T]) ?_ (fun T34 X35 => ?_)
      · refine TW.block ?_
        refine TW.loopX (σ := Int × List UInt8) (X := Value) (fun T _ => [(3, .pointer (some ⟨B6, 0, none⟩)), (33, V_e0), (34, .int .i64 ((e.Add.length : Nat) : Int)), (35, .int .i64 T.1)]) (fun T X => [.box B6 61 [.pointer (some ⟨B6, 0, none⟩), X], .buf X 5 T.2]) Y29 [0, 0] ⟨rfl, rfl, rfl, rfl, trivial⟩ rfl (fun S32 X33 => ?_)
        refine TW.seq ?_
        refine TW.region ?_
        refine TO.y (Y.lss rfl rfl) rfl rfl rfl ?_
        refine TO.nil ?_
        refine TE.next ?_
        refine TW.seq ?_
        refine TW.cond rfl (fun H36 => ?_) (fun H36 => ?_)
        · refine TW.skip ?_
          refine TE.next ?_
          refine TW.seq ?_
          refine TW.block ?_
          refine TW.seq ?_
          refine TW.region ?_
          refine TO.bind fun E37 H38 => ?_
          refine TO.y (Y.index ke28 (Base.can HB_V_e0) H38 rfl rfl) rfl rfl rfl ?_
          refine TO.y (Y.load_el (us := [.int .i64 E37.No, .int .i64 E37.Level, strV E37.Lo, strV E37.Hi]) (u := .agg #[.int .i64 E37.No, .int .i64 E37.Level, strV E37.Lo, strV E37.Hi]) kk52 rfl (Base.can HB_V_e0) (idx_get H38).2.2 rfl rfl rfl rfl rfl) rfl rfl rfl ?_
          refine TO.ef (Ef.alloc kz52 rfl) rfl rfl rfl (fun B39 => ?_)
          refine TO.ef0 (Ef.store_box (us := [.int .i64 E37.No, .int .i64 E37.Level, strV E37.Lo, strV E37.Hi]) (vs' := [.int .i64 E37.No, .int .i64 E37.Level, strV E37.Lo, strV E37.Hi]) (is' := [.box B39 52 [.int .i64 E37.No, .int .i64 E37.Level, strV E37.Lo, strV E37.Hi], .box B6 61 [.pointer (some ⟨B6, 0, none⟩), X33], .buf X33 5 S32.2]) 0 kk52 rfl rfl rfl (Cel.plain rfl rfl) rfl rfl rfl rfl) rfl rfl (fun _ => ?_)
          refine TO.nil ?_
          refine TE.next ?_
          refine TW.draw (isH := [.box B39 52 [.int .i64 E37.No, .int .i64 E37.Level, strV E37.Lo, strV E37.Hi]]) hMix ?_
          refine TA.y (listed' := #[true, false, false, false, false, false, false, false, false, false, false, false, false, false, false, false]) 0 [0] rfl (Y.field_box kf52_0 rfl rfl) rfl rfl rfl (by kernel_rfl) (by kernel_rfl) (by kernel_rfl) rfl rfl ?_
          refine TA.y (listed' := #[true, true, false, false, false, false, false, false, false, false, false, false, false, false, false, false]) 1 [0] rfl (Y.load_box (v := .int .i64 E37.No) 0 kk3 rfl rfl rfl) rfl rfl rfl (by kernel_rfl) (by kernel_rfl) (by kernel_rfl) rfl rfl ?_
          refine TA.y (listed' := #[true, true, false, true, false, false, false, false, false, false, false, false, false, false, false, false]) 3 [0] rfl (Y.field_box kf52_1 rfl rfl) rfl rfl rfl (by kernel_rfl) (by kernel_rfl) (by kernel_rfl) rfl rfl ?_
          refine TA.y (listed' := #[true, true, false, true, true, false, false, false, false, false, false, false, false, false, false, false]) 4 [0] rfl (Y.load_box (v := .int .i64 E37.Level) 0 kk3 rfl rfl rfl) rfl rfl rfl (by kernel_rfl) (by kernel_rfl) (by kernel_rfl) rfl rfl ?_
          refine TA.y (listed' := #[true, true, false, true, true, false, false, true, false, false, false, false, false, false, false, false]) 7 [0] rfl (Y.field_box kf52_2 rfl rfl) rfl rfl rfl (by kernel_rfl) (by kernel_rfl) (by kernel_rfl) rfl rfl ?_
          refine TA.y (listed' := #[true, true, false, true, true, false, false, true, true, false, false, false, false, false, false, false]) 8 [0] rfl (Y.load_box (v := strV E37.Lo) 0 kk9 rfl rfl rfl) rfl rfl rfl (by kernel_rfl) (by kernel_rfl) (by kernel_rfl) rfl rfl ?_
          refine TA.y (listed' := #[true, true, false, true, true, false, false, true, true, false, false, true, false, false, false, false]) 11 [0] rfl (Y.field_box kf52_3 rfl rfl) rfl rfl rfl (by kernel_rfl) (by kernel_rfl) (by kernel_rfl) rfl rfl ?_
          refine TA.y (listed' := #[true, true, false, true, true, false, false, true, true, false, false, true, true, false, false, false]) 12 [0] rfl (Y.load_box (v := strV E37.Hi) 0 kk9 rfl rfl rfl) rfl rfl rfl (by kernel_rfl) (by kernel_rfl) (by kernel_rfl) rfl rfl ?_
          refine TA.bind fun R40 H41 => ?_
          refine TA.one 2 (by kernel_rfl) ?_
          refine TX.ef (listed' := #[true, true, true, true, true, false, false, true, true, false, false, true, true, false, false, false]) [0] rfl (Ef.call (rest := [.box B39 52 [.int .i64 E37.No, .int .i64 E37.Level, strV E37.Lo, strV E37.Hi], .box B6 61 [.pointer (some ⟨B6, 0, none⟩), X33], .buf X33 5 S32.2]) [0, 0, 0] (impl_Var_con E37.No  R40 H41) kc35 rfl rfl trivial) rfl rfl rfl rfl (fun _ => rfl) (fun _ => ?_)
          refine TA.bind fun R43 H44 => ?_
          refine TA.one 5 (by kernel_rfl) ?_
          refine TX.ef (listed' := #[true, true, true, true, true, true, false, true, true, false, false, true, true, false, false, false]) [0] rfl (Ef.call (rest := [.box B39 52 [.int .i64 E37.No, .int .i64 E37.Level, strV E37.Lo, strV E37.Hi], .box B6 61 [.pointer (some ⟨B6, 0, none⟩), X33], .buf X33 5 S32.2]) [0, 0, 0] (impl_Var_con E37.Level  R43 H44) kc35 rfl rfl trivial) rfl rfl rfl rfl (fun _ => rfl) (fun _ => ?_)
          refine TA.bind fun E46 H47 => ?_
          refine TA.y (listed' := #[true, true, true, true, true, true, true, true, true, false, false, true, true, false, false, false]) 6 [0] rfl (Y.cat H47 rfl rfl) rfl rfl rfl (by kernel_rfl) (by kernel_rfl) (by kernel_rfl) rfl rfl ?_
          refine TA.bind fun R48 H49 => ?_
          refine TA.one 9 (by kernel_rfl) ?_
          refine TX.ef (listed' := #[true, true, true, true, true, true, true, true, true, true, false, true, true, false, false, false]) [0] rfl (Ef.call (rest := [.box B39 52 [.int .i64 E37.No, .int .i64 E37.Level, strV E37.Lo, strV E37.Hi], .box B6 61 [.pointer (some ⟨B6, 0, none⟩), X33], .buf X33 5 S32.2]) [0, 0, 0] (impl_short_con E37.Lo  R48 H49) kc36 rfl rfl trivial) rfl rfl rfl rfl (fun _ => rfl) (fun _ => ?_)
          refine TA.bind fun E51 H52 => ?_
          refine TA.y (listed' := #[true, true, true, true, true, true, true, true, true, true, true, true, true, false, false, false]) 10 [0] rfl (Y.cat H52 rfl rfl) rfl rfl rfl (by kernel_rfl) (by kernel_rfl) (by kernel_rfl) rfl rfl ?_
          refine TA.bind fun R53 H54 => ?_
          refine TA.one 13 (by kernel_rfl) ?_
          refine TX.ef (listed' := #[true, true, true, true, true, true, true, true, true, true, true, true, true, true, false, false]) [0] rfl (Ef.call (rest := [.box B39 52 [.int .i64 E37.No, .int .i64 E37.Level, strV E37.Lo, strV E37.Hi], .box B6 61 [.pointer (some ⟨B6, 0, none⟩), X33], .buf X33 5 S32.2]) [0, 0, 0] (impl_short_con E37.Hi  R53 H54) kc36 rfl rfl trivial) rfl rfl rfl rfl (fun _ => rfl) (fun _ => ?_)
          refine TA.bind fun E56 H57 => ?_
          refine TA.y (listed' := #[true, true, true, true, true, true, true, true, true, true, true, true, true, true, true, false]) 14 [0] rfl (Y.cat H57 rfl rfl) rfl rfl rfl (by kernel_rfl) (by kernel_rfl) (by kernel_rfl) rfl rfl ?_
          refine TA.bind fun R59 H60 => ?_
          refine TA.one 15 (by kernel_rfl) ?_
          refine TX.ef (listed' := #[true, true, true, true, true, true, true, true, true, true, true, true, true, true, true, true]) [2] rfl (Ef.call (rest := [.box B39 52 [.int .i64 E37.No, .int .i64 E37.Level, strV E37.Lo, strV E37.Hi]]) [1, 1, 0] (strings_Builder_WriteString_old S32.2 E56 R59 B6 X33 H60) kc34 rfl rfl trivial) rfl rfl rfl rfl (fun _ => rfl) (fun Y58 => ?_)
          refine TA.nil (by kernel_rfl) ?_
          refine TE.block_normal ?_
          refine TE.next ?_
          refine TW.region ?_
          refine TO.y (Y.add rfl rfl) rfl rfl rfl ?_
          refine TO.y (Y.move rfl) rfl rfl rfl ?_
          refine TO.nil ?_
          exact TE.lp_go Y58 [0, 0] ⟨rfl, rfl, rfl, rfl, trivial⟩ rfl
        · refine TW.exit ?_
          refine TE.then_exit ?_
          refine TE.lp_exit ?_
          refine TE.block_exit ?_
          exact TE.jn_go X33 [0, 0] ⟨rfl, trivial⟩ rfl
      · refine TE.next ?_
        refine TW.seq ?_
        refine TW.region ?_
        refine TO.bind fun R61 H62 => ?_
        refine TO.ef (Ef.call (rest := []) [0, 0] (strings_Builder_String_con T34 B6 X35 R61 H62) kc38 rfl rfl trivial) rfl rfl rfl (fun _ => ?_)
        refine TO.bind fun R63 H64 => ?_
        refine TO.ef (Ef.call (rest := [.box B6 61 [.pointer (some ⟨B6, 0, none⟩), X35]]) [0] (impl_summed_con R61  R63 H64) kc37 rfl rfl trivial) rfl rfl rfl (fun _ => ?_)
        refine TO.y (Y.assign rfl) rfl rfl rfl ?_
        refine TO.nil ?_
        refine TE.next ?_
        refine TW.ret ?_
        exact TE.leaf fun _ _ hf_ hs_ => ret_any (rs := [.tmp 2]) (vs := [strV R63]) (.inl rfl) rfl ⟨rfl, trivial⟩ hf_ hs_ ⟨(), rfl, hs_.pulls [] rfl⟩

/-- loop.example/g00950/impl.ReadEdit -/
noncomputable def impl_ReadEdit (s : List UInt8) : Option (Edit × Bool) :=
  (impl_unsummed s).bind fun R2 =>
  if (!R2.2) = true then (some ({ Add := ([] : List File), Drop := ([] : List Int) : Edit }, false))
  else ((impl_reader_number ({ text := R2.1, at_ := (0 : Int), bad := false : Reader })).bind fun R10 =>
  bindC (loopO (fun (S13 : List UInt8 × Int × Bool × Int × List Int) => (if (decide (S13.2.2.2.1 > (0 : Int))) = true then (some (!S13.2.2.1))
  else (some false)).bind (fun (T17 : Bool) =>
  if T17 = true then ((impl_reader_number ({ text := S13.1, at_ := S13.2.1, bad := S13.2.2.1 : Reader })).bind fun R21 =>
  (app 8 S13.2.2.2.2 ([R21.1])).bind fun E26 =>
  some (.go (R21.2.text, R21.2.at_, R21.2.bad, IntKind.i64.wrap (S13.2.2.2.1 - (1 : Int)), E26)))
  else (some (.done (.go (S13.1, S13.2.1, S13.2.2.1, S13.2.2.2.2))))))
  (R10.2.text, R10.2.at_, R10.2.bad, R10.1, ([] : List Int)))
  (fun (T15 : List UInt8 × Int × Bool × List Int) => (impl_reader_number ({ text := T15.1, at_ := T15.2.1, bad := T15.2.2.1 : Reader })).bind fun R28 =>
  bindC (loopO (fun (S31 : List UInt8 × Int × Bool × Int × List File) => (if (decide (S31.2.2.2.1 > (0 : Int))) = true then (some (!S31.2.2.1))
  else (some false)).bind (fun (T35 : Bool) =>
  if T35 = true then ((impl_reader_number ({ text := S31.1, at_ := S31.2.1, bad := S31.2.2.1 : Reader })).bind fun R39 =>
  (impl_reader_number R39.2).bind fun R43 =>
  (impl_reader_short R43.2).bind fun R46 =>
  (impl_reader_short R46.2).bind fun R49 =>
  (app 48 S31.2.2.2.2 ([{ No := R39.1, Level := R43.1, Lo := R46.1, Hi := R49.1 : File }])).bind fun E54 =>
  some (.go (R49.2.text, R49.2.at_, R49.2.bad, IntKind.i64.wrap (S31.2.2.2.1 - (1 : Int)), E54)))
  else (some (.done (.go (S31.1, S31.2.1, S31.2.2.1, S31.2.2.2.2))))))
  (R28.2.text, R28.2.at_, R28.2.bad, R28.1, ([] : List File)))
  (fun (T33 : List UInt8 × Int × Bool × List File) => ((impl_reader_done ({ text := T33.1, at_ := T33.2.1, bad := T33.2.2.1 : Reader })).bind fun R58 =>
  if (!R58) = true then (some true)
  else ((impl_ShowEdit ({ Add := T33.2.2.2, Drop := T15.2.2.2 : Edit })).bind fun R62 =>
  some (!(decide (R62 = s))))).bind (fun (T56 : Bool) =>
  if T56 = true then (some ({ Add := ([] : List File), Drop := ([] : List Int) : Edit }, false))
  else (some ({ Add := T33.2.2.2, Drop := T15.2.2.2 : Edit }, true))))))

theorem impl_ReadEdit_con (s : List UInt8)  (r : Edit × Bool) (hm : impl_ReadEdit s = some r) :
    Con Try.prog 12 [strV s] [] [] (fun X : Value × Value => .tuple #[.agg #[X.1, X.2], .bool r.2]) (fun X => [.own X.1 (lc r.1.Add), .own X.2 (lc r.1.Drop)]) := by
  refine Con.intro (args := [strV s]) (n := 73) (val := fun r (X : Value × Value) => .tuple #[.agg #[X.1, X.2], .bool r.2]) (post := fun r X => [.own X.1 (lc r.1.Add), .own X.2 (lc r.1.Drop)]) (m := impl_ReadEdit s) Try.func12 rfl rfl rfl hm ?_
  intro w S _
  unfold impl_ReadEdit
  refine TW.seq ?_
  refine TW.region ?_
  refine TO.ef (Ef.alloc kz30 rfl) rfl rfl rfl (fun B1 => ?_)
  refine TO.y (Y.assign rfl) rfl rfl rfl ?_
  refine TO.nil ?_
  refine TE.next ?_
  refine TW.seq ?_
  refine TW.region ?_
  refine TO.y (Y.move rfl) rfl rfl rfl ?_
  refine TO.bind fun R2 H3 => ?_
  refine TO.ef (Ef.call (rest := [.box B1 30 [.slice none 0 0, .slice none 0 0]]) [0] (impl_unsummed_con s  R2 H3) kc42 rfl rfl trivial) rfl rfl rfl (fun _ => ?_)
  refine TO.y (Y.move rfl) rfl rfl rfl ?_
  refine TO.y (Y.extract rfl rfl) rfl rfl rfl ?_
  refine TO.y (Y.extract rfl rfl) rfl rfl rfl ?_
  refine TO.y (Y.assign rfl) rfl rfl rfl ?_
  refine TO.y (Y.assign rfl) rfl rfl rfl ?_
  refine TO.nil ?_
  refine TE.next ?_
  refine TW.seq ?_
  refine TW.seq ?_
  refine TW.region ?_
  refine TO.y (Y.move rfl) rfl rfl rfl ?_
  refine TO.y (Y.not rfl) rfl rfl rfl ?_
  refine TO.nil ?_
  refine TE.next ?_
  refine TW.cond rfl (fun H5 => ?_) (fun H5 => ?_)
  · refine TW.seq ?_
    refine TW.region ?_
    refine TO.y (Y.build (cells := [.slice none 0 0, .slice none 0 0]) [] kp30 kz30 trivial rfl) rfl rfl rfl ?_
    refine TO.ef0 (Ef.store_box (us := [.slice none 0 0, .slice none 0 0]) (vs' := [.slice none 0 0, .slice none 0 0]) (is' := [.box B1 30 [.slice none 0 0, .slice none 0 0]]) 0 kk30 rfl rfl rfl (Cel.plain rfl rfl) rfl rfl rfl rfl) rfl rfl (fun _ => ?_)
    refine TO.y (Y.assign rfl) rfl rfl rfl ?_
    refine TO.nil ?_
    refine TE.next ?_
    refine TW.ret ?_
    refine TE.then_ret ?_
    exact TE.leaf fun _ _ hf_ hs_ => ret_any (rs := [.cell 2 30, .tmp 3]) (vs := [.agg #[.slice none 0 0, .slice none 0 0], .bool false]) (.inl rfl) rfl (RV.cell 0 rfl rfl kk30 rfl ⟨rfl, trivial⟩) hf_ hs_ ⟨((.slice none 0 0), (.slice none 0 0)), rfl, ((hs_.nilItem 4).nilItem 1).pulls [1, 0] rfl⟩
  · refine TW.skip ?_
    refine TE.next ?_
    refine TW.seq ?_
    refine TW.region ?_
    refine TO.y (Y.move rfl) rfl rfl rfl ?_
    refine TO.y (Y.build (cells := [strV R2.1, .int .i64 (0 : Int), .bool false]) [(0, [strV R2.1])] kp75 kz75 ⟨rfl, ⟨_, rfl, (Cel.plain rfl rfl)⟩, trivial⟩ rfl) rfl rfl rfl ?_
    refine TO.ef (Ef.alloc kz75 rfl) rfl rfl rfl (fun B8 => ?_)
    refine TO.ef0 (Ef.store_box (us := [strV R2.1, .int .i64 (0 : Int), .bool false]) (vs' := [strV R2.1, .int .i64 (0 : Int), .bool false]) (is' := [.box B8 75 [strV R2.1, .int .i64 (0 : Int), .bool false], .box B1 30 [.slice none 0 0, .slice none 0 0]]) 0 kk75 rfl rfl rfl (Cel.plain rfl rfl) rfl rfl rfl rfl) rfl rfl (fun _ => ?_)
    refine TO.nil ?_
    refine TE.next ?_
    refine TW.seq ?_
    refine TW.region ?_
    refine TO.ef (Ef.alloc kz30 rfl) rfl rfl rfl (fun B9 => ?_)
    refine TO.nil ?_
    refine TE.next ?_
    refine TW.seq ?_
    refine TW.seq ?_
    refine TW.region ?_
    refine TO.bind fun R10 H11 => ?_
    refine TO.ef (Ef.call (rest := [.box B9 30 [.slice none 0 0, .slice none 0 0], .box B1 30 [.slice none 0 0, .slice none 0 0]]) [1, 0, 0] (impl_reader_number_con ({ text := R2.1, at_ := (0 : Int), bad := false : Reader }) B8 R10 H11) kc43 rfl rfl trivial) rfl rfl rfl (fun _ => ?_)
    refine TO.y (Y.assign rfl) rfl rfl rfl ?_
    refine TO.nil ?_
    refine TE.next ?_
    refine TW.joinX (τ := List UInt8 × Int × Bool × List Int) (X := Value) (fun _ _ => [(0, strV s), (2, .pointer (some ⟨B1, 0, none⟩)), (6, .pointer (some ⟨B8, 0, none⟩)), (7, .pointer (some ⟨B9, 0, none⟩))]) (fun T X => [.box B1 30 [.slice none 0 0, .slice none 0 0], .box B8 75 [strV T.1, .int .i64 T.2.1, .bool T.2.2.1], .box B9 30 [.slice none 0 0, X], .own X (lc T.2.2.2)]) ?_ (fun T15 X16 => ?_)
    · refine TW.block ?_
      refine TW.nilItem 1 ?_
      refine TW.loopX (σ := List UInt8 × Int × Bool × Int × List Int) (X := Value) (fun T _ => [(0, strV s), (2, .pointer (some ⟨B1, 0, none⟩)), (6, .pointer (some ⟨B8, 0, none⟩)), (7, .pointer (some ⟨B9, 0, none⟩)), (8, .int .i64 T.2.2.2.1)]) (fun T X => [.box B1 30 [.slice none 0 0, .slice none 0 0], .box B8 75 [strV T.1, .int .i64 T.2.1, .bool T.2.2.1], .box B9 30 [.slice none 0 0, X], .own X (lc T.2.2.2.2)]) (.slice none 0 0) [3, 1, 1, 0] ⟨rfl, rfl, rfl, rfl, rfl, trivial⟩ rfl (fun S13 X14 => ?_)
      refine TW.seq ?_
      refine TW.seq ?_
      refine TW.joinBX (τ := Bool) (X := Unit) (fun T _ => [(0, strV s), (2, .pointer (some ⟨B1, 0, none⟩)), (6, .pointer (some ⟨B8, 0, none⟩)), (7, .pointer (some ⟨B9, 0, none⟩)), (8, .int .i64 S13.2.2.2.1), (29, .bool T)]) (fun _ _ => [.box B1 30 [.slice none 0 0, .slice none 0 0], .box B8 75 [strV S13.1, .int .i64 S13.2.1, .bool S13.2.2.1], .box B9 30 [.slice none 0 0, X14], .own X14 (lc S13.2.2.2.2)]) ?_ (fun T17 X18 => ?_)
      · refine TW.region ?_
        refine TO.y (Y.move rfl) rfl rfl rfl ?_
        refine TO.y (Y.gtr rfl rfl) rfl rfl rfl ?_
        refine TO.y (Y.move rfl) rfl rfl rfl ?_
        refine TO.ite (b := decide (S13.2.2.2.1 > (0 : Int))) (fun H19 => ?_) (fun H19 => ?_)
        · refine TO.y (Y.field_box kf75_2 rfl rfl) (Gd.at 2 true 25 (decide (S13.2.2.2.1 > (0 : Int))) rfl rfl rfl (beq_tt H19)) rfl rfl ?_
          refine TO.y (Y.load_box (v := .bool S13.2.2.1) 1 kk4 rfl rfl rfl) (Gd.at 2 true 25 (decide (S13.2.2.2.1 > (0 : Int))) rfl rfl rfl (beq_tt H19)) rfl rfl ?_
          refine TO.y (Y.not rfl) (Gd.at 2 true 25 (decide (S13.2.2.2.1 > (0 : Int))) rfl rfl rfl (beq_tt H19)) rfl rfl ?_
          refine TO.y (Y.pick_t H19 rfl rfl) rfl rfl rfl ?_
          refine TO.nil ?_
          exact TE.jb_go () [0, 0, 0, 0] ⟨rfl, rfl, rfl, rfl, rfl, rfl, trivial⟩ rfl
        · refine TO.off (Gd.at 2 true 25 (decide (S13.2.2.2.1 > (0 : Int))) rfl rfl rfl (beq_ft H19)) rfl rfl ?_
          refine TO.off (Gd.at 2 true 25 (decide (S13.2.2.2.1 > (0 : Int))) rfl rfl rfl (beq_ft H19)) rfl rfl ?_
          refine TO.off (Gd.at 2 true 25 (decide (S13.2.2.2.1 > (0 : Int))) rfl rfl rfl (beq_ft H19)) rfl rfl ?_
          refine TO.y (Y.pick_f H19 rfl rfl) rfl rfl rfl ?_
          refine TO.nil ?_
          exact TE.jb_go () [0, 0, 0, 0] ⟨rfl, rfl, rfl, rfl, rfl, rfl, trivial⟩ rfl
      · refine TE.next ?_
        refine TW.cond rfl (fun H20 => ?_) (fun H20 => ?_)
        · refine TW.skip ?_
          refine TE.next ?_
          refine TW.seq ?_
          refine TW.block ?_
          refine TW.seq ?_
          refine TW.region ?_
          refine TO.bind fun R21 H22 => ?_
          refine TO.ef (Ef.call (rest := [.box B1 30 [.slice none 0 0, .slice none 0 0], .box B9 30 [.slice none 0 0, X14], .own X14 (lc S13.2.2.2.2)]) [1, 0, 0, 0] (impl_reader_number_con ({ text := S13.1, at_ := S13.2.1, bad := S13.2.2.1 : Reader }) B8 R21 H22) kc43 rfl rfl trivial) rfl rfl rfl (fun _ => ?_)
          refine TO.y (Y.assign rfl) rfl rfl rfl ?_
          refine TO.nil ?_
          refine TE.next ?_
          refine TW.region ?_
          refine TO.y (Y.field_box kf30_1 rfl rfl) rfl rfl rfl ?_
          refine TO.y (Y.load_box (v := X14) 2 kk23 rfl rfl rfl) rfl rfl rfl ?_
          refine TO.y (Y.move rfl) rfl rfl rfl ?_
          refine TO.ef (Ef.buildSlice (α := Int) (Vs := [.int .i64 R21.1]) [R21.1] ke23 kz3 rfl rfl rfl rfl rfl) rfl rfl rfl (fun B24 => ?_)
          refine TO.bind fun E26 H27 => ?_
          refine TO.ef (Ef.append (α := Int) (is' := [.own (.slice (some ⟨B24, 0, none⟩) 1 1) (lc ([R21.1])), .box B8 75 [strV R21.2.text, .int .i64 R21.2.at_, .bool R21.2.bad], .box B1 30 [.slice none 0 0, .slice none 0 0], .box B9 30 [.slice none 0 0, X14]]) [4, 0, 0, 0, 0] H27 ke23 kz3 rfl rfl rfl rfl rfl (Can.own 0 rfl)) rfl rfl rfl (fun V25 => ?_)
          refine TO.y (Y.field_box kf30_1 rfl rfl) rfl rfl rfl ?_
          refine TO.ef0 (Ef.store_box (us := [V25]) (vs' := [.slice none 0 0, V25]) (is' := [.own V25 (lc E26), .own (.slice (some ⟨B24, 0, none⟩) 1 1) (lc ([R21.1])), .box B8 75 [strV R21.2.text, .int .i64 R21.2.at_, .bool R21.2.bad], .box B1 30 [.slice none 0 0, .slice none 0 0], .box B9 30 [.slice none 0 0, V25]]) 4 kk23 rfl rfl rfl (Cel.one (One.can (Can.own 0 rfl))) rfl rfl rfl rfl) rfl rfl (fun _ => ?_)
          refine TO.nil ?_
          refine TE.block_normal ?_
          refine TE.next ?_
          refine TW.region ?_
          refine TO.y (Y.move rfl) rfl rfl rfl ?_
          refine TO.y (Y.sub rfl rfl) rfl rfl rfl ?_
          refine TO.y (Y.assign rfl) rfl rfl rfl ?_
          refine TO.nil ?_
          exact TE.lp_go V25 [3, 2, 2, 0] ⟨rfl, rfl, rfl, rfl, rfl, trivial⟩ rfl
        · refine TW.exit ?_
          refine TE.then_exit ?_
          refine TE.lp_exit ?_
          refine TE.block_exit ?_
          exact TE.jn_go X14 [0, 0, 0, 0] ⟨rfl, rfl, rfl, rfl, trivial⟩ rfl
    · refine TE.next ?_
      refine TW.seq ?_
      refine TW.seq ?_
      refine TW.region ?_
      refine TO.bind fun R28 H29 => ?_
      refine TO.ef (Ef.call (rest := [.box B1 30 [.slice none 0 0, .slice none 0 0], .box B9 30 [.slice none 0 0, X16], .own X16 (lc T15.2.2.2)]) [1, 0, 0, 0] (impl_reader_number_con ({ text := T15.1, at_ := T15.2.1, bad := T15.2.2.1 : Reader }) B8 R28 H29) kc43 rfl rfl trivial) rfl rfl rfl (fun _ => ?_)
      refine TO.y (Y.assign rfl) rfl rfl rfl ?_
      refine TO.nil ?_
      refine TE.next ?_
      refine TW.joinX (τ := List UInt8 × Int × Bool × List File) (X := Value) (fun _ _ => [(0, strV s), (2, .pointer (some ⟨B1, 0, none⟩)), (6, .pointer (some ⟨B8, 0, none⟩)), (7, .pointer (some ⟨B9, 0, none⟩))]) (fun T X => [.box B1 30 [.slice none 0 0, .slice none 0 0], .box B8 75 [strV T.1, .int .i64 T.2.1, .bool T.2.2.1], .box B9 30 [X, X16], .own X (lc T.2.2.2), .own X16 (lc T15.2.2.2)]) ?_ (fun T33 X34 => ?_)
      · refine TW.block ?_
        refine TW.nilItem 4 ?_
        refine TW.loopX (σ := List UInt8 × Int × Bool × Int × List File) (X := Value) (fun T _ => [(0, strV s), (2, .pointer (some ⟨B1, 0, none⟩)), (6, .pointer (some ⟨B8, 0, none⟩)), (7, .pointer (some ⟨B9, 0, none⟩)), (10, .int .i64 T.2.2.2.1)]) (fun T X => [.box B1 30 [.slice none 0 0, .slice none 0 0], .box B8 75 [strV T.1, .int .i64 T.2.1, .bool T.2.2.1], .box B9 30 [X, X16], .own X (lc T.2.2.2.2), .own X16 (lc T15.2.2.2)]) (.slice none 0 0) [2, 1, 1, 0, 0] ⟨rfl, rfl, rfl, rfl, rfl, trivial⟩ rfl (fun S31 X32 => ?_)
        refine TW.seq ?_
        refine TW.seq ?_
        refine TW.joinBX (τ := Bool) (X := Unit) (fun T _ => [(0, strV s), (2, .pointer (some ⟨B1, 0, none⟩)), (6, .pointer (some ⟨B8, 0, none⟩)), (7, .pointer (some ⟨B9, 0, none⟩)), (10, .int .i64 S31.2.2.2.1), (46, .bool T)]) (fun _ _ => [.box B1 30 [.slice none 0 0, .slice none 0 0], .box B8 75 [strV S31.1, .int .i64 S31.2.1, .bool S31.2.2.1], .box B9 30 [X32, X16], .own X32 (lc S31.2.2.2.2), .own X16 (lc T15.2.2.2)]) ?_ (fun T35 X36 => ?_)
        · refine TW.region ?_
          refine TO.y (Y.move rfl) rfl rfl rfl ?_
          refine TO.y (Y.gtr rfl rfl) rfl rfl rfl ?_
          refine TO.y (Y.move rfl) rfl rfl rfl ?_
          refine TO.ite (b := decide (S31.2.2.2.1 > (0 : Int))) (fun H37 => ?_) (fun H37 => ?_)
          · refine TO.y (Y.field_box kf75_2 rfl rfl) (Gd.at 2 true 42 (decide (S31.2.2.2.1 > (0 : Int))) rfl rfl rfl (beq_tt H37)) rfl rfl ?_
            refine TO.y (Y.load_box (v := .bool S31.2.2.1) 1 kk4 rfl rfl rfl) (Gd.at 2 true 42 (decide (S31.2.2.2.1 > (0 : Int))) rfl rfl rfl (beq_tt H37)) rfl rfl ?_
            refine TO.y (Y.not rfl) (Gd.at 2 true 42 (decide (S31.2.2.2.1 > (0 : Int))) rfl rfl rfl (beq_tt H37)) rfl rfl ?_
            refine TO.y (Y.pick_t H37 rfl rfl) rfl rfl rfl ?_
            refine TO.nil ?_
            exact TE.jb_go () [0, 0, 0, 0, 0] ⟨rfl, rfl, rfl, rfl, rfl, rfl, trivial⟩ rfl
          · refine TO.off (Gd.at 2 true 42 (decide (S31.2.2.2.1 > (0 : Int))) rfl rfl rfl (beq_ft H37)) rfl rfl ?_
            refine TO.off (Gd.at 2 true 42 (decide (S31.2.2.2.1 > (0 : Int))) rfl rfl rfl (beq_ft H37)) rfl rfl ?_
            refine TO.off (Gd.at 2 true 42 (decide (S31.2.2.2.1 > (0 : Int))) rfl rfl rfl (beq_ft H37)) rfl rfl ?_
            refine TO.y (Y.pick_f H37 rfl rfl) rfl rfl rfl ?_
            refine TO.nil ?_
            exact TE.jb_go () [0, 0, 0, 0, 0] ⟨rfl, rfl, rfl, rfl, rfl, rfl, trivial⟩ rfl
        · refine TE.next ?_
          refine TW.cond rfl (fun H38 => ?_) (fun H38 => ?_)
          · refine TW.skip ?_
            refine TE.next ?_
            refine TW.seq ?_
            refine TW.block ?_
            refine TW.seq ?_
            refine TW.region ?_
            refine TO.bind fun R39 H40 => ?_
            refine TO.ef (Ef.call (rest := [.box B1 30 [.slice none 0 0, .slice none 0 0], .box B9 30 [X32, X16], .own X32 (lc S31.2.2.2.2), .own X16 (lc T15.2.2.2)]) [1, 0, 0, 0, 0] (impl_reader_number_con ({ text := S31.1, at_ := S31.2.1, bad := S31.2.2.1 : Reader }) B8 R39 H40) kc43 rfl rfl trivial) rfl rfl rfl (fun _ => ?_)
            refine TO.y (Y.build (cells := [.int .i64 R39.1, .int .i64 (0 : Int), strV ([]), strV ([])]) [(0, [.int .i64 R39.1])] kp52 kz52 ⟨rfl, ⟨_, rfl, (Cel.plain rfl rfl)⟩, trivial⟩ rfl) rfl rfl rfl ?_
            refine TO.ef (Ef.alloc kz52 rfl) rfl rfl rfl (fun B42 => ?_)
            refine TO.ef0 (Ef.store_box (us := [.int .i64 R39.1, .int .i64 (0 : Int), strV ([]), strV ([])]) (vs' := [.int .i64 R39.1, .int .i64 (0 : Int), strV ([]), strV ([])]) (is' := [.box B42 52 [.int .i64 R39.1, .int .i64 (0 : Int), strV ([]), strV ([])], .box B8 75 [strV R39.2.text, .int .i64 R39.2.at_, .bool R39.2.bad], .box B1 30 [.slice none 0 0, .slice none 0 0], .box B9 30 [X32, X16], .own X32 (lc S31.2.2.2.2), .own X16 (lc T15.2.2.2)]) 0 kk52 rfl rfl rfl (Cel.plain rfl rfl) rfl rfl rfl rfl) rfl rfl (fun _ => ?_)
            refine TO.nil ?_
            refine TE.next ?_
            refine TW.seq ?_
            refine TW.region ?_
            refine TO.bind fun R43 H44 => ?_
            refine TO.ef (Ef.call (rest := [.box B42 52 [.int .i64 R39.1, .int .i64 (0 : Int), strV ([]), strV ([])], .box B1 30 [.slice none 0 0, .slice none 0 0], .box B9 30 [X32, X16], .own X32 (lc S31.2.2.2.2), .own X16 (lc T15.2.2.2)]) [1, 0, 0, 0, 0, 0] (impl_reader_number_con R39.2 B8 R43 H44) kc43 rfl rfl trivial) rfl rfl rfl (fun _ => ?_)
            refine TO.y (Y.field_box kf52_1 rfl rfl) rfl rfl rfl ?_
            refine TO.ef0 (Ef.store_box (us := [.int .i64 R43.1]) (vs' := [.int .i64 R39.1, .int .i64 R43.1, strV ([]), strV ([])]) (is' := [.box B8 75 [strV R43.2.text, .int .i64 R43.2.at_, .bool R43.2.bad], .box B42 52 [.int .i64 R39.1, .int .i64 R43.1, strV ([]), strV ([])], .box B1 30 [.slice none 0 0, .slice none 0 0], .box B9 30 [X32, X16], .own X32 (lc S31.2.2.2.2), .own X16 (lc T15.2.2.2)]) 1 kk3 rfl rfl rfl (Cel.plain rfl rfl) rfl rfl rfl rfl) rfl rfl (fun _ => ?_)
            refine TO.nil ?_
            refine TE.next ?_
            refine TW.seq ?_
            refine TW.region ?_
            refine TO.bind fun R46 H47 => ?_
            refine TO.ef (Ef.call (rest := [.box B42 52 [.int .i64 R39.1, .int .i64 R43.1, strV ([]), strV ([])], .box B1 30 [.slice none 0 0, .slice none 0 0], .box B9 30 [X32, X16], .own X32 (lc S31.2.2.2.2), .own X16 (lc T15.2.2.2)]) [0, 0, 0, 0, 0, 0] (impl_reader_short_con R43.2 B8 R46 H47) kc44 rfl rfl trivial) rfl rfl rfl (fun _ => ?_)
            refine TO.y (Y.field_box kf52_2 rfl rfl) rfl rfl rfl ?_
            refine TO.ef0 (Ef.store_box (us := [strV R46.1]) (vs' := [.int .i64 R39.1, .int .i64 R43.1, strV R46.1, strV ([])]) (is' := [.box B8 75 [strV R46.2.text, .int .i64 R46.2.at_, .bool R46.2.bad], .box B42 52 [.int .i64 R39.1, .int .i64 R43.1, strV R46.1, strV ([])], .box B1 30 [.slice none 0 0, .slice none 0 0], .box B9 30 [X32, X16], .own X32 (lc S31.2.2.2.2), .own X16 (lc T15.2.2.2)]) 1 kk9 rfl rfl rfl (Cel.plain rfl rfl) rfl rfl rfl rfl) rfl rfl (fun _ => ?_)
            refine TO.nil ?_
            refine TE.next ?_
            refine TW.seq ?_
            refine TW.region ?_
            refine TO.bind fun R49 H50 => ?_
            refine TO.ef (Ef.call (rest := [.box B42 52 [.int .i64 R39.1, .int .i64 R43.1, strV R46.1, strV ([])], .box B1 30 [.slice none 0 0, .slice none 0 0], .box B9 30 [X32, X16], .own X32 (lc S31.2.2.2.2), .own X16 (lc T15.2.2.2)]) [0, 0, 0, 0, 0, 0] (impl_reader_short_con R46.2 B8 R49 H50) kc44 rfl rfl trivial) rfl rfl rfl (fun _ => ?_)
            refine TO.y (Y.field_box kf52_3 rfl rfl) rfl rfl rfl ?_
            refine TO.ef0 (Ef.store_box (us := [strV R49.1]) (vs' := [.int .i64 R39.1, .int .i64 R43.1, strV R46.1, strV R49.1]) (is' := [.box B8 75 [strV R49.2.text, .int .i64 R49.2.at_, .bool R49.2.bad], .box B42 52 [.int .i64 R39.1, .int .i64 R43.1, strV R46.1, strV R49.1], .box B1 30 [.slice none 0 0, .slice none 0 0], .box B9 30 [X32, X16], .own X32 (lc S31.2.2.2.2), .own X16 (lc T15.2.2.2)]) 1 kk9 rfl rfl rfl (Cel.plain rfl rfl) rfl rfl rfl rfl) rfl rfl (fun _ => ?_)
            refine TO.nil ?_
            refine TE.next ?_
            refine TW.region ?_
            refine TO.y (Y.field_box kf30_0 rfl rfl) rfl rfl rfl ?_
            refine TO.y (Y.load_box (v := X32) 3 kk28 rfl rfl rfl) rfl rfl rfl ?_
            refine TO.y (Y.load_box (v := .agg #[.int .i64 R39.1, .int .i64 R43.1, strV R46.1, strV R49.1]) 1 kk52 rfl rfl rfl) rfl rfl rfl ?_
            refine TO.ef (Ef.buildSlice (α := File) (Vs := [.agg #[.int .i64 R39.1, .int .i64 R43.1, strV R46.1, strV R49.1]]) [{ No := R39.1, Level := R43.1, Lo := R46.1, Hi := R49.1 : File }] ke28 kz52 rfl rfl rfl rfl rfl) rfl rfl rfl (fun B52 => ?_)
            refine TO.bind fun E54 H55 => ?_
            refine TO.ef (Ef.append (α := File) (is' := [.own (.slice (some ⟨B52, 0, none⟩) 1 1) (lc ([{ No := R39.1, Level := R43.1, Lo := R46.1, Hi := R49.1 : File }])), .box B8 75 [strV R49.2.text, .int .i64 R49.2.at_, .bool R49.2.bad], .box B42 52 [.int .i64 R39.1, .int .i64 R43.1, strV R46.1, strV R49.1], .box B1 30 [.slice none 0 0, .slice none 0 0], .box B9 30 [X32, X16], .own X16 (lc T15.2.2.2)]) [5, 0, 0, 0, 0, 0, 0] H55 ke28 kz52 rfl rfl rfl rfl rfl (Can.own 0 rfl)) rfl rfl rfl (fun V53 => ?_)
            refine TO.y (Y.field_box kf30_0 rfl rfl) rfl rfl rfl ?_
            refine TO.ef0 (Ef.store_box (us := [V53]) (vs' := [V53, X16]) (is' := [.own V53 (lc E54), .own (.slice (some ⟨B52, 0, none⟩) 1 1) (lc ([{ No := R39.1, Level := R43.1, Lo := R46.1, Hi := R49.1 : File }])), .box B8 75 [strV R49.2.text, .int .i64 R49.2.at_, .bool R49.2.bad], .box B42 52 [.int .i64 R39.1, .int .i64 R43.1, strV R46.1, strV R49.1], .box B1 30 [.slice none 0 0, .slice none 0 0], .box B9 30 [V53, X16], .own X16 (lc T15.2.2.2)]) 5 kk28 rfl rfl rfl (Cel.one (One.can (Can.own 0 rfl))) rfl rfl rfl rfl) rfl rfl (fun _ => ?_)
            refine TO.nil ?_
            refine TE.block_normal ?_
            refine TE.next ?_
            refine TW.region ?_
            refine TO.y (Y.move rfl) rfl rfl rfl ?_
            refine TO.y (Y.sub rfl rfl) rfl rfl rfl ?_
            refine TO.y (Y.assign rfl) rfl rfl rfl ?_
            refine TO.nil ?_
            exact TE.lp_go V53 [4, 2, 3, 0, 2] ⟨rfl, rfl, rfl, rfl, rfl, trivial⟩ rfl
          · refine TW.exit ?_
            refine TE.then_exit ?_
            refine TE.lp_exit ?_
            refine TE.block_exit ?_
            exact TE.jn_go X32 [0, 0, 0, 0, 0] ⟨rfl, rfl, rfl, rfl, trivial⟩ rfl
      · refine TE.next ?_
        refine TW.seq ?_
        refine TW.seq ?_
        refine TW.joinBX (τ := Bool) (X := Unit) (fun T _ => [(2, .pointer (some ⟨B1, 0, none⟩)), (7, .pointer (some ⟨B9, 0, none⟩)), (70, .bool T)]) (fun _ _ => [.box B1 30 [.slice none 0 0, .slice none 0 0], .box B9 30 [X34, X16], .own X34 (lc T33.2.2.2), .own X16 (lc T15.2.2.2)]) ?_ (fun T56 X57 => ?_)
        · refine TW.region ?_
          refine TO.bind fun R58 H59 => ?_
          refine TO.ef (Ef.call (rest := [.box B1 30 [.slice none 0 0, .slice none 0 0], .box B9 30 [X34, X16], .own X34 (lc T33.2.2.2), .own X16 (lc T15.2.2.2)]) [1, 0, 0, 0, 0] (impl_reader_done_con ({ text := T33.1, at_ := T33.2.1, bad := T33.2.2.1 : Reader }) B8 R58 H59) kc45 rfl rfl trivial) rfl rfl rfl (fun _ => ?_)
          refine TO.y (Y.not rfl) rfl rfl rfl ?_
          refine TO.y (Y.move rfl) rfl rfl rfl ?_
          refine TO.ite (b := !R58) (fun H61 => ?_) (fun H61 => ?_)
          · refine TO.off (Gd.at 2 false 65 (!R58) rfl rfl rfl (beq_tf H61)) rfl rfl ?_
            refine TO.off (Gd.at 2 false 65 (!R58) rfl rfl rfl (beq_tf H61)) rfl rfl ?_
            refine TO.off (Gd.at 2 false 65 (!R58) rfl rfl rfl (beq_tf H61)) rfl rfl ?_
            refine TO.off (Gd.at 2 false 65 (!R58) rfl rfl rfl (beq_tf H61)) rfl rfl ?_
            refine TO.y (Y.pick_t H61 rfl rfl) rfl rfl rfl ?_
            refine TO.nil ?_
            exact TE.jb_go () [1, 1, 1, 1] ⟨rfl, rfl, rfl, trivial⟩ rfl
          · refine TO.y (Y.load_box (v := .agg #[X34, X16]) 2 kk30 rfl rfl rfl) (Gd.at 2 false 65 (!R58) rfl rfl rfl (beq_ff H61)) rfl rfl ?_
            refine TO.bind fun R62 H63 => ?_
            refine TO.ef (Ef.call (rest := [.box B8 75 [strV T33.1, .int .i64 T33.2.1, .bool T33.2.2.1], .box B1 30 [.slice none 0 0, .slice none 0 0], .box B9 30 [X34, X16], .own X34 (lc T33.2.2.2), .own X16 (lc T15.2.2.2)]) [0, 0, 0, 0, 0] (impl_ShowEdit_con ({ Add := T33.2.2.2, Drop := T15.2.2.2 : Edit }) X34 X16 R62 H63) kc9 rfl rfl ⟨(Can.own 3 rfl), (Can.own 4 rfl), trivial⟩) (Gd.at 2 false 65 (!R58) rfl rfl rfl (beq_ff H61)) rfl rfl (fun _ => ?_)
            refine TO.y (Y.move rfl) (Gd.at 2 false 65 (!R58) rfl rfl rfl (beq_ff H61)) rfl rfl ?_
            refine TO.y (Y.sneq rfl rfl) (Gd.at 2 false 65 (!R58) rfl rfl rfl (beq_ff H61)) rfl rfl ?_
            refine TO.y (Y.pick_f H61 rfl rfl) rfl rfl rfl ?_
            refine TO.nil ?_
            exact TE.jb_go () [1, 1, 1, 1] ⟨rfl, rfl, rfl, trivial⟩ rfl
        · refine TE.next ?_
          refine TW.cond rfl (fun H65 => ?_) (fun H65 => ?_)
          · refine TW.seq ?_
            refine TW.region ?_
            refine TO.y (Y.build (cells := [.slice none 0 0, .slice none 0 0]) [] kp30 kz30 trivial rfl) rfl rfl rfl ?_
            refine TO.ef0 (Ef.store_box (us := [.slice none 0 0, .slice none 0 0]) (vs' := [.slice none 0 0, .slice none 0 0]) (is' := [.box B1 30 [.slice none 0 0, .slice none 0 0], .box B9 30 [X34, X16], .own X34 (lc T33.2.2.2), .own X16 (lc T15.2.2.2)]) 0 kk30 rfl rfl rfl (Cel.plain rfl rfl) rfl rfl rfl rfl) rfl rfl (fun _ => ?_)
            refine TO.y (Y.assign rfl) rfl rfl rfl ?_
            refine TO.nil ?_
            refine TE.next ?_
            refine TW.ret ?_
            refine TE.then_ret ?_
            exact TE.leaf fun _ _ hf_ hs_ => ret_any (rs := [.cell 2 30, .tmp 3]) (vs := [.agg #[.slice none 0 0, .slice none 0 0], .bool false]) (.inl rfl) rfl (RV.cell 0 rfl rfl kk30 rfl ⟨rfl, trivial⟩) hf_ hs_ ⟨((.slice none 0 0), (.slice none 0 0)), rfl, ((hs_.nilItem 4).nilItem 1).pulls [1, 0] rfl⟩
          · refine TW.skip ?_
            refine TE.next ?_
            refine TW.seq ?_
            refine TW.region ?_
            refine TO.y (Y.load_box (v := .agg #[X34, X16]) 1 kk30 rfl rfl rfl) rfl rfl rfl ?_
            refine TO.ef0 (Ef.store_box (us := [X34, X16]) (vs' := [X34, X16]) (is' := [.box B1 30 [X34, X16], .box B9 30 [X34, X16], .own X34 (lc T33.2.2.2), .own X16 (lc T15.2.2.2)]) 0 kk30 rfl rfl rfl (Cel.agg ⟨(One.can (Can.own 2 rfl)), (One.can (Can.own 3 rfl)), trivial⟩) rfl rfl rfl rfl) rfl rfl (fun _ => ?_)
            refine TO.y (Y.assign rfl) rfl rfl rfl ?_
            refine TO.nil ?_
            refine TE.next ?_
            refine TW.ret ?_
            exact TE.leaf fun _ _ hf_ hs_ => ret_any (rs := [.cell 2 30, .tmp 3]) (vs := [.agg #[X34, X16], .bool true]) (.inl rfl) rfl (RV.cell 0 rfl rfl kk30 rfl ⟨rfl, trivial⟩) hf_ hs_ ⟨(X34, X16), rfl, hs_.pulls [2, 2] rfl⟩

/-- loop.example/g00950/laws.eqFile -/
noncomputable def laws_eqFile (a : File) (b : File) : Option Bool :=
  if (!(decide (a.No = b.No))) = true then (some false)
  else (if (!(decide (a.Level = b.Level))) = true then (some false)
  else (if (!(decide (a.Lo = b.Lo))) = true then (some false)
  else (if (!(decide (a.Hi = b.Hi))) = true then (some false)
  else (some true))))

theorem laws_eqFile_con (a : File) (b : File)  (r : Bool) (hm : laws_eqFile a b = some r) :
    Con Try.prog 50 [.agg #[.int .i64 a.No, .int .i64 a.Level, strV a.Lo, strV a.Hi], .agg #[.int .i64 b.No, .int .i64 b.Level, strV b.Lo, strV b.Hi]] [] [] (fun _ : Unit => .bool r) (fun _ => []) := by
  refine Con.intro (args := [.agg #[.int .i64 a.No, .int .i64 a.Level, strV a.Lo, strV a.Hi], .agg #[.int .i64 b.No, .int .i64 b.Level, strV b.Lo, strV b.Hi]]) (n := 25) (val := fun r (_ : Unit) => .bool r) (post := fun _ _ => []) (m := laws_eqFile a b) Try.func50 rfl rfl rfl hm ?_
  intro w S _
  unfold laws_eqFile
  refine TW.seq ?_
  refine TW.region ?_
  refine TO.ef (Ef.box rfl (Cel.plain rfl rfl)) rfl rfl rfl (fun B1 => ?_)
  refine TO.ef (Ef.box rfl (Cel.plain rfl rfl)) rfl rfl rfl (fun B2 => ?_)
  refine TO.y (Y.assign rfl) rfl rfl rfl ?_
  refine TO.nil ?_
  refine TE.next ?_
  refine TW.seq ?_
  refine TW.seq ?_
  refine TW.region ?_
  refine TO.y (Y.field_box kf52_0 rfl rfl) rfl rfl rfl ?_
  refine TO.y (Y.load_box (v := .int .i64 a.No) 1 kk3 rfl rfl rfl) rfl rfl rfl ?_
  refine TO.y (Y.field_box kf52_0 rfl rfl) rfl rfl rfl ?_
  refine TO.y (Y.load_box (v := .int .i64 b.No) 0 kk3 rfl rfl rfl) rfl rfl rfl ?_
  refine TO.y (Y.neq rfl rfl) rfl rfl rfl ?_
  refine TO.nil ?_
  refine TE.next ?_
  refine TW.cond rfl (fun H3 => ?_) (fun H3 => ?_)
  · refine TW.seq ?_
    refine TW.region ?_
    refine TO.y (Y.assign rfl) rfl rfl rfl ?_
    refine TO.nil ?_
    refine TE.next ?_
    refine TW.ret ?_
    refine TE.then_ret ?_
    exact TE.leaf fun _ _ hf_ hs_ => ret_any (rs := [.tmp 4]) (vs := [.bool false]) (.inl rfl) rfl ⟨rfl, trivial⟩ hf_ hs_ ⟨(), rfl, hs_.pulls [] rfl⟩
  · refine TW.skip ?_
    refine TE.next ?_
    refine TW.seq ?_
    refine TW.seq ?_
    refine TW.region ?_
    refine TO.y (Y.field_box kf52_1 rfl rfl) rfl rfl rfl ?_
    refine TO.y (Y.load_box (v := .int .i64 a.Level) 1 kk3 rfl rfl rfl) rfl rfl rfl ?_
    refine TO.y (Y.field_box kf52_1 rfl rfl) rfl rfl rfl ?_
    refine TO.y (Y.load_box (v := .int .i64 b.Level) 0 kk3 rfl rfl rfl) rfl rfl rfl ?_
    refine TO.y (Y.neq rfl rfl) rfl rfl rfl ?_
    refine TO.nil ?_
    refine TE.next ?_
    refine TW.cond rfl (fun H4 => ?_) (fun H4 => ?_)
    · refine TW.seq ?_
      refine TW.region ?_
      refine TO.y (Y.assign rfl) rfl rfl rfl ?_
      refine TO.nil ?_
      refine TE.next ?_
      refine TW.ret ?_
      refine TE.then_ret ?_
      exact TE.leaf fun _ _ hf_ hs_ => ret_any (rs := [.tmp 4]) (vs := [.bool false]) (.inl rfl) rfl ⟨rfl, trivial⟩ hf_ hs_ ⟨(), rfl, hs_.pulls [] rfl⟩
    · refine TW.skip ?_
      refine TE.next ?_
      refine TW.seq ?_
      refine TW.seq ?_
      refine TW.region ?_
      refine TO.y (Y.field_box kf52_2 rfl rfl) rfl rfl rfl ?_
      refine TO.y (Y.load_box (v := strV a.Lo) 1 kk9 rfl rfl rfl) rfl rfl rfl ?_
      refine TO.y (Y.field_box kf52_2 rfl rfl) rfl rfl rfl ?_
      refine TO.y (Y.load_box (v := strV b.Lo) 0 kk9 rfl rfl rfl) rfl rfl rfl ?_
      refine TO.y (Y.sneq rfl rfl) rfl rfl rfl ?_
      refine TO.nil ?_
      refine TE.next ?_
      refine TW.cond rfl (fun H5 => ?_) (fun H5 => ?_)
      · refine TW.seq ?_
        refine TW.region ?_
        refine TO.y (Y.assign rfl) rfl rfl rfl ?_
        refine TO.nil ?_
        refine TE.next ?_
        refine TW.ret ?_
        refine TE.then_ret ?_
        exact TE.leaf fun _ _ hf_ hs_ => ret_any (rs := [.tmp 4]) (vs := [.bool false]) (.inl rfl) rfl ⟨rfl, trivial⟩ hf_ hs_ ⟨(), rfl, hs_.pulls [] rfl⟩
      · refine TW.skip ?_
        refine TE.next ?_
        refine TW.seq ?_
        refine TW.seq ?_
        refine TW.region ?_
        refine TO.y (Y.field_box kf52_3 rfl rfl) rfl rfl rfl ?_
        refine TO.y (Y.load_box (v := strV a.Hi) 1 kk9 rfl rfl rfl) rfl rfl rfl ?_
        refine TO.y (Y.field_box kf52_3 rfl rfl) rfl rfl rfl ?_
        refine TO.y (Y.load_box (v := strV b.Hi) 0 kk9 rfl rfl rfl) rfl rfl rfl ?_
        refine TO.y (Y.sneq rfl rfl) rfl rfl rfl ?_
        refine TO.nil ?_
        refine TE.next ?_
        refine TW.cond rfl (fun H6 => ?_) (fun H6 => ?_)
        · refine TW.seq ?_
          refine TW.region ?_
          refine TO.y (Y.assign rfl) rfl rfl rfl ?_
          refine TO.nil ?_
          refine TE.next ?_
          refine TW.ret ?_
          refine TE.then_ret ?_
          exact TE.leaf fun _ _ hf_ hs_ => ret_any (rs := [.tmp 4]) (vs := [.bool false]) (.inl rfl) rfl ⟨rfl, trivial⟩ hf_ hs_ ⟨(), rfl, hs_.pulls [] rfl⟩
        · refine TW.skip ?_
          refine TE.next ?_
          refine TW.seq ?_
          refine TW.region ?_
          refine TO.y (Y.assign rfl) rfl rfl rfl ?_
          refine TO.nil ?_
          refine TE.next ?_
          refine TW.ret ?_
          exact TE.leaf fun _ _ hf_ hs_ => ret_any (rs := [.tmp 4]) (vs := [.bool true]) (.inl rfl) rfl ⟨rfl, trivial⟩ hf_ hs_ ⟨(), rfl, hs_.pulls [] rfl⟩

/-- loop.example/g00950/laws.eqFileS -/
noncomputable def laws_eqFileS (a : List File) (b : List File) : Option Bool :=
  if (!(decide (((a.length : Nat) : Int) = ((b.length : Nat) : Int)))) = true then (some false)
  else (bindC (loopO (fun (S2 : Int) => if (decide (S2 < ((a.length : Nat) : Int))) = true then ((idx a S2).bind fun E7 =>
  (idx b S2).bind fun E9 =>
  (laws_eqFile E7 E9).bind fun R11 =>
  if (!R11) = true then (some (.done (.done false)))
  else (some (.go (IntKind.i64.wrap (S2 + (1 : Int))))))
  else (some (.done (.go ()))))
  (0 : Int))
  (fun (T4 : Unit) => some true))

theorem laws_eqFileS_con (a : List File) (b : List File) (V_a0 : Value) (V_b0 : Value) (r : Bool) (hm : laws_eqFileS a b = some r) :
    Con Try.prog 19 [V_a0, V_b0] [] [(V_a0, lc a), (V_b0, lc b)] (fun _ : Unit => .bool r) (fun _ => []) := by
  refine Con.intro (args := [V_a0, V_b0]) (n := 27) (val := fun r (_ : Unit) => .bool r) (post := fun _ _ => []) (m := laws_eqFileS a b) Try.func19 rfl rfl rfl hm ?_
  intro w S hrd
  have HB_V_a0 := hrd _ (.head _)
  have HB_V_b0 := hrd _ (.tail _ (.head _))
  clear hrd
  unfold laws_eqFileS
  refine TW.seq ?_
  refine TW.region ?_
  refine TO.y (Y.assign rfl) rfl rfl rfl ?_
  refine TO.nil ?_
  refine TE.next ?_
  refine TW.seq ?_
  refine TW.seq ?_
  refine TW.region ?_
  refine TO.y (Y.move rfl) rfl rfl rfl ?_
  refine TO.y (Y.len (l := a) ke28 (Base.can HB_V_a0) rfl) rfl rfl rfl ?_
  refine TO.y (Y.move rfl) rfl rfl rfl ?_
  refine TO.y (Y.len (l := b) ke28 (Base.can HB_V_b0) rfl) rfl rfl rfl ?_
  refine TO.y (Y.neq rfl rfl) rfl rfl rfl ?_
  refine TO.nil ?_
  refine TE.next ?_
  refine TW.cond rfl (fun H1 => ?_) (fun H1 => ?_)
  · refine TW.seq ?_
    refine TW.region ?_
    refine TO.y (Y.assign rfl) rfl rfl rfl ?_
    refine TO.nil ?_
    refine TE.next ?_
    refine TW.ret ?_
    refine TE.then_ret ?_
    exact TE.leaf fun _ _ hf_ hs_ => ret_any (rs := [.tmp 4]) (vs := [.bool false]) (.inl rfl) rfl ⟨rfl, trivial⟩ hf_ hs_ ⟨(), rfl, hs_.pulls [] rfl⟩
  · refine TW.skip ?_
    refine TE.next ?_
    refine TW.seq ?_
    refine TW.seq ?_
    refine TW.region ?_
    refine TO.y (Y.assign rfl) rfl rfl rfl ?_
    refine TO.nil ?_
    refine TE.next ?_
    refine TW.joinX (τ := Unit) (X := Unit) (fun _ _ => []) (fun _ _ => []) ?_ (fun T4 X5 => ?_)
    · refine TW.block ?_
      refine TW.loopX (σ := Int) (X := Unit) (fun T _ => [(0, V_a0), (1, V_b0), (5, .int .i64 T)]) (fun _ _ => []) () [] ⟨rfl, rfl, rfl, trivial⟩ rfl (fun S2 X3 => ?_)
      refine TW.seq ?_
      refine TW.seq ?_
      refine TW.region ?_
      refine TO.y (Y.move rfl) rfl rfl rfl ?_
      refine TO.y (Y.move rfl) rfl rfl rfl ?_
      refine TO.y (Y.len (l := a) ke28 (Base.can HB_V_a0) rfl) rfl rfl rfl ?_
      refine TO.y (Y.lss rfl rfl) rfl rfl rfl ?_
      refine TO.nil ?_
      refine TE.next ?_
      refine TW.cond rfl (fun H6 => ?_) (fun H6 => ?_)
      · refine TW.skip ?_
        refine TE.next ?_
        refine TW.seq ?_
        refine TW.block ?_
        refine TW.seq ?_
        refine TW.draw (isH := []) hMix ?_
        refine TA.y (listed' := #[true, false, false, false, false, false, false, false, false, false]) 0 [] rfl (Y.move rfl) rfl rfl rfl (by kernel_rfl) (by kernel_rfl) (by kernel_rfl) rfl rfl ?_
        refine TA.y (listed' := #[true, true, false, false, false, false, false, false, false, false]) 1 [] rfl (Y.move rfl) rfl rfl rfl (by kernel_rfl) (by kernel_rfl) (by kernel_rfl) rfl rfl ?_
        refine TA.bind fun E7 H8 => ?_
        refine TA.y (listed' := #[true, true, true, false, false, false, false, false, false, false]) 2 [] rfl (Y.index ke28 (Base.can HB_V_a0) H8 rfl rfl) rfl rfl rfl (by kernel_rfl) (by kernel_rfl) (by kernel_rfl) rfl rfl ?_
        refine TA.y (listed' := #[true, true, true, true, false, false, false, false, false, false]) 3 [] rfl (Y.load_el (us := [.int .i64 E7.No, .int .i64 E7.Level, strV E7.Lo, strV E7.Hi]) (u := .agg #[.int .i64 E7.No, .int .i64 E7.Level, strV E7.Lo, strV E7.Hi]) kk52 rfl (Base.can HB_V_a0) (idx_get H8).2.2 rfl rfl rfl rfl rfl) rfl rfl rfl (by kernel_rfl) (by kernel_rfl) (by kernel_rfl) rfl rfl ?_
        refine TA.y (listed' := #[true, true, true, true, true, false, false, false, false, false]) 4 [] rfl (Y.move rfl) rfl rfl rfl (by kernel_rfl) (by kernel_rfl) (by kernel_rfl) rfl rfl ?_
        refine TA.y (listed' := #[true, true, true, true, true, true, false, false, false, false]) 5 [] rfl (Y.move rfl) rfl rfl rfl (by kernel_rfl) (by kernel_rfl) (by kernel_rfl) rfl rfl ?_
        refine TA.bind fun E9 H10 => ?_
        refine TA.y (listed' := #[true, true, true, true, true, true, true, false, false, false]) 6 [] rfl (Y.index ke28 (Base.can HB_V_b0) H10 rfl rfl) rfl rfl rfl (by kernel_rfl) (by kernel_rfl) (by kernel_rfl) rfl rfl ?_
        refine TA.y (listed' := #[true, true, true, true, true, true, true, true, false, false]) 7 [] rfl (Y.load_el (us := [.int .i64 E9.No, .int .i64 E9.Level, strV E9.Lo, strV E9.Hi]) (u := .agg #[.int .i64 E9.No, .int .i64 E9.Level, strV E9.Lo, strV E9.Hi]) kk52 rfl (Base.can HB_V_b0) (idx_get H10).2.2 rfl rfl rfl rfl rfl) rfl rfl rfl (by kernel_rfl) (by kernel_rfl) (by kernel_rfl) rfl rfl ?_
        refine TA.bind fun R11 H12 => ?_
        refine TA.one 8 (by kernel_rfl) ?_
        refine TX.ef (listed' := #[true, true, true, true, true, true, true, true, true, false]) [] rfl (Ef.call (rest := []) [] (laws_eqFile_con E7 E9  R11 H12) kc50 rfl rfl trivial) rfl rfl rfl rfl (fun _ => rfl) (fun _ => ?_)
        refine TA.y (listed' := #[true, true, true, true, true, true, true, true, true, true]) 9 [] rfl (Y.not rfl) rfl rfl rfl (by kernel_rfl) (by kernel_rfl) (by kernel_rfl) rfl rfl ?_
        refine TA.nil (by kernel_rfl) ?_
        refine TE.next ?_
        refine TW.cond rfl (fun H14 => ?_) (fun H14 => ?_)
        · refine TW.seq ?_
          refine TW.region ?_
          refine TO.y (Y.assign rfl) rfl rfl rfl ?_
          refine TO.nil ?_
          refine TE.next ?_
          refine TW.ret ?_
          refine TE.block_ret ?_
          refine TE.then_ret ?_
          refine TE.lp_ret ?_
          refine TE.block_ret ?_
          refine TE.jn_done ?_
          refine TE.then_ret ?_
          exact TE.leaf fun _ _ hf_ hs_ => ret_any (rs := [.tmp 4]) (vs := [.bool false]) (.inl rfl) rfl ⟨rfl, trivial⟩ hf_ hs_ ⟨(), rfl, hs_.pulls [] rfl⟩
        · refine TW.skip ?_
          refine TE.block_normal ?_
          refine TE.next ?_
          refine TW.region ?_
          refine TO.y (Y.move rfl) rfl rfl rfl ?_
          refine TO.y (Y.add rfl rfl) rfl rfl rfl ?_
          refine TO.y (Y.assign rfl) rfl rfl rfl ?_
          refine TO.nil ?_
          exact TE.lp_go () [] ⟨rfl, rfl, rfl, trivial⟩ rfl
      · refine TW.exit ?_
        refine TE.then_exit ?_
        refine TE.lp_exit ?_
        refine TE.block_exit ?_
        exact TE.jn_go () [] trivial rfl
    · refine TE.next ?_
      refine TW.seq ?_
      refine TW.region ?_
      refine TO.y (Y.assign rfl) rfl rfl rfl ?_
      refine TO.nil ?_
      refine TE.next ?_
      refine TW.ret ?_
      exact TE.leaf fun _ _ hf_ hs_ => ret_any (rs := [.tmp 4]) (vs := [.bool true]) (.inl rfl) rfl ⟨rfl, trivial⟩ hf_ hs_ ⟨(), rfl, hs_.pulls [] rfl⟩

/-- loop.example/g00950/laws.eqIntS -/
noncomputable def laws_eqIntS (a : List Int) (b : List Int) : Option Bool :=
  if (!(decide (((a.length : Nat) : Int) = ((b.length : Nat) : Int)))) = true then (some false)
  else (bindC (loopO (fun (S2 : Int) => if (decide (S2 < ((a.length : Nat) : Int))) = true then ((idx a S2).bind fun E7 =>
  (idx b S2).bind fun E9 =>
  if (!(decide (E7 = E9))) = true then (some (.done (.done false)))
  else (some (.go (IntKind.i64.wrap (S2 + (1 : Int))))))
  else (some (.done (.go ()))))
  (0 : Int))
  (fun (T4 : Unit) => some true))

theorem laws_eqIntS_con (a : List Int) (b : List Int) (V_a0 : Value) (V_b0 : Value) (r : Bool) (hm : laws_eqIntS a b = some r) :
    Con Try.prog 39 [V_a0, V_b0] [] [(V_a0, lc a), (V_b0, lc b)] (fun _ : Unit => .bool r) (fun _ => []) := by
  refine Con.intro (args := [V_a0, V_b0]) (n := 26) (val := fun r (_ : Unit) => .bool r) (post := fun _ _ => []) (m := laws_eqIntS a b) Try.func39 rfl rfl rfl hm ?_
  intro w S hrd
  have HB_V_a0 := hrd _ (.head _)
  have HB_V_b0 := hrd _ (.tail _ (.head _))
  clear hrd
  unfold laws_eqIntS
  refine TW.seq ?_
  refine TW.region ?_
  refine TO.y (Y.assign rfl) rfl rfl rfl ?_
  refine TO.nil ?_
  refine TE.next ?_
  refine TW.seq ?_
  refine TW.seq ?_
  refine TW.region ?_
  refine TO.y (Y.move rfl) rfl rfl rfl ?_
  refine TO.y (Y.len (l := a) ke23 (Base.can HB_V_a0) rfl) rfl rfl rfl ?_
  refine TO.y (Y.move rfl) rfl rfl rfl ?_
  refine TO.y (Y.len (l := b) ke23 (Base.can HB_V_b0) rfl) rfl rfl rfl ?_
  refine TO.y (Y.neq rfl rfl) rfl rfl rfl ?_
  refine TO.nil ?_
  refine TE.next ?_
  refine TW.cond rfl (fun H1 => ?_) (fun H1 => ?_)
  · refine TW.seq ?_
    refine TW.region ?_
    refine TO.y (Y.assign rfl) rfl rfl rfl ?_
    refine TO.nil ?_
    refine TE.next ?_
    refine TW.ret ?_
    refine TE.then_ret ?_
    exact TE.leaf fun _ _ hf_ hs_ => ret_any (rs := [.tmp 4]) (vs := [.bool false]) (.inl rfl) rfl ⟨rfl, trivial⟩ hf_ hs_ ⟨(), rfl, hs_.pulls [] rfl⟩
  · refine TW.skip ?_
    refine TE.next ?_
    refine TW.seq ?_
    refine TW.seq ?_
    refine TW.region ?_
    refine TO.y (Y.assign rfl) rfl rfl rfl ?_
    refine TO.nil ?_
    refine TE.next ?_
    refine TW.joinX (τ := Unit) (X := Unit) (fun _ _ => []) (fun _ _ => []) ?_ (fun T4 X5 => ?_)
    · refine TW.block ?_
      refine TW.loopX (σ := Int) (X := Unit) (fun T _ => [(0, V_a0), (1, V_b0), (5, .int .i64 T)]) (fun _ _ => []) () [] ⟨rfl, rfl, rfl, trivial⟩ rfl (fun S2 X3 => ?_)
      refine TW.seq ?_
      refine TW.seq ?_
      refine TW.region ?_
      refine TO.y (Y.move rfl) rfl rfl rfl ?_
      refine TO.y (Y.move rfl) rfl rfl rfl ?_
      refine TO.y (Y.len (l := a) ke23 (Base.can HB_V_a0) rfl) rfl rfl rfl ?_
      refine TO.y (Y.lss rfl rfl) rfl rfl rfl ?_
      refine TO.nil ?_
      refine TE.next ?_
      refine TW.cond rfl (fun H6 => ?_) (fun H6 => ?_)
      · refine TW.skip ?_
        refine TE.next ?_
        refine TW.seq ?_
        refine TW.block ?_
        refine TW.seq ?_
        refine TW.draw (isH := []) hMix ?_
        refine TA.y (listed' := #[true, false, false, false, false, false, false, false, false]) 0 [] rfl (Y.move rfl) rfl rfl rfl (by kernel_rfl) (by kernel_rfl) (by kernel_rfl) rfl rfl ?_
        refine TA.y (listed' := #[true, true, false, false, false, false, false, false, false]) 1 [] rfl (Y.move rfl) rfl rfl rfl (by kernel_rfl) (by kernel_rfl) (by kernel_rfl) rfl rfl ?_
        refine TA.bind fun E7 H8 => ?_
        refine TA.y (listed' := #[true, true, true, false, false, false, false, false, false]) 2 [] rfl (Y.index ke23 (Base.can HB_V_a0) H8 rfl rfl) rfl rfl rfl (by kernel_rfl) (by kernel_rfl) (by kernel_rfl) rfl rfl ?_
        refine TA.y (listed' := #[true, true, true, true, false, false, false, false, false]) 3 [] rfl (Y.load_el (us := [.int .i64 E7]) (u := .int .i64 E7) kk3 rfl (Base.can HB_V_a0) (idx_get H8).2.2 rfl rfl rfl rfl rfl) rfl rfl rfl (by kernel_rfl) (by kernel_rfl) (by kernel_rfl) rfl rfl ?_
        refine TA.y (listed' := #[true, true, true, true, true, false, false, false, false]) 4 [] rfl (Y.move rfl) rfl rfl rfl (by kernel_rfl) (by kernel_rfl) (by kernel_rfl) rfl rfl ?_
        refine TA.y (listed' := #[true, true, true, true, true, true, false, false, false]) 5 [] rfl (Y.move rfl) rfl rfl rfl (by kernel_rfl) (by kernel_rfl) (by kernel_rfl) rfl rfl ?_
        refine TA.bind fun E9 H10 => ?_
        refine TA.y (listed' := #[true, true, true, true, true, true, true, false, false]) 6 [] rfl (Y.index ke23 (Base.can HB_V_b0) H10 rfl rfl) rfl rfl rfl (by kernel_rfl) (by kernel_rfl) (by kernel_rfl) rfl rfl ?_
        refine TA.y (listed' := #[true, true, true, true, true, true, true, true, false]) 7 [] rfl (Y.load_el (us := [.int .i64 E9]) (u := .int .i64 E9) kk3 rfl (Base.can HB_V_b0) (idx_get H10).2.2 rfl rfl rfl rfl rfl) rfl rfl rfl (by kernel_rfl) (by kernel_rfl) (by kernel_rfl) rfl rfl ?_
        refine TA.y (listed' := #[true, true, true, true, true, true, true, true, true]) 8 [] rfl (Y.neq rfl rfl) rfl rfl rfl (by kernel_rfl) (by kernel_rfl) (by kernel_rfl) rfl rfl ?_
        refine TA.nil (by kernel_rfl) ?_
        refine TE.next ?_
        refine TW.cond rfl (fun H11 => ?_) (fun H11 => ?_)
        · refine TW.seq ?_
          refine TW.region ?_
          refine TO.y (Y.assign rfl) rfl rfl rfl ?_
          refine TO.nil ?_
          refine TE.next ?_
          refine TW.ret ?_
          refine TE.block_ret ?_
          refine TE.then_ret ?_
          refine TE.lp_ret ?_
          refine TE.block_ret ?_
          refine TE.jn_done ?_
          refine TE.then_ret ?_
          exact TE.leaf fun _ _ hf_ hs_ => ret_any (rs := [.tmp 4]) (vs := [.bool false]) (.inl rfl) rfl ⟨rfl, trivial⟩ hf_ hs_ ⟨(), rfl, hs_.pulls [] rfl⟩
        · refine TW.skip ?_
          refine TE.block_normal ?_
          refine TE.next ?_
          refine TW.region ?_
          refine TO.y (Y.move rfl) rfl rfl rfl ?_
          refine TO.y (Y.add rfl rfl) rfl rfl rfl ?_
          refine TO.y (Y.assign rfl) rfl rfl rfl ?_
          refine TO.nil ?_
          exact TE.lp_go () [] ⟨rfl, rfl, rfl, trivial⟩ rfl
      · refine TW.exit ?_
        refine TE.then_exit ?_
        refine TE.lp_exit ?_
        refine TE.block_exit ?_
        exact TE.jn_go () [] trivial rfl
    · refine TE.next ?_
      refine TW.seq ?_
      refine TW.region ?_
      refine TO.y (Y.assign rfl) rfl rfl rfl ?_
      refine TO.nil ?_
      refine TE.next ?_
      refine TW.ret ?_
      exact TE.leaf fun _ _ hf_ hs_ => ret_any (rs := [.tmp 4]) (vs := [.bool true]) (.inl rfl) rfl ⟨rfl, trivial⟩ hf_ hs_ ⟨(), rfl, hs_.pulls [] rfl⟩

/-- loop.example/g00950/laws.eqEdit -/
noncomputable def laws_eqEdit (a : Edit) (b : Edit) : Option Bool :=
  (laws_eqFileS a.Add b.Add).bind fun R3 =>
  if (!R3) = true then (some false)
  else ((laws_eqIntS a.Drop b.Drop).bind fun R7 =>
  if (!R7) = true then (some false)
  else (some true))

theorem laws_eqEdit_con (a : Edit) (b : Edit) (V_a0 : Value) (V_a1 : Value) (V_b0 : Value) (V_b1 : Value) (r : Bool) (hm : laws_eqEdit a b = some r) :
    Con Try.prog 10 [.agg #[V_a0, V_a1], .agg #[V_b0, V_b1]] [] [(V_a0, lc a.Add), (V_a1, lc a.Drop), (V_b0, lc b.Add), (V_b1, lc b.Drop)] (fun _ : Unit => .bool r) (fun _ => []) := by
  refine Con.intro (args := [.agg #[V_a0, V_a1], .agg #[V_b0, V_b1]]) (n := 17) (val := fun r (_ : Unit) => .bool r) (post := fun _ _ => []) (m := laws_eqEdit a b) Try.func10 rfl rfl rfl hm ?_
  intro w S hrd
  have HB_V_a0 := hrd _ (.head _)
  have HB_V_a1 := hrd _ (.tail _ (.head _))
  have HB_V_b0 := hrd _ (.tail _ (.tail _ (.head _)))
  have HB_V_b1 := hrd _ (.tail _ (.tail _ (.tail _ (.head _))))
  clear hrd
  unfold laws_eqEdit
  refine TW.seq ?_
  refine TW.region ?_
  refine TO.ef (Ef.box rfl (Cel.agg ⟨(One.can (Base.can HB_V_a0)), (One.can (Base.can HB_V_a1)), trivial⟩)) rfl rfl rfl (fun B1 => ?_)
  refine TO.ef (Ef.box rfl (Cel.agg ⟨(One.can (Base.can HB_V_b0)), (One.can (Base.can HB_V_b1)), trivial⟩)) rfl rfl rfl (fun B2 => ?_)
  refine TO.y (Y.assign rfl) rfl rfl rfl ?_
  refine TO.nil ?_
  refine TE.next ?_
  refine TW.seq ?_
  refine TW.seq ?_
  refine TW.region ?_
  refine TO.y (Y.field_box kf30_0 rfl rfl) rfl rfl rfl ?_
  refine TO.y (Y.load_box (v := V_a0) 1 kk28 rfl rfl rfl) rfl rfl rfl ?_
  refine TO.y (Y.field_box kf30_0 rfl rfl) rfl rfl rfl ?_
  refine TO.y (Y.load_box (v := V_b0) 0 kk28 rfl rfl rfl) rfl rfl rfl ?_
  refine TO.bind fun R3 H4 => ?_
  refine TO.ef (Ef.call (rest := [.box B2 30 [V_b0, V_b1], .box B1 30 [V_a0, V_a1]]) [0, 0] (laws_eqFileS_con a.Add b.Add V_a0 V_b0 R3 H4) kc19 rfl rfl ⟨(Base.can HB_V_a0), (Base.can HB_V_b0), trivial⟩) rfl rfl rfl (fun _ => ?_)
  refine TO.y (Y.not rfl) rfl rfl rfl ?_
  refine TO.nil ?_
  refine TE.next ?_
  refine TW.cond rfl (fun H6 => ?_) (fun H6 => ?_)
  · refine TW.seq ?_
    refine TW.region ?_
    refine TO.y (Y.assign rfl) rfl rfl rfl ?_
    refine TO.nil ?_
    refine TE.next ?_
    refine TW.ret ?_
    refine TE.then_ret ?_
    exact TE.leaf fun _ _ hf_ hs_ => ret_any (rs := [.tmp 4]) (vs := [.bool false]) (.inl rfl) rfl ⟨rfl, trivial⟩ hf_ hs_ ⟨(), rfl, hs_.pulls [] rfl⟩
  · refine TW.skip ?_
    refine TE.next ?_
    refine TW.seq ?_
    refine TW.seq ?_
    refine TW.region ?_
    refine TO.y (Y.field_box kf30_1 rfl rfl) rfl rfl rfl ?_
    refine TO.y (Y.load_box (v := V_a1) 1 kk23 rfl rfl rfl) rfl rfl rfl ?_
    refine TO.y (Y.field_box kf30_1 rfl rfl) rfl rfl rfl ?_
    refine TO.y (Y.load_box (v := V_b1) 0 kk23 rfl rfl rfl) rfl rfl rfl ?_
    refine TO.bind fun R7 H8 => ?_
    refine TO.ef (Ef.call (rest := [.box B2 30 [V_b0, V_b1], .box B1 30 [V_a0, V_a1]]) [0, 0] (laws_eqIntS_con a.Drop b.Drop V_a1 V_b1 R7 H8) kc39 rfl rfl ⟨(Base.can HB_V_a1), (Base.can HB_V_b1), trivial⟩) rfl rfl rfl (fun _ => ?_)
    refine TO.y (Y.not rfl) rfl rfl rfl ?_
    refine TO.nil ?_
    refine TE.next ?_
    refine TW.cond rfl (fun H10 => ?_) (fun H10 => ?_)
    · refine TW.seq ?_
      refine TW.region ?_
      refine TO.y (Y.assign rfl) rfl rfl rfl ?_
      refine TO.nil ?_
      refine TE.next ?_
      refine TW.ret ?_
      refine TE.then_ret ?_
      exact TE.leaf fun _ _ hf_ hs_ => ret_any (rs := [.tmp 4]) (vs := [.bool false]) (.inl rfl) rfl ⟨rfl, trivial⟩ hf_ hs_ ⟨(), rfl, hs_.pulls [] rfl⟩
    · refine TW.skip ?_
      refine TE.next ?_
      refine TW.seq ?_
      refine TW.region ?_
      refine TO.y (Y.assign rfl) rfl rfl rfl ?_
      refine TO.nil ?_
      refine TE.next ?_
      refine TW.ret ?_
      exact TE.leaf fun _ _ hf_ hs_ => ret_any (rs := [.tmp 4]) (vs := [.bool true]) (.inl rfl) rfl ⟨rfl, trivial⟩ hf_ hs_ ⟨(), rfl, hs_.pulls [] rfl⟩

/-- loop.example/g00950/laws.markText -/
noncomputable def laws_markText (k : Int) : Option (List UInt8) :=
  if (decide (k ≤ (0 : Int))) = true then (some ([109, 48]))
  else (bindC (loopO (fun (S2 : Int × List UInt8) => if (decide (S2.1 > (0 : Int))) = true then ((cat ([toU8 (IntKind.i64.wrap ((48 : Int) + (Int.tmod S2.1 (10 : Int))))]) S2.2).bind fun E8 =>
  some (.go (IntKind.i64.wrap (Int.tdiv S2.1 (10 : Int)), E8)))
  else (some (.done (.go S2.2))))
  (k, []))
  (fun (T4 : List UInt8) => (cat ([109]) T4).bind fun E10 =>
  some E10))

theorem laws_markText_con (k : Int)  (r : List UInt8) (hm : laws_markText k = some r) :
    Con Try.prog 51 [.int .i64 k] [] [] (fun _ : Unit => strV r) (fun _ => []) := by
  refine Con.intro (args := [.int .i64 k]) (n := 20) (val := fun r (_ : Unit) => strV r) (post := fun _ _ => []) (m := laws_markText k) Try.func51 rfl rfl rfl hm ?_
  intro w S _
  unfold laws_markText
  refine TW.seq ?_
  refine TW.region ?_
  refine TO.y (Y.assign rfl) rfl rfl rfl ?_
  refine TO.nil ?_
  refine TE.next ?_
  refine TW.seq ?_
  refine TW.seq ?_
  refine TW.region ?_
  refine TO.y (Y.move rfl) rfl rfl rfl ?_
  refine TO.y (Y.leq rfl rfl) rfl rfl rfl ?_
  refine TO.nil ?_
  refine TE.next ?_
  refine TW.cond rfl (fun H1 => ?_) (fun H1 => ?_)
  · refine TW.seq ?_
    refine TW.region ?_
    refine TO.y (Y.assign rfl) rfl rfl rfl ?_
    refine TO.nil ?_
    refine TE.next ?_
    refine TW.ret ?_
    refine TE.then_ret ?_
    exact TE.leaf fun _ _ hf_ hs_ => ret_any (rs := [.tmp 2]) (vs := [strV ([109, 48])]) (.inl rfl) rfl ⟨rfl, trivial⟩ hf_ hs_ ⟨(), rfl, hs_.pulls [] rfl⟩
  · refine TW.skip ?_
    refine TE.next ?_
    refine TW.seq ?_
    refine TW.region ?_
    refine TO.y (Y.assign rfl) rfl rfl rfl ?_
    refine TO.nil ?_
    refine TE.next ?_
    refine TW.seq ?_
    refine TW.joinX (τ := List UInt8) (X := Unit) (fun T _ => [(3, strV T)]) (fun _ _ => []) ?_ (fun T4 X5 => ?_)
    · refine TW.block ?_
      refine TW.loopX (σ := Int × List UInt8) (X := Unit) (fun T _ => [(0, .int .i64 T.1), (3, strV T.2)]) (fun _ _ => []) () [] ⟨rfl, rfl, trivial⟩ rfl (fun S2 X3 => ?_)
      refine TW.seq ?_
      refine TW.seq ?_
      refine TW.region ?_
      refine TO.y (Y.move rfl) rfl rfl rfl ?_
      refine TO.y (Y.gtr rfl rfl) rfl rfl rfl ?_
      refine TO.nil ?_
      refine TE.next ?_
      refine TW.cond rfl (fun H6 => ?_) (fun H6 => ?_)
      · refine TW.skip ?_
        refine TE.next ?_
        refine TW.block ?_
        refine TW.seq ?_
        refine TW.region ?_
        refine TO.y (Y.move rfl) rfl rfl rfl ?_
        refine TO.y (Y.rem (by decide) rfl rfl) rfl rfl rfl ?_
        refine TO.y (Y.add rfl rfl) rfl rfl rfl ?_
        refine TO.y (Y.conv8 ki3 ki5 rfl) rfl rfl rfl ?_
        refine TO.ef (Ef.buildSlice (α := UInt8) (Vs := [.int .u8 (((toU8 (IntKind.i64.wrap ((48 : Int) + (Int.tmod S2.1 (10 : Int))))).toNat : Nat) : Int)]) [toU8 (IntKind.i64.wrap ((48 : Int) + (Int.tmod S2.1 (10 : Int))))] ke59 kz5 rfl rfl rfl rfl rfl) rfl rfl rfl (fun B7 => ?_)
        refine TO.y (Y.toStr ke59 ki5 ks9 (Can.own 0 rfl) rfl) rfl rfl rfl ?_
        refine TO.y (Y.move rfl) rfl rfl rfl ?_
        refine TO.bind fun E8 H9 => ?_
        refine TO.y (Y.cat H9 rfl rfl) rfl rfl rfl ?_
        refine TO.y (Y.assign rfl) rfl rfl rfl ?_
        refine TO.nil ?_
        refine TE.next ?_
        refine TW.region ?_
        refine TO.y (Y.move rfl) rfl rfl rfl ?_
        refine TO.y (Y.quo (by decide) rfl rfl) rfl rfl rfl ?_
        refine TO.y (Y.assign rfl) rfl rfl rfl ?_
        refine TO.nil ?_
        refine TE.block_normal ?_
        exact TE.lp_go () [] ⟨rfl, rfl, trivial⟩ rfl
      · refine TW.exit ?_
        refine TE.then_exit ?_
        refine TE.lp_exit ?_
        refine TE.block_exit ?_
        exact TE.jn_go () [] ⟨rfl, trivial⟩ rfl
    · refine TE.next ?_
      refine TW.seq ?_
      refine TW.region ?_
      refine TO.y (Y.move rfl) rfl rfl rfl ?_
      refine TO.bind fun E10 H11 => ?_
      refine TO.y (Y.cat H11 rfl rfl) rfl rfl rfl ?_
      refine TO.y (Y.assign rfl) rfl rfl rfl ?_
      refine TO.nil ?_
      refine TE.next ?_
      refine TW.ret ?_
      exact TE.leaf fun _ _ hf_ hs_ => ret_any (rs := [.tmp 2]) (vs := [strV E10]) (.inl rfl) rfl ⟨rfl, trivial⟩ hf_ hs_ ⟨(), rfl, hs_.pulls [] rfl⟩

/-- loop.example/g00950/laws.markFileS -/
noncomputable def laws_markFileS (a : List File) (k : Int) : Option (Int × List File) :=
  bindC (loopO (fun (S1 : Int × Int × List File) => if (decide (S1.2.1 < ((S1.2.2.length : Nat) : Int))) = true then ((idx S1.2.2 S1.2.1).bind fun E6 =>
  (laws_markText (IntKind.i64.wrap (IntKind.i64.wrap (S1.1 + (1 : Int)) + (1 : Int)))).bind fun R8 =>
  (laws_markText (IntKind.i64.wrap (IntKind.i64.wrap (IntKind.i64.wrap (S1.1 + (1 : Int)) + (1 : Int)) + (1 : Int)))).bind fun R11 =>
  some (.go (IntKind.i64.wrap (IntKind.i64.wrap (IntKind.i64.wrap (IntKind.i64.wrap (S1.1 + (1 : Int)) + (1 : Int)) + (1 : Int)) + (1 : Int)), IntKind.i64.wrap (S1.2.1 + (1 : Int)), (S1.2.2.set S1.2.1.toNat ({ No := S1.1, Level := (IntKind.i64.wrap (S1.1 + (1 : Int))), Lo := R8, Hi := R11 : File })))))
  else (some (.done (.go (S1.1, S1.2.2)))))
  (k, (0 : Int), a))
  (fun (T3 : Int × List File) => some (T3.1, T3.2))

theorem laws_markFileS_con (a : List File) (k : Int) (V_a0 : Value) (r : Int × List File) (hm : laws_markFileS a k = some r) :
    Con Try.prog 22 [V_a0, .int .i64 k] [.own V_a0 (lc a)] [] (fun _ : Unit => .int .i64 r.1) (fun _ => [.own V_a0 (lc r.2)]) := by
  refine Con.intro (args := [V_a0, .int .i64 k]) (n := 43) (val := fun r (_ : Unit) => .int .i64 r.1) (post := fun r _ => [.own V_a0 (lc r.2)]) (m := laws_markFileS a k) Try.func22 rfl rfl rfl hm ?_
  intro w S _
  unfold laws_markFileS
  refine TW.seq ?_
  refine TW.region ?_
  refine TO.y (Y.assign rfl) rfl rfl rfl ?_
  refine TO.nil ?_
  refine TE.next ?_
  refine TW.seq ?_
  refine TW.seq ?_
  refine TW.region ?_
  refine TO.y (Y.assign rfl) rfl rfl rfl ?_
  refine TO.nil ?_
  refine TE.next ?_
  refine TW.joinX (τ := Int × List File) (X := Unit) (fun T _ => [(1, .int .i64 T.1)]) (fun T _ => [.own V_a0 (lc T.2)]) ?_ (fun T3 X4 => ?_)
  · refine TW.block ?_
    refine TW.loopX (σ := Int × Int × List File) (X := Unit) (fun T _ => [(0, V_a0), (1, .int .i64 T.1), (5, .int .i64 T.2.1)]) (fun T _ => [.own V_a0 (lc T.2.2)]) () [0] ⟨rfl, rfl, rfl, trivial⟩ rfl (fun S1 X2 => ?_)
    refine TW.seq ?_
    refine TW.seq ?_
    refine TW.region ?_
    refine TO.y (Y.move rfl) rfl rfl rfl ?_
    refine TO.y (Y.move rfl) rfl rfl rfl ?_
    refine TO.y (Y.len (l := S1.2.2) ke28 (Can.own 0 rfl) rfl) rfl rfl rfl ?_
    refine TO.y (Y.lss rfl rfl) rfl rfl rfl ?_
    refine TO.nil ?_
    refine TE.next ?_
    refine TW.cond rfl (fun H5 => ?_) (fun H5 => ?_)
    · refine TW.skip ?_
      refine TE.next ?_
      refine TW.seq ?_
      refine TW.block ?_
      refine TW.seq ?_
      refine TW.region ?_
      refine TO.y (Y.move rfl) rfl rfl rfl ?_
      refine TO.y (Y.move rfl) rfl rfl rfl ?_
      refine TO.y (Y.move rfl) rfl rfl rfl ?_
      refine TO.bind fun E6 H7 => ?_
      refine TO.y (Y.index ke28 (Can.own 0 rfl) H7 rfl rfl) rfl rfl rfl ?_
      refine TO.y (Y.field_el kf52_0 (Can.own 0 rfl) (idx_get H7).2.2 rfl rfl) rfl rfl rfl ?_
      refine TO.ef0 (Ef.store_el (us := [.int .i64 S1.1]) (is' := [.own V_a0 (lc (S1.2.2.set S1.2.1.toNat ({ No := S1.1, Level := E6.Level, Lo := E6.Lo, Hi := E6.Hi : File })))]) ({ No := S1.1, Level := E6.Level, Lo := E6.Lo, Hi := E6.Hi : File }) 0 kk3 rfl rfl (idx_get H7).2.2 rfl rfl (Cel.plain rfl rfl) rfl rfl rfl rfl) rfl rfl (fun _ => ?_)
      refine TO.nil ?_
      refine TE.next ?_
      refine TW.seq ?_
      refine TW.region ?_
      refine TO.y (Y.move rfl) rfl rfl rfl ?_
      refine TO.y (Y.add rfl rfl) rfl rfl rfl ?_
      refine TO.y (Y.assign rfl) rfl rfl rfl ?_
      refine TO.nil ?_
      refine TE.next ?_
      refine TW.seq ?_
      refine TW.region ?_
      refine TO.y (Y.move rfl) rfl rfl rfl ?_
      refine TO.y (Y.move rfl) rfl rfl rfl ?_
      refine TO.y (Y.move rfl) rfl rfl rfl ?_
      refine TO.y (Y.index ke28 (Can.own 0 rfl) (idx_set H7) rfl rfl) rfl rfl rfl ?_
      refine TO.y (Y.field_el kf52_1 (Can.own 0 rfl) (idx_get (idx_set H7)).2.2 rfl rfl) rfl rfl rfl ?_
      refine TO.ef0 (Ef.store_el (us := [.int .i64 (IntKind.i64.wrap (S1.1 + (1 : Int)))]) (is' := [.own V_a0 (lc (S1.2.2.set S1.2.1.toNat ({ No := S1.1, Level := IntKind.i64.wrap (S1.1 + (1 : Int)), Lo := E6.Lo, Hi := E6.Hi : File })))]) ({ No := S1.1, Level := IntKind.i64.wrap (S1.1 + (1 : Int)), Lo := E6.Lo, Hi := E6.Hi : File }) 0 kk3 rfl rfl (idx_get (idx_set H7)).2.2 rfl rfl (Cel.plain rfl rfl) rfl rfl rfl (by rw [List.set_set]; rfl)) rfl rfl (fun _ => ?_)
      refine TO.nil ?_
      refine TE.next ?_
      refine TW.seq ?_
      refine TW.region ?_
      refine TO.y (Y.move rfl) rfl rfl rfl ?_
      refine TO.y (Y.add rfl rfl) rfl rfl rfl ?_
      refine TO.y (Y.assign rfl) rfl rfl rfl ?_
      refine TO.nil ?_
      refine TE.next ?_
      refine TW.seq ?_
      refine TW.region ?_
      refine TO.y (Y.move rfl) rfl rfl rfl ?_
      refine TO.y (Y.move rfl) rfl rfl rfl ?_
      refine TO.y (Y.move rfl) rfl rfl rfl ?_
      refine TO.bind fun R8 H9 => ?_
      refine TO.ef (Ef.call (rest := [.own V_a0 (lc (S1.2.2.set S1.2.1.toNat ({ No := S1.1, Level := IntKind.i64.wrap (S1.1 + (1 : Int)), Lo := E6.Lo, Hi := E6.Hi : File })))]) [0] (laws_markText_con (IntKind.i64.wrap (IntKind.i64.wrap (S1.1 + (1 : Int)) + (1 : Int)))  R8 H9) kc51 rfl rfl trivial) rfl rfl rfl (fun _ => ?_)
      refine TO.y (Y.index ke28 (Can.own 0 rfl) (idx_set H7) rfl rfl) rfl rfl rfl ?_
      refine TO.y (Y.field_el kf52_2 (Can.own 0 rfl) (idx_get (idx_set H7)).2.2 rfl rfl) rfl rfl rfl ?_
      refine TO.ef0 (Ef.store_el (us := [strV R8]) (is' := [.own V_a0 (lc (S1.2.2.set S1.2.1.toNat ({ No := S1.1, Level := (IntKind.i64.wrap (S1.1 + (1 : Int))), Lo := R8, Hi := E6.Hi : File })))]) ({ No := S1.1, Level := (IntKind.i64.wrap (S1.1 + (1 : Int))), Lo := R8, Hi := E6.Hi : File }) 0 kk9 rfl rfl (idx_get (idx_set H7)).2.2 rfl rfl (Cel.plain rfl rfl) rfl rfl rfl (by rw [List.set_set]; rfl)) rfl rfl (fun _ => ?_)
      refine TO.nil ?_
      refine TE.next ?_
      refine TW.seq ?_
      refine TW.region ?_
      refine TO.y (Y.move rfl) rfl rfl rfl ?_
      refine TO.y (Y.add rfl rfl) rfl rfl rfl ?_
      refine TO.y (Y.assign rfl) rfl rfl rfl ?_
      refine TO.nil ?_
      refine TE.next ?_
      refine TW.seq ?_
      refine TW.region ?_
      refine TO.y (Y.move rfl) rfl rfl rfl ?_
      refine TO.y (Y.move rfl) rfl rfl rfl ?_
      refine TO.y (Y.move rfl) rfl rfl rfl ?_
      refine TO.bind fun R11 H12 => ?_
      refine TO.ef (Ef.call (rest := [.own V_a0 (lc (S1.2.2.set S1.2.1.toNat ({ No := S1.1, Level := (IntKind.i64.wrap (S1.1 + (1 : Int))), Lo := R8, Hi := E6.Hi : File })))]) [0] (laws_markText_con (IntKind.i64.wrap (IntKind.i64.wrap (IntKind.i64.wrap (S1.1 + (1 : Int)) + (1 : Int)) + (1 : Int)))  R11 H12) kc51 rfl rfl trivial) rfl rfl rfl (fun _ => ?_)
      refine TO.y (Y.index ke28 (Can.own 0 rfl) (idx_set H7) rfl rfl) rfl rfl rfl ?_
      refine TO.y (Y.field_el kf52_3 (Can.own 0 rfl) (idx_get (idx_set H7)).2.2 rfl rfl) rfl rfl rfl ?_
      refine TO.ef0 (Ef.store_el (us := [strV R11]) (is' := [.own V_a0 (lc (S1.2.2.set S1.2.1.toNat ({ No := S1.1, Level := (IntKind.i64.wrap (S1.1 + (1 : Int))), Lo := R8, Hi := R11 : File })))]) ({ No := S1.1, Level := (IntKind.i64.wrap (S1.1 + (1 : Int))), Lo := R8, Hi := R11 : File }) 0 kk9 rfl rfl (idx_get (idx_set H7)).2.2 rfl rfl (Cel.plain rfl rfl) rfl rfl rfl (by rw [List.set_set]; rfl)) rfl rfl (fun _ => ?_)
      refine TO.nil ?_
      refine TE.next ?_
      refine TW.region ?_
      refine TO.y (Y.move rfl) rfl rfl rfl ?_
      refine TO.y (Y.add rfl rfl) rfl rfl rfl ?_
      refine TO.y (Y.assign rfl) rfl rfl rfl ?_
      refine TO.nil ?_
      refine TE.block_normal ?_
      refine TE.next ?_
      refine TW.region ?_
      refine TO.y (Y.move rfl) rfl rfl rfl ?_
      refine TO.y (Y.add rfl rfl) rfl rfl rfl ?_
      refine TO.y (Y.assign rfl) rfl rfl rfl ?_
      refine TO.nil ?_
      exact TE.lp_go () [0] ⟨rfl, rfl, rfl, trivial⟩ rfl
    · refine TW.exit ?_
      refine TE.then_exit ?_
      refine TE.lp_exit ?_
      refine TE.block_exit ?_
      exact TE.jn_go () [0] ⟨rfl, trivial⟩ rfl
  · refine TE.next ?_
    refine TW.seq ?_
    refine TW.region ?_
    refine TO.y (Y.move rfl) rfl rfl rfl ?_
    refine TO.y (Y.assign rfl) rfl rfl rfl ?_
    refine TO.nil ?_
    refine TE.next ?_
    refine TW.ret ?_
    exact TE.leaf fun _ _ hf_ hs_ => ret_any (rs := [.tmp 4]) (vs := [.int .i64 T3.1]) (.inl rfl) rfl ⟨rfl, trivial⟩ hf_ hs_ ⟨(), rfl, hs_.pulls [0] rfl⟩

/-- loop.example/g00950/laws.markIntS -/
noncomputable def laws_markIntS (a : List Int) (k : Int) : Option (Int × List Int) :=
  bindC (loopO (fun (S1 : Int × Int × List Int) => if (decide (S1.2.1 < ((S1.2.2.length : Nat) : Int))) = true then ((idx S1.2.2 S1.2.1).bind fun E6 =>
  some (.go (IntKind.i64.wrap (S1.1 + (1 : Int)), IntKind.i64.wrap (S1.2.1 + (1 : Int)), (S1.2.2.set S1.2.1.toNat S1.1))))
  else (some (.done (.go (S1.1, S1.2.2)))))
  (k, (0 : Int), a))
  (fun (T3 : Int × List Int) => some (T3.1, T3.2))

theorem laws_markIntS_con (a : List Int) (k : Int) (V_a0 : Value) (r : Int × List Int) (hm : laws_markIntS a k = some r) :
    Con Try.prog 46 [V_a0, .int .i64 k] [.own V_a0 (lc a)] [] (fun _ : Unit => .int .i64 r.1) (fun _ => [.own V_a0 (lc r.2)]) := by
  refine Con.intro (args := [V_a0, .int .i64 k]) (n := 19) (val := fun r (_ : Unit) => .int .i64 r.1) (post := fun r _ => [.own V_a0 (lc r.2)]) (m := laws_markIntS a k) Try.func46 rfl rfl rfl hm ?_
  intro w S _
  unfold laws_markIntS
  refine TW.seq ?_
  refine TW.region ?_
  refine TO.y (Y.assign rfl) rfl rfl rfl ?_
  refine TO.nil ?_
  refine TE.next ?_
  refine TW.seq ?_
  refine TW.seq ?_
  refine TW.region ?_
  refine TO.y (Y.assign rfl) rfl rfl rfl ?_
  refine TO.nil ?_
  refine TE.next ?_
  refine TW.joinX (τ := Int × List Int) (X := Unit) (fun T _ => [(1, .int .i64 T.1)]) (fun T _ => [.own V_a0 (lc T.2)]) ?_ (fun T3 X4 => ?_)
  · refine TW.block ?_
    refine TW.loopX (σ := Int × Int × List Int) (X := Unit) (fun T _ => [(0, V_a0), (1, .int .i64 T.1), (5, .int .i64 T.2.1)]) (fun T _ => [.own V_a0 (lc T.2.2)]) () [0] ⟨rfl, rfl, rfl, trivial⟩ rfl (fun S1 X2 => ?_)
    refine TW.seq ?_
    refine TW.seq ?_
    refine TW.region ?_
    refine TO.y (Y.move rfl) rfl rfl rfl ?_
    refine TO.y (Y.move rfl) rfl rfl rfl ?_
    refine TO.y (Y.len (l := S1.2.2) ke23 (Can.own 0 rfl) rfl) rfl rfl rfl ?_
    refine TO.y (Y.lss rfl rfl) rfl rfl rfl ?_
    refine TO.nil ?_
    refine TE.next ?_
    refine TW.cond rfl (fun H5 => ?_) (fun H5 => ?_)
    · refine TW.skip ?_
      refine TE.next ?_
      refine TW.seq ?_
      refine TW.block ?_
      refine TW.seq ?_
      refine TW.region ?_
      refine TO.y (Y.move rfl) rfl rfl rfl ?_
      refine TO.y (Y.move rfl) rfl rfl rfl ?_
      refine TO.y (Y.move rfl) rfl rfl rfl ?_
      refine TO.bind fun E6 H7 => ?_
      refine TO.y (Y.index ke23 (Can.own 0 rfl) H7 rfl rfl) rfl rfl rfl ?_
      refine TO.ef0 (Ef.store_el (us := [.int .i64 S1.1]) (is' := [.own V_a0 (lc (S1.2.2.set S1.2.1.toNat S1.1))]) S1.1 0 kk3 rfl rfl (idx_get H7).2.2 rfl rfl (Cel.plain rfl rfl) rfl rfl rfl rfl) rfl rfl (fun _ => ?_)
      refine TO.nil ?_
      refine TE.next ?_
      refine TW.region ?_
      refine TO.y (Y.move rfl) rfl rfl rfl ?_
      refine TO.y (Y.add rfl rfl) rfl rfl rfl ?_
      refine TO.y (Y.assign rfl) rfl rfl rfl ?_
      refine TO.nil ?_
      refine TE.block_normal ?_
      refine TE.next ?_
      refine TW.region ?_
      refine TO.y (Y.move rfl) rfl rfl rfl ?_
      refine TO.y (Y.add rfl rfl) rfl rfl rfl ?_
      refine TO.y (Y.assign rfl) rfl rfl rfl ?_
      refine TO.nil ?_
      exact TE.lp_go () [0] ⟨rfl, rfl, rfl, trivial⟩ rfl
    · refine TW.exit ?_
      refine TE.then_exit ?_
      refine TE.lp_exit ?_
      refine TE.block_exit ?_
      exact TE.jn_go () [0] ⟨rfl, trivial⟩ rfl
  · refine TE.next ?_
    refine TW.seq ?_
    refine TW.region ?_
    refine TO.y (Y.move rfl) rfl rfl rfl ?_
    refine TO.y (Y.assign rfl) rfl rfl rfl ?_
    refine TO.nil ?_
    refine TE.next ?_
    refine TW.ret ?_
    exact TE.leaf fun _ _ hf_ hs_ => ret_any (rs := [.tmp 4]) (vs := [.int .i64 T3.1]) (.inl rfl) rfl ⟨rfl, trivial⟩ hf_ hs_ ⟨(), rfl, hs_.pulls [0] rfl⟩

/-- loop.example/g00950/laws.markEdit -/
noncomputable def laws_markEdit (a : Edit) (k : Int) : Option (Int × List File × List Int) :=
  (laws_markFileS a.Add k).bind fun R2 =>
  (laws_markIntS a.Drop R2.1).bind fun R5 =>
  some (R5.1, R2.2, R5.2)

theorem laws_markEdit_con (a : Edit) (k : Int) (V_a0 : Value) (V_a1 : Value) (r : Int × List File × List Int) (hm : laws_markEdit a k = some r) :
    Con Try.prog 13 [.agg #[V_a0, V_a1], .int .i64 k] [.own V_a0 (lc a.Add), .own V_a1 (lc a.Drop)] [] (fun _ : Unit => .int .i64 r.1) (fun _ => [.own V_a0 (lc r.2.1), .own V_a1 (lc r.2.2)]) := by
  refine Con.intro (args := [.agg #[V_a0, V_a1], .int .i64 k]) (n := 14) (val := fun r (_ : Unit) => .int .i64 r.1) (post := fun r _ => [.own V_a0 (lc r.2.1), .own V_a1 (lc r.2.2)]) (m := laws_markEdit a k) Try.func13 rfl rfl rfl hm ?_
  intro w S _
  unfold laws_markEdit
  refine TW.seq ?_
  refine TW.region ?_
  refine TO.ef (Ef.box rfl (Cel.agg ⟨(One.can (Can.own 0 rfl)), (One.can (Can.own 1 rfl)), trivial⟩)) rfl rfl rfl (fun B1 => ?_)
  refine TO.y (Y.assign rfl) rfl rfl rfl ?_
  refine TO.nil ?_
  refine TE.next ?_
  refine TW.seq ?_
  refine TW.region ?_
  refine TO.y (Y.field_box kf30_0 rfl rfl) rfl rfl rfl ?_
  refine TO.y (Y.load_box (v := V_a0) 0 kk28 rfl rfl rfl) rfl rfl rfl ?_
  refine TO.y (Y.move rfl) rfl rfl rfl ?_
  refine TO.bind fun R2 H3 => ?_
  refine TO.ef (Ef.call (rest := [.box B1 30 [V_a0, V_a1], .own V_a1 (lc a.Drop)]) [1, 0, 0] (laws_markFileS_con a.Add k V_a0 R2 H3) kc22 rfl rfl trivial) rfl rfl rfl (fun _ => ?_)
  refine TO.y (Y.assign rfl) rfl rfl rfl ?_
  refine TO.nil ?_
  refine TE.next ?_
  refine TW.seq ?_
  refine TW.region ?_
  refine TO.y (Y.field_box kf30_1 rfl rfl) rfl rfl rfl ?_
  refine TO.y (Y.load_box (v := V_a1) 1 kk23 rfl rfl rfl) rfl rfl rfl ?_
  refine TO.y (Y.move rfl) rfl rfl rfl ?_
  refine TO.bind fun R5 H6 => ?_
  refine TO.ef (Ef.call (rest := [.own V_a0 (lc R2.2), .box B1 30 [V_a0, V_a1]]) [2, 0, 0] (laws_markIntS_con a.Drop R2.1 V_a1 R5 H6) kc46 rfl rfl trivial) rfl rfl rfl (fun _ => ?_)
  refine TO.y (Y.assign rfl) rfl rfl rfl ?_
  refine TO.nil ?_
  refine TE.next ?_
  refine TW.seq ?_
  refine TW.region ?_
  refine TO.y (Y.move rfl) rfl rfl rfl ?_
  refine TO.y (Y.assign rfl) rfl rfl rfl ?_
  refine TO.nil ?_
  refine TE.next ?_
  refine TW.ret ?_
  exact TE.leaf fun _ _ hf_ hs_ => ret_any (rs := [.tmp 4]) (vs := [.int .i64 R5.1]) (.inl rfl) rfl ⟨rfl, trivial⟩ hf_ hs_ ⟨(), rfl, hs_.pulls [1, 0] rfl⟩

/-- loop.example/g00950/laws.heldFileS -/
noncomputable def laws_heldFileS (a : List File) (k : Int) : Option Int :=
  bindC (loopO (fun (S1 : Int × Int) => if (decide (S1.2 < ((a.length : Nat) : Int))) = true then ((idx a S1.2).bind fun E6 =>
  if (!(decide (E6.No = S1.1))) = true then (some (.done (.done (-1 : Int))))
  else (if (!(decide (E6.Level = IntKind.i64.wrap (S1.1 + (1 : Int))))) = true then (some (.done (.done (-1 : Int))))
  else ((laws_markText (IntKind.i64.wrap (IntKind.i64.wrap (S1.1 + (1 : Int)) + (1 : Int)))).bind fun R10 =>
  if (!(decide (E6.Lo = R10))) = true then (some (.done (.done (-1 : Int))))
  else ((laws_markText (IntKind.i64.wrap (IntKind.i64.wrap (IntKind.i64.wrap (S1.1 + (1 : Int)) + (1 : Int)) + (1 : Int)))).bind fun R14 =>
  if (!(decide (E6.Hi = R14))) = true then (some (.done (.done (-1 : Int))))
  else (some (.go (IntKind.i64.wrap (IntKind.i64.wrap (IntKind.i64.wrap (IntKind.i64.wrap (S1.1 + (1 : Int)) + (1 : Int)) + (1 : Int)) + (1 : Int)), IntKind.i64.wrap (S1.2 + (1 : Int)))))))))
  else (some (.done (.go S1.1))))
  (k, (0 : Int)))
  (fun (T3 : Int) => some T3)

theorem laws_heldFileS_con (a : List File) (k : Int) (V_a0 : Value) (r : Int) (hm : laws_heldFileS a k = some r) :
    Con Try.prog 23 [V_a0, .int .i64 k] [] [(V_a0, lc a)] (fun _ : Unit => .int .i64 r) (fun _ => []) := by
  refine Con.intro (args := [V_a0, .int .i64 k]) (n := 51) (val := fun r (_ : Unit) => .int .i64 r) (post := fun _ _ => []) (m := laws_heldFileS a k) Try.func23 rfl rfl rfl hm ?_
  intro w S hrd
  have HB_V_a0 := hrd _ (.head _)
  clear hrd
  unfold laws_heldFileS
  refine TW.seq ?_
  refine TW.region ?_
  refine TO.y (Y.assign rfl) rfl rfl rfl ?_
  refine TO.nil ?_
  refine TE.next ?_
  refine TW.seq ?_
  refine TW.seq ?_
  refine TW.region ?_
  refine TO.y (Y.assign rfl) rfl rfl rfl ?_
  refine TO.nil ?_
  refine TE.next ?_
  refine TW.joinX (τ := Int) (X := Unit) (fun T _ => [(1, .int .i64 T)]) (fun _ _ => []) ?_ (fun T3 X4 => ?_)
  · refine TW.block ?_
    refine TW.loopX (σ := Int × Int) (X := Unit) (fun T _ => [(0, V_a0), (1, .int .i64 T.1), (5, .int .i64 T.2)]) (fun _ _ => []) () [] ⟨rfl, rfl, rfl, trivial⟩ rfl (fun S1 X2 => ?_)
    refine TW.seq ?_
    refine TW.seq ?_
    refine TW.region ?_
    refine TO.y (Y.move rfl) rfl rfl rfl ?_
    refine TO.y (Y.move rfl) rfl rfl rfl ?_
    refine TO.y (Y.len (l := a) ke28 (Base.can HB_V_a0) rfl) rfl rfl rfl ?_
    refine TO.y (Y.lss rfl rfl) rfl rfl rfl ?_
    refine TO.nil ?_
    refine TE.next ?_
    refine TW.cond rfl (fun H5 => ?_) (fun H5 => ?_)
    · refine TW.skip ?_
      refine TE.next ?_
      refine TW.seq ?_
      refine TW.block ?_
      refine TW.seq ?_
      refine TW.seq ?_
      refine TW.region ?_
      refine TO.y (Y.move rfl) rfl rfl rfl ?_
      refine TO.y (Y.move rfl) rfl rfl rfl ?_
      refine TO.bind fun E6 H7 => ?_
      refine TO.y (Y.index ke28 (Base.can HB_V_a0) H7 rfl rfl) rfl rfl rfl ?_
      refine TO.y (Y.field_el kf52_0 (Base.can HB_V_a0) (idx_get H7).2.2 rfl rfl) rfl rfl rfl ?_
      refine TO.y (Y.load_el (us := [.int .i64 E6.No]) (u := .int .i64 E6.No) kk3 rfl (Base.can HB_V_a0) (idx_get H7).2.2 rfl rfl rfl rfl rfl) rfl rfl rfl ?_
      refine TO.y (Y.move rfl) rfl rfl rfl ?_
      refine TO.y (Y.neq rfl rfl) rfl rfl rfl ?_
      refine TO.nil ?_
      refine TE.next ?_
      refine TW.cond rfl (fun H8 => ?_) (fun H8 => ?_)
      · refine TW.seq ?_
        refine TW.region ?_
        refine TO.y (Y.assign rfl) rfl rfl rfl ?_
        refine TO.nil ?_
        refine TE.next ?_
        refine TW.ret ?_
        refine TE.then_ret ?_
        refine TE.block_ret ?_
        refine TE.then_ret ?_
        refine TE.lp_ret ?_
        refine TE.block_ret ?_
        refine TE.jn_done ?_
        refine TE.then_ret ?_
        exact TE.leaf fun _ _ hf_ hs_ => ret_any (rs := [.tmp 4]) (vs := [.int .i64 (-1 : Int)]) (.inl rfl) rfl ⟨rfl, trivial⟩ hf_ hs_ ⟨(), rfl, hs_.pulls [] rfl⟩
      · refine TW.skip ?_
        refine TE.next ?_
        refine TW.seq ?_
        refine TW.region ?_
        refine TO.y (Y.move rfl) rfl rfl rfl ?_
        refine TO.y (Y.add rfl rfl) rfl rfl rfl ?_
        refine TO.y (Y.assign rfl) rfl rfl rfl ?_
        refine TO.nil ?_
        refine TE.next ?_
        refine TW.seq ?_
        refine TW.seq ?_
        refine TW.region ?_
        refine TO.y (Y.move rfl) rfl rfl rfl ?_
        refine TO.y (Y.move rfl) rfl rfl rfl ?_
        refine TO.y (Y.index ke28 (Base.can HB_V_a0) H7 rfl rfl) rfl rfl rfl ?_
        refine TO.y (Y.field_el kf52_1 (Base.can HB_V_a0) (idx_get H7).2.2 rfl rfl) rfl rfl rfl ?_
        refine TO.y (Y.load_el (us := [.int .i64 E6.Level]) (u := .int .i64 E6.Level) kk3 rfl (Base.can HB_V_a0) (idx_get H7).2.2 rfl rfl rfl rfl rfl) rfl rfl rfl ?_
        refine TO.y (Y.move rfl) rfl rfl rfl ?_
        refine TO.y (Y.neq rfl rfl) rfl rfl rfl ?_
        refine TO.nil ?_
        refine TE.next ?_
        refine TW.cond rfl (fun H9 => ?_) (fun H9 => ?_)
        · refine TW.seq ?_
          refine TW.region ?_
          refine TO.y (Y.assign rfl) rfl rfl rfl ?_
          refine TO.nil ?_
          refine TE.next ?_
          refine TW.ret ?_
          refine TE.then_ret ?_
          refine TE.block_ret ?_
          refine TE.then_ret ?_
          refine TE.lp_ret ?_
          refine TE.block_ret ?_
          refine TE.jn_done ?_
          refine TE.then_ret ?_
          exact TE.leaf fun _ _ hf_ hs_ => ret_any (rs := [.tmp 4]) (vs := [.int .i64 (-1 : Int)]) (.inl rfl) rfl ⟨rfl, trivial⟩ hf_ hs_ ⟨(), rfl, hs_.pulls [] rfl⟩
        · refine TW.skip ?_
          refine TE.next ?_
          refine TW.seq ?_
          refine TW.region ?_
          refine TO.y (Y.move rfl) rfl rfl rfl ?_
          refine TO.y (Y.add rfl rfl) rfl rfl rfl ?_
          refine TO.y (Y.assign rfl) rfl rfl rfl ?_
          refine TO.nil ?_
          refine TE.next ?_
          refine TW.seq ?_
          refine TW.seq ?_
          refine TW.draw (isH := []) hMix ?_
          refine TA.y (listed' := #[true, false, false, false, false, false, false, false]) 0 [] rfl (Y.move rfl) rfl rfl rfl (by kernel_rfl) (by kernel_rfl) (by kernel_rfl) rfl rfl ?_
          refine TA.y (listed' := #[true, true, false, false, false, false, false, false]) 1 [] rfl (Y.move rfl) rfl rfl rfl (by kernel_rfl) (by kernel_rfl) (by kernel_rfl) rfl rfl ?_
          refine TA.y (listed' := #[true, true, true, false, false, false, false, false]) 2 [] rfl (Y.index ke28 (Base.can HB_V_a0) H7 rfl rfl) rfl rfl rfl (by kernel_rfl) (by kernel_rfl) (by kernel_rfl) rfl rfl ?_
          refine TA.y (listed' := #[true, true, true, true, false, false, false, false]) 3 [] rfl (Y.field_el kf52_2 (Base.can HB_V_a0) (idx_get H7).2.2 rfl rfl) rfl rfl rfl (by kernel_rfl) (by kernel_rfl) (by kernel_rfl) rfl rfl ?_
          refine TA.y (listed' := #[true, true, true, true, true, false, false, false]) 4 [] rfl (Y.load_el (us := [strV E6.Lo]) (u := strV E6.Lo) kk9 rfl (Base.can HB_V_a0) (idx_get H7).2.2 rfl rfl rfl rfl rfl) rfl rfl rfl (by kernel_rfl) (by kernel_rfl) (by kernel_rfl) rfl rfl ?_
          refine TA.y (listed' := #[true, true, true, true, true, true, false, false]) 5 [] rfl (Y.move rfl) rfl rfl rfl (by kernel_rfl) (by kernel_rfl) (by kernel_rfl) rfl rfl ?_
          refine TA.bind fun R10 H11 => ?_
          refine TA.one 6 (by kernel_rfl) ?_
          refine TX.ef (listed' := #[true, true, true, true, true, true, true, false]) [] rfl (Ef.call (rest := []) [] (laws_markText_con (IntKind.i64.wrap (IntKind.i64.wrap (S1.1 + (1 : Int)) + (1 : Int)))  R10 H11) kc51 rfl rfl trivial) rfl rfl rfl rfl (fun _ => rfl) (fun _ => ?_)
          refine TA.y (listed' := #[true, true, true, true, true, true, true, true]) 7 [] rfl (Y.sneq rfl rfl) rfl rfl rfl (by kernel_rfl) (by kernel_rfl) (by kernel_rfl) rfl rfl ?_
          refine TA.nil (by kernel_rfl) ?_
          refine TE.next ?_
          refine TW.cond rfl (fun H13 => ?_) (fun H13 => ?_)
          · refine TW.seq ?_
            refine TW.region ?_
            refine TO.y (Y.assign rfl) rfl rfl rfl ?_
            refine TO.nil ?_
            refine TE.next ?_
            refine TW.ret ?_
            refine TE.then_ret ?_
            refine TE.block_ret ?_
            refine TE.then_ret ?_
            refine TE.lp_ret ?_
            refine TE.block_ret ?_
            refine TE.jn_done ?_
            refine TE.then_ret ?_
            exact TE.leaf fun _ _ hf_ hs_ => ret_any (rs := [.tmp 4]) (vs := [.int .i64 (-1 : Int)]) (.inl rfl) rfl ⟨rfl, trivial⟩ hf_ hs_ ⟨(), rfl, hs_.pulls [] rfl⟩
          · refine TW.skip ?_
            refine TE.next ?_
            refine TW.seq ?_
            refine TW.region ?_
            refine TO.y (Y.move rfl) rfl rfl rfl ?_
            refine TO.y (Y.add rfl rfl) rfl rfl rfl ?_
            refine TO.y (Y.assign rfl) rfl rfl rfl ?_
            refine TO.nil ?_
            refine TE.next ?_
            refine TW.seq ?_
            refine TW.seq ?_
            refine TW.draw (isH := []) hMix ?_
            refine TA.y (listed' := #[true, false, false, false, false, false, false, false]) 0 [] rfl (Y.move rfl) rfl rfl rfl (by kernel_rfl) (by kernel_rfl) (by kernel_rfl) rfl rfl ?_
            refine TA.y (listed' := #[true, true, false, false, false, false, false, false]) 1 [] rfl (Y.move rfl) rfl rfl rfl (by kernel_rfl) (by kernel_rfl) (by kernel_rfl) rfl rfl ?_
            refine TA.y (listed' := #[true, true, true, false, false, false, false, false]) 2 [] rfl (Y.index ke28 (Base.can HB_V_a0) H7 rfl rfl) rfl rfl rfl (by kernel_rfl) (by kernel_rfl) (by kernel_rfl) rfl rfl ?_
            refine TA.y (listed' := #[true, true, true, true, false, false, false, false]) 3 [] rfl (Y.field_el kf52_3 (Base.can HB_V_a0) (idx_get H7).2.2 rfl rfl) rfl rfl rfl (by kernel_rfl) (by kernel_rfl) (by kernel_rfl) rfl rfl ?_
            refine TA.y (listed' := #[true, true, true, true, true, false, false, false]) 4 [] rfl (Y.load_el (us := [strV E6.Hi]) (u := strV E6.Hi) kk9 rfl (Base.can HB_V_a0) (idx_get H7).2.2 rfl rfl rfl rfl rfl) rfl rfl rfl (by kernel_rfl) (by kernel_rfl) (by kernel_rfl) rfl rfl ?_
            refine TA.y (listed' := #[true, true, true, true, true, true, false, false]) 5 [] rfl (Y.move rfl) rfl rfl rfl (by kernel_rfl) (by kernel_rfl) (by kernel_rfl) rfl rfl ?_
            refine TA.bind fun R14 H15 => ?_
            refine TA.one 6 (by kernel_rfl) ?_
            refine TX.ef (listed' := #[true, true, true, true, true, true, true, false]) [] rfl (Ef.call (rest := []) [] (laws_markText_con (IntKind.i64.wrap (IntKind.i64.wrap (IntKind.i64.wrap (S1.1 + (1 : Int)) + (1 : Int)) + (1 : Int)))  R14 H15) kc51 rfl rfl trivial) rfl rfl rfl rfl (fun _ => rfl) (fun _ => ?_)
            refine TA.y (listed' := #[true, true, true, true, true, true, true, true]) 7 [] rfl (Y.sneq rfl rfl) rfl rfl rfl (by kernel_rfl) (by kernel_rfl) (by kernel_rfl) rfl rfl ?_
            refine TA.nil (by kernel_rfl) ?_
            refine TE.next ?_
            refine TW.cond rfl (fun H17 => ?_) (fun H17 => ?_)
            · refine TW.seq ?_
              refine TW.region ?_
              refine TO.y (Y.assign rfl) rfl rfl rfl ?_
              refine TO.nil ?_
              refine TE.next ?_
              refine TW.ret ?_
              refine TE.then_ret ?_
              refine TE.block_ret ?_
              refine TE.then_ret ?_
              refine TE.lp_ret ?_
              refine TE.block_ret ?_
              refine TE.jn_done ?_
              refine TE.then_ret ?_
              exact TE.leaf fun _ _ hf_ hs_ => ret_any (rs := [.tmp 4]) (vs := [.int .i64 (-1 : Int)]) (.inl rfl) rfl ⟨rfl, trivial⟩ hf_ hs_ ⟨(), rfl, hs_.pulls [] rfl⟩
            · refine TW.skip ?_
              refine TE.next ?_
              refine TW.region ?_
              refine TO.y (Y.move rfl) rfl rfl rfl ?_
              refine TO.y (Y.add rfl rfl) rfl rfl rfl ?_
              refine TO.y (Y.assign rfl) rfl rfl rfl ?_
              refine TO.nil ?_
              refine TE.block_normal ?_
              refine TE.next ?_
              refine TW.region ?_
              refine TO.y (Y.move rfl) rfl rfl rfl ?_
              refine TO.y (Y.add rfl rfl) rfl rfl rfl ?_
              refine TO.y (Y.assign rfl) rfl rfl rfl ?_
              refine TO.nil ?_
              exact TE.lp_go () [] ⟨rfl, rfl, rfl, trivial⟩ rfl
    · refine TW.exit ?_
      refine TE.then_exit ?_
      refine TE.lp_exit ?_
      refine TE.block_exit ?_
      exact TE.jn_go () [] ⟨rfl, trivial⟩ rfl
  · refine TE.next ?_
    refine TW.seq ?_
    refine TW.region ?_
    refine TO.y (Y.move rfl) rfl rfl rfl ?_
    refine TO.y (Y.assign rfl) rfl rfl rfl ?_
    refine TO.nil ?_
    refine TE.next ?_
    refine TW.ret ?_
    exact TE.leaf fun _ _ hf_ hs_ => ret_any (rs := [.tmp 4]) (vs := [.int .i64 T3]) (.inl rfl) rfl ⟨rfl, trivial⟩ hf_ hs_ ⟨(), rfl, hs_.pulls [] rfl⟩

/-- loop.example/g00950/laws.heldIntS -/
noncomputable def laws_heldIntS (a : List Int) (k : Int) : Option Int :=
  bindC (loopO (fun (S1 : Int × Int) => if (decide (S1.2 < ((a.length : Nat) : Int))) = true then ((idx a S1.2).bind fun E6 =>
  if (!(decide (E6 = S1.1))) = true then (some (.done (.done (-1 : Int))))
  else (some (.go (IntKind.i64.wrap (S1.1 + (1 : Int)), IntKind.i64.wrap (S1.2 + (1 : Int))))))
  else (some (.done (.go S1.1))))
  (k, (0 : Int)))
  (fun (T3 : Int) => some T3)

theorem laws_heldIntS_con (a : List Int) (k : Int) (V_a0 : Value) (r : Int) (hm : laws_heldIntS a k = some r) :
    Con Try.prog 47 [V_a0, .int .i64 k] [] [(V_a0, lc a)] (fun _ : Unit => .int .i64 r) (fun _ => []) := by
  refine Con.intro (args := [V_a0, .int .i64 k]) (n := 21) (val := fun r (_ : Unit) => .int .i64 r) (post := fun _ _ => []) (m := laws_heldIntS a k) Try.func47 rfl rfl rfl hm ?_
  intro w S hrd
  have HB_V_a0 := hrd _ (.head _)
  clear hrd
  unfold laws_heldIntS
  refine TW.seq ?_
  refine TW.region ?_
  refine TO.y (Y.assign rfl) rfl rfl rfl ?_
  refine TO.nil ?_
  refine TE.next ?_
  refine TW.seq ?_
  refine TW.seq ?_
  refine TW.region ?_
  refine TO.y (Y.assign rfl) rfl rfl rfl ?_
  refine TO.nil ?_
  refine TE.next ?_
  refine TW.joinX (τ := Int) (X := Unit) (fun T _ => [(1, .int .i64 T)]) (fun _ _ => []) ?_ (fun T3 X4 => ?_)
  · refine TW.block ?_
    refine TW.loopX (σ := Int × Int) (X := Unit) (fun T _ => [(0, V_a0), (1, .int .i64 T.1), (5, .int .i64 T.2)]) (fun _ _ => []) () [] ⟨rfl, rfl, rfl, trivial⟩ rfl (fun S1 X2 => ?_)
    refine TW.seq ?_
    refine TW.seq ?_
    refine TW.region ?_
    refine TO.y (Y.move rfl) rfl rfl rfl ?_
    refine TO.y (Y.move rfl) rfl rfl rfl ?_
    refine TO.y (Y.len (l := a) ke23 (Base.can HB_V_a0) rfl) rfl rfl rfl ?_
    refine TO.y (Y.lss rfl rfl) rfl rfl rfl ?_
    refine TO.nil ?_
    refine TE.next ?_
    refine TW.cond rfl (fun H5 => ?_) (fun H5 => ?_)
    · refine TW.skip ?_
      refine TE.next ?_
      refine TW.seq ?_
      refine TW.block ?_
      refine TW.seq ?_
      refine TW.seq ?_
      refine TW.region ?_
      refine TO.y (Y.move rfl) rfl rfl rfl ?_
      refine TO.y (Y.move rfl) rfl rfl rfl ?_
      refine TO.bind fun E6 H7 => ?_
      refine TO.y (Y.index ke23 (Base.can HB_V_a0) H7 rfl rfl) rfl rfl rfl ?_
      refine TO.y (Y.load_el (us := [.int .i64 E6]) (u := .int .i64 E6) kk3 rfl (Base.can HB_V_a0) (idx_get H7).2.2 rfl rfl rfl rfl rfl) rfl rfl rfl ?_
      refine TO.y (Y.move rfl) rfl rfl rfl ?_
      refine TO.y (Y.neq rfl rfl) rfl rfl rfl ?_
      refine TO.nil ?_
      refine TE.next ?_
      refine TW.cond rfl (fun H8 => ?_) (fun H8 => ?_)
      · refine TW.seq ?_
        refine TW.region ?_
        refine TO.y (Y.assign rfl) rfl rfl rfl ?_
        refine TO.nil ?_
        refine TE.next ?_
        refine TW.ret ?_
        refine TE.then_ret ?_
        refine TE.block_ret ?_
        refine TE.then_ret ?_
        refine TE.lp_ret ?_
        refine TE.block_ret ?_
        refine TE.jn_done ?_
        refine TE.then_ret ?_
        exact TE.leaf fun _ _ hf_ hs_ => ret_any (rs := [.tmp 4]) (vs := [.int .i64 (-1 : Int)]) (.inl rfl) rfl ⟨rfl, trivial⟩ hf_ hs_ ⟨(), rfl, hs_.pulls [] rfl⟩
      · refine TW.skip ?_
        refine TE.next ?_
        refine TW.region ?_
        refine TO.y (Y.move rfl) rfl rfl rfl ?_
        refine TO.y (Y.add rfl rfl) rfl rfl rfl ?_
        refine TO.y (Y.assign rfl) rfl rfl rfl ?_
        refine TO.nil ?_
        refine TE.block_normal ?_
        refine TE.next ?_
        refine TW.region ?_
        refine TO.y (Y.move rfl) rfl rfl rfl ?_
        refine TO.y (Y.add rfl rfl) rfl rfl rfl ?_
        refine TO.y (Y.assign rfl) rfl rfl rfl ?_
        refine TO.nil ?_
        exact TE.lp_go () [] ⟨rfl, rfl, rfl, trivial⟩ rfl
    · refine TW.exit ?_
      refine TE.then_exit ?_
      refine TE.lp_exit ?_
      refine TE.block_exit ?_
      exact TE.jn_go () [] ⟨rfl, trivial⟩ rfl
  · refine TE.next ?_
    refine TW.seq ?_
    refine TW.region ?_
    refine TO.y (Y.move rfl) rfl rfl rfl ?_
    refine TO.y (Y.assign rfl) rfl rfl rfl ?_
    refine TO.nil ?_
    refine TE.next ?_
    refine TW.ret ?_
    exact TE.leaf fun _ _ hf_ hs_ => ret_any (rs := [.tmp 4]) (vs := [.int .i64 T3]) (.inl rfl) rfl ⟨rfl, trivial⟩ hf_ hs_ ⟨(), rfl, hs_.pulls [] rfl⟩

/-- loop.example/g00950/laws.heldEdit -/
noncomputable def laws_heldEdit (a : Edit) (k : Int) : Option Int :=
  (laws_heldFileS a.Add k).bind fun R2 =>
  if (decide (R2 < (0 : Int))) = true then (some (-1 : Int))
  else ((laws_heldIntS a.Drop R2).bind fun R6 =>
  if (decide (R6 < (0 : Int))) = true then (some (-1 : Int))
  else (some R6))

theorem laws_heldEdit_con (a : Edit) (k : Int) (V_a0 : Value) (V_a1 : Value) (r : Int) (hm : laws_heldEdit a k = some r) :
    Con Try.prog 14 [.agg #[V_a0, V_a1], .int .i64 k] [] [(V_a0, lc a.Add), (V_a1, lc a.Drop)] (fun _ : Unit => .int .i64 r) (fun _ => []) := by
  refine Con.intro (args := [.agg #[V_a0, V_a1], .int .i64 k]) (n := 18) (val := fun r (_ : Unit) => .int .i64 r) (post := fun _ _ => []) (m := laws_heldEdit a k) Try.func14 rfl rfl rfl hm ?_
  intro w S hrd
  have HB_V_a0 := hrd _ (.head _)
  have HB_V_a1 := hrd _ (.tail _ (.head _))
  clear hrd
  unfold laws_heldEdit
  refine TW.seq ?_
  refine TW.region ?_
  refine TO.ef (Ef.box rfl (Cel.agg ⟨(One.can (Base.can HB_V_a0)), (One.can (Base.can HB_V_a1)), trivial⟩)) rfl rfl rfl (fun B1 => ?_)
  refine TO.y (Y.assign rfl) rfl rfl rfl ?_
  refine TO.nil ?_
  refine TE.next ?_
  refine TW.seq ?_
  refine TW.region ?_
  refine TO.y (Y.field_box kf30_0 rfl rfl) rfl rfl rfl ?_
  refine TO.y (Y.load_box (v := V_a0) 0 kk28 rfl rfl rfl) rfl rfl rfl ?_
  refine TO.y (Y.move rfl) rfl rfl rfl ?_
  refine TO.bind fun R2 H3 => ?_
  refine TO.ef (Ef.call (rest := [.box B1 30 [V_a0, V_a1]]) [0] (laws_heldFileS_con a.Add k V_a0 R2 H3) kc23 rfl rfl ⟨(Base.can HB_V_a0), trivial⟩) rfl rfl rfl (fun _ => ?_)
  refine TO.y (Y.assign rfl) rfl rfl rfl ?_
  refine TO.nil ?_
  refine TE.next ?_
  refine TW.seq ?_
  refine TW.seq ?_
  refine TW.region ?_
  refine TO.y (Y.move rfl) rfl rfl rfl ?_
  refine TO.y (Y.lss rfl rfl) rfl rfl rfl ?_
  refine TO.nil ?_
  refine TE.next ?_
  refine TW.cond rfl (fun H5 => ?_) (fun H5 => ?_)
  · refine TW.seq ?_
    refine TW.region ?_
    refine TO.y (Y.assign rfl) rfl rfl rfl ?_
    refine TO.nil ?_
    refine TE.next ?_
    refine TW.ret ?_
    refine TE.then_ret ?_
    exact TE.leaf fun _ _ hf_ hs_ => ret_any (rs := [.tmp 4]) (vs := [.int .i64 (-1 : Int)]) (.inl rfl) rfl ⟨rfl, trivial⟩ hf_ hs_ ⟨(), rfl, hs_.pulls [] rfl⟩
  · refine TW.skip ?_
    refine TE.next ?_
    refine TW.seq ?_
    refine TW.region ?_
    refine TO.y (Y.field_box kf30_1 rfl rfl) rfl rfl rfl ?_
    refine TO.y (Y.load_box (v := V_a1) 0 kk23 rfl rfl rfl) rfl rfl rfl ?_
    refine TO.y (Y.move rfl) rfl rfl rfl ?_
    refine TO.bind fun R6 H7 => ?_
    refine TO.ef (Ef.call (rest := [.box B1 30 [V_a0, V_a1]]) [0] (laws_heldIntS_con a.Drop R2 V_a1 R6 H7) kc47 rfl rfl ⟨(Base.can HB_V_a1), trivial⟩) rfl rfl rfl (fun _ => ?_)
    refine TO.y (Y.assign rfl) rfl rfl rfl ?_
    refine TO.nil ?_
    refine TE.next ?_
    refine TW.seq ?_
    refine TW.seq ?_
    refine TW.region ?_
    refine TO.y (Y.move rfl) rfl rfl rfl ?_
    refine TO.y (Y.lss rfl rfl) rfl rfl rfl ?_
    refine TO.nil ?_
    refine TE.next ?_
    refine TW.cond rfl (fun H9 => ?_) (fun H9 => ?_)
    · refine TW.seq ?_
      refine TW.region ?_
      refine TO.y (Y.assign rfl) rfl rfl rfl ?_
      refine TO.nil ?_
      refine TE.next ?_
      refine TW.ret ?_
      refine TE.then_ret ?_
      exact TE.leaf fun _ _ hf_ hs_ => ret_any (rs := [.tmp 4]) (vs := [.int .i64 (-1 : Int)]) (.inl rfl) rfl ⟨rfl, trivial⟩ hf_ hs_ ⟨(), rfl, hs_.pulls [] rfl⟩
    · refine TW.skip ?_
      refine TE.next ?_
      refine TW.seq ?_
      refine TW.region ?_
      refine TO.y (Y.move rfl) rfl rfl rfl ?_
      refine TO.y (Y.assign rfl) rfl rfl rfl ?_
      refine TO.nil ?_
      refine TE.next ?_
      refine TW.ret ?_
      exact TE.leaf fun _ _ hf_ hs_ => ret_any (rs := [.tmp 4]) (vs := [.int .i64 R6]) (.inl rfl) rfl ⟨rfl, trivial⟩ hf_ hs_ ⟨(), rfl, hs_.pulls [] rfl⟩

/-- loop.example/g00950/laws.FnExactReadEdit -/
noncomputable def laws_FnExactReadEdit (aS : List UInt8) : Option Bool :=
  if (decide (((aS.length : Nat) : Int) > (1048576 : Int))) = true then (some true)
  else ((spec_ReadEdit aS).bind fun R2 =>
  (impl_ReadEdit aS).bind fun R6 =>
  ((laws_eqEdit R6.1 R2.1).bind fun R12 =>
  if (!R12) = true then (some true)
  else (some (!(decide (R6.2 = R2.2))))).bind (fun (T10 : Bool) =>
  if T10 = true then (some false)
  else ((laws_markEdit R6.1 (1 : Int)).bind fun R17 =>
  (laws_heldEdit ({ Add := R17.2.1, Drop := R17.2.2 : Edit }) (1 : Int)).bind fun R20 =>
  if (decide (R20 < (0 : Int))) = true then (some false)
  else (if (!(decide (R20 = R17.1))) = true then (some false)
  else (((laws_eqEdit R6.1 R2.1).bind fun R29 =>
  if (!R29) = true then (some true)
  else (some (!(decide (R6.2 = R2.2))))).bind (fun (T27 : Bool) =>
  if T27 = true then (some false)
  else (if (decide (R20 < (0 : Int))) = true then (some false)
  else (if (!(decide (R20 = R17.1))) = true then (some false)
  else (some true)))))))))

theorem laws_FnExactReadEdit_con (aS : List UInt8)  (r : Bool) (hm : laws_FnExactReadEdit aS = some r) :
    Con Try.prog 4 [strV aS] [] [] (fun _ : Unit => .bool r) (fun _ => []) := by
  refine Con.intro (args := [strV aS]) (n := 66) (val := fun r (_ : Unit) => .bool r) (post := fun _ _ => []) (m := laws_FnExactReadEdit aS) Try.func4 rfl rfl rfl hm ?_
  intro w S _
  unfold laws_FnExactReadEdit
  refine TW.seq ?_
  refine TW.region ?_
  refine TO.y (Y.assign rfl) rfl rfl rfl ?_
  refine TO.nil ?_
  refine TE.next ?_
  refine TW.seq ?_
  refine TW.seq ?_
  refine TW.region ?_
  refine TO.y (Y.move rfl) rfl rfl rfl ?_
  refine TO.y (Y.slen ks9 rfl) rfl rfl rfl ?_
  refine TO.y (Y.gtr rfl rfl) rfl rfl rfl ?_
  refine TO.nil ?_
  refine TE.next ?_
  refine TW.cond rfl (fun H1 => ?_) (fun H1 => ?_)
  · refine TW.seq ?_
    refine TW.region ?_
    refine TO.y (Y.assign rfl) rfl rfl rfl ?_
    refine TO.nil ?_
    refine TE.next ?_
    refine TW.ret ?_
    refine TE.then_ret ?_
    exact TE.leaf fun _ _ hf_ hs_ => ret_any (rs := [.tmp 2]) (vs := [.bool true]) (.inl rfl) rfl ⟨rfl, trivial⟩ hf_ hs_ ⟨(), rfl, hs_.pulls [] rfl⟩
  · refine TW.skip ?_
    refine TE.next ?_
    refine TW.seq ?_
    refine TW.region ?_
    refine TO.y (Y.move rfl) rfl rfl rfl ?_
    refine TO.bind fun R2 H3 => ?_
    refine TO.ef (Ef.call (rest := []) [] (spec_ReadEdit_con aS  R2 H3) kc11 rfl rfl trivial) rfl rfl rfl (fun Y4 => ?_)
    refine TO.y (Y.move rfl) rfl rfl rfl ?_
    refine TO.y (Y.extract rfl rfl) rfl rfl rfl ?_
    refine TO.y (Y.extract rfl rfl) rfl rfl rfl ?_
    refine TO.ef (Ef.alloc kz30 rfl) rfl rfl rfl (fun B5 => ?_)
    refine TO.ef0 (Ef.store_box (us := [Y4.1, Y4.2]) (vs' := [Y4.1, Y4.2]) (is' := [.box B5 30 [Y4.1, Y4.2], .own Y4.1 (lc R2.1.Add), .own Y4.2 (lc R2.1.Drop)]) 0 kk30 rfl rfl rfl (Cel.agg ⟨(One.can (Can.own 1 rfl)), (One.can (Can.own 2 rfl)), trivial⟩) rfl rfl rfl rfl) rfl rfl (fun _ => ?_)
    refine TO.y (Y.assign rfl) rfl rfl rfl ?_
    refine TO.nil ?_
    refine TE.next ?_
    refine TW.seq ?_
    refine TW.region ?_
    refine TO.y (Y.move rfl) rfl rfl rfl ?_
    refine TO.bind fun R6 H7 => ?_
    refine TO.ef (Ef.call (rest := [.box B5 30 [Y4.1, Y4.2], .own Y4.1 (lc R2.1.Add), .own Y4.2 (lc R2.1.Drop)]) [0, 0, 0] (impl_ReadEdit_con aS  R6 H7) kc12 rfl rfl trivial) rfl rfl rfl (fun Y8 => ?_)
    refine TO.y (Y.move rfl) rfl rfl rfl ?_
    refine TO.y (Y.extract rfl rfl) rfl rfl rfl ?_
    refine TO.y (Y.extract rfl rfl) rfl rfl rfl ?_
    refine TO.ef (Ef.alloc kz30 rfl) rfl rfl rfl (fun B9 => ?_)
    refine TO.ef0 (Ef.store_box (us := [Y8.1, Y8.2]) (vs' := [Y8.1, Y8.2]) (is' := [.box B9 30 [Y8.1, Y8.2], .own Y8.1 (lc R6.1.Add), .own Y8.2 (lc R6.1.Drop), .box B5 30 [Y4.1, Y4.2], .own Y4.1 (lc R2.1.Add), .own Y4.2 (lc R2.1.Drop)]) 0 kk30 rfl rfl rfl (Cel.agg ⟨(One.can (Can.own 1 rfl)), (One.can (Can.own 2 rfl)), trivial⟩) rfl rfl rfl rfl) rfl rfl (fun _ => ?_)
    refine TO.y (Y.assign rfl) rfl rfl rfl ?_
    refine TO.nil ?_
    refine TE.next ?_
    refine TW.seq ?_
    refine TW.seq ?_
    refine TW.joinBX (τ := Bool) (X := Unit) (fun T _ => [(0, strV aS), (3, .pointer (some ⟨B5, 0, none⟩)), (4, .bool R2.2), (5, .pointer (some ⟨B9, 0, none⟩)), (32, .bool T)]) (fun _ _ => [.box B5 30 [Y4.1, Y4.2], .box B9 30 [Y8.1, Y8.2], .own Y4.1 (lc R2.1.Add), .own Y4.2 (lc R2.1.Drop), .own Y8.1 (lc R6.1.Add), .own Y8.2 (lc R6.1.Drop)]) ?_ (fun T10 X11 => ?_)
    · refine TW.region ?_
      refine TO.y (Y.load_box (v := .agg #[Y8.1, Y8.2]) 0 kk30 rfl rfl rfl) rfl rfl rfl ?_
      refine TO.y (Y.load_box (v := .agg #[Y4.1, Y4.2]) 3 kk30 rfl rfl rfl) rfl rfl rfl ?_
      refine TO.bind fun R12 H13 => ?_
      refine TO.ef (Ef.call (rest := [.box B9 30 [Y8.1, Y8.2], .own Y8.1 (lc R6.1.Add), .own Y8.2 (lc R6.1.Drop), .box B5 30 [Y4.1, Y4.2], .own Y4.1 (lc R2.1.Add), .own Y4.2 (lc R2.1.Drop)]) [0, 0, 0, 0, 0, 0] (laws_eqEdit_con R6.1 R2.1 Y8.1 Y8.2 Y4.1 Y4.2 R12 H13) kc10 rfl rfl ⟨(Can.own 1 rfl), (Can.own 2 rfl), (Can.own 4 rfl), (Can.own 5 rfl), trivial⟩) rfl rfl rfl (fun _ => ?_)
      refine TO.y (Y.not rfl) rfl rfl rfl ?_
      refine TO.y (Y.move rfl) rfl rfl rfl ?_
      refine TO.ite (b := !R12) (fun H15 => ?_) (fun H15 => ?_)
      · refine TO.off (Gd.at 4 false 28 (!R12) rfl rfl rfl (beq_tf H15)) rfl rfl ?_
        refine TO.off (Gd.at 4 false 28 (!R12) rfl rfl rfl (beq_tf H15)) rfl rfl ?_
        refine TO.off (Gd.at 4 false 28 (!R12) rfl rfl rfl (beq_tf H15)) rfl rfl ?_
        refine TO.y (Y.pick_t H15 rfl rfl) rfl rfl rfl ?_
        refine TO.nil ?_
        exact TE.jb_go () [3, 0, 2, 2, 0, 0] ⟨rfl, rfl, rfl, rfl, rfl, trivial⟩ rfl
      · refine TO.y (Y.move rfl) (Gd.at 4 false 28 (!R12) rfl rfl rfl (beq_ff H15)) rfl rfl ?_
        refine TO.y (Y.move rfl) (Gd.at 4 false 28 (!R12) rfl rfl rfl (beq_ff H15)) rfl rfl ?_
        refine TO.y (Y.neb kb4 rfl rfl) (Gd.at 4 false 28 (!R12) rfl rfl rfl (beq_ff H15)) rfl rfl ?_
        refine TO.y (Y.pick_f H15 rfl rfl) rfl rfl rfl ?_
        refine TO.nil ?_
        exact TE.jb_go () [3, 0, 2, 2, 0, 0] ⟨rfl, rfl, rfl, rfl, rfl, trivial⟩ rfl
    · refine TE.next ?_
      refine TW.cond rfl (fun H16 => ?_) (fun H16 => ?_)
      · refine TW.seq ?_
        refine TW.region ?_
        refine TO.y (Y.assign rfl) rfl rfl rfl ?_
        refine TO.nil ?_
        refine TE.next ?_
        refine TW.ret ?_
        refine TE.then_ret ?_
        exact TE.leaf fun _ _ hf_ hs_ => ret_any (rs := [.tmp 2]) (vs := [.bool false]) (.inl rfl) rfl ⟨rfl, trivial⟩ hf_ hs_ ⟨(), rfl, hs_.pulls [] rfl⟩
      · refine TW.skip ?_
        refine TE.next ?_
        refine TW.seq ?_
        refine TW.region ?_
        refine TO.y (Y.assign rfl) rfl rfl rfl ?_
        refine TO.nil ?_
        refine TE.next ?_
        refine TW.seq ?_
        refine TW.region ?_
        refine TO.y (Y.load_box (v := .agg #[Y8.1, Y8.2]) 1 kk30 rfl rfl rfl) rfl rfl rfl ?_
        refine TO.y (Y.move rfl) rfl rfl rfl ?_
        refine TO.bind fun R17 H18 => ?_
        refine TO.ef (Ef.call (rest := [.box B5 30 [Y4.1, Y4.2], .box B9 30 [Y8.1, Y8.2], .own Y4.1 (lc R2.1.Add), .own Y4.2 (lc R2.1.Drop)]) [4, 4, 0, 0, 0, 0] (laws_markEdit_con R6.1 (1 : Int) Y8.1 Y8.2 R17 H18) kc13 rfl rfl trivial) rfl rfl rfl (fun _ => ?_)
        refine TO.y (Y.assign rfl) rfl rfl rfl ?_
        refine TO.nil ?_
        refine TE.next ?_
        refine TW.seq ?_
        refine TW.region ?_
        refine TO.y (Y.assign rfl) rfl rfl rfl ?_
        refine TO.nil ?_
        refine TE.next ?_
        refine TW.seq ?_
        refine TW.region ?_
        refine TO.y (Y.load_box (v := .agg #[Y8.1, Y8.2]) 3 kk30 rfl rfl rfl) rfl rfl rfl ?_
        refine TO.y (Y.move rfl) rfl rfl rfl ?_
        refine TO.bind fun R20 H21 => ?_
        refine TO.ef (Ef.call (rest := [.own Y8.1 (lc R17.2.1), .own Y8.2 (lc R17.2.2), .box B5 30 [Y4.1, Y4.2], .box B9 30 [Y8.1, Y8.2], .own Y4.1 (lc R2.1.Add), .own Y4.2 (lc R2.1.Drop)]) [0, 0, 0, 0, 0, 0] (laws_heldEdit_con ({ Add := R17.2.1, Drop := R17.2.2 : Edit }) (1 : Int) Y8.1 Y8.2 R20 H21) kc14 rfl rfl ⟨(Can.own 0 rfl), (Can.own 1 rfl), trivial⟩) rfl rfl rfl (fun _ => ?_)
        refine TO.y (Y.assign rfl) rfl rfl rfl ?_
        refine TO.nil ?_
        refine TE.next ?_
        refine TW.seq ?_
        refine TW.seq ?_
        refine TW.region ?_
        refine TO.y (Y.move rfl) rfl rfl rfl ?_
        refine TO.y (Y.lss rfl rfl) rfl rfl rfl ?_
        refine TO.nil ?_
        refine TE.next ?_
        refine TW.cond rfl (fun H23 => ?_) (fun H23 => ?_)
        · refine TW.seq ?_
          refine TW.region ?_
          refine TO.y (Y.assign rfl) rfl rfl rfl ?_
          refine TO.nil ?_
          refine TE.next ?_
          refine TW.ret ?_
          refine TE.then_ret ?_
          exact TE.leaf fun _ _ hf_ hs_ => ret_any (rs := [.tmp 2]) (vs := [.bool false]) (.inl rfl) rfl ⟨rfl, trivial⟩ hf_ hs_ ⟨(), rfl, hs_.pulls [] rfl⟩
        · refine TW.skip ?_
          refine TE.next ?_
          refine TW.seq ?_
          refine TW.seq ?_
          refine TW.region ?_
          refine TO.y (Y.move rfl) rfl rfl rfl ?_
          refine TO.y (Y.move rfl) rfl rfl rfl ?_
          refine TO.y (Y.neq rfl rfl) rfl rfl rfl ?_
          refine TO.nil ?_
          refine TE.next ?_
          refine TW.cond rfl (fun H24 => ?_) (fun H24 => ?_)
          · refine TW.seq ?_
            refine TW.region ?_
            refine TO.y (Y.assign rfl) rfl rfl rfl ?_
            refine TO.nil ?_
            refine TE.next ?_
            refine TW.ret ?_
            refine TE.then_ret ?_
            exact TE.leaf fun _ _ hf_ hs_ => ret_any (rs := [.tmp 2]) (vs := [.bool false]) (.inl rfl) rfl ⟨rfl, trivial⟩ hf_ hs_ ⟨(), rfl, hs_.pulls [] rfl⟩
          · refine TW.skip ?_
            refine TE.next ?_
            refine TW.seq ?_
            refine TW.region ?_
            refine TO.y (Y.move rfl) rfl rfl rfl ?_
            refine TO.ef (Ef.call (rest := [.own Y8.1 (lc R17.2.1), .own Y8.2 (lc R17.2.2), .box B5 30 [Y4.1, Y4.2], .box B9 30 [Y8.1, Y8.2], .own Y4.1 (lc R2.1.Add), .own Y4.2 (lc R2.1.Drop)]) [0, 0, 0, 0, 0, 0] (impl_ReadEdit_con aS  R6 H7) kc12 rfl rfl trivial) rfl rfl rfl (fun Y25 => ?_)
            refine TO.y (Y.move rfl) rfl rfl rfl ?_
            refine TO.y (Y.extract rfl rfl) rfl rfl rfl ?_
            refine TO.y (Y.extract rfl rfl) rfl rfl rfl ?_
            refine TO.ef (Ef.alloc kz30 rfl) rfl rfl rfl (fun B26 => ?_)
            refine TO.ef0 (Ef.store_box (us := [Y25.1, Y25.2]) (vs' := [Y25.1, Y25.2]) (is' := [.box B26 30 [Y25.1, Y25.2], .own Y25.1 (lc R6.1.Add), .own Y25.2 (lc R6.1.Drop), .own Y8.1 (lc R17.2.1), .own Y8.2 (lc R17.2.2), .box B5 30 [Y4.1, Y4.2], .box B9 30 [Y8.1, Y8.2], .own Y4.1 (lc R2.1.Add), .own Y4.2 (lc R2.1.Drop)]) 0 kk30 rfl rfl rfl (Cel.agg ⟨(One.can (Can.own 1 rfl)), (One.can (Can.own 2 rfl)), trivial⟩) rfl rfl rfl rfl) rfl rfl (fun _ => ?_)
            refine TO.y (Y.assign rfl) rfl rfl rfl ?_
            refine TO.nil ?_
            refine TE.next ?_
            refine TW.seq ?_
            refine TW.seq ?_
            refine TW.joinBX (τ := Bool) (X := Unit) (fun T _ => [(5, .pointer (some ⟨B9, 0, none⟩)), (7, .int .i64 R17.1), (57, .bool T)]) (fun _ _ => [.box B9 30 [Y8.1, Y8.2], .own Y8.1 (lc R17.2.1), .own Y8.2 (lc R17.2.2)]) ?_ (fun T27 X28 => ?_)
            · refine TW.region ?_
              refine TO.y (Y.load_box (v := .agg #[Y25.1, Y25.2]) 0 kk30 rfl rfl rfl) rfl rfl rfl ?_
              refine TO.y (Y.load_box (v := .agg #[Y4.1, Y4.2]) 5 kk30 rfl rfl rfl) rfl rfl rfl ?_
              refine TO.bind fun R29 H30 => ?_
              refine TO.ef (Ef.call (rest := [.box B26 30 [Y25.1, Y25.2], .own Y25.1 (lc R6.1.Add), .own Y25.2 (lc R6.1.Drop), .own Y8.1 (lc R17.2.1), .own Y8.2 (lc R17.2.2), .box B5 30 [Y4.1, Y4.2], .box B9 30 [Y8.1, Y8.2], .own Y4.1 (lc R2.1.Add), .own Y4.2 (lc R2.1.Drop)]) [0, 0, 0, 0, 0, 0, 0, 0, 0] (laws_eqEdit_con R6.1 R2.1 Y25.1 Y25.2 Y4.1 Y4.2 R29 H30) kc10 rfl rfl ⟨(Can.own 1 rfl), (Can.own 2 rfl), (Can.own 7 rfl), (Can.own 8 rfl), trivial⟩) rfl rfl rfl (fun _ => ?_)
              refine TO.y (Y.not rfl) rfl rfl rfl ?_
              refine TO.y (Y.move rfl) rfl rfl rfl ?_
              refine TO.ite (b := !R29) (fun H32 => ?_) (fun H32 => ?_)
              · refine TO.off (Gd.at 4 false 53 (!R29) rfl rfl rfl (beq_tf H32)) rfl rfl ?_
                refine TO.off (Gd.at 4 false 53 (!R29) rfl rfl rfl (beq_tf H32)) rfl rfl ?_
                refine TO.off (Gd.at 4 false 53 (!R29) rfl rfl rfl (beq_tf H32)) rfl rfl ?_
                refine TO.y (Y.pick_t H32 rfl rfl) rfl rfl rfl ?_
                refine TO.nil ?_
                exact TE.jb_go () [6, 3, 3] ⟨rfl, rfl, rfl, trivial⟩ rfl
              · refine TO.y (Y.move rfl) (Gd.at 4 false 53 (!R29) rfl rfl rfl (beq_ff H32)) rfl rfl ?_
                refine TO.y (Y.move rfl) (Gd.at 4 false 53 (!R29) rfl rfl rfl (beq_ff H32)) rfl rfl ?_
                refine TO.y (Y.neb kb4 rfl rfl) (Gd.at 4 false 53 (!R29) rfl rfl rfl (beq_ff H32)) rfl rfl ?_
                refine TO.y (Y.pick_f H32 rfl rfl) rfl rfl rfl ?_
                refine TO.nil ?_
                exact TE.jb_go () [6, 3, 3] ⟨rfl, rfl, rfl, trivial⟩ rfl
            · refine TE.next ?_
              refine TW.cond rfl (fun H33 => ?_) (fun H33 => ?_)
              · refine TW.seq ?_
                refine TW.region ?_
                refine TO.y (Y.assign rfl) rfl rfl rfl ?_
                refine TO.nil ?_
                refine TE.next ?_
                refine TW.ret ?_
                refine TE.then_ret ?_
                exact TE.leaf fun _ _ hf_ hs_ => ret_any (rs := [.tmp 2]) (vs := [.bool false]) (.inl rfl) rfl ⟨rfl, trivial⟩ hf_ hs_ ⟨(), rfl, hs_.pulls [] rfl⟩
              · refine TW.skip ?_
                refine TE.next ?_
                refine TW.seq ?_
                refine TW.region ?_
                refine TO.y (Y.assign rfl) rfl rfl rfl ?_
                refine TO.nil ?_
                refine TE.next ?_
                refine TW.seq ?_
                refine TW.region ?_
                refine TO.y (Y.load_box (v := .agg #[Y8.1, Y8.2]) 0 kk30 rfl rfl rfl) rfl rfl rfl ?_
                refine TO.y (Y.move rfl) rfl rfl rfl ?_
                refine TO.ef (Ef.call (rest := [.box B9 30 [Y8.1, Y8.2], .own Y8.1 (lc R17.2.1), .own Y8.2 (lc R17.2.2)]) [0, 0, 0] (laws_heldEdit_con ({ Add := R17.2.1, Drop := R17.2.2 : Edit }) (1 : Int) Y8.1 Y8.2 R20 H21) kc14 rfl rfl ⟨(Can.own 1 rfl), (Can.own 2 rfl), trivial⟩) rfl rfl rfl (fun _ => ?_)
                refine TO.y (Y.assign rfl) rfl rfl rfl ?_
                refine TO.nil ?_
                refine TE.next ?_
                refine TW.seq ?_
                refine TW.seq ?_
                refine TW.region ?_
                refine TO.y (Y.move rfl) rfl rfl rfl ?_
                refine TO.y (Y.lss rfl rfl) rfl rfl rfl ?_
                refine TO.nil ?_
                refine TE.next ?_
                refine TW.cond rfl (fun H35 => ?_) (fun H35 => ?_)
                · refine TW.seq ?_
                  refine TW.region ?_
                  refine TO.y (Y.assign rfl) rfl rfl rfl ?_
                  refine TO.nil ?_
                  refine TE.next ?_
                  refine TW.ret ?_
                  refine TE.then_ret ?_
                  exact TE.leaf fun _ _ hf_ hs_ => ret_any (rs := [.tmp 2]) (vs := [.bool false]) (.inl rfl) rfl ⟨rfl, trivial⟩ hf_ hs_ ⟨(), rfl, hs_.pulls [] rfl⟩
                · refine TW.skip ?_
                  refine TE.next ?_
                  refine TW.seq ?_
                  refine TW.seq ?_
                  refine TW.region ?_
                  refine TO.y (Y.move rfl) rfl rfl rfl ?_
                  refine TO.y (Y.move rfl) rfl rfl rfl ?_
                  refine TO.y (Y.neq rfl rfl) rfl rfl rfl ?_
                  refine TO.nil ?_
                  refine TE.next ?_
                  refine TW.cond rfl (fun H36 => ?_) (fun H36 => ?_)
                  · refine TW.seq ?_
                    refine TW.region ?_
                    refine TO.y (Y.assign rfl) rfl rfl rfl ?_
                    refine TO.nil ?_
                    refine TE.next ?_
                    refine TW.ret ?_
                    refine TE.then_ret ?_
                    exact TE.leaf fun _ _ hf_ hs_ => ret_any (rs := [.tmp 2]) (vs := [.bool false]) (.inl rfl) rfl ⟨rfl, trivial⟩ hf_ hs_ ⟨(), rfl, hs_.pulls [] rfl⟩
                  · refine TW.skip ?_
                    refine TE.next ?_
                    refine TW.seq ?_
                    refine TW.region ?_
                    refine TO.y (Y.assign rfl) rfl rfl rfl ?_
                    refine TO.nil ?_
                    refine TE.next ?_
                    refine TW.ret ?_
                    exact TE.leaf fun _ _ hf_ hs_ => ret_any (rs := [.tmp 2]) (vs := [.bool true]) (.inl rfl) rfl ⟨rfl, trivial⟩ hf_ hs_ ⟨(), rfl, hs_.pulls [] rfl⟩

end Go.Proofs.Ythlnhpkdccojcaa
