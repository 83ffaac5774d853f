/-
  The functions that a law reaches, each as a pure function, with the proof that the program computes it, and the step from a pure law to the given statement. Conditions: none.
-/
import Derived.Test.YtfanigbmjmiidaaP2
set_option linter.unusedVariables false
set_option maxRecDepth 100000
set_option maxHeartbeats 4000000
namespace Go.Proofs.Ytfanigbmjmiidaa
open Go Sl

/-- loop.example/g00950/impl.tablesOk -/
noncomputable def impl_tablesOk (e : Eng) : Option Bool :=
  (if (decide (((e.Tables.length : Nat) : Int) > (6 : Int))) = true then (some true)
  else ((impl_totalOf e.Tables).bind fun R5 =>
  if (decide (IntKind.i64.wrap (R5 + ((e.Mem.length : Nat) : Int)) > (400 : Int))) = true then (some true)
  else ((impl_MemOk e.Mem).bind fun R9 =>
  some (!R9)))).bind (fun (T2 : Bool) =>
  if T2 = true then (some false)
  else ((impl_seqRange e.Mem).bind fun R13 =>
  if (decide (R13.2 > e.Seq)) = true then (some false)
  else (bindC (loopO (fun (S17 : Int × Int) => if (decide (S17.2 < ((e.Tables.length : Nat) : Int))) = true then ((idx e.Tables S17.2).bind fun E22 =>
  (impl_seqRange E22).bind fun R25 =>
  (if (decide (((E22.length : Nat) : Int) = (0 : Int))) = true then (some true)
  else ((impl_inOrder E22).bind fun R31 =>
  if (!R31) = true then (some true)
  else (if (decide (R25.2 ≥ S17.1)) = true then (some true)
  else (some (decide (R25.2 > e.Seq)))))).bind (fun (T28 : Bool) =>
  if T28 = true then (some (.done (.done false)))
  else (some (.go (R25.1, IntKind.i64.wrap (S17.2 + (1 : Int)))))))
  else (some (.done (.go ()))))
  (R13.1, (0 : Int)))
  (fun (T19 : Unit) => some true))))

theorem impl_tablesOk_con (e : Eng) (V_e0 : Value) (V_e1 : Value) (V_e3 : Value) (r : Bool) (hm : impl_tablesOk e = some r) :
    Con Try.prog 73 [.agg #[V_e0, V_e1, .int .i64 e.Seq, V_e3]] [] [(V_e0, lc e.Mem), (V_e1, lc e.Tables), (V_e3, lc e.Snaps)] (fun _ : Unit => .bool r) (fun _ => []) := by
  refine Con.intro (args := [.agg #[V_e0, V_e1, .int .i64 e.Seq, V_e3]]) (n := 72) (val := fun r (_ : Unit) => .bool r) (post := fun _ _ => []) (m := impl_tablesOk e) Try.func73 rfl rfl rfl hm ?_
  intro w S hrd
  have HB_V_e0 := hrd _ (.head _)
  have HB_V_e1 := hrd _ (.tail _ (.head _))
  have HB_V_e3 := hrd _ (.tail _ (.tail _ (.head _)))
  clear hrd
  unfold impl_tablesOk
  refine TW.seq ?_
  refine TW.region ?_
  refine TO.ef (Ef.box rfl (Cel.agg ⟨(One.can (Base.can HB_V_e0)), (One.can (Base.can HB_V_e1)), (One.plain rfl), (One.can (Base.can HB_V_e3)), trivial⟩)) rfl rfl rfl (fun B1 => ?_)
  refine TO.y (Y.assign rfl) rfl rfl rfl ?_
  refine TO.nil ?_
  refine TE.next ?_
  refine TW.seq ?_
  refine TW.seq ?_
  refine TW.joinBX (τ := Bool) (X := Unit) (fun T _ => [(1, .pointer (some ⟨B1, 0, none⟩)), (28, .bool T)]) (fun _ _ => [.box B1 33 [V_e0, V_e1, .int .i64 e.Seq, V_e3]]) ?_ (fun T2 X3 => ?_)
  · refine TW.draw (isH := [.box B1 33 [V_e0, V_e1, .int .i64 e.Seq, V_e3]]) hMix ?_
    refine TA.y (listed' := #[true, false, false, false, false, false, false, false, false, false, false, false, false, false, false, false, false, false, false, false]) 0 [0] rfl (Y.field_box kf33_1 rfl rfl) rfl rfl rfl (by kernel_rfl) (by kernel_rfl) (by kernel_rfl) rfl rfl ?_
    refine TA.y (listed' := #[true, true, false, false, false, false, false, false, false, false, false, false, false, false, false, false, false, false, false, false]) 1 [0] rfl (Y.load_box (v := V_e1) 0 kk31 rfl rfl rfl) rfl rfl rfl (by kernel_rfl) (by kernel_rfl) (by kernel_rfl) rfl rfl ?_
    refine TA.y (listed' := #[true, true, true, false, false, false, false, false, false, false, false, false, false, false, false, false, false, false, false, false]) 2 [0] rfl (Y.len (l := e.Tables) ke31 (Base.can HB_V_e1) rfl) rfl rfl rfl (by kernel_rfl) (by kernel_rfl) (by kernel_rfl) rfl rfl ?_
    refine TA.y (listed' := #[true, true, true, true, false, false, false, false, false, false, false, false, false, false, false, false, false, false, false, false]) 3 [0] rfl (Y.gtr rfl rfl) rfl rfl rfl (by kernel_rfl) (by kernel_rfl) (by kernel_rfl) rfl rfl ?_
    refine TA.y (listed' := #[true, true, true, true, true, false, false, false, false, false, false, false, false, false, false, false, false, false, false, false]) 4 [0] rfl (Y.move rfl) rfl rfl rfl (by kernel_rfl) (by kernel_rfl) (by kernel_rfl) rfl rfl ?_
    refine TA.ite (b := decide (((e.Tables.length : Nat) : Int) > (6 : Int))) (fun H4 => ?_) (fun H4 => ?_)
    · refine TA.off (listed' := #[true, true, true, true, true, true, false, false, false, false, false, false, false, false, false, false, false, false, false, false]) 5 [0] rfl (Gd.at 4 false 13 (decide (((e.Tables.length : Nat) : Int) > (6 : Int))) rfl rfl rfl (beq_tf H4)) rfl rfl (by kernel_rfl) (by kernel_rfl) (by kernel_rfl) rfl rfl ?_
      refine TA.off (listed' := #[true, true, true, true, true, true, true, false, false, false, false, false, false, false, false, false, false, false, false, false]) 6 [0] rfl (Gd.at 4 false 13 (decide (((e.Tables.length : Nat) : Int) > (6 : Int))) rfl rfl rfl (beq_tf H4)) rfl rfl (by kernel_rfl) (by kernel_rfl) (by kernel_rfl) rfl rfl ?_
      refine TA.off (listed' := #[true, true, true, true, true, true, true, true, false, false, false, false, false, false, false, false, false, false, false, false]) 7 [0] rfl (Gd.at 4 false 13 (decide (((e.Tables.length : Nat) : Int) > (6 : Int))) rfl rfl rfl (beq_tf H4)) rfl rfl (by kernel_rfl) (by kernel_rfl) (by kernel_rfl) rfl rfl ?_
      refine TA.off (listed' := #[true, true, true, true, true, true, true, true, true, false, false, false, false, false, false, false, false, false, false, false]) 8 [0] rfl (Gd.at 4 false 13 (decide (((e.Tables.length : Nat) : Int) > (6 : Int))) rfl rfl rfl (beq_tf H4)) rfl rfl (by kernel_rfl) (by kernel_rfl) (by kernel_rfl) rfl rfl ?_
      refine TA.off (listed' := #[true, true, true, true, true, true, true, true, true, true, false, false, false, false, false, false, false, false, false, false]) 9 [0] rfl (Gd.at 4 false 13 (decide (((e.Tables.length : Nat) : Int) > (6 : Int))) rfl rfl rfl (beq_tf H4)) rfl rfl (by kernel_rfl) (by kernel_rfl) (by kernel_rfl) rfl rfl ?_
      refine TA.off (listed' := #[true, true, true, true, true, true, true, true, true, true, true, false, false, false, false, false, false, false, false, false]) 10 [0] rfl (Gd.at 4 false 13 (decide (((e.Tables.length : Nat) : Int) > (6 : Int))) rfl rfl rfl (beq_tf H4)) rfl rfl (by kernel_rfl) (by kernel_rfl) (by kernel_rfl) rfl rfl ?_
      refine TA.off (listed' := #[true, true, true, true, true, true, true, true, true, true, true, true, false, false, false, false, false, false, false, false]) 11 [0] rfl (Gd.at 4 false 13 (decide (((e.Tables.length : Nat) : Int) > (6 : Int))) rfl rfl rfl (beq_tf H4)) rfl rfl (by kernel_rfl) (by kernel_rfl) (by kernel_rfl) rfl rfl ?_
      refine TA.off (listed' := #[true, true, true, true, true, true, true, true, true, true, true, true, true, false, false, false, false, false, false, false]) 12 [0] rfl (Gd.at 4 false 13 (decide (((e.Tables.length : Nat) : Int) > (6 : Int))) rfl rfl rfl (beq_tf H4)) rfl rfl (by kernel_rfl) (by kernel_rfl) (by kernel_rfl) rfl rfl ?_
      refine TA.y (listed' := #[true, true, true, true, true, true, true, true, true, true, true, true, true, true, false, false, false, false, false, false]) 13 [0] rfl (Y.pick_t H4 rfl rfl) rfl rfl rfl (by kernel_rfl) (by kernel_rfl) (by kernel_rfl) rfl rfl ?_
      refine TA.y (listed' := #[true, true, true, true, true, true, true, true, true, true, true, true, true, true, true, false, false, false, false, false]) 14 [0] rfl (Y.move rfl) rfl rfl rfl (by kernel_rfl) (by kernel_rfl) (by kernel_rfl) rfl rfl ?_
      refine TA.off (listed' := #[true, true, true, true, true, true, true, true, true, true, true, true, true, true, true, true, false, false, false, false]) 15 [0] rfl (Gd.at 14 false 23 true rfl rfl rfl rfl) rfl rfl (by kernel_rfl) (by kernel_rfl) (by kernel_rfl) rfl rfl ?_
      refine TA.off (listed' := #[true, true, true, true, true, true, true, true, true, true, true, true, true, true, true, true, true, false, false, false]) 16 [0] rfl (Gd.at 14 false 23 true rfl rfl rfl rfl) rfl rfl (by kernel_rfl) (by kernel_rfl) (by kernel_rfl) rfl rfl ?_
      refine TA.off (listed' := #[true, true, true, true, true, true, true, true, true, true, true, true, true, true, true, true, true, true, false, false]) 17 [0] rfl (Gd.at 14 false 23 true rfl rfl rfl rfl) rfl rfl (by kernel_rfl) (by kernel_rfl) (by kernel_rfl) rfl rfl ?_
      refine TA.off (listed' := #[true, true, true, true, true, true, true, true, true, true, true, true, true, true, true, true, true, true, true, false]) 18 [0] rfl (Gd.at 14 false 23 true rfl rfl rfl rfl) rfl rfl (by kernel_rfl) (by kernel_rfl) (by kernel_rfl) rfl rfl ?_
      refine TA.y (listed' := #[true, true, true, true, true, true, true, true, true, true, true, true, true, true, true, true, true, true, true, true]) 19 [0] rfl (Y.pick_t rfl rfl rfl) rfl rfl rfl (by kernel_rfl) (by kernel_rfl) (by kernel_rfl) rfl rfl ?_
      refine TA.nil (by kernel_rfl) ?_
      exact TE.jb_go () [0] ⟨rfl, rfl, trivial⟩ rfl
    · refine TA.y (listed' := #[true, true, true, true, true, true, false, false, false, false, false, false, false, false, false, false, false, false, false, false]) 5 [0] rfl (Y.field_box kf33_1 rfl rfl) (Gd.at 4 false 13 (decide (((e.Tables.length : Nat) : Int) > (6 : Int))) rfl rfl rfl (beq_ff H4)) rfl rfl (by kernel_rfl) (by kernel_rfl) (by kernel_rfl) rfl rfl ?_
      refine TA.y (listed' := #[true, true, true, true, true, true, true, false, false, false, false, false, false, false, false, false, false, false, false, false]) 6 [0] rfl (Y.load_box (v := V_e1) 0 kk31 rfl rfl rfl) (Gd.at 4 false 13 (decide (((e.Tables.length : Nat) : Int) > (6 : Int))) rfl rfl rfl (beq_ff H4)) rfl rfl (by kernel_rfl) (by kernel_rfl) (by kernel_rfl) rfl rfl ?_
      refine TA.y (listed' := #[true, true, true, true, true, true, true, false, true, false, false, false, false, false, false, false, false, false, false, false]) 8 [0] rfl (Y.field_box kf33_0 rfl rfl) (Gd.at 4 false 13 (decide (((e.Tables.length : Nat) : Int) > (6 : Int))) rfl rfl rfl (beq_ff H4)) rfl rfl (by kernel_rfl) (by kernel_rfl) (by kernel_rfl) rfl rfl ?_
      refine TA.y (listed' := #[true, true, true, true, true, true, true, false, true, true, false, false, false, false, false, false, false, false, false, false]) 9 [0] rfl (Y.load_box (v := V_e0) 0 kk30 rfl rfl rfl) (Gd.at 4 false 13 (decide (((e.Tables.length : Nat) : Int) > (6 : Int))) rfl rfl rfl (beq_ff H4)) rfl rfl (by kernel_rfl) (by kernel_rfl) (by kernel_rfl) rfl rfl ?_
      refine TA.y (listed' := #[true, true, true, true, true, true, true, false, true, true, true, false, false, false, false, false, false, false, false, false]) 10 [0] rfl (Y.len (l := e.Mem) ke30 (Base.can HB_V_e0) rfl) (Gd.at 4 false 13 (decide (((e.Tables.length : Nat) : Int) > (6 : Int))) rfl rfl rfl (beq_ff H4)) rfl rfl (by kernel_rfl) (by kernel_rfl) (by kernel_rfl) rfl rfl ?_
      refine TA.bind fun R5 H6 => ?_
      refine TA.one 7 (by kernel_rfl) ?_
      refine TX.ef (listed' := #[true, true, true, true, true, true, true, true, true, true, true, false, false, false, false, false, false, false, false, false]) [0] rfl (Ef.call (rest := [.box B1 33 [V_e0, V_e1, .int .i64 e.Seq, V_e3]]) [0] (impl_totalOf_con e.Tables V_e1 R5 H6) kc82 rfl rfl ⟨(Base.can HB_V_e1), trivial⟩) (Gd.at 4 false 13 (decide (((e.Tables.length : Nat) : Int) > (6 : Int))) rfl rfl rfl (beq_ff H4)) rfl rfl rfl (fun _ => rfl) (fun _ => ?_)
      refine TA.y (listed' := #[true, true, true, true, true, true, true, true, true, true, true, true, false, false, false, false, false, false, false, false]) 11 [0] rfl (Y.add rfl rfl) (Gd.at 4 false 13 (decide (((e.Tables.length : Nat) : Int) > (6 : Int))) rfl rfl rfl (beq_ff H4)) rfl rfl (by kernel_rfl) (by kernel_rfl) (by kernel_rfl) rfl rfl ?_
      refine TA.y (listed' := #[true, true, true, true, true, true, true, true, true, true, true, true, true, false, false, false, false, false, false, false]) 12 [0] rfl (Y.gtr rfl rfl) (Gd.at 4 false 13 (decide (((e.Tables.length : Nat) : Int) > (6 : Int))) rfl rfl rfl (beq_ff H4)) rfl rfl (by kernel_rfl) (by kernel_rfl) (by kernel_rfl) rfl rfl ?_
      refine TA.y (listed' := #[true, true, true, true, true, true, true, true, true, true, true, true, true, true, false, false, false, false, false, false]) 13 [0] rfl (Y.pick_f H4 rfl rfl) rfl rfl rfl (by kernel_rfl) (by kernel_rfl) (by kernel_rfl) rfl rfl ?_
      refine TA.y (listed' := #[true, true, true, true, true, true, true, true, true, true, true, true, true, true, true, false, false, false, false, false]) 14 [0] rfl (Y.move rfl) rfl rfl rfl (by kernel_rfl) (by kernel_rfl) (by kernel_rfl) rfl rfl ?_
      refine TA.ite (b := decide (IntKind.i64.wrap (R5 + ((e.Mem.length : Nat) : Int)) > (400 : Int))) (fun H8 => ?_) (fun H8 => ?_)
      · refine TA.off (listed' := #[true, true, true, true, true, true, true, true, true, true, true, true, true, true, true, true, false, false, false, false]) 15 [0] rfl (Gd.at 14 false 23 (decide (IntKind.i64.wrap (R5 + ((e.Mem.length : Nat) : Int)) > (400 : Int))) rfl rfl rfl (beq_tf H8)) rfl rfl (by kernel_rfl) (by kernel_rfl) (by kernel_rfl) rfl rfl ?_
        refine TA.off (listed' := #[true, true, true, true, true, true, true, true, true, true, true, true, true, true, true, true, true, false, false, false]) 16 [0] rfl (Gd.at 14 false 23 (decide (IntKind.i64.wrap (R5 + ((e.Mem.length : Nat) : Int)) > (400 : Int))) rfl rfl rfl (beq_tf H8)) rfl rfl (by kernel_rfl) (by kernel_rfl) (by kernel_rfl) rfl rfl ?_
        refine TA.off (listed' := #[true, true, true, true, true, true, true, true, true, true, true, true, true, true, true, true, true, true, false, false]) 17 [0] rfl (Gd.at 14 false 23 (decide (IntKind.i64.wrap (R5 + ((e.Mem.length : Nat) : Int)) > (400 : Int))) rfl rfl rfl (beq_tf H8)) rfl rfl (by kernel_rfl) (by kernel_rfl) (by kernel_rfl) rfl rfl ?_
        refine TA.off (listed' := #[true, true, true, true, true, true, true, true, true, true, true, true, true, true, true, true, true, true, true, false]) 18 [0] rfl (Gd.at 14 false 23 (decide (IntKind.i64.wrap (R5 + ((e.Mem.length : Nat) : Int)) > (400 : Int))) rfl rfl rfl (beq_tf H8)) rfl rfl (by kernel_rfl) (by kernel_rfl) (by kernel_rfl) rfl rfl ?_
        refine TA.y (listed' := #[true, true, true, true, true, true, true, true, true, true, true, true, true, true, true, true, true, true, true, true]) 19 [0] rfl (Y.pick_t H8 rfl rfl) rfl rfl rfl (by kernel_rfl) (by kernel_rfl) (by kernel_rfl) rfl rfl ?_
        refine TA.nil (by kernel_rfl) ?_
        exact TE.jb_go () [0] ⟨rfl, rfl, trivial⟩ rfl
      · refine TA.y (listed' := #[true, true, true, true, true, true, true, true, true, true, true, true, true, true, true, true, false, false, false, false]) 15 [0] rfl (Y.field_box kf33_0 rfl rfl) (Gd.at 14 false 23 (decide (IntKind.i64.wrap (R5 + ((e.Mem.length : Nat) : Int)) > (400 : Int))) rfl rfl rfl (beq_ff H8)) rfl rfl (by kernel_rfl) (by kernel_rfl) (by kernel_rfl) rfl rfl ?_
        refine TA.y (listed' := #[true, true, true, true, true, true, true, true, true, true, true, true, true, true, true, true, true, false, false, false]) 16 [0] rfl (Y.load_box (v := V_e0) 0 kk30 rfl rfl rfl) (Gd.at 14 false 23 (decide (IntKind.i64.wrap (R5 + ((e.Mem.length : Nat) : Int)) > (400 : Int))) rfl rfl rfl (beq_ff H8)) rfl rfl (by kernel_rfl) (by kernel_rfl) (by kernel_rfl) rfl rfl ?_
        refine TA.bind fun R9 H10 => ?_
        refine TA.one 17 (by kernel_rfl) ?_
        refine TX.ef (listed' := #[true, true, true, true, true, true, true, true, true, true, true, true, true, true, true, true, true, true, false, false]) [0] rfl (Ef.call (rest := [.box B1 33 [V_e0, V_e1, .int .i64 e.Seq, V_e3]]) [0] (impl_MemOk_con e.Mem V_e0 R9 H10) kc92 rfl rfl ⟨(Base.can HB_V_e0), trivial⟩) (Gd.at 14 false 23 (decide (IntKind.i64.wrap (R5 + ((e.Mem.length : Nat) : Int)) > (400 : Int))) rfl rfl rfl (beq_ff H8)) rfl rfl rfl (fun _ => rfl) (fun _ => ?_)
        refine TA.y (listed' := #[true, true, true, true, true, true, true, true, true, true, true, true, true, true, true, true, true, true, true, false]) 18 [0] rfl (Y.not rfl) (Gd.at 14 false 23 (decide (IntKind.i64.wrap (R5 + ((e.Mem.length : Nat) : Int)) > (400 : Int))) rfl rfl rfl (beq_ff H8)) rfl rfl (by kernel_rfl) (by kernel_rfl) (by kernel_rfl) rfl rfl ?_
        refine TA.y (listed' := #[true, true, true, true, true, true, true, true, true, true, true, true, true, true, true, true, true, true, true, true]) 19 [0] rfl (Y.pick_f H8 rfl rfl) rfl rfl rfl (by kernel_rfl) (by kernel_rfl) (by kernel_rfl) rfl rfl ?_
        refine TA.nil (by kernel_rfl) ?_
        exact TE.jb_go () [0] ⟨rfl, rfl, trivial⟩ rfl
  · refine TE.next ?_
    refine TW.cond rfl (fun H12 => ?_) (fun H12 => ?_)
    · refine TW.seq ?_
      refine TW.region ?_
      refine TO.y (Y.assign rfl) rfl rfl rfl ?_
      refine TO.nil ?_
      refine TE.next ?_
      refine TW.ret ?_
      refine TE.then_ret ?_
      exact TE.leaf fun _ _ hf_ hs_ => ret_any (rs := [.tmp 2]) (vs := [.bool false]) (.inl rfl) rfl ⟨rfl, trivial⟩ hf_ hs_ ⟨(), rfl, hs_.pulls [] rfl⟩
    · refine TW.skip ?_
      refine TE.next ?_
      refine TW.seq ?_
      refine TW.region ?_
      refine TO.y (Y.field_box kf33_0 rfl rfl) rfl rfl rfl ?_
      refine TO.y (Y.load_box (v := V_e0) 0 kk30 rfl rfl rfl) rfl rfl rfl ?_
      refine TO.bind fun R13 H14 => ?_
      refine TO.ef (Ef.call (rest := [.box B1 33 [V_e0, V_e1, .int .i64 e.Seq, V_e3]]) [0] (impl_seqRange_con e.Mem V_e0 R13 H14) kc93 rfl rfl ⟨(Base.can HB_V_e0), trivial⟩) rfl rfl rfl (fun _ => ?_)
      refine TO.y (Y.move rfl) rfl rfl rfl ?_
      refine TO.y (Y.extract rfl rfl) rfl rfl rfl ?_
      refine TO.y (Y.extract rfl rfl) rfl rfl rfl ?_
      refine TO.y (Y.assign rfl) rfl rfl rfl ?_
      refine TO.y (Y.assign rfl) rfl rfl rfl ?_
      refine TO.nil ?_
      refine TE.next ?_
      refine TW.seq ?_
      refine TW.seq ?_
      refine TW.region ?_
      refine TO.y (Y.move rfl) rfl rfl rfl ?_
      refine TO.y (Y.field_box kf33_2 rfl rfl) rfl rfl rfl ?_
      refine TO.y (Y.load_box (v := .int .i64 e.Seq) 0 kk3 rfl rfl rfl) rfl rfl rfl ?_
      refine TO.y (Y.gtr rfl rfl) rfl rfl rfl ?_
      refine TO.nil ?_
      refine TE.next ?_
      refine TW.cond rfl (fun H16 => ?_) (fun H16 => ?_)
      · refine TW.seq ?_
        refine TW.region ?_
        refine TO.y (Y.assign rfl) rfl rfl rfl ?_
        refine TO.nil ?_
        refine TE.next ?_
        refine TW.ret ?_
        refine TE.then_ret ?_
        exact TE.leaf fun _ _ hf_ hs_ => ret_any (rs := [.tmp 2]) (vs := [.bool false]) (.inl rfl) rfl ⟨rfl, trivial⟩ hf_ hs_ ⟨(), rfl, hs_.pulls [] rfl⟩
      · refine TW.skip ?_
        refine TE.next ?_
        refine TW.seq ?_
        refine TW.seq ?_
        refine TW.region ?_
        refine TO.y (Y.field_box kf33_1 rfl rfl) rfl rfl rfl ?_
        refine TO.y (Y.load_box (v := V_e1) 0 kk31 rfl rfl rfl) rfl rfl rfl ?_
        refine TO.y (Y.len (l := e.Tables) ke31 (Base.can HB_V_e1) rfl) rfl rfl rfl ?_
        refine TO.y (Y.move rfl) rfl rfl rfl ?_
        refine TO.nil ?_
        refine TE.next ?_
        refine TW.joinX (τ := Unit) (X := Unit) (fun _ _ => []) (fun _ _ => []) ?_ (fun T19 X20 => ?_)
        · refine TW.block ?_
          refine TW.loopX (σ := Int × Int) (X := Unit) (fun T _ => [(1, .pointer (some ⟨B1, 0, none⟩)), (3, .int .i64 T.1), (40, V_e1), (41, .int .i64 ((e.Tables.length : Nat) : Int)), (42, .int .i64 T.2)]) (fun _ _ => [.box B1 33 [V_e0, V_e1, .int .i64 e.Seq, V_e3]]) () [0] ⟨rfl, rfl, rfl, rfl, rfl, trivial⟩ rfl (fun S17 X18 => ?_)
          refine TW.seq ?_
          refine TW.region ?_
          refine TO.y (Y.lss rfl rfl) rfl rfl rfl ?_
          refine TO.nil ?_
          refine TE.next ?_
          refine TW.seq ?_
          refine TW.cond rfl (fun H21 => ?_) (fun H21 => ?_)
          · refine TW.skip ?_
            refine TE.next ?_
            refine TW.seq ?_
            refine TW.block ?_
            refine TW.seq ?_
            refine TW.region ?_
            refine TO.bind fun E22 H23 => ?_
            refine TO.y (Y.index ke31 (Base.can HB_V_e1) H23 rfl rfl) rfl rfl rfl ?_
            have Q24 : Base w S (elv w V_e1 (S17.2.toNat * 1 + 0)) (lc E22) := Base.el HB_V_e1 (idx_get H23).2.2 rfl rfl
            refine TO.y (Y.load_base (α := List Ent) (u := (elv w V_e1 (S17.2.toNat * 1 + 0))) kk30 rfl HB_V_e1 (idx_get H23).2.2 rfl rfl rfl rfl rfl) rfl rfl rfl ?_
            refine TO.y (Y.assign rfl) rfl rfl rfl ?_
            refine TO.nil ?_
            refine TE.next ?_
            refine TW.seq ?_
            refine TW.region ?_
            refine TO.y (Y.move rfl) rfl rfl rfl ?_
            refine TO.bind fun R25 H26 => ?_
            refine TO.ef (Ef.call (rest := [.box B1 33 [V_e0, V_e1, .int .i64 e.Seq, V_e3]]) [0] (impl_seqRange_con E22 (elv w V_e1 (S17.2.toNat * 1 + 0)) R25 H26) kc93 rfl rfl ⟨(Base.can Q24), trivial⟩) rfl rfl rfl (fun _ => ?_)
            refine TO.y (Y.move rfl) rfl rfl rfl ?_
            refine TO.y (Y.extract rfl rfl) rfl rfl rfl ?_
            refine TO.y (Y.extract rfl rfl) rfl rfl rfl ?_
            refine TO.y (Y.assign rfl) rfl rfl rfl ?_
            refine TO.y (Y.assign rfl) rfl rfl rfl ?_
            refine TO.nil ?_
            refine TE.next ?_
            refine TW.seq ?_
            refine TW.seq ?_
            refine TW.joinBX (τ := Bool) (X := Unit) (fun T _ => [(1, .pointer (some ⟨B1, 0, none⟩)), (7, .int .i64 R25.1), (40, V_e1), (41, .int .i64 ((e.Tables.length : Nat) : Int)), (42, .int .i64 S17.2), (69, .bool T)]) (fun _ _ => [.box B1 33 [V_e0, V_e1, .int .i64 e.Seq, V_e3]]) ?_ (fun T28 X29 => ?_)
            · refine TW.region ?_
              refine TO.y (Y.move rfl) rfl rfl rfl ?_
              refine TO.y (Y.len (l := E22) ke30 (Base.can Q24) rfl) rfl rfl rfl ?_
              refine TO.y (Y.eql rfl rfl) rfl rfl rfl ?_
              refine TO.y (Y.move rfl) rfl rfl rfl ?_
              refine TO.ite (b := decide (((E22.length : Nat) : Int) = (0 : Int))) (fun H30 => ?_) (fun H30 => ?_)
              · refine TO.off (Gd.at 3 false 54 (decide (((E22.length : Nat) : Int) = (0 : Int))) rfl rfl rfl (beq_tf H30)) rfl rfl ?_
                refine TO.off (Gd.at 3 false 54 (decide (((E22.length : Nat) : Int) = (0 : Int))) rfl rfl rfl (beq_tf H30)) rfl rfl ?_
                refine TO.off (Gd.at 3 false 54 (decide (((E22.length : Nat) : Int) = (0 : Int))) rfl rfl rfl (beq_tf H30)) rfl rfl ?_
                refine TO.y (Y.pick_t H30 rfl rfl) rfl rfl rfl ?_
                refine TO.y (Y.move rfl) rfl rfl rfl ?_
                refine TO.off (Gd.at 8 false 59 true rfl rfl rfl rfl) rfl rfl ?_
                refine TO.off (Gd.at 8 false 59 true rfl rfl rfl rfl) rfl rfl ?_
                refine TO.off (Gd.at 8 false 59 true rfl rfl rfl rfl) rfl rfl ?_
                refine TO.y (Y.pick_t rfl rfl rfl) rfl rfl rfl ?_
                refine TO.y (Y.move rfl) rfl rfl rfl ?_
                refine TO.off (Gd.at 13 false 64 true rfl rfl rfl rfl) rfl rfl ?_
                refine TO.off (Gd.at 13 false 64 true rfl rfl rfl rfl) rfl rfl ?_
                refine TO.off (Gd.at 13 false 64 true rfl rfl rfl rfl) rfl rfl ?_
                refine TO.off (Gd.at 13 false 64 true rfl rfl rfl rfl) rfl rfl ?_
                refine TO.y (Y.pick_t rfl rfl rfl) rfl rfl rfl ?_
                refine TO.nil ?_
                exact TE.jb_go () [0] ⟨rfl, rfl, rfl, rfl, rfl, rfl, trivial⟩ rfl
              · refine TO.y (Y.move rfl) (Gd.at 3 false 54 (decide (((E22.length : Nat) : Int) = (0 : Int))) rfl rfl rfl (beq_ff H30)) rfl rfl ?_
                refine TO.bind fun R31 H32 => ?_
                refine TO.ef (Ef.call (rest := [.box B1 33 [V_e0, V_e1, .int .i64 e.Seq, V_e3]]) [0] (impl_inOrder_con E22 (elv w V_e1 (S17.2.toNat * 1 + 0)) R31 H32) kc94 rfl rfl ⟨(Base.can Q24), trivial⟩) (Gd.at 3 false 54 (decide (((E22.length : Nat) : Int) = (0 : Int))) rfl rfl rfl (beq_ff H30)) rfl rfl (fun _ => ?_)
                refine TO.y (Y.not rfl) (Gd.at 3 false 54 (decide (((E22.length : Nat) : Int) = (0 : Int))) rfl rfl rfl (beq_ff H30)) rfl rfl ?_
                refine TO.y (Y.pick_f H30 rfl rfl) rfl rfl rfl ?_
                refine TO.y (Y.move rfl) rfl rfl rfl ?_
                refine TO.ite (b := !R31) (fun H34 => ?_) (fun H34 => ?_)
                · refine TO.off (Gd.at 8 false 59 (!R31) rfl rfl rfl (beq_tf H34)) rfl rfl ?_
                  refine TO.off (Gd.at 8 false 59 (!R31) rfl rfl rfl (beq_tf H34)) rfl rfl ?_
                  refine TO.off (Gd.at 8 false 59 (!R31) rfl rfl rfl (beq_tf H34)) rfl rfl ?_
                  refine TO.y (Y.pick_t H34 rfl rfl) rfl rfl rfl ?_
                  refine TO.y (Y.move rfl) rfl rfl rfl ?_
                  refine TO.off (Gd.at 13 false 64 true rfl rfl rfl rfl) rfl rfl ?_
                  refine TO.off (Gd.at 13 false 64 true rfl rfl rfl rfl) rfl rfl ?_
                  refine TO.off (Gd.at 13 false 64 true rfl rfl rfl rfl) rfl rfl ?_
                  refine TO.off (Gd.at 13 false 64 true rfl rfl rfl rfl) rfl rfl ?_
                  refine TO.y (Y.pick_t rfl rfl rfl) rfl rfl rfl ?_
                  refine TO.nil ?_
                  exact TE.jb_go () [0] ⟨rfl, rfl, rfl, rfl, rfl, rfl, trivial⟩ rfl
                · refine TO.y (Y.move rfl) (Gd.at 8 false 59 (!R31) rfl rfl rfl (beq_ff H34)) rfl rfl ?_
                  refine TO.y (Y.move rfl) (Gd.at 8 false 59 (!R31) rfl rfl rfl (beq_ff H34)) rfl rfl ?_
                  refine TO.y (Y.geq rfl rfl) (Gd.at 8 false 59 (!R31) rfl rfl rfl (beq_ff H34)) rfl rfl ?_
                  refine TO.y (Y.pick_f H34 rfl rfl) rfl rfl rfl ?_
                  refine TO.y (Y.move rfl) rfl rfl rfl ?_
                  refine TO.ite (b := decide (R25.2 ≥ S17.1)) (fun H35 => ?_) (fun H35 => ?_)
                  · refine TO.off (Gd.at 13 false 64 (decide (R25.2 ≥ S17.1)) rfl rfl rfl (beq_tf H35)) rfl rfl ?_
                    refine TO.off (Gd.at 13 false 64 (decide (R25.2 ≥ S17.1)) rfl rfl rfl (beq_tf H35)) rfl rfl ?_
                    refine TO.off (Gd.at 13 false 64 (decide (R25.2 ≥ S17.1)) rfl rfl rfl (beq_tf H35)) rfl rfl ?_
                    refine TO.off (Gd.at 13 false 64 (decide (R25.2 ≥ S17.1)) rfl rfl rfl (beq_tf H35)) rfl rfl ?_
                    refine TO.y (Y.pick_t H35 rfl rfl) rfl rfl rfl ?_
                    refine TO.nil ?_
                    exact TE.jb_go () [0] ⟨rfl, rfl, rfl, rfl, rfl, rfl, trivial⟩ rfl
                  · refine TO.y (Y.move rfl) (Gd.at 13 false 64 (decide (R25.2 ≥ S17.1)) rfl rfl rfl (beq_ff H35)) rfl rfl ?_
                    refine TO.y (Y.field_box kf33_2 rfl rfl) (Gd.at 13 false 64 (decide (R25.2 ≥ S17.1)) rfl rfl rfl (beq_ff H35)) rfl rfl ?_
                    refine TO.y (Y.load_box (v := .int .i64 e.Seq) 0 kk3 rfl rfl rfl) (Gd.at 13 false 64 (decide (R25.2 ≥ S17.1)) rfl rfl rfl (beq_ff H35)) rfl rfl ?_
                    refine TO.y (Y.gtr rfl rfl) (Gd.at 13 false 64 (decide (R25.2 ≥ S17.1)) rfl rfl rfl (beq_ff H35)) rfl rfl ?_
                    refine TO.y (Y.pick_f H35 rfl rfl) rfl rfl rfl ?_
                    refine TO.nil ?_
                    exact TE.jb_go () [0] ⟨rfl, rfl, rfl, rfl, rfl, rfl, trivial⟩ rfl
            · refine TE.next ?_
              refine TW.cond rfl (fun H36 => ?_) (fun H36 => ?_)
              · refine TW.seq ?_
                refine TW.region ?_
                refine TO.y (Y.assign rfl) rfl rfl rfl ?_
                refine TO.nil ?_
                refine TE.next ?_
                refine TW.ret ?_
                refine TE.then_ret ?_
                refine TE.block_ret ?_
                refine TE.then_ret ?_
                refine TE.lp_ret ?_
                refine TE.block_ret ?_
                refine TE.jn_done ?_
                refine TE.then_ret ?_
                exact TE.leaf fun _ _ hf_ hs_ => ret_any (rs := [.tmp 2]) (vs := [.bool false]) (.inl rfl) rfl ⟨rfl, trivial⟩ hf_ hs_ ⟨(), rfl, hs_.pulls [] rfl⟩
              · refine TW.skip ?_
                refine TE.next ?_
                refine TW.region ?_
                refine TO.y (Y.move rfl) rfl rfl rfl ?_
                refine TO.y (Y.assign rfl) rfl rfl rfl ?_
                refine TO.nil ?_
                refine TE.block_normal ?_
                refine TE.next ?_
                refine TW.region ?_
                refine TO.y (Y.add rfl rfl) rfl rfl rfl ?_
                refine TO.y (Y.move rfl) rfl rfl rfl ?_
                refine TO.nil ?_
                exact TE.lp_go () [0] ⟨rfl, rfl, rfl, rfl, rfl, trivial⟩ rfl
          · refine TW.exit ?_
            refine TE.then_exit ?_
            refine TE.lp_exit ?_
            refine TE.block_exit ?_
            exact TE.jn_go () [] trivial rfl
        · refine TE.next ?_
          refine TW.seq ?_
          refine TW.region ?_
          refine TO.y (Y.assign rfl) rfl rfl rfl ?_
          refine TO.nil ?_
          refine TE.next ?_
          refine TW.ret ?_
          exact TE.leaf fun _ _ hf_ hs_ => ret_any (rs := [.tmp 2]) (vs := [.bool true]) (.inl rfl) rfl ⟨rfl, trivial⟩ hf_ hs_ ⟨(), rfl, hs_.pulls [] rfl⟩

/-- loop.example/g00950/impl.EngOk -/
noncomputable def impl_EngOk (e : Eng) : Option Bool :=
  ((impl_isNumber e.Seq).bind fun R4 =>
  if (!R4) = true then (some true)
  else (if (decide (((e.Snaps.length : Nat) : Int) > (4 : Int))) = true then (some true)
  else ((impl_tablesOk e).bind fun R9 =>
  some (!R9)))).bind (fun (T2 : Bool) =>
  if T2 = true then (some false)
  else (bindC (loopO (fun (S13 : Int) => if (decide (S13 < ((e.Snaps.length : Nat) : Int))) = true then ((idx e.Snaps S13).bind fun E18 =>
  ((impl_inRange E18 (0 : Int) e.Seq).bind fun R22 =>
  if (!R22) = true then (some true)
  else (if (decide (S13 > (0 : Int))) = true then ((idx e.Snaps (IntKind.i64.wrap (S13 - (1 : Int)))).bind fun E27 =>
  some (decide (E18 ≤ E27)))
  else (some false))).bind (fun (T20 : Bool) =>
  if T20 = true then (some (.done (.done false)))
  else (some (.go (IntKind.i64.wrap (S13 + (1 : Int)))))))
  else (some (.done (.go ()))))
  (0 : Int))
  (fun (T15 : Unit) => some true)))

theorem impl_EngOk_con (e : Eng) (V_e0 : Value) (V_e1 : Value) (V_e3 : Value) (r : Bool) (hm : impl_EngOk e = some r) :
    Con Try.prog 39 [.agg #[V_e0, V_e1, .int .i64 e.Seq, V_e3]] [] [(V_e0, lc e.Mem), (V_e1, lc e.Tables), (V_e3, lc e.Snaps)] (fun _ : Unit => .bool r) (fun _ => []) := by
  refine Con.intro (args := [.agg #[V_e0, V_e1, .int .i64 e.Seq, V_e3]]) (n := 48) (val := fun r (_ : Unit) => .bool r) (post := fun _ _ => []) (m := impl_EngOk e) Try.func39 rfl rfl rfl hm ?_
  intro w S hrd
  have HB_V_e0 := hrd _ (.head _)
  have HB_V_e1 := hrd _ (.tail _ (.head _))
  have HB_V_e3 := hrd _ (.tail _ (.tail _ (.head _)))
  clear hrd
  unfold impl_EngOk
  refine TW.seq ?_
  refine TW.region ?_
  refine TO.ef (Ef.box rfl (Cel.agg ⟨(One.can (Base.can HB_V_e0)), (One.can (Base.can HB_V_e1)), (One.plain rfl), (One.can (Base.can HB_V_e3)), trivial⟩)) rfl rfl rfl (fun B1 => ?_)
  refine TO.y (Y.assign rfl) rfl rfl rfl ?_
  refine TO.nil ?_
  refine TE.next ?_
  refine TW.seq ?_
  refine TW.seq ?_
  refine TW.joinBX (τ := Bool) (X := Unit) (fun T _ => [(1, .pointer (some ⟨B1, 0, none⟩)), (19, .bool T)]) (fun _ _ => [.box B1 33 [V_e0, V_e1, .int .i64 e.Seq, V_e3]]) ?_ (fun T2 X3 => ?_)
  · refine TW.region ?_
    refine TO.y (Y.field_box kf33_2 rfl rfl) rfl rfl rfl ?_
    refine TO.y (Y.load_box (v := .int .i64 e.Seq) 0 kk3 rfl rfl rfl) rfl rfl rfl ?_
    refine TO.bind fun R4 H5 => ?_
    refine TO.ef (Ef.call (rest := [.box B1 33 [V_e0, V_e1, .int .i64 e.Seq, V_e3]]) [0] (impl_isNumber_con e.Seq  R4 H5) kc72 rfl rfl trivial) rfl rfl rfl (fun _ => ?_)
    refine TO.y (Y.not rfl) rfl rfl rfl ?_
    refine TO.y (Y.move rfl) rfl rfl rfl ?_
    refine TO.ite (b := !R4) (fun H7 => ?_) (fun H7 => ?_)
    · refine TO.off (Gd.at 4 false 9 (!R4) rfl rfl rfl (beq_tf H7)) rfl rfl ?_
      refine TO.off (Gd.at 4 false 9 (!R4) rfl rfl rfl (beq_tf H7)) rfl rfl ?_
      refine TO.off (Gd.at 4 false 9 (!R4) rfl rfl rfl (beq_tf H7)) rfl rfl ?_
      refine TO.off (Gd.at 4 false 9 (!R4) rfl rfl rfl (beq_tf H7)) rfl rfl ?_
      refine TO.y (Y.pick_t H7 rfl rfl) rfl rfl rfl ?_
      refine TO.y (Y.move rfl) rfl rfl rfl ?_
      refine TO.off (Gd.at 10 false 15 true rfl rfl rfl rfl) rfl rfl ?_
      refine TO.off (Gd.at 10 false 15 true rfl rfl rfl rfl) rfl rfl ?_
      refine TO.off (Gd.at 10 false 15 true rfl rfl rfl rfl) rfl rfl ?_
      refine TO.y (Y.pick_t rfl rfl rfl) rfl rfl rfl ?_
      refine TO.nil ?_
      exact TE.jb_go () [0] ⟨rfl, rfl, trivial⟩ rfl
    · refine TO.y (Y.field_box kf33_3 rfl rfl) (Gd.at 4 false 9 (!R4) rfl rfl rfl (beq_ff H7)) rfl rfl ?_
      refine TO.y (Y.load_box (v := V_e3) 0 kk24 rfl rfl rfl) (Gd.at 4 false 9 (!R4) rfl rfl rfl (beq_ff H7)) rfl rfl ?_
      refine TO.y (Y.len (l := e.Snaps) ke24 (Base.can HB_V_e3) rfl) (Gd.at 4 false 9 (!R4) rfl rfl rfl (beq_ff H7)) rfl rfl ?_
      refine TO.y (Y.gtr rfl rfl) (Gd.at 4 false 9 (!R4) rfl rfl rfl (beq_ff H7)) rfl rfl ?_
      refine TO.y (Y.pick_f H7 rfl rfl) rfl rfl rfl ?_
      refine TO.y (Y.move rfl) rfl rfl rfl ?_
      refine TO.ite (b := decide (((e.Snaps.length : Nat) : Int) > (4 : Int))) (fun H8 => ?_) (fun H8 => ?_)
      · refine TO.off (Gd.at 10 false 15 (decide (((e.Snaps.length : Nat) : Int) > (4 : Int))) rfl rfl rfl (beq_tf H8)) rfl rfl ?_
        refine TO.off (Gd.at 10 false 15 (decide (((e.Snaps.length : Nat) : Int) > (4 : Int))) rfl rfl rfl (beq_tf H8)) rfl rfl ?_
        refine TO.off (Gd.at 10 false 15 (decide (((e.Snaps.length : Nat) : Int) > (4 : Int))) rfl rfl rfl (beq_tf H8)) rfl rfl ?_
        refine TO.y (Y.pick_t H8 rfl rfl) rfl rfl rfl ?_
        refine TO.nil ?_
        exact TE.jb_go () [0] ⟨rfl, rfl, trivial⟩ rfl
      · refine TO.y (Y.load_box (v := .agg #[V_e0, V_e1, .int .i64 e.Seq, V_e3]) 0 kk33 rfl rfl rfl) (Gd.at 10 false 15 (decide (((e.Snaps.length : Nat) : Int) > (4 : Int))) rfl rfl rfl (beq_ff H8)) rfl rfl ?_
        refine TO.bind fun R9 H10 => ?_
        refine TO.ef (Ef.call (rest := [.box B1 33 [V_e0, V_e1, .int .i64 e.Seq, V_e3]]) [0] (impl_tablesOk_con e V_e0 V_e1 V_e3 R9 H10) kc73 rfl rfl ⟨(Base.can HB_V_e0), (Base.can HB_V_e1), (Base.can HB_V_e3), trivial⟩) (Gd.at 10 false 15 (decide (((e.Snaps.length : Nat) : Int) > (4 : Int))) rfl rfl rfl (beq_ff H8)) rfl rfl (fun _ => ?_)
        refine TO.y (Y.not rfl) (Gd.at 10 false 15 (decide (((e.Snaps.length : Nat) : Int) > (4 : Int))) rfl rfl rfl (beq_ff H8)) rfl rfl ?_
        refine TO.y (Y.pick_f H8 rfl rfl) rfl rfl rfl ?_
        refine TO.nil ?_
        exact TE.jb_go () [0] ⟨rfl, rfl, trivial⟩ rfl
  · refine TE.next ?_
    refine TW.cond rfl (fun H12 => ?_) (fun H12 => ?_)
    · refine TW.seq ?_
      refine TW.region ?_
      refine TO.y (Y.assign rfl) rfl rfl rfl ?_
      refine TO.nil ?_
      refine TE.next ?_
      refine TW.ret ?_
      refine TE.then_ret ?_
      exact TE.leaf fun _ _ hf_ hs_ => ret_any (rs := [.tmp 2]) (vs := [.bool false]) (.inl rfl) rfl ⟨rfl, trivial⟩ hf_ hs_ ⟨(), rfl, hs_.pulls [] rfl⟩
    · refine TW.skip ?_
      refine TE.next ?_
      refine TW.seq ?_
      refine TW.seq ?_
      refine TW.region ?_
      refine TO.y (Y.field_box kf33_3 rfl rfl) rfl rfl rfl ?_
      refine TO.y (Y.load_box (v := V_e3) 0 kk24 rfl rfl rfl) rfl rfl rfl ?_
      refine TO.y (Y.len (l := e.Snaps) ke24 (Base.can HB_V_e3) rfl) rfl rfl rfl ?_
      refine TO.y (Y.move rfl) rfl rfl rfl ?_
      refine TO.nil ?_
      refine TE.next ?_
      refine TW.joinX (τ := Unit) (X := Unit) (fun _ _ => []) (fun _ _ => []) ?_ (fun T15 X16 => ?_)
      · refine TW.block ?_
        refine TW.loopX (σ := Int) (X := Unit) (fun T _ => [(1, .pointer (some ⟨B1, 0, none⟩)), (21, V_e3), (22, .int .i64 ((e.Snaps.length : Nat) : Int)), (23, .int .i64 T)]) (fun _ _ => [.box B1 33 [V_e0, V_e1, .int .i64 e.Seq, V_e3]]) () [0] ⟨rfl, rfl, rfl, rfl, trivial⟩ rfl (fun S13 X14 => ?_)
        refine TW.seq ?_
        refine TW.region ?_
        refine TO.y (Y.lss rfl rfl) rfl rfl rfl ?_
        refine TO.nil ?_
        refine TE.next ?_
        refine TW.seq ?_
        refine TW.cond rfl (fun H17 => ?_) (fun H17 => ?_)
        · refine TW.skip ?_
          refine TE.next ?_
          refine TW.seq ?_
          refine TW.block ?_
          refine TW.seq ?_
          refine TW.region ?_
          refine TO.y (Y.move rfl) rfl rfl rfl ?_
          refine TO.bind fun E18 H19 => ?_
          refine TO.y (Y.index ke24 (Base.can HB_V_e3) H19 rfl rfl) rfl rfl rfl ?_
          refine TO.y (Y.load_el (us := [.int .i64 E18]) (u := .int .i64 E18) kk3 rfl (Base.can HB_V_e3) (idx_get H19).2.2 rfl rfl rfl rfl rfl) rfl rfl rfl ?_
          refine TO.y (Y.assign rfl) rfl rfl rfl ?_
          refine TO.y (Y.assign rfl) rfl rfl rfl ?_
          refine TO.nil ?_
          refine TE.next ?_
          refine TW.seq ?_
          refine TW.joinBX (τ := Bool) (X := Unit) (fun T _ => [(1, .pointer (some ⟨B1, 0, none⟩)), (21, V_e3), (22, .int .i64 ((e.Snaps.length : Nat) : Int)), (23, .int .i64 S13), (46, .bool T)]) (fun _ _ => [.box B1 33 [V_e0, V_e1, .int .i64 e.Seq, V_e3]]) ?_ (fun T20 X21 => ?_)
          · refine TW.region ?_
            refine TO.y (Y.move rfl) rfl rfl rfl ?_
            refine TO.y (Y.field_box kf33_2 rfl rfl) rfl rfl rfl ?_
            refine TO.y (Y.load_box (v := .int .i64 e.Seq) 0 kk3 rfl rfl rfl) rfl rfl rfl ?_
            refine TO.bind fun R22 H23 => ?_
            refine TO.ef (Ef.call (rest := [.box B1 33 [V_e0, V_e1, .int .i64 e.Seq, V_e3]]) [0] (impl_inRange_con E18 (0 : Int) e.Seq  R22 H23) kc74 rfl rfl trivial) rfl rfl rfl (fun _ => ?_)
            refine TO.y (Y.not rfl) rfl rfl rfl ?_
            refine TO.y (Y.move rfl) rfl rfl rfl ?_
            refine TO.ite (b := !R22) (fun H25 => ?_) (fun H25 => ?_)
            · refine TO.off (Gd.at 5 false 33 (!R22) rfl rfl rfl (beq_tf H25)) rfl rfl ?_
              refine TO.off (Gd.at 5 false 33 (!R22) rfl rfl rfl (beq_tf H25)) rfl rfl ?_
              refine TO.off (Gd.at 5 false 33 (!R22) rfl rfl rfl (beq_tf H25)) rfl rfl ?_
              refine TO.off (Gd.un 8 true 36 rfl rfl rfl) rfl rfl ?_
              refine TO.off (Gd.un 8 true 36 rfl rfl rfl) rfl rfl ?_
              refine TO.off (Gd.un 8 true 36 rfl rfl rfl) rfl rfl ?_
              refine TO.off (Gd.un 8 true 36 rfl rfl rfl) rfl rfl ?_
              refine TO.off (Gd.un 8 true 36 rfl rfl rfl) rfl rfl ?_
              refine TO.off (Gd.un 8 true 36 rfl rfl rfl) rfl rfl ?_
              refine TO.off (Gd.un 8 true 36 rfl rfl rfl) rfl rfl ?_
              refine TO.off (Gd.un 8 true 36 rfl rfl rfl) rfl rfl ?_
              refine TO.off (Gd.at 5 false 33 (!R22) rfl rfl rfl (beq_tf H25)) rfl rfl ?_
              refine TO.y (Y.pick_t H25 rfl rfl) rfl rfl rfl ?_
              refine TO.nil ?_
              exact TE.jb_go () [0] ⟨rfl, rfl, rfl, rfl, rfl, trivial⟩ rfl
            · refine TO.y (Y.move rfl) (Gd.at 5 false 33 (!R22) rfl rfl rfl (beq_ff H25)) rfl rfl ?_
              refine TO.y (Y.gtr rfl rfl) (Gd.at 5 false 33 (!R22) rfl rfl rfl (beq_ff H25)) rfl rfl ?_
              refine TO.y (Y.move rfl) (Gd.at 5 false 33 (!R22) rfl rfl rfl (beq_ff H25)) rfl rfl ?_
              refine TO.ite (b := decide (S13 > (0 : Int))) (fun H26 => ?_) (fun H26 => ?_)
              · refine TO.y (Y.move rfl) (Gd.at 8 true 36 (decide (S13 > (0 : Int))) rfl rfl rfl (beq_tt H26)) rfl rfl ?_
                refine TO.y (Y.field_box kf33_3 rfl rfl) (Gd.at 8 true 36 (decide (S13 > (0 : Int))) rfl rfl rfl (beq_tt H26)) rfl rfl ?_
                refine TO.y (Y.load_box (v := V_e3) 0 kk24 rfl rfl rfl) (Gd.at 8 true 36 (decide (S13 > (0 : Int))) rfl rfl rfl (beq_tt H26)) rfl rfl ?_
                refine TO.y (Y.move rfl) (Gd.at 8 true 36 (decide (S13 > (0 : Int))) rfl rfl rfl (beq_tt H26)) rfl rfl ?_
                refine TO.y (Y.sub rfl rfl) (Gd.at 8 true 36 (decide (S13 > (0 : Int))) rfl rfl rfl (beq_tt H26)) rfl rfl ?_
                refine TO.bind fun E27 H28 => ?_
                refine TO.y (Y.index ke24 (Base.can HB_V_e3) H28 rfl rfl) (Gd.at 8 true 36 (decide (S13 > (0 : Int))) rfl rfl rfl (beq_tt H26)) rfl rfl ?_
                refine TO.y (Y.load_el (us := [.int .i64 E27]) (u := .int .i64 E27) kk3 rfl (Base.can HB_V_e3) (idx_get H28).2.2 rfl rfl rfl rfl rfl) (Gd.at 8 true 36 (decide (S13 > (0 : Int))) rfl rfl rfl (beq_tt H26)) rfl rfl ?_
                refine TO.y (Y.leq rfl rfl) (Gd.at 8 true 36 (decide (S13 > (0 : Int))) rfl rfl rfl (beq_tt H26)) rfl rfl ?_
                refine TO.y (Y.pick_t H26 rfl rfl) (Gd.at 5 false 33 (!R22) rfl rfl rfl (beq_ff H25)) rfl rfl ?_
                refine TO.y (Y.pick_f H25 rfl rfl) rfl rfl rfl ?_
                refine TO.nil ?_
                exact TE.jb_go () [0] ⟨rfl, rfl, rfl, rfl, rfl, trivial⟩ rfl
              · refine TO.off (Gd.at 8 true 36 (decide (S13 > (0 : Int))) rfl rfl rfl (beq_ft H26)) rfl rfl ?_
                refine TO.off (Gd.at 8 true 36 (decide (S13 > (0 : Int))) rfl rfl rfl (beq_ft H26)) rfl rfl ?_
                refine TO.off (Gd.at 8 true 36 (decide (S13 > (0 : Int))) rfl rfl rfl (beq_ft H26)) rfl rfl ?_
                refine TO.off (Gd.at 8 true 36 (decide (S13 > (0 : Int))) rfl rfl rfl (beq_ft H26)) rfl rfl ?_
                refine TO.off (Gd.at 8 true 36 (decide (S13 > (0 : Int))) rfl rfl rfl (beq_ft H26)) rfl rfl ?_
                refine TO.off (Gd.at 8 true 36 (decide (S13 > (0 : Int))) rfl rfl rfl (beq_ft H26)) rfl rfl ?_
                refine TO.off (Gd.at 8 true 36 (decide (S13 > (0 : Int))) rfl rfl rfl (beq_ft H26)) rfl rfl ?_
                refine TO.off (Gd.at 8 true 36 (decide (S13 > (0 : Int))) rfl rfl rfl (beq_ft H26)) rfl rfl ?_
                refine TO.y (Y.pick_f H26 rfl rfl) (Gd.at 5 false 33 (!R22) rfl rfl rfl (beq_ff H25)) rfl rfl ?_
                refine TO.y (Y.pick_f H25 rfl rfl) rfl rfl rfl ?_
                refine TO.nil ?_
                exact TE.jb_go () [0] ⟨rfl, rfl, rfl, rfl, rfl, trivial⟩ rfl
          · refine TE.next ?_
            refine TW.cond rfl (fun H29 => ?_) (fun H29 => ?_)
            · refine TW.seq ?_
              refine TW.region ?_
              refine TO.y (Y.assign rfl) rfl rfl rfl ?_
              refine TO.nil ?_
              refine TE.next ?_
              refine TW.ret ?_
              refine TE.block_ret ?_
              refine TE.then_ret ?_
              refine TE.lp_ret ?_
              refine TE.block_ret ?_
              refine TE.jn_done ?_
              refine TE.then_ret ?_
              exact TE.leaf fun _ _ hf_ hs_ => ret_any (rs := [.tmp 2]) (vs := [.bool false]) (.inl rfl) rfl ⟨rfl, trivial⟩ hf_ hs_ ⟨(), rfl, hs_.pulls [] rfl⟩
            · refine TW.skip ?_
              refine TE.block_normal ?_
              refine TE.next ?_
              refine TW.region ?_
              refine TO.y (Y.add rfl rfl) rfl rfl rfl ?_
              refine TO.y (Y.move rfl) rfl rfl rfl ?_
              refine TO.nil ?_
              exact TE.lp_go () [0] ⟨rfl, rfl, rfl, rfl, trivial⟩ rfl
        · refine TW.exit ?_
          refine TE.then_exit ?_
          refine TE.lp_exit ?_
          refine TE.block_exit ?_
          exact TE.jn_go () [] trivial rfl
      · refine TE.next ?_
        refine TW.seq ?_
        refine TW.region ?_
        refine TO.y (Y.assign rfl) rfl rfl rfl ?_
        refine TO.nil ?_
        refine TE.next ?_
        refine TW.ret ?_
        exact TE.leaf fun _ _ hf_ hs_ => ret_any (rs := [.tmp 2]) (vs := [.bool true]) (.inl rfl) rfl ⟨rfl, trivial⟩ hf_ hs_ ⟨(), rfl, hs_.pulls [] rfl⟩

/-- slices.Clone[[]loop.example/g00950/impl.Ent,loop.example/g00950/impl.Ent] -/
noncomputable def slices_Clone_94167 (s : List Ent) : Option (List Ent) :=
  (app 48 ([] : List Ent) s).bind fun E4 =>
  some E4

theorem slices_Clone_94167_con (s : List Ent) (V_s0 : Value) (r : List Ent) (hm : slices_Clone_94167 s = some r) :
    Con Try.prog 75 [V_s0] [] [(V_s0, lc s)] (fun X : Value => X) (fun X => [.own X (lc r)]) := by
  refine Con.intro (args := [V_s0]) (n := 8) (val := fun _ (X : Value) => X) (post := fun r X => [.own X (lc r)]) (m := slices_Clone_94167 s) Try.func75 rfl rfl rfl hm ?_
  intro w S hrd
  have HB_V_s0 := hrd _ (.head _)
  clear hrd
  unfold slices_Clone_94167
  refine TW.seq ?_
  refine TW.region ?_
  refine TO.y (Y.assign rfl) rfl rfl rfl ?_
  refine TO.nil ?_
  refine TE.next ?_
  refine TW.seq ?_
  refine TW.seq ?_
  refine TW.region ?_
  refine TO.y (Y.move rfl) rfl rfl rfl ?_
  refine TO.y (Y.nileq ke30 (Base.can HB_V_s0) rfl rfl) rfl rfl rfl ?_
  refine TO.nil ?_
  refine TE.next ?_
  refine TW.cond_nil (Base.can HB_V_s0) rfl (fun hnil_ => ?_) ?_
  · subst hnil_
    show TW _ _ _ (some ([])) _ _ _ _ _
    refine TW.seq ?_
    refine TW.region ?_
    refine TO.y (Y.assign rfl) rfl rfl rfl ?_
    refine TO.nil ?_
    refine TE.next ?_
    refine TW.ret ?_
    refine TE.then_ret ?_
    exact TE.leaf fun _ _ hf_ hs_ => ret_any (rs := [.tmp 2]) (vs := [.slice none 0 0]) (.inl rfl) rfl ⟨rfl, trivial⟩ hf_ hs_ ⟨(.slice none 0 0), rfl, (hs_.nilItem 4).pulls [0] rfl⟩
  · refine TW.skip ?_
    refine TE.next ?_
    refine TW.seq ?_
    refine TW.region ?_
    refine TO.ef (Ef.buildSlice (α := Ent) (Vs := []) ([] : List Ent) ke30 kz73 rfl rfl rfl rfl rfl) rfl rfl rfl (fun B2 => ?_)
    refine TO.y (Y.move rfl) rfl rfl rfl ?_
    refine TO.bind fun E4 H5 => ?_
    refine TO.ef (Ef.append (α := Ent) (is' := []) [0] H5 ke30 kz73 rfl rfl rfl rfl rfl (Base.can HB_V_s0)) rfl rfl rfl (fun V3 => ?_)
    refine TO.y (Y.assign rfl) rfl rfl rfl ?_
    refine TO.nil ?_
    refine TE.next ?_
    refine TW.ret ?_
    exact TE.leaf fun _ _ hf_ hs_ => ret_any (rs := [.tmp 2]) (vs := [V3]) (.inl rfl) rfl ⟨rfl, trivial⟩ hf_ hs_ ⟨V3, rfl, hs_.pulls [0] rfl⟩

/-- slices.Clone[[]int,int] -/
noncomputable def slices_Clone_88240 (s : List Int) : Option (List Int) :=
  (app 8 ([] : List Int) s).bind fun E4 =>
  some E4

theorem slices_Clone_88240_con (s : List Int) (V_s0 : Value) (r : List Int) (hm : slices_Clone_88240 s = some r) :
    Con Try.prog 76 [V_s0] [] [(V_s0, lc s)] (fun X : Value => X) (fun X => [.own X (lc r)]) := by
  refine Con.intro (args := [V_s0]) (n := 8) (val := fun _ (X : Value) => X) (post := fun r X => [.own X (lc r)]) (m := slices_Clone_88240 s) Try.func76 rfl rfl rfl hm ?_
  intro w S hrd
  have HB_V_s0 := hrd _ (.head _)
  clear hrd
  unfold slices_Clone_88240
  refine TW.seq ?_
  refine TW.region ?_
  refine TO.y (Y.assign rfl) rfl rfl rfl ?_
  refine TO.nil ?_
  refine TE.next ?_
  refine TW.seq ?_
  refine TW.seq ?_
  refine TW.region ?_
  refine TO.y (Y.move rfl) rfl rfl rfl ?_
  refine TO.y (Y.nileq ke24 (Base.can HB_V_s0) rfl rfl) rfl rfl rfl ?_
  refine TO.nil ?_
  refine TE.next ?_
  refine TW.cond_nil (Base.can HB_V_s0) rfl (fun hnil_ => ?_) ?_
  · subst hnil_
    show TW _ _ _ (some ([])) _ _ _ _ _
    refine TW.seq ?_
    refine TW.region ?_
    refine TO.y (Y.assign rfl) rfl rfl rfl ?_
    refine TO.nil ?_
    refine TE.next ?_
    refine TW.ret ?_
    refine TE.then_ret ?_
    exact TE.leaf fun _ _ hf_ hs_ => ret_any (rs := [.tmp 2]) (vs := [.slice none 0 0]) (.inl rfl) rfl ⟨rfl, trivial⟩ hf_ hs_ ⟨(.slice none 0 0), rfl, (hs_.nilItem 1).pulls [0] rfl⟩
  · refine TW.skip ?_
    refine TE.next ?_
    refine TW.seq ?_
    refine TW.region ?_
    refine TO.ef (Ef.buildSlice (α := Int) (Vs := []) ([] : List Int) ke24 kz3 rfl rfl rfl rfl rfl) rfl rfl rfl (fun B2 => ?_)
    refine TO.y (Y.move rfl) rfl rfl rfl ?_
    refine TO.bind fun E4 H5 => ?_
    refine TO.ef (Ef.append (α := Int) (is' := []) [0] H5 ke24 kz3 rfl rfl rfl rfl rfl (Base.can HB_V_s0)) rfl rfl rfl (fun V3 => ?_)
    refine TO.y (Y.assign rfl) rfl rfl rfl ?_
    refine TO.nil ?_
    refine TE.next ?_
    refine TW.ret ?_
    exact TE.leaf fun _ _ hf_ hs_ => ret_any (rs := [.tmp 2]) (vs := [V3]) (.inl rfl) rfl ⟨rfl, trivial⟩ hf_ hs_ ⟨V3, rfl, hs_.pulls [0] rfl⟩

/-- loop.example/g00950/impl.copyEng -/
noncomputable def impl_copyEng (e : Eng) : Option Eng :=
  (slices_Clone_94167 e.Mem).bind fun R3 =>
  (slices_Clone_88240 e.Snaps).bind fun R7 =>
  bindC (loopO (fun (S17 : Int × List (List Ent)) => if (decide (S17.1 < ((e.Tables.length : Nat) : Int))) = true then ((idx e.Tables S17.1).bind fun E22 =>
  (slices_Clone_94167 E22).bind fun R25 =>
  (app 24 S17.2 ([R25])).bind fun E31 =>
  some (.go (IntKind.i64.wrap (S17.1 + (1 : Int)), E31)))
  else (some (.done (.go S17.2))))
  ((0 : Int), ([] : List (List Ent))))
  (fun (T19 : List (List Ent)) => some ({ Mem := R3, Tables := T19, Seq := e.Seq, Snaps := R7 : Eng }))

theorem impl_copyEng_con (e : Eng) (V_e0 : Value) (V_e1 : Value) (V_e3 : Value) (r : Eng) (hm : impl_copyEng e = some r) :
    Con Try.prog 40 [.agg #[V_e0, V_e1, .int .i64 e.Seq, V_e3]] [] [(V_e0, lc e.Mem), (V_e1, lc e.Tables), (V_e3, lc e.Snaps)] (fun X : Value × Value × Value => .agg #[X.1, X.2.1, .int .i64 r.Seq, X.2.2]) (fun X => [.own X.1 (lc r.Mem), .own X.2.1 (lc r.Tables), .own X.2.2 (lc r.Snaps)]) := by
  refine Con.intro (args := [.agg #[V_e0, V_e1, .int .i64 e.Seq, V_e3]]) (n := 31) (val := fun r (X : Value × Value × Value) => .agg #[X.1, X.2.1, .int .i64 r.Seq, X.2.2]) (post := fun r X => [.own X.1 (lc r.Mem), .own X.2.1 (lc r.Tables), .own X.2.2 (lc r.Snaps)]) (m := impl_copyEng e) Try.func40 rfl rfl rfl hm ?_
  intro w S hrd
  have HB_V_e0 := hrd _ (.head _)
  have HB_V_e1 := hrd _ (.tail _ (.head _))
  have HB_V_e3 := hrd _ (.tail _ (.tail _ (.head _)))
  clear hrd
  unfold impl_copyEng
  refine TW.seq ?_
  refine TW.region ?_
  refine TO.ef (Ef.box rfl (Cel.agg ⟨(One.can (Base.can HB_V_e0)), (One.can (Base.can HB_V_e1)), (One.plain rfl), (One.can (Base.can HB_V_e3)), trivial⟩)) rfl rfl rfl (fun B1 => ?_)
  refine TO.ef (Ef.alloc kz33 rfl) rfl rfl rfl (fun B2 => ?_)
  refine TO.nil ?_
  refine TE.next ?_
  refine TW.seq ?_
  refine TW.bind fun R3 H4 => ?_
  refine TW.bind fun R7 H8 => ?_
  refine TW.joinU (X := Nat × Value × Value) (fun _ X => [(1, .pointer (some ⟨B1, 0, none⟩)), (2, .pointer (some ⟨B2, 0, none⟩)), (3, .pointer (some ⟨X.1, 0, none⟩))]) (fun _ X => [.box B1 33 [V_e0, V_e1, .int .i64 e.Seq, V_e3], .box B2 33 [.slice none 0 0, .slice none 0 0, .int .i64 (0 : Int), .slice none 0 0], .box X.1 33 [X.2.1, .slice none 0 0, .int .i64 e.Seq, X.2.2], .own X.2.1 (lc R3), .own X.2.2 (lc R7)]) ?_ (fun _ X14 => ?_)
  · refine TW.draw (isH := [.box B2 33 [.slice none 0 0, .slice none 0 0, .int .i64 (0 : Int), .slice none 0 0], .box B1 33 [V_e0, V_e1, .int .i64 e.Seq, V_e3]]) hMix ?_
    refine TA.y (listed' := #[true, false, false, false, false, false, false, false, false, false, false]) 0 [0, 0] rfl (Y.field_box kf33_0 rfl rfl) rfl rfl rfl (by kernel_rfl) (by kernel_rfl) (by kernel_rfl) rfl rfl ?_
    refine TA.y (listed' := #[true, true, false, false, false, false, false, false, false, false, false]) 1 [0, 0] rfl (Y.load_box (v := V_e0) 1 kk30 rfl rfl rfl) rfl rfl rfl (by kernel_rfl) (by kernel_rfl) (by kernel_rfl) rfl rfl ?_
    refine TA.y (listed' := #[true, true, false, true, false, false, false, false, false, false, false]) 3 [0, 0] rfl (Y.field_box kf33_2 rfl rfl) rfl rfl rfl (by kernel_rfl) (by kernel_rfl) (by kernel_rfl) rfl rfl ?_
    refine TA.y (listed' := #[true, true, false, true, true, false, false, false, false, false, false]) 4 [0, 0] rfl (Y.load_box (v := .int .i64 e.Seq) 1 kk3 rfl rfl rfl) rfl rfl rfl (by kernel_rfl) (by kernel_rfl) (by kernel_rfl) rfl rfl ?_
    refine TA.y (listed' := #[true, true, false, true, true, true, false, false, false, false, false]) 5 [0, 0] rfl (Y.field_box kf33_3 rfl rfl) rfl rfl rfl (by kernel_rfl) (by kernel_rfl) (by kernel_rfl) rfl rfl ?_
    refine TA.y (listed' := #[true, true, false, true, true, true, true, false, false, false, false]) 6 [0, 0] rfl (Y.load_box (v := V_e3) 1 kk24 rfl rfl rfl) rfl rfl rfl (by kernel_rfl) (by kernel_rfl) (by kernel_rfl) rfl rfl ?_
    refine TA.two 2 9 (by kernel_rfl) ?_ ?_
    · refine TX.ef (listed' := #[true, true, true, true, true, true, true, false, false, false, false]) [1, 1] rfl (Ef.call (rest := [.box B2 33 [.slice none 0 0, .slice none 0 0, .int .i64 (0 : Int), .slice none 0 0], .box B1 33 [V_e0, V_e1, .int .i64 e.Seq, V_e3]]) [0, 0] (slices_Clone_94167_con e.Mem V_e0 R3 H4) kc75 rfl rfl ⟨(Base.can HB_V_e0), trivial⟩) rfl rfl rfl rfl (fun _ => rfl) (fun Y15 => ?_)
      refine TA.two 7 9 (by kernel_rfl) ?_ ?_
      · refine TX.ef (listed' := #[true, true, true, true, true, true, true, true, false, false, false]) [2, 2] rfl (Ef.call (rest := [.own Y15 (lc R3), .box B2 33 [.slice none 0 0, .slice none 0 0, .int .i64 (0 : Int), .slice none 0 0], .box B1 33 [V_e0, V_e1, .int .i64 e.Seq, V_e3]]) [0, 0, 0] (slices_Clone_88240_con e.Snaps V_e3 R7 H8) kc76 rfl rfl ⟨(Base.can HB_V_e3), trivial⟩) rfl rfl rfl rfl (fun _ => rfl) (fun Y17 => ?_)
        refine TA.two 8 9 (by kernel_rfl) ?_ ?_
        · refine TX.y (listed' := #[true, true, true, true, true, true, true, true, true, false, false]) [2, 2] rfl (Y.build (cells := [Y15, .slice none 0 0, .int .i64 e.Seq, Y17]) [(0, [Y15]), (2, [.int .i64 e.Seq]), (3, [Y17])] kp33 kz33 ⟨rfl, ⟨_, rfl, (Cel.one (One.can (Can.own 1 rfl)))⟩, ⟨rfl, ⟨_, rfl, (Cel.plain rfl rfl)⟩, ⟨rfl, ⟨_, rfl, (Cel.one (One.can (Can.own 0 rfl)))⟩, trivial⟩⟩⟩ rfl) rfl rfl rfl rfl rfl ?_
          refine TA.one 9 (by kernel_rfl) ?_
          refine TX.ef (listed' := #[true, true, true, true, true, true, true, true, true, true, false]) [3, 3] rfl (Ef.alloc kz33 rfl) rfl rfl rfl rfl (fun _ => rfl) (fun B20 => ?_)
          refine TA.one 10 (by kernel_rfl) ?_
          refine TX.ef0 (listed' := #[true, true, true, true, true, true, true, true, true, true, true]) [3, 3] rfl (Ef.store_box (us := [Y15, .slice none 0 0, .int .i64 e.Seq, Y17]) (vs' := [Y15, .slice none 0 0, .int .i64 e.Seq, Y17]) (is' := [.box B20 33 [Y15, .slice none 0 0, .int .i64 e.Seq, Y17], .own Y17 (lc R7), .own Y15 (lc R3), .box B2 33 [.slice none 0 0, .slice none 0 0, .int .i64 (0 : Int), .slice none 0 0], .box B1 33 [V_e0, V_e1, .int .i64 e.Seq, V_e3]]) 0 kk33 rfl rfl rfl (Cel.agg ⟨(One.can (Can.own 2 rfl)), (One.plain rfl), (One.plain rfl), (One.can (Can.own 1 rfl)), trivial⟩) rfl rfl rfl rfl) rfl rfl rfl (fun _ => rfl) (fun _ => ?_)
          refine TA.nil (by kernel_rfl) ?_
          exact TE.jb_go (B20, Y15, Y17) [4, 3, 0, 1, 0] ⟨rfl, rfl, rfl, trivial⟩ rfl
        · refine TX.ef (listed' := #[true, true, true, true, true, true, true, true, false, true, false]) [3, 3] rfl (Ef.alloc kz33 rfl) rfl rfl rfl rfl (fun _ => rfl) (fun B19 => ?_)
          refine TA.one 8 (by kernel_rfl) ?_
          refine TX.y (listed' := #[true, true, true, true, true, true, true, true, true, true, false]) [3, 3] rfl (Y.build (cells := [Y15, .slice none 0 0, .int .i64 e.Seq, Y17]) [(0, [Y15]), (2, [.int .i64 e.Seq]), (3, [Y17])] kp33 kz33 ⟨rfl, ⟨_, rfl, (Cel.one (One.can (Can.own 2 rfl)))⟩, ⟨rfl, ⟨_, rfl, (Cel.plain rfl rfl)⟩, ⟨rfl, ⟨_, rfl, (Cel.one (One.can (Can.own 1 rfl)))⟩, trivial⟩⟩⟩ rfl) rfl rfl rfl rfl rfl ?_
          refine TA.one 10 (by kernel_rfl) ?_
          refine TX.ef0 (listed' := #[true, true, true, true, true, true, true, true, true, true, true]) [3, 3] rfl (Ef.store_box (us := [Y15, .slice none 0 0, .int .i64 e.Seq, Y17]) (vs' := [Y15, .slice none 0 0, .int .i64 e.Seq, Y17]) (is' := [.box B19 33 [Y15, .slice none 0 0, .int .i64 e.Seq, Y17], .own Y17 (lc R7), .own Y15 (lc R3), .box B2 33 [.slice none 0 0, .slice none 0 0, .int .i64 (0 : Int), .slice none 0 0], .box B1 33 [V_e0, V_e1, .int .i64 e.Seq, V_e3]]) 0 kk33 rfl rfl rfl (Cel.agg ⟨(One.can (Can.own 2 rfl)), (One.plain rfl), (One.plain rfl), (One.can (Can.own 1 rfl)), trivial⟩) rfl rfl rfl rfl) rfl rfl rfl (fun _ => rfl) (fun _ => ?_)
          refine TA.nil (by kernel_rfl) ?_
          exact TE.jb_go (B19, Y15, Y17) [4, 3, 0, 1, 0] ⟨rfl, rfl, rfl, trivial⟩ rfl
      · refine TX.ef (listed' := #[true, true, true, true, true, true, true, false, false, true, false]) [2, 2] rfl (Ef.alloc kz33 rfl) rfl rfl rfl rfl (fun _ => rfl) (fun B18 => ?_)
        refine TA.one 7 (by kernel_rfl) ?_
        refine TX.ef (listed' := #[true, true, true, true, true, true, true, true, false, true, false]) [3, 3] rfl (Ef.call (rest := [.box B18 33 [.slice none 0 0, .slice none 0 0, .int .i64 (0 : Int), .slice none 0 0], .own Y15 (lc R3), .box B2 33 [.slice none 0 0, .slice none 0 0, .int .i64 (0 : Int), .slice none 0 0], .box B1 33 [V_e0, V_e1, .int .i64 e.Seq, V_e3]]) [0, 0, 0, 0] (slices_Clone_88240_con e.Snaps V_e3 R7 H8) kc76 rfl rfl ⟨(Base.can HB_V_e3), trivial⟩) rfl rfl rfl rfl (fun _ => rfl) (fun Y19 => ?_)
        refine TA.one 8 (by kernel_rfl) ?_
        refine TX.y (listed' := #[true, true, true, true, true, true, true, true, true, true, false]) [3, 3] rfl (Y.build (cells := [Y15, .slice none 0 0, .int .i64 e.Seq, Y19]) [(0, [Y15]), (2, [.int .i64 e.Seq]), (3, [Y19])] kp33 kz33 ⟨rfl, ⟨_, rfl, (Cel.one (One.can (Can.own 2 rfl)))⟩, ⟨rfl, ⟨_, rfl, (Cel.plain rfl rfl)⟩, ⟨rfl, ⟨_, rfl, (Cel.one (One.can (Can.own 0 rfl)))⟩, trivial⟩⟩⟩ rfl) rfl rfl rfl rfl rfl ?_
        refine TA.one 10 (by kernel_rfl) ?_
        refine TX.ef0 (listed' := #[true, true, true, true, true, true, true, true, true, true, true]) [3, 3] rfl (Ef.store_box (us := [Y15, .slice none 0 0, .int .i64 e.Seq, Y19]) (vs' := [Y15, .slice none 0 0, .int .i64 e.Seq, Y19]) (is' := [.own Y19 (lc R7), .box B18 33 [Y15, .slice none 0 0, .int .i64 e.Seq, Y19], .own Y15 (lc R3), .box B2 33 [.slice none 0 0, .slice none 0 0, .int .i64 (0 : Int), .slice none 0 0], .box B1 33 [V_e0, V_e1, .int .i64 e.Seq, V_e3]]) 1 kk33 rfl rfl rfl (Cel.agg ⟨(One.can (Can.own 2 rfl)), (One.plain rfl), (One.plain rfl), (One.can (Can.own 0 rfl)), trivial⟩) rfl rfl rfl rfl) rfl rfl rfl (fun _ => rfl) (fun _ => ?_)
        refine TA.nil (by kernel_rfl) ?_
        exact TE.jb_go (B18, Y15, Y19) [4, 3, 1, 1, 0] ⟨rfl, rfl, rfl, trivial⟩ rfl
    · refine TX.ef (listed' := #[true, true, false, true, true, true, true, false, false, true, false]) [1, 1] rfl (Ef.alloc kz33 rfl) rfl rfl rfl rfl (fun _ => rfl) (fun B16 => ?_)
      refine TA.one 2 (by kernel_rfl) ?_
      refine TX.ef (listed' := #[true, true, true, true, true, true, true, false, false, true, false]) [2, 2] rfl (Ef.call (rest := [.box B16 33 [.slice none 0 0, .slice none 0 0, .int .i64 (0 : Int), .slice none 0 0], .box B2 33 [.slice none 0 0, .slice none 0 0, .int .i64 (0 : Int), .slice none 0 0], .box B1 33 [V_e0, V_e1, .int .i64 e.Seq, V_e3]]) [0, 0, 0] (slices_Clone_94167_con e.Mem V_e0 R3 H4) kc75 rfl rfl ⟨(Base.can HB_V_e0), trivial⟩) rfl rfl rfl rfl (fun _ => rfl) (fun Y17 => ?_)
      refine TA.one 7 (by kernel_rfl) ?_
      refine TX.ef (listed' := #[true, true, true, true, true, true, true, true, false, true, false]) [3, 3] rfl (Ef.call (rest := [.own Y17 (lc R3), .box B16 33 [.slice none 0 0, .slice none 0 0, .int .i64 (0 : Int), .slice none 0 0], .box B2 33 [.slice none 0 0, .slice none 0 0, .int .i64 (0 : Int), .slice none 0 0], .box B1 33 [V_e0, V_e1, .int .i64 e.Seq, V_e3]]) [0, 0, 0, 0] (slices_Clone_88240_con e.Snaps V_e3 R7 H8) kc76 rfl rfl ⟨(Base.can HB_V_e3), trivial⟩) rfl rfl rfl rfl (fun _ => rfl) (fun Y18 => ?_)
      refine TA.one 8 (by kernel_rfl) ?_
      refine TX.y (listed' := #[true, true, true, true, true, true, true, true, true, true, false]) [3, 3] rfl (Y.build (cells := [Y17, .slice none 0 0, .int .i64 e.Seq, Y18]) [(0, [Y17]), (2, [.int .i64 e.Seq]), (3, [Y18])] kp33 kz33 ⟨rfl, ⟨_, rfl, (Cel.one (One.can (Can.own 1 rfl)))⟩, ⟨rfl, ⟨_, rfl, (Cel.plain rfl rfl)⟩, ⟨rfl, ⟨_, rfl, (Cel.one (One.can (Can.own 0 rfl)))⟩, trivial⟩⟩⟩ rfl) rfl rfl rfl rfl rfl ?_
      refine TA.one 10 (by kernel_rfl) ?_
      refine TX.ef0 (listed' := #[true, true, true, true, true, true, true, true, true, true, true]) [3, 3] rfl (Ef.store_box (us := [Y17, .slice none 0 0, .int .i64 e.Seq, Y18]) (vs' := [Y17, .slice none 0 0, .int .i64 e.Seq, Y18]) (is' := [.own Y18 (lc R7), .own Y17 (lc R3), .box B16 33 [Y17, .slice none 0 0, .int .i64 e.Seq, Y18], .box B2 33 [.slice none 0 0, .slice none 0 0, .int .i64 (0 : Int), .slice none 0 0], .box B1 33 [V_e0, V_e1, .int .i64 e.Seq, V_e3]]) 2 kk33 rfl rfl rfl (Cel.agg ⟨(One.can (Can.own 1 rfl)), (One.plain rfl), (One.plain rfl), (One.can (Can.own 0 rfl)), trivial⟩) rfl rfl rfl rfl) rfl rfl rfl (fun _ => rfl) (fun _ => ?_)
      refine TA.nil (by kernel_rfl) ?_
      exact TE.jb_go (B16, Y17, Y18) [4, 3, 2, 1, 0] ⟨rfl, rfl, rfl, trivial⟩ rfl
  · refine TE.next ?_
    refine TW.seq ?_
    refine TW.seq ?_
    refine TW.region ?_
    refine TO.y (Y.field_box kf33_1 rfl rfl) rfl rfl rfl ?_
    refine TO.y (Y.load_box (v := V_e1) 0 kk31 rfl rfl rfl) rfl rfl rfl ?_
    refine TO.y (Y.len (l := e.Tables) ke31 (Base.can HB_V_e1) rfl) rfl rfl rfl ?_
    refine TO.y (Y.move rfl) rfl rfl rfl ?_
    refine TO.nil ?_
    refine TE.next ?_
    refine TW.joinX (τ := List (List Ent)) (X := Value) (fun _ _ => [(2, .pointer (some ⟨B2, 0, none⟩)), (3, .pointer (some ⟨X14.1, 0, none⟩))]) (fun T X => [.box B2 33 [.slice none 0 0, .slice none 0 0, .int .i64 (0 : Int), .slice none 0 0], .box X14.1 33 [X14.2.1, X, .int .i64 e.Seq, X14.2.2], .own X14.2.1 (lc R3), .own X (lc T), .own X14.2.2 (lc R7)]) ?_ (fun T19 X20 => ?_)
    · refine TW.block ?_
      refine TW.nilItem 1 ?_
      refine TW.loopX (σ := Int × List (List Ent)) (X := Value) (fun T _ => [(2, .pointer (some ⟨B2, 0, none⟩)), (3, .pointer (some ⟨X14.1, 0, none⟩)), (16, V_e1), (17, .int .i64 ((e.Tables.length : Nat) : Int)), (18, .int .i64 T.1)]) (fun T X => [.box B2 33 [.slice none 0 0, .slice none 0 0, .int .i64 (0 : Int), .slice none 0 0], .box X14.1 33 [X14.2.1, X, .int .i64 e.Seq, X14.2.2], .own X14.2.1 (lc R3), .own X (lc T.2), .own X14.2.2 (lc R7)]) (.slice none 0 0) [2, 2, 2, 0, 1] ⟨rfl, rfl, rfl, rfl, rfl, trivial⟩ rfl (fun S17 X18 => ?_)
      refine TW.seq ?_
      refine TW.region ?_
      refine TO.y (Y.lss rfl rfl) rfl rfl rfl ?_
      refine TO.nil ?_
      refine TE.next ?_
      refine TW.seq ?_
      refine TW.cond rfl (fun H21 => ?_) (fun H21 => ?_)
      · refine TW.skip ?_
        refine TE.next ?_
        refine TW.seq ?_
        refine TW.block ?_
        refine TW.seq ?_
        refine TW.region ?_
        refine TO.bind fun E22 H23 => ?_
        refine TO.y (Y.index ke31 (Base.can HB_V_e1) H23 rfl rfl) rfl rfl rfl ?_
        have Q24 : Base w S (elv w V_e1 (S17.1.toNat * 1 + 0)) (lc E22) := Base.el HB_V_e1 (idx_get H23).2.2 rfl rfl
        refine TO.y (Y.load_base (α := List Ent) (u := (elv w V_e1 (S17.1.toNat * 1 + 0))) kk30 rfl HB_V_e1 (idx_get H23).2.2 rfl rfl rfl rfl rfl) rfl rfl rfl ?_
        refine TO.y (Y.assign rfl) rfl rfl rfl ?_
        refine TO.nil ?_
        refine TE.next ?_
        refine TW.bind fun R25 H26 => ?_
        refine TW.bind fun E31 H32 => ?_
        refine TW.joinU (X := Value) (fun _ _ => [(2, .pointer (some ⟨B2, 0, none⟩)), (3, .pointer (some ⟨X14.1, 0, none⟩)), (16, V_e1), (17, .int .i64 ((e.Tables.length : Nat) : Int)), (18, .int .i64 S17.1)]) (fun _ X => [.box B2 33 [.slice none 0 0, .slice none 0 0, .int .i64 (0 : Int), .slice none 0 0], .box X14.1 33 [X14.2.1, X, .int .i64 e.Seq, X14.2.2], .own X14.2.1 (lc R3), .own X (lc E31), .own X14.2.2 (lc R7)]) ?_ (fun _ X34 => ?_)
        · refine TW.draw (isH := [.box B2 33 [.slice none 0 0, .slice none 0 0, .int .i64 (0 : Int), .slice none 0 0], .own X14.2.1 (lc R3), .own X14.2.2 (lc R7)]) hMix ?_
          refine TA.y (listed' := #[true, false, false, false, false, false, false, false]) 0 [0, 1, 2] rfl (Y.field_box kf33_1 rfl rfl) rfl rfl rfl (by kernel_rfl) (by kernel_rfl) (by kernel_rfl) rfl rfl ?_
          refine TA.y (listed' := #[true, false, true, false, false, false, false, false]) 2 [0, 1, 2] rfl (Y.move rfl) rfl rfl rfl (by kernel_rfl) (by kernel_rfl) (by kernel_rfl) rfl rfl ?_
          refine TA.two 1 3 (by kernel_rfl) ?_ ?_
          · refine TX.y (listed' := #[true, true, true, false, false, false, false, false]) [0, 1, 2] rfl (Y.load_box (v := X18) 1 kk31 rfl rfl rfl) rfl rfl rfl rfl rfl ?_
            refine TA.one 3 (by kernel_rfl) ?_
            refine TX.ef (listed' := #[true, true, true, true, false, false, false, false]) [1, 2, 3] rfl (Ef.call (rest := [.box B2 33 [.slice none 0 0, .slice none 0 0, .int .i64 (0 : Int), .slice none 0 0], .box X14.1 33 [X14.2.1, X18, .int .i64 e.Seq, X14.2.2], .own X14.2.1 (lc R3), .own X18 (lc S17.2), .own X14.2.2 (lc R7)]) [0, 0, 0, 0, 0] (slices_Clone_94167_con E22 (elv w V_e1 (S17.1.toNat * 1 + 0)) R25 H26) kc75 rfl rfl ⟨(Base.can Q24), trivial⟩) rfl rfl rfl rfl (fun _ => rfl) (fun Y36 => ?_)
            refine TA.one 4 (by kernel_rfl) ?_
            refine TX.ef (listed' := #[true, true, true, true, true, false, false, false]) [2, 3, 4] rfl (Ef.buildSliceR (Vs := [Y36]) [[Y36]] [.raw Y36] ke31 kz30 rfl rfl rfl rfl rfl ⟨(Cel.one (One.can (Can.own 0 rfl))), trivial⟩ rfl) rfl rfl rfl rfl (fun _ => rfl) (fun B37 => ?_)
            refine TA.ghost (is' := fun _ => [.own (.slice (some ⟨B37, 0, none⟩) 1 1) (lc ([R25])), .box B2 33 [.slice none 0 0, .slice none 0 0, .int .i64 (0 : Int), .slice none 0 0], .box X14.1 33 [X14.2.1, X18, .int .i64 e.Seq, X14.2.2], .own X14.2.1 (lc R3), .own X18 (lc S17.2), .own X14.2.2 (lc R7)]) (Gh.closeAll (js := [.own Y36 (lc R25)]) (r := [.box B2 33 [.slice none 0 0, .slice none 0 0, .int .i64 (0 : Int), .slice none 0 0], .box X14.1 33 [X14.2.1, X18, .int .i64 e.Seq, X14.2.2], .own X14.2.1 (lc R3), .own X18 (lc S17.2), .own X14.2.2 (lc R7)]) [0, 0, 0, 0, 0, 0, 0] rfl (Cls.fill Cls.nil)) (fun _ => ?_)
            refine TA.one 5 (by kernel_rfl) ?_
            refine TX.ef (listed' := #[true, true, true, true, true, true, false, false]) [1, 2, 2] rfl (Ef.appN (α := List Ent) (is' := [.box B2 33 [.slice none 0 0, .slice none 0 0, .int .i64 (0 : Int), .slice none 0 0], .box X14.1 33 [X14.2.1, X18, .int .i64 e.Seq, X14.2.2], .own X14.2.1 (lc R3), .own X14.2.2 (lc R7)]) [4, 0, 0, 0, 0, 0] H32 ke31 kz30 rfl rfl rfl rfl rfl) rfl rfl rfl rfl (fun _ => rfl) (fun V38 => ?_)
            refine TA.y (listed' := #[true, true, true, true, true, true, true, false]) 6 [1, 2, 2] rfl (Y.field_box kf33_1 rfl rfl) rfl rfl rfl (by kernel_rfl) (by kernel_rfl) (by kernel_rfl) rfl rfl ?_
            refine TA.one 7 (by kernel_rfl) ?_
            refine TX.ef0 (listed' := #[true, true, true, true, true, true, true, true]) [1, 2, 2] rfl (Ef.store_box (us := [V38]) (vs' := [X14.2.1, V38, .int .i64 e.Seq, X14.2.2]) (is' := [.own V38 (lc E31), .box B2 33 [.slice none 0 0, .slice none 0 0, .int .i64 (0 : Int), .slice none 0 0], .box X14.1 33 [X14.2.1, V38, .int .i64 e.Seq, X14.2.2], .own X14.2.1 (lc R3), .own X14.2.2 (lc R7)]) 2 kk31 rfl rfl rfl (Cel.one (One.can (Can.own 0 rfl))) rfl rfl rfl rfl) rfl rfl rfl (fun _ => rfl) (fun _ => ?_)
            refine TA.nil (by kernel_rfl) ?_
            exact TE.jb_go V38 [1, 1, 1, 0, 0] ⟨rfl, rfl, rfl, rfl, rfl, trivial⟩ rfl
          · refine TX.ef (listed' := #[true, false, true, true, false, false, false, false]) [1, 2, 3] rfl (Ef.call (rest := [.box B2 33 [.slice none 0 0, .slice none 0 0, .int .i64 (0 : Int), .slice none 0 0], .box X14.1 33 [X14.2.1, X18, .int .i64 e.Seq, X14.2.2], .own X14.2.1 (lc R3), .own X18 (lc S17.2), .own X14.2.2 (lc R7)]) [0, 0, 0, 0, 0] (slices_Clone_94167_con E22 (elv w V_e1 (S17.1.toNat * 1 + 0)) R25 H26) kc75 rfl rfl ⟨(Base.can Q24), trivial⟩) rfl rfl rfl rfl (fun _ => rfl) (fun Y35 => ?_)
            refine TA.two 1 4 (by kernel_rfl) ?_ ?_
            · refine TX.y (listed' := #[true, true, true, true, false, false, false, false]) [1, 2, 3] rfl (Y.load_box (v := X18) 2 kk31 rfl rfl rfl) rfl rfl rfl rfl rfl ?_
              refine TA.one 4 (by kernel_rfl) ?_
              refine TX.ef (listed' := #[true, true, true, true, true, false, false, false]) [2, 3, 4] rfl (Ef.buildSliceR (Vs := [Y35]) [[Y35]] [.raw Y35] ke31 kz30 rfl rfl rfl rfl rfl ⟨(Cel.one (One.can (Can.own 0 rfl))), trivial⟩ rfl) rfl rfl rfl rfl (fun _ => rfl) (fun B37 => ?_)
              refine TA.ghost (is' := fun _ => [.own (.slice (some ⟨B37, 0, none⟩) 1 1) (lc ([R25])), .box B2 33 [.slice none 0 0, .slice none 0 0, .int .i64 (0 : Int), .slice none 0 0], .box X14.1 33 [X14.2.1, X18, .int .i64 e.Seq, X14.2.2], .own X14.2.1 (lc R3), .own X18 (lc S17.2), .own X14.2.2 (lc R7)]) (Gh.closeAll (js := [.own Y35 (lc R25)]) (r := [.box B2 33 [.slice none 0 0, .slice none 0 0, .int .i64 (0 : Int), .slice none 0 0], .box X14.1 33 [X14.2.1, X18, .int .i64 e.Seq, X14.2.2], .own X14.2.1 (lc R3), .own X18 (lc S17.2), .own X14.2.2 (lc R7)]) [0, 0, 0, 0, 0, 0, 0] rfl (Cls.fill Cls.nil)) (fun _ => ?_)
              refine TA.one 5 (by kernel_rfl) ?_
              refine TX.ef (listed' := #[true, true, true, true, true, true, false, false]) [1, 2, 2] rfl (Ef.appN (α := List Ent) (is' := [.box B2 33 [.slice none 0 0, .slice none 0 0, .int .i64 (0 : Int), .slice none 0 0], .box X14.1 33 [X14.2.1, X18, .int .i64 e.Seq, X14.2.2], .own X14.2.1 (lc R3), .own X14.2.2 (lc R7)]) [4, 0, 0, 0, 0, 0] H32 ke31 kz30 rfl rfl rfl rfl rfl) rfl rfl rfl rfl (fun _ => rfl) (fun V38 => ?_)
              refine TA.y (listed' := #[true, true, true, true, true, true, true, false]) 6 [1, 2, 2] rfl (Y.field_box kf33_1 rfl rfl) rfl rfl rfl (by kernel_rfl) (by kernel_rfl) (by kernel_rfl) rfl rfl ?_
              refine TA.one 7 (by kernel_rfl) ?_
              refine TX.ef0 (listed' := #[true, true, true, true, true, true, true, true]) [1, 2, 2] rfl (Ef.store_box (us := [V38]) (vs' := [X14.2.1, V38, .int .i64 e.Seq, X14.2.2]) (is' := [.own V38 (lc E31), .box B2 33 [.slice none 0 0, .slice none 0 0, .int .i64 (0 : Int), .slice none 0 0], .box X14.1 33 [X14.2.1, V38, .int .i64 e.Seq, X14.2.2], .own X14.2.1 (lc R3), .own X14.2.2 (lc R7)]) 2 kk31 rfl rfl rfl (Cel.one (One.can (Can.own 0 rfl))) rfl rfl rfl rfl) rfl rfl rfl (fun _ => rfl) (fun _ => ?_)
              refine TA.nil (by kernel_rfl) ?_
              exact TE.jb_go V38 [1, 1, 1, 0, 0] ⟨rfl, rfl, rfl, rfl, rfl, trivial⟩ rfl
            · refine TX.ef (listed' := #[true, false, true, true, true, false, false, false]) [2, 3, 4] rfl (Ef.buildSliceR (Vs := [Y35]) [[Y35]] [.raw Y35] ke31 kz30 rfl rfl rfl rfl rfl ⟨(Cel.one (One.can (Can.own 0 rfl))), trivial⟩ rfl) rfl rfl rfl rfl (fun _ => rfl) (fun B36 => ?_)
              refine TA.ghost (is' := fun _ => [.own (.slice (some ⟨B36, 0, none⟩) 1 1) (lc ([R25])), .box B2 33 [.slice none 0 0, .slice none 0 0, .int .i64 (0 : Int), .slice none 0 0], .box X14.1 33 [X14.2.1, X18, .int .i64 e.Seq, X14.2.2], .own X14.2.1 (lc R3), .own X18 (lc S17.2), .own X14.2.2 (lc R7)]) (Gh.closeAll (js := [.own Y35 (lc R25)]) (r := [.box B2 33 [.slice none 0 0, .slice none 0 0, .int .i64 (0 : Int), .slice none 0 0], .box X14.1 33 [X14.2.1, X18, .int .i64 e.Seq, X14.2.2], .own X14.2.1 (lc R3), .own X18 (lc S17.2), .own X14.2.2 (lc R7)]) [0, 0, 0, 0, 0, 0, 0] rfl (Cls.fill Cls.nil)) (fun _ => ?_)
              refine TA.one 1 (by kernel_rfl) ?_
              refine TX.y (listed' := #[true, true, true, true, true, false, false, false]) [1, 2, 3] rfl (Y.load_box (v := X18) 2 kk31 rfl rfl rfl) rfl rfl rfl rfl rfl ?_
              refine TA.one 5 (by kernel_rfl) ?_
              refine TX.ef (listed' := #[true, true, true, true, true, true, false, false]) [1, 2, 2] rfl (Ef.appN (α := List Ent) (is' := [.box B2 33 [.slice none 0 0, .slice none 0 0, .int .i64 (0 : Int), .slice none 0 0], .box X14.1 33 [X14.2.1, X18, .int .i64 e.Seq, X14.2.2], .own X14.2.1 (lc R3), .own X14.2.2 (lc R7)]) [4, 0, 0, 0, 0, 0] H32 ke31 kz30 rfl rfl rfl rfl rfl) rfl rfl rfl rfl (fun _ => rfl) (fun V37 => ?_)
              refine TA.y (listed' := #[true, true, true, true, true, true, true, false]) 6 [1, 2, 2] rfl (Y.field_box kf33_1 rfl rfl) rfl rfl rfl (by kernel_rfl) (by kernel_rfl) (by kernel_rfl) rfl rfl ?_
              refine TA.one 7 (by kernel_rfl) ?_
              refine TX.ef0 (listed' := #[true, true, true, true, true, true, true, true]) [1, 2, 2] rfl (Ef.store_box (us := [V37]) (vs' := [X14.2.1, V37, .int .i64 e.Seq, X14.2.2]) (is' := [.own V37 (lc E31), .box B2 33 [.slice none 0 0, .slice none 0 0, .int .i64 (0 : Int), .slice none 0 0], .box X14.1 33 [X14.2.1, V37, .int .i64 e.Seq, X14.2.2], .own X14.2.1 (lc R3), .own X14.2.2 (lc R7)]) 2 kk31 rfl rfl rfl (Cel.one (One.can (Can.own 0 rfl))) rfl rfl rfl rfl) rfl rfl rfl (fun _ => rfl) (fun _ => ?_)
              refine TA.nil (by kernel_rfl) ?_
              exact TE.jb_go V37 [1, 1, 1, 0, 0] ⟨rfl, rfl, rfl, rfl, rfl, trivial⟩ rfl
        · refine TE.block_normal ?_
          refine TE.next ?_
          refine TW.region ?_
          refine TO.y (Y.add rfl rfl) rfl rfl rfl ?_
          refine TO.y (Y.move rfl) rfl rfl rfl ?_
          refine TO.nil ?_
          exact TE.lp_go X34 [0, 0, 0, 0, 0] ⟨rfl, rfl, rfl, rfl, rfl, trivial⟩ rfl
      · refine TW.exit ?_
        refine TE.then_exit ?_
        refine TE.lp_exit ?_
        refine TE.block_exit ?_
        exact TE.jn_go X18 [0, 0, 0, 0, 0] ⟨rfl, rfl, trivial⟩ rfl
    · refine TE.next ?_
      refine TW.seq ?_
      refine TW.region ?_
      refine TO.y (Y.load_box (v := .agg #[X14.2.1, X20, .int .i64 e.Seq, X14.2.2]) 1 kk33 rfl rfl rfl) rfl rfl rfl ?_
      refine TO.ef0 (Ef.store_box (us := [X14.2.1, X20, .int .i64 e.Seq, X14.2.2]) (vs' := [X14.2.1, X20, .int .i64 e.Seq, X14.2.2]) (is' := [.box B2 33 [X14.2.1, X20, .int .i64 e.Seq, X14.2.2], .box X14.1 33 [X14.2.1, X20, .int .i64 e.Seq, X14.2.2], .own X14.2.1 (lc R3), .own X20 (lc T19), .own X14.2.2 (lc R7)]) 0 kk33 rfl rfl rfl (Cel.agg ⟨(One.can (Can.own 2 rfl)), (One.can (Can.own 3 rfl)), (One.plain rfl), (One.can (Can.own 4 rfl)), trivial⟩) rfl rfl rfl rfl) rfl rfl (fun _ => ?_)
      refine TO.nil ?_
      refine TE.next ?_
      refine TW.ret ?_
      exact TE.leaf fun _ _ hf_ hs_ => ret_any (rs := [.cell 2 33]) (vs := [.agg #[X14.2.1, X20, .int .i64 e.Seq, X14.2.2]]) (.inl rfl) rfl (RV.cell 0 rfl rfl kk33 rfl trivial) hf_ hs_ ⟨(X14.2.1, X20, X14.2.2), rfl, hs_.pulls [2, 2, 2] rfl⟩

/-- loop.example/g00950/impl.BatchOk -/
noncomputable def impl_BatchOk (l : List Op) : Option Bool :=
  bindC (loopO (fun (S1 : Int) => if (decide (S1 < ((l.length : Nat) : Int))) = true then ((idx l S1).bind fun E6 =>
  ((impl_isKey E6.Key).bind fun R11 =>
  if (!R11) = true then (some true)
  else ((impl_isVal E6.Del E6.Val).bind fun R15 =>
  some (!R15))).bind (fun (T9 : Bool) =>
  if T9 = true then (some (.done (.done false)))
  else (some (.go (IntKind.i64.wrap (S1 + (1 : Int)))))))
  else (some (.done (.go ()))))
  (0 : Int))
  (fun (T3 : Unit) => (impl_inRange ((l.length : Nat) : Int) (1 : Int) (6 : Int)).bind fun R19 =>
  some R19)

theorem impl_BatchOk_con (l : List Op) (V_l0 : Value) (r : Bool) (hm : impl_BatchOk l = some r) :
    Con Try.prog 41 [V_l0] [] [(V_l0, lc l)] (fun _ : Unit => .bool r) (fun _ => []) := by
  refine Con.intro (args := [V_l0]) (n := 27) (val := fun r (_ : Unit) => .bool r) (post := fun _ _ => []) (m := impl_BatchOk l) Try.func41 rfl rfl rfl hm ?_
  intro w S hrd
  have HB_V_l0 := hrd _ (.head _)
  clear hrd
  unfold impl_BatchOk
  refine TW.seq ?_
  refine TW.region ?_
  refine TO.y (Y.assign rfl) rfl rfl rfl ?_
  refine TO.nil ?_
  refine TE.next ?_
  refine TW.seq ?_
  refine TW.seq ?_
  refine TW.region ?_
  refine TO.y (Y.move rfl) rfl rfl rfl ?_
  refine TO.y (Y.len (l := l) ke37 (Base.can HB_V_l0) rfl) rfl rfl rfl ?_
  refine TO.y (Y.move rfl) rfl rfl rfl ?_
  refine TO.nil ?_
  refine TE.next ?_
  refine TW.joinX (τ := Unit) (X := Unit) (fun _ _ => [(0, V_l0)]) (fun _ _ => []) ?_ (fun T3 X4 => ?_)
  · refine TW.block ?_
    refine TW.loopX (σ := Int) (X := Unit) (fun T _ => [(0, V_l0), (5, V_l0), (6, .int .i64 ((l.length : Nat) : Int)), (7, .int .i64 T)]) (fun _ _ => []) () [] ⟨rfl, rfl, rfl, rfl, trivial⟩ rfl (fun S1 X2 => ?_)
    refine TW.seq ?_
    refine TW.region ?_
    refine TO.y (Y.lss rfl rfl) rfl rfl rfl ?_
    refine TO.nil ?_
    refine TE.next ?_
    refine TW.seq ?_
    refine TW.cond rfl (fun H5 => ?_) (fun H5 => ?_)
    · refine TW.skip ?_
      refine TE.next ?_
      refine TW.seq ?_
      refine TW.block ?_
      refine TW.seq ?_
      refine TW.region ?_
      refine TO.bind fun E6 H7 => ?_
      refine TO.y (Y.index ke37 (Base.can HB_V_l0) H7 rfl rfl) rfl rfl rfl ?_
      refine TO.y (Y.load_el (us := [strV E6.Key, .bool E6.Del, strV E6.Val]) (u := .agg #[strV E6.Key, .bool E6.Del, strV E6.Val]) kk70 rfl (Base.can HB_V_l0) (idx_get H7).2.2 rfl rfl rfl rfl rfl) rfl rfl rfl ?_
      refine TO.ef (Ef.alloc kz70 rfl) rfl rfl rfl (fun B8 => ?_)
      refine TO.ef0 (Ef.store_box (us := [strV E6.Key, .bool E6.Del, strV E6.Val]) (vs' := [strV E6.Key, .bool E6.Del, strV E6.Val]) (is' := [.box B8 70 [strV E6.Key, .bool E6.Del, strV E6.Val]]) 0 kk70 rfl rfl rfl (Cel.plain rfl rfl) rfl rfl rfl rfl) rfl rfl (fun _ => ?_)
      refine TO.nil ?_
      refine TE.next ?_
      refine TW.seq ?_
      refine TW.joinBX (τ := Bool) (X := Unit) (fun T _ => [(0, V_l0), (5, V_l0), (6, .int .i64 ((l.length : Nat) : Int)), (7, .int .i64 S1), (22, .bool T)]) (fun _ _ => []) ?_ (fun T9 X10 => ?_)
      · refine TW.region ?_
        refine TO.y (Y.field_box kf70_0 rfl rfl) rfl rfl rfl ?_
        refine TO.y (Y.load_box (v := strV E6.Key) 0 kk9 rfl rfl rfl) rfl rfl rfl ?_
        refine TO.bind fun R11 H12 => ?_
        refine TO.ef (Ef.call (rest := [.box B8 70 [strV E6.Key, .bool E6.Del, strV E6.Val]]) [0] (impl_isKey_con E6.Key  R11 H12) kc77 rfl rfl trivial) rfl rfl rfl (fun _ => ?_)
        refine TO.y (Y.not rfl) rfl rfl rfl ?_
        refine TO.y (Y.move rfl) rfl rfl rfl ?_
        refine TO.ite (b := !R11) (fun H14 => ?_) (fun H14 => ?_)
        · refine TO.off (Gd.at 4 false 15 (!R11) rfl rfl rfl (beq_tf H14)) rfl rfl ?_
          refine TO.off (Gd.at 4 false 15 (!R11) rfl rfl rfl (beq_tf H14)) rfl rfl ?_
          refine TO.off (Gd.at 4 false 15 (!R11) rfl rfl rfl (beq_tf H14)) rfl rfl ?_
          refine TO.off (Gd.at 4 false 15 (!R11) rfl rfl rfl (beq_tf H14)) rfl rfl ?_
          refine TO.off (Gd.at 4 false 15 (!R11) rfl rfl rfl (beq_tf H14)) rfl rfl ?_
          refine TO.off (Gd.at 4 false 15 (!R11) rfl rfl rfl (beq_tf H14)) rfl rfl ?_
          refine TO.y (Y.pick_t H14 rfl rfl) rfl rfl rfl ?_
          refine TO.nil ?_
          exact TE.jb_go () [] ⟨rfl, rfl, rfl, rfl, rfl, trivial⟩ rfl
        · refine TO.y (Y.field_box kf70_1 rfl rfl) (Gd.at 4 false 15 (!R11) rfl rfl rfl (beq_ff H14)) rfl rfl ?_
          refine TO.y (Y.load_box (v := .bool E6.Del) 0 kk4 rfl rfl rfl) (Gd.at 4 false 15 (!R11) rfl rfl rfl (beq_ff H14)) rfl rfl ?_
          refine TO.y (Y.field_box kf70_2 rfl rfl) (Gd.at 4 false 15 (!R11) rfl rfl rfl (beq_ff H14)) rfl rfl ?_
          refine TO.y (Y.load_box (v := strV E6.Val) 0 kk9 rfl rfl rfl) (Gd.at 4 false 15 (!R11) rfl rfl rfl (beq_ff H14)) rfl rfl ?_
          refine TO.bind fun R15 H16 => ?_
          refine TO.ef (Ef.call (rest := [.box B8 70 [strV E6.Key, .bool E6.Del, strV E6.Val]]) [0] (impl_isVal_con E6.Del E6.Val  R15 H16) kc78 rfl rfl trivial) (Gd.at 4 false 15 (!R11) rfl rfl rfl (beq_ff H14)) rfl rfl (fun _ => ?_)
          refine TO.y (Y.not rfl) (Gd.at 4 false 15 (!R11) rfl rfl rfl (beq_ff H14)) rfl rfl ?_
          refine TO.y (Y.pick_f H14 rfl rfl) rfl rfl rfl ?_
          refine TO.nil ?_
          exact TE.jb_go () [] ⟨rfl, rfl, rfl, rfl, rfl, trivial⟩ rfl
      · refine TE.next ?_
        refine TW.cond rfl (fun H18 => ?_) (fun H18 => ?_)
        · refine TW.seq ?_
          refine TW.region ?_
          refine TO.y (Y.assign rfl) rfl rfl rfl ?_
          refine TO.nil ?_
          refine TE.next ?_
          refine TW.ret ?_
          refine TE.block_ret ?_
          refine TE.then_ret ?_
          refine TE.lp_ret ?_
          refine TE.block_ret ?_
          refine TE.jn_done ?_
          refine TE.then_ret ?_
          exact TE.leaf fun _ _ hf_ hs_ => ret_any (rs := [.tmp 2]) (vs := [.bool false]) (.inl rfl) rfl ⟨rfl, trivial⟩ hf_ hs_ ⟨(), rfl, hs_.pulls [] rfl⟩
        · refine TW.skip ?_
          refine TE.block_normal ?_
          refine TE.next ?_
          refine TW.region ?_
          refine TO.y (Y.add rfl rfl) rfl rfl rfl ?_
          refine TO.y (Y.move rfl) rfl rfl rfl ?_
          refine TO.nil ?_
          exact TE.lp_go () [] ⟨rfl, rfl, rfl, rfl, trivial⟩ rfl
    · refine TW.exit ?_
      refine TE.then_exit ?_
      refine TE.lp_exit ?_
      refine TE.block_exit ?_
      exact TE.jn_go () [] ⟨rfl, trivial⟩ rfl
  · refine TE.next ?_
    refine TW.seq ?_
    refine TW.region ?_
    refine TO.y (Y.move rfl) rfl rfl rfl ?_
    refine TO.y (Y.len (l := l) ke37 (Base.can HB_V_l0) rfl) rfl rfl rfl ?_
    refine TO.bind fun R19 H20 => ?_
    refine TO.ef (Ef.call (rest := []) [] (impl_inRange_con ((l.length : Nat) : Int) (1 : Int) (6 : Int)  R19 H20) kc74 rfl rfl trivial) rfl rfl rfl (fun _ => ?_)
    refine TO.y (Y.assign rfl) rfl rfl rfl ?_
    refine TO.nil ?_
    refine TE.next ?_
    refine TW.ret ?_
    exact TE.leaf fun _ _ hf_ hs_ => ret_any (rs := [.tmp 2]) (vs := [.bool R19]) (.inl rfl) rfl ⟨rfl, trivial⟩ hf_ hs_ ⟨(), rfl, hs_.pulls [] rfl⟩

/-- slices.Reverse[[]loop.example/g00950/impl.Ent,loop.example/g00950/impl.Ent] -/
noncomputable def slices_Reverse_94167 (s : List Ent) : Option (List Ent) :=
  bindC (loopO (fun (S1 : Int × Int × List Ent) => if (decide (S1.1 < S1.2.1)) = true then ((idx S1.2.2 S1.2.1).bind fun E6 =>
  (idx S1.2.2 S1.1).bind fun E8 =>
  (idx (S1.2.2.set S1.1.toNat E6) S1.2.1).bind fun E10 =>
  some (.go (IntKind.i64.wrap (S1.1 + (1 : Int)), IntKind.i64.wrap (S1.2.1 - (1 : Int)), ((S1.2.2.set S1.1.toNat E6).set S1.2.1.toNat E8))))
  else (some (.done (.go S1.2.2))))
  ((0 : Int), IntKind.i64.wrap (((s.length : Nat) : Int) - (1 : Int)), s))
  (fun (T3 : List Ent) => some T3)

theorem slices_Reverse_94167_con (s : List Ent) (V_s0 : Value) (r : List Ent) (hm : slices_Reverse_94167 s = some r) :
    Con Try.prog 114 [V_s0] [.own V_s0 (lc s)] [] (fun _ : Unit => .tuple #[]) (fun _ => [.own V_s0 (lc r)]) := by
  refine Con.intro (args := [V_s0]) (n := 28) (val := fun _ (_ : Unit) => .tuple #[]) (post := fun r _ => [.own V_s0 (lc r)]) (m := slices_Reverse_94167 s) Try.func114 rfl rfl rfl hm ?_
  intro w S _
  unfold slices_Reverse_94167
  refine TW.seq ?_
  refine TW.region ?_
  refine TO.y (Y.move rfl) rfl rfl rfl ?_
  refine TO.y (Y.len (l := s) ke30 (Can.own 0 rfl) rfl) rfl rfl rfl ?_
  refine TO.y (Y.sub rfl rfl) rfl rfl rfl ?_
  refine TO.y (Y.assign rfl) rfl rfl rfl ?_
  refine TO.y (Y.assign rfl) rfl rfl rfl ?_
  refine TO.nil ?_
  refine TE.next ?_
  refine TW.joinX (τ := List Ent) (X := Unit) (fun _ _ => []) (fun T _ => [.own V_s0 (lc T)]) ?_ (fun T3 X4 => ?_)
  · refine TW.block ?_
    refine TW.loopX (σ := Int × Int × List Ent) (X := Unit) (fun T _ => [(0, V_s0), (2, .int .i64 T.1), (3, .int .i64 T.2.1)]) (fun T _ => [.own V_s0 (lc T.2.2)]) () [0] ⟨rfl, rfl, rfl, trivial⟩ rfl (fun S1 X2 => ?_)
    refine TW.seq ?_
    refine TW.seq ?_
    refine TW.region ?_
    refine TO.y (Y.move rfl) rfl rfl rfl ?_
    refine TO.y (Y.move rfl) rfl rfl rfl ?_
    refine TO.y (Y.lss rfl rfl) rfl rfl rfl ?_
    refine TO.nil ?_
    refine TE.next ?_
    refine TW.cond rfl (fun H5 => ?_) (fun H5 => ?_)
    · refine TW.skip ?_
      refine TE.next ?_
      refine TW.seq ?_
      refine TW.block ?_
      refine TW.bind fun E6 H7 => ?_
      refine TW.bind fun E8 H9 => ?_
      refine TW.bind fun E10 H11 => ?_
      refine TW.joinU (X := Unit) (fun _ _ => [(0, V_s0), (2, .int .i64 S1.1), (3, .int .i64 S1.2.1)]) (fun _ _ => [.own V_s0 (lc ((S1.2.2.set S1.1.toNat E6).set S1.2.1.toNat E8))]) ?_ (fun _ X13 => ?_)
      · refine TW.draw (isH := []) hMix ?_
        refine TA.y (listed' := #[true, false, false, false, false, false, false, false, false, false, false, false, false, false, false, false]) 0 [] rfl (Y.move rfl) rfl rfl rfl (by kernel_rfl) (by kernel_rfl) (by kernel_rfl) rfl rfl ?_
        refine TA.y (listed' := #[true, true, false, false, false, false, false, false, false, false, false, false, false, false, false, false]) 1 [] rfl (Y.move rfl) rfl rfl rfl (by kernel_rfl) (by kernel_rfl) (by kernel_rfl) rfl rfl ?_
        refine TA.y (listed' := #[true, true, true, false, false, false, false, false, false, false, false, false, false, false, false, false]) 2 [] rfl (Y.move rfl) rfl rfl rfl (by kernel_rfl) (by kernel_rfl) (by kernel_rfl) rfl rfl ?_
        refine TA.y (listed' := #[true, true, true, true, false, false, false, false, false, false, false, false, false, false, false, false]) 3 [] rfl (Y.move rfl) rfl rfl rfl (by kernel_rfl) (by kernel_rfl) (by kernel_rfl) rfl rfl ?_
        refine TA.y (listed' := #[true, true, true, true, true, false, false, false, false, false, false, false, false, false, false, false]) 4 [] rfl (Y.move rfl) rfl rfl rfl (by kernel_rfl) (by kernel_rfl) (by kernel_rfl) rfl rfl ?_
        refine TA.y (listed' := #[true, true, true, true, true, true, false, false, false, false, false, false, false, false, false, false]) 5 [] rfl (Y.move rfl) rfl rfl rfl (by kernel_rfl) (by kernel_rfl) (by kernel_rfl) rfl rfl ?_
        refine TA.y (listed' := #[true, true, true, true, true, true, false, false, true, false, false, false, false, false, false, false]) 8 [] rfl (Y.move rfl) rfl rfl rfl (by kernel_rfl) (by kernel_rfl) (by kernel_rfl) rfl rfl ?_
        refine TA.y (listed' := #[true, true, true, true, true, true, false, false, true, true, false, false, false, false, false, false]) 9 [] rfl (Y.move rfl) rfl rfl rfl (by kernel_rfl) (by kernel_rfl) (by kernel_rfl) rfl rfl ?_
        refine TA.two 6 10 (by kernel_rfl) ?_ ?_
        · refine TX.y (listed' := #[true, true, true, true, true, true, true, false, true, true, false, false, false, false, false, false]) [] rfl (Y.index ke30 (Can.own 0 rfl) H7 rfl rfl) rfl rfl rfl rfl rfl ?_
          refine TA.two 7 10 (by kernel_rfl) ?_ ?_
          · refine TX.y (listed' := #[true, true, true, true, true, true, true, true, true, true, false, false, false, false, false, false]) [] rfl (Y.load_el (us := [strV E6.Key, .int .i64 E6.Seq, .bool E6.Del, strV E6.Val]) (u := .agg #[strV E6.Key, .int .i64 E6.Seq, .bool E6.Del, strV E6.Val]) kk73 rfl (Can.own 0 rfl) (idx_get H7).2.2 rfl rfl rfl rfl rfl) rfl rfl rfl rfl rfl ?_
            refine TA.one 10 (by kernel_rfl) ?_
            refine TX.y (listed' := #[true, true, true, true, true, true, true, true, true, true, true, false, false, false, false, false]) [] rfl (Y.index ke30 (Can.own 0 rfl) H9 rfl rfl) rfl rfl rfl rfl rfl ?_
            refine TA.one 11 (by kernel_rfl) ?_
            refine TX.y (listed' := #[true, true, true, true, true, true, true, true, true, true, true, true, false, false, false, false]) [] rfl (Y.load_el (us := [strV E8.Key, .int .i64 E8.Seq, .bool E8.Del, strV E8.Val]) (u := .agg #[strV E8.Key, .int .i64 E8.Seq, .bool E8.Del, strV E8.Val]) kk73 rfl (Can.own 0 rfl) (idx_get H9).2.2 rfl rfl rfl rfl rfl) rfl rfl rfl rfl rfl ?_
            refine TA.one 12 (by kernel_rfl) ?_
            refine TX.y (listed' := #[true, true, true, true, true, true, true, true, true, true, true, true, true, false, false, false]) [] rfl (Y.index ke30 (Can.own 0 rfl) H9 rfl rfl) rfl rfl rfl rfl rfl ?_
            refine TA.one 13 (by kernel_rfl) ?_
            refine TX.ef0 (listed' := #[true, true, true, true, true, true, true, true, true, true, true, true, true, true, false, false]) [] rfl (Ef.store_el (us := [strV E6.Key, .int .i64 E6.Seq, .bool E6.Del, strV E6.Val]) (is' := [.own V_s0 (lc (S1.2.2.set S1.1.toNat E6))]) E6 0 kk73 rfl rfl (idx_get H9).2.2 rfl rfl (Cel.plain rfl rfl) rfl rfl rfl rfl) rfl rfl rfl (fun _ => rfl) (fun _ => ?_)
            refine TA.one 14 (by kernel_rfl) ?_
            refine TX.y (listed' := #[true, true, true, true, true, true, true, true, true, true, true, true, true, true, true, false]) [] rfl (Y.index ke30 (Can.own 0 rfl) H11 rfl rfl) rfl rfl rfl rfl rfl ?_
            refine TA.one 15 (by kernel_rfl) ?_
            refine TX.ef0 (listed' := #[true, true, true, true, true, true, true, true, true, true, true, true, true, true, true, true]) [] rfl (Ef.store_el (us := [strV E8.Key, .int .i64 E8.Seq, .bool E8.Del, strV E8.Val]) (is' := [.own V_s0 (lc ((S1.2.2.set S1.1.toNat E6).set S1.2.1.toNat E8))]) E8 0 kk73 rfl rfl (idx_get H11).2.2 rfl rfl (Cel.plain rfl rfl) rfl rfl rfl rfl) rfl rfl rfl (fun _ => rfl) (fun _ => ?_)
            refine TA.nil (by kernel_rfl) ?_
            exact TE.jb_go () [0] ⟨rfl, rfl, rfl, trivial⟩ rfl
          · refine TX.y (listed' := #[true, true, true, true, true, true, true, false, true, true, true, false, false, false, false, false]) [] rfl (Y.index ke30 (Can.own 0 rfl) H9 rfl rfl) rfl rfl rfl rfl rfl ?_
            refine TA.two 7 11 (by kernel_rfl) ?_ ?_
            · refine TX.y (listed' := #[true, true, true, true, true, true, true, true, true, true, true, false, false, false, false, false]) [] rfl (Y.load_el (us := [strV E6.Key, .int .i64 E6.Seq, .bool E6.Del, strV E6.Val]) (u := .agg #[strV E6.Key, .int .i64 E6.Seq, .bool E6.Del, strV E6.Val]) kk73 rfl (Can.own 0 rfl) (idx_get H7).2.2 rfl rfl rfl rfl rfl) rfl rfl rfl rfl rfl ?_
              refine TA.one 11 (by kernel_rfl) ?_
              refine TX.y (listed' := #[true, true, true, true, true, true, true, true, true, true, true, true, false, false, false, false]) [] rfl (Y.load_el (us := [strV E8.Key, .int .i64 E8.Seq, .bool E8.Del, strV E8.Val]) (u := .agg #[strV E8.Key, .int .i64 E8.Seq, .bool E8.Del, strV E8.Val]) kk73 rfl (Can.own 0 rfl) (idx_get H9).2.2 rfl rfl rfl rfl rfl) rfl rfl rfl rfl rfl ?_
              refine TA.one 12 (by kernel_rfl) ?_
              refine TX.y (listed' := #[true, true, true, true, true, true, true, true, true, true, true, true, true, false, false, false]) [] rfl (Y.index ke30 (Can.own 0 rfl) H9 rfl rfl) rfl rfl rfl rfl rfl ?_
              refine TA.one 13 (by kernel_rfl) ?_
              refine TX.ef0 (listed' := #[true, true, true, true, true, true, true, true, true, true, true, true, true, true, false, false]) [] rfl (Ef.store_el (us := [strV E6.Key, .int .i64 E6.Seq, .bool E6.Del, strV E6.Val]) (is' := [.own V_s0 (lc (S1.2.2.set S1.1.toNat E6))]) E6 0 kk73 rfl rfl (idx_get H9).2.2 rfl rfl (Cel.plain rfl rfl) rfl rfl rfl rfl) rfl rfl rfl (fun _ => rfl) (fun _ => ?_)
              refine TA.one 14 (by kernel_rfl) ?_
              refine TX.y (listed' := #[true, true, true, true, true, true, true, true, true, true, true, true, true, true, true, false]) [] rfl (Y.index ke30 (Can.own 0 rfl) H11 rfl rfl) rfl rfl rfl rfl rfl ?_
              refine TA.one 15 (by kernel_rfl) ?_
              refine TX.ef0 (listed' := #[true, true, true, true, true, true, true, true, true, true, true, true, true, true, true, true]) [] rfl (Ef.store_el (us := [strV E8.Key, .int .i64 E8.Seq, .bool E8.Del, strV E8.Val]) (is' := [.own V_s0 (lc ((S1.2.2.set S1.1.toNat E6).set S1.2.1.toNat E8))]) E8 0 kk73 rfl rfl (idx_get H11).2.2 rfl rfl (Cel.plain rfl rfl) rfl rfl rfl rfl) rfl rfl rfl (fun _ => rfl) (fun _ => ?_)
              refine TA.nil (by kernel_rfl) ?_
              exact TE.jb_go () [0] ⟨rfl, rfl, rfl, trivial⟩ rfl
            · refine TX.y (listed' := #[true, true, true, true, true, true, true, false, true, true, true, true, false, false, false, false]) [] rfl (Y.load_el (us := [strV E8.Key, .int .i64 E8.Seq, .bool E8.Del, strV E8.Val]) (u := .agg #[strV E8.Key, .int .i64 E8.Seq, .bool E8.Del, strV E8.Val]) kk73 rfl (Can.own 0 rfl) (idx_get H9).2.2 rfl rfl rfl rfl rfl) rfl rfl rfl rfl rfl ?_
              refine TA.one 7 (by kernel_rfl) ?_
              refine TX.y (listed' := #[true, true, true, true, true, true, true, true, true, true, true, true, false, false, false, false]) [] rfl (Y.load_el (us := [strV E6.Key, .int .i64 E6.Seq, .bool E6.Del, strV E6.Val]) (u := .agg #[strV E6.Key, .int .i64 E6.Seq, .bool E6.Del, strV E6.Val]) kk73 rfl (Can.own 0 rfl) (idx_get H7).2.2 rfl rfl rfl rfl rfl) rfl rfl rfl rfl rfl ?_
              refine TA.one 12 (by kernel_rfl) ?_
              refine TX.y (listed' := #[true, true, true, true, true, true, true, true, true, true, true, true, true, false, false, false]) [] rfl (Y.index ke30 (Can.own 0 rfl) H9 rfl rfl) rfl rfl rfl rfl rfl ?_
              refine TA.one 13 (by kernel_rfl) ?_
              refine TX.ef0 (listed' := #[true, true, true, true, true, true, true, true, true, true, true, true, true, true, false, false]) [] rfl (Ef.store_el (us := [strV E6.Key, .int .i64 E6.Seq, .bool E6.Del, strV E6.Val]) (is' := [.own V_s0 (lc (S1.2.2.set S1.1.toNat E6))]) E6 0 kk73 rfl rfl (idx_get H9).2.2 rfl rfl (Cel.plain rfl rfl) rfl rfl rfl rfl) rfl rfl rfl (fun _ => rfl) (fun _ => ?_)
              refine TA.one 14 (by kernel_rfl) ?_
              refine TX.y (listed' := #[true, true, true, true, true, true, true, true, true, true, true, true, true, true, true, false]) [] rfl (Y.index ke30 (Can.own 0 rfl) H11 rfl rfl) rfl rfl rfl rfl rfl ?_
              refine TA.one 15 (by kernel_rfl) ?_
              refine TX.ef0 (listed' := #[true, true, true, true, true, true, true, true, true, true, true, true, true, true, true, true]) [] rfl (Ef.store_el (us := [strV E8.Key, .int .i64 E8.Seq, .bool E8.Del, strV E8.Val]) (is' := [.own V_s0 (lc ((S1.2.2.set S1.1.toNat E6).set S1.2.1.toNat E8))]) E8 0 kk73 rfl rfl (idx_get H11).2.2 rfl rfl (Cel.plain rfl rfl) rfl rfl rfl rfl) rfl rfl rfl (fun _ => rfl) (fun _ => ?_)
              refine TA.nil (by kernel_rfl) ?_
              exact TE.jb_go () [0] ⟨rfl, rfl, rfl, trivial⟩ rfl
        · refine TX.y (listed' := #[true, true, true, true, true, true, false, false, true, true, true, false, false, false, false, false]) [] rfl (Y.index ke30 (Can.own 0 rfl) H9 rfl rfl) rfl rfl rfl rfl rfl ?_
          refine TA.two 6 11 (by kernel_rfl) ?_ ?_
          · refine TX.y (listed' := #[true, true, true, true, true, true, true, false, true, true, true, false, false, false, false, false]) [] rfl (Y.index ke30 (Can.own 0 rfl) H7 rfl rfl) rfl rfl rfl rfl rfl ?_
            refine TA.two 7 11 (by kernel_rfl) ?_ ?_
            · refine TX.y (listed' := #[true, true, true, true, true, true, true, true, true, true, true, false, false, false, false, false]) [] rfl (Y.load_el (us := [strV E6.Key, .int .i64 E6.Seq, .bool E6.Del, strV E6.Val]) (u := .agg #[strV E6.Key, .int .i64 E6.Seq, .bool E6.Del, strV E6.Val]) kk73 rfl (Can.own 0 rfl) (idx_get H7).2.2 rfl rfl rfl rfl rfl) rfl rfl rfl rfl rfl ?_
              refine TA.one 11 (by kernel_rfl) ?_
              refine TX.y (listed' := #[true, true, true, true, true, true, true, true, true, true, true, true, false, false, false, false]) [] rfl (Y.load_el (us := [strV E8.Key, .int .i64 E8.Seq, .bool E8.Del, strV E8.Val]) (u := .agg #[strV E8.Key, .int .i64 E8.Seq, .bool E8.Del, strV E8.Val]) kk73 rfl (Can.own 0 rfl) (idx_get H9).2.2 rfl rfl rfl rfl rfl) rfl rfl rfl rfl rfl ?_
              refine TA.one 12 (by kernel_rfl) ?_
              refine TX.y (listed' := #[true, true, true, true, true, true, true, true, true, true, true, true, true, false, false, false]) [] rfl (Y.index ke30 (Can.own 0 rfl) H9 rfl rfl) rfl rfl rfl rfl rfl ?_
              refine TA.one 13 (by kernel_rfl) ?_
              refine TX.ef0 (listed' := #[true, true, true, true, true, true, true, true, true, true, true, true, true, true, false, false]) [] rfl (Ef.store_el (us := [strV E6.Key, .int .i64 E6.Seq, .bool E6.Del, strV E6.Val]) (is' := [.own V_s0 (lc (S1.2.2.set S1.1.toNat E6))]) E6 0 kk73 rfl rfl (idx_get H9).2.2 rfl rfl (Cel.plain rfl rfl) rfl rfl rfl rfl) rfl rfl rfl (fun _ => rfl) (fun _ => ?_)
              refine TA.one 14 (by kernel_rfl) ?_
              refine TX.y (listed' := #[true, true, true, true, true, true, true, true, true, true, true, true, true, true, true, false]) [] rfl (Y.index ke30 (Can.own 0 rfl) H11 rfl rfl) rfl rfl rfl rfl rfl ?_
              refine TA.one 15 (by kernel_rfl) ?_
              refine TX.ef0 (listed' := #[true, true, true, true, true, true, true, true, true, true, true, true, true, true, true, true]) [] rfl (Ef.store_el (us := [strV E8.Key, .int .i64 E8.Seq, .bool E8.Del, strV E8.Val]) (is' := [.own V_s0 (lc ((S1.2.2.set S1.1.toNat E6).set S1.2.1.toNat E8))]) E8 0 kk73 rfl rfl (idx_get H11).2.2 rfl rfl (Cel.plain rfl rfl) rfl rfl rfl rfl) rfl rfl rfl (fun _ => rfl) (fun _ => ?_)
              refine TA.nil (by kernel_rfl) ?_
              exact TE.jb_go () [0] ⟨rfl, rfl, rfl, trivial⟩ rfl
            · refine TX.y (listed' := #[true, true, true, true, true, true, true, false, true, true, true, true, false, false, false, false]) [] rfl (Y.load_el (us := [strV E8.Key, .int .i64 E8.Seq, .bool E8.Del, strV E8.Val]) (u := .agg #[strV E8.Key, .int .i64 E8.Seq, .bool E8.Del, strV E8.Val]) kk73 rfl (Can.own 0 rfl) (idx_get H9).2.2 rfl rfl rfl rfl rfl) rfl rfl rfl rfl rfl ?_
              refine TA.one 7 (by kernel_rfl) ?_
              refine TX.y (listed' := #[true, true, true, true, true, true, true, true, true, true, true, true, false, false, false, false]) [] rfl (Y.load_el (us := [strV E6.Key, .int .i64 E6.Seq, .bool E6.Del, strV E6.Val]) (u := .agg #[strV E6.Key, .int .i64 E6.Seq, .bool E6.Del, strV E6.Val]) kk73 rfl (Can.own 0 rfl) (idx_get H7).2.2 rfl rfl rfl rfl rfl) rfl rfl rfl rfl rfl ?_
              refine TA.one 12 (by kernel_rfl) ?_
              refine TX.y (listed' := #[true, true, true, true, true, true, true, true, true, true, true, true, true, false, false, false]) [] rfl (Y.index ke30 (Can.own 0 rfl) H9 rfl rfl) rfl rfl rfl rfl rfl ?_
              refine TA.one 13 (by kernel_rfl) ?_
              refine TX.ef0 (listed' := #[true, true, true, true, true, true, true, true, true, true, true, true, true, true, false, false]) [] rfl (Ef.store_el (us := [strV E6.Key, .int .i64 E6.Seq, .bool E6.Del, strV E6.Val]) (is' := [.own V_s0 (lc (S1.2.2.set S1.1.toNat E6))]) E6 0 kk73 rfl rfl (idx_get H9).2.2 rfl rfl (Cel.plain rfl rfl) rfl rfl rfl rfl) rfl rfl rfl (fun _ => rfl) (fun _ => ?_)
              refine TA.one 14 (by kernel_rfl) ?_
              refine TX.y (listed' := #[true, true, true, true, true, true, true, true, true, true, true, true, true, true, true, false]) [] rfl (Y.index ke30 (Can.own 0 rfl) H11 rfl rfl) rfl rfl rfl rfl rfl ?_
              refine TA.one 15 (by kernel_rfl) ?_
              refine TX.ef0 (listed' := #[true, true, true, true, true, true, true, true, true, true, true, true, true, true, true, true]) [] rfl (Ef.store_el (us := [strV E8.Key, .int .i64 E8.Seq, .bool E8.Del, strV E8.Val]) (is' := [.own V_s0 (lc ((S1.2.2.set S1.1.toNat E6).set S1.2.1.toNat E8))]) E8 0 kk73 rfl rfl (idx_get H11).2.2 rfl rfl (Cel.plain rfl rfl) rfl rfl rfl rfl) rfl rfl rfl (fun _ => rfl) (fun _ => ?_)
              refine TA.nil (by kernel_rfl) ?_
              exact TE.jb_go () [0] ⟨rfl, rfl, rfl, trivial⟩ rfl
          · refine TX.y (listed' := #[true, true, true, true, true, true, false, false, true, true, true, true, false, false, false, false]) [] rfl (Y.load_el (us := [strV E8.Key, .int .i64 E8.Seq, .bool E8.Del, strV E8.Val]) (u := .agg #[strV E8.Key, .int .i64 E8.Seq, .bool E8.Del, strV E8.Val]) kk73 rfl (Can.own 0 rfl) (idx_get H9).2.2 rfl rfl rfl rfl rfl) rfl rfl rfl rfl rfl ?_
            refine TA.one 6 (by kernel_rfl) ?_
            refine TX.y (listed' := #[true, true, true, true, true, true, true, false, true, true, true, true, false, false, false, false]) [] rfl (Y.index ke30 (Can.own 0 rfl) H7 rfl rfl) rfl rfl rfl rfl rfl ?_
            refine TA.one 7 (by kernel_rfl) ?_
            refine TX.y (listed' := #[true, true, true, true, true, true, true, true, true, true, true, true, false, false, false, false]) [] rfl (Y.load_el (us := [strV E6.Key, .int .i64 E6.Seq, .bool E6.Del, strV E6.Val]) (u := .agg #[strV E6.Key, .int .i64 E6.Seq, .bool E6.Del, strV E6.Val]) kk73 rfl (Can.own 0 rfl) (idx_get H7).2.2 rfl rfl rfl rfl rfl) rfl rfl rfl rfl rfl ?_
            refine TA.one 12 (by kernel_rfl) ?_
            refine TX.y (listed' := #[true, true, true, true, true, true, true, true, true, true, true, true, true, false, false, false]) [] rfl (Y.index ke30 (Can.own 0 rfl) H9 rfl rfl) rfl rfl rfl rfl rfl ?_
            refine TA.one 13 (by kernel_rfl) ?_
            refine TX.ef0 (listed' := #[true, true, true, true, true, true, true, true, true, true, true, true, true, true, false, false]) [] rfl (Ef.store_el (us := [strV E6.Key, .int .i64 E6.Seq, .bool E6.Del, strV E6.Val]) (is' := [.own V_s0 (lc (S1.2.2.set S1.1.toNat E6))]) E6 0 kk73 rfl rfl (idx_get H9).2.2 rfl rfl (Cel.plain rfl rfl) rfl rfl rfl rfl) rfl rfl rfl (fun _ => rfl) (fun _ => ?_)
            refine TA.one 14 (by kernel_rfl) ?_
            refine TX.y (listed' := #[true, true, true, true, true, true, true, true, true, true, true, true, true, true, true, false]) [] rfl (Y.index ke30 (Can.own 0 rfl) H11 rfl rfl) rfl rfl rfl rfl rfl ?_
            refine TA.one 15 (by kernel_rfl) ?_
            refine TX.ef0 (listed' := #[true, true, true, true, true, true, true, true, true, true, true, true, true, true, true, true]) [] rfl (Ef.store_el (us := [strV E8.Key, .int .i64 E8.Seq, .bool E8.Del, strV E8.Val]) (is' := [.own V_s0 (lc ((S1.2.2.set S1.1.toNat E6).set S1.2.1.toNat E8))]) E8 0 kk73 rfl rfl (idx_get H11).2.2 rfl rfl (Cel.plain rfl rfl) rfl rfl rfl rfl) rfl rfl rfl (fun _ => rfl) (fun _ => ?_)
            refine TA.nil (by kernel_rfl) ?_
            exact TE.jb_go () [0] ⟨rfl, rfl, rfl, trivial⟩ rfl
      · refine TE.block_normal ?_
        refine TE.next ?_
        refine TW.region ?_
        refine TO.y (Y.move rfl) rfl rfl rfl ?_
        refine TO.y (Y.add rfl rfl) rfl rfl rfl ?_
        refine TO.y (Y.move rfl) rfl rfl rfl ?_
        refine TO.y (Y.sub rfl rfl) rfl rfl rfl ?_
        refine TO.y (Y.assign rfl) rfl rfl rfl ?_
        refine TO.y (Y.assign rfl) rfl rfl rfl ?_
        refine TO.nil ?_
        exact TE.lp_go () [0] ⟨rfl, rfl, rfl, trivial⟩ rfl
    · refine TW.exit ?_
      refine TE.then_exit ?_
      refine TE.lp_exit ?_
      refine TE.block_exit ?_
      exact TE.jn_go () [0] trivial rfl
  · exact TE.leaf fun _ _ hf_ hs_ => ret_any (rs := []) (vs := []) (.inr rfl) rfl trivial hf_ hs_ ⟨(), rfl, hs_.pulls [0] rfl⟩

/-- slices.Insert[[]loop.example/g00950/impl.Ent,loop.example/g00950/impl.Ent] -/
noncomputable def slices_Insert_94167 (s : List Ent) (i : Int) (v : List Ent) : Option (List Ent) := ins 48 s i v

theorem slices_Insert_94167_con (s : List Ent) (i : Int) (v : List Ent) (V_s0 V_v0 : Value) (r : List Ent) (hm : slices_Insert_94167 s i v = some r) :
    Con Try.prog 98 [V_s0, .int .i64 i, V_v0] [.own V_s0 (lc s), .own V_v0 (lc v)] [] (fun X : Value => X) (fun X => [.own X (lc r)]) := by
  refine Con.intro (args := [V_s0, .int .i64 i, V_v0]) (n := 95) (val := fun _ (X : Value) => X) (post := fun r X => [.own X (lc r)]) (m := slices_Insert_94167 s i v) Try.func98 rfl rfl rfl hm ?_
  intro w S _
  unfold slices_Insert_94167
  refine TW.known fun r0 hr0 => ?_
  obtain ⟨h0, h1, h2, h3, rfl⟩ := ins_eq hr0
  obtain ⟨I, rfl⟩ := Int.eq_ofNat_of_zero_le h0
  rw [Int.toNat_natCast]
  have h1n : I ≤ s.length := by omega
  clear hr0 hm
  have wr : ∀ q : Nat, q ≤ 4611686018427387904 → IntKind.i64.wrap (q : Int) = (q : Int) := fun q hq => by rw [IntKind.wrap_i64]; omega
  have wr2 : ∀ a b : Nat, a + b ≤ 4611686018427387904 → IntKind.i64.wrap ((a : Int) + (b : Int)) = ((a + b : Nat) : Int) := fun a b hq => by rw [IntKind.wrap_i64]; omega
  obtain ⟨z0, hpc⟩ : ∃ z, piece s (I : Int) ((s.length : Nat) : Int) = some z := ⟨_, if_pos ⟨by omega, by omega, by omega⟩⟩
  refine TW.seq ?_
  refine TW.region ?_
  refine TO.y (Y.assign rfl) rfl rfl rfl ?_
  refine TO.nil ?_
  refine TE.next ?_
  refine TW.seq ?_
  refine TW.region ?_
  refine TO.y (Y.move rfl) rfl rfl rfl ?_
  refine TO.y (Y.move rfl) rfl rfl rfl ?_
  refine TO.y (Y.subs hpc ke30 (Can.own 0 rfl) rfl ⟨_, rfl⟩ rfl) rfl rfl rfl ?_
  refine TO.nil ?_
  refine TE.next ?_
  refine TW.seq ?_
  refine TW.region ?_
  refine TO.y (Y.move rfl) rfl rfl rfl ?_
  refine TO.y (Y.len (l := v) ke30 (Can.own 1 rfl) rfl) rfl rfl rfl ?_
  refine TO.y (Y.assign rfl) rfl rfl rfl ?_
  refine TO.nil ?_
  refine TE.next ?_
  refine TW.seq ?_
  refine TW.seq ?_
  refine TW.region ?_
  refine TO.y (Y.move rfl) rfl rfl rfl ?_
  refine TO.y (Y.eql rfl rfl) rfl rfl rfl ?_
  refine TO.nil ?_
  refine TE.next ?_
  by_cases hm0 : v = []
  · subst hm0
    rw [show s.take I ++ ([] ++ s.drop I) = s by simp]
    refine TW.cond_t rfl (by simp) ?_
    refine TW.seq ?_
    refine TW.region ?_
    refine TO.y (Y.move rfl) rfl rfl rfl ?_
    refine TO.y (Y.assign rfl) rfl rfl rfl ?_
    refine TO.nil ?_
    refine TE.next ?_
    refine TW.ret ?_
    refine TE.then_ret ?_
    exact TE.leaf fun _ _ hf_ hs_ => ret_any (rs := [.tmp 6]) (vs := [V_s0]) (.inl rfl) rfl ⟨rfl, trivial⟩ hf_ hs_ ⟨V_s0, rfl, hs_.pulls [0] rfl⟩
  · have hm1 : 0 < v.length := List.length_pos_iff.2 hm0
    refine TW.cond_f rfl (decide_eq_false (by omega)) ?_
    refine TW.skip ?_
    refine TE.next ?_
    refine TW.seq ?_
    refine TW.region ?_
    refine TO.y (Y.move rfl) rfl rfl rfl ?_
    refine TO.y (Y.len (l := s) ke30 (Can.own 0 rfl) rfl) rfl rfl rfl ?_
    refine TO.y (Y.assign rfl) rfl rfl rfl ?_
    refine TO.nil ?_
    refine TE.next ?_
    refine TW.seq ?_
    refine TW.seq ?_
    refine TW.region ?_
    refine TO.y (Y.move rfl) rfl rfl rfl ?_
    refine TO.y (Y.move rfl) rfl rfl rfl ?_
    refine TO.y (Y.eql rfl rfl) rfl rfl rfl ?_
    refine TO.nil ?_
    refine TE.next ?_
    by_cases hin : I = s.length
    · have happ : app 48 s v = some (s ++ v) := by unfold app; rw [if_pos ⟨h2, by omega⟩]
      rw [show s.take I ++ (v ++ s.drop I) = s ++ v by rw [hin]; simp]
      refine TW.cond_t rfl (decide_eq_true (by omega)) ?_
      refine TW.seq ?_
      refine TW.region ?_
      refine TO.y (Y.move rfl) rfl rfl rfl ?_
      refine TO.y (Y.move rfl) rfl rfl rfl ?_
      refine TO.ef (Ef.appN (α := Ent) (is' := []) [0, 0] happ ke30 kz73 rfl rfl rfl rfl rfl) rfl rfl rfl (fun X => ?_)
      refine TO.y (Y.assign rfl) rfl rfl rfl ?_
      refine TO.nil ?_
      refine TE.next ?_
      refine TW.ret ?_
      refine TE.then_ret ?_
      exact TE.leaf fun _ _ hf_ hs_ => ret_any (rs := [.tmp 6]) (vs := [X]) (.inl rfl) rfl ⟨rfl, trivial⟩ hf_ hs_ ⟨X, rfl, hs_.pulls [0] rfl⟩
    · refine TW.cond_f rfl (decide_eq_false (by omega)) ?_
      refine TW.skip ?_
      refine TE.next ?_
      refine TW.openRows (α := Ent) (by omega) hm1 ?_
      intro b cap e cur b2 cap2 e2 cur2 hV hU hbb hc1 hc2 hc3 hc4 hl1 hl2 ho1 ho2
      subst hV hU
      have hsz : Enc.sz Ent = 4 := rfl
      rw [hsz] at hl1 hl2 ho1 ho2
      have e1 := wr2 s.length v.length h3
      refine TW.seq ?_
      refine TW.seq ?_
      refine TW.region ?_
      refine TO.y (Y.move rfl) rfl rfl rfl ?_
      refine TO.y (Y.move rfl) rfl rfl rfl ?_
      refine TO.y (Y.add rfl rfl) rfl rfl rfl ?_
      refine TO.y (Y.move rfl) rfl rfl rfl ?_
      refine TO.y (Y.capRaw ke30 rfl) rfl rfl rfl ?_
      refine TO.y (Y.gtr rfl rfl) rfl rfl rfl ?_
      refine TO.nil ?_
      refine TE.next ?_
      by_cases hroom : cap < s.length + v.length
      · refine TW.cond_t rfl (by rw [e1]; exact decide_eq_true (by omega)) ?_
        refine TW.seq ?_
        refine TW.region ?_
        refine TO.y (Y.move rfl) rfl rfl rfl ?_
        refine TO.y (Y.move rfl) rfl rfl rfl ?_
        refine TO.y (Y.toRaw (hi := I) ke30 (by omega) rfl rfl rfl) rfl rfl rfl ?_
        refine TO.y (Y.move rfl) rfl rfl rfl ?_
        refine TO.y (Y.move rfl) rfl rfl rfl ?_
        refine TO.y (Y.add rfl rfl) rfl rfl rfl ?_
        refine TO.y (Y.move rfl) rfl rfl rfl ?_
        refine TO.y (Y.sub rfl rfl) rfl rfl rfl ?_
        have e2 : IntKind.i64.wrap (IntKind.i64.wrap ((s.length : Int) + (v.length : Int)) - (I : Int)) = ((s.length + v.length - I : Nat) : Int) := by rw [e1, IntKind.wrap_i64]; omega
        refine TO.ef (Ef.rawGrow (N := s.length + v.length) (q := s.length + v.length - I) 0 ke30 ki3 kz73 rfl rfl rfl rfl rfl e2 (by omega) (by omega) hl1 (by omega) hroom (by omega) h2) rfl rfl rfl (fun X => ?_)
        refine TO.y (Y.assign rfl) rfl rfl rfl ?_
        refine TO.nil ?_
        refine TE.next ?_
        obtain ⟨⟨⟨g, gc⟩, ge, zs⟩, hz1, hz2, hz3⟩ := X
        dsimp only at hz1 hz2 hz3 ⊢
        obtain ⟨q1, q2, q3, q4, q5, q6⟩ := insA (G := gc) (zs := zs) h1n hc1 hc3 hl1 hl2 hz1 hz2
        have m1 : 0 + I * 4 + v.length * 4 ≤ gc * 4 := by omega
        have m2 : 0 + (I + v.length) * 4 + (s.length - I) * 4 ≤ gc * 4 := by omega
        have m3 : 0 + v.length * 4 ≤ cap2 * 4 := by omega
        have m4 : 0 + I * 4 + (s.length - I) * 4 ≤ cap * 4 := by omega
        refine TW.seq ?_
        refine TW.region ?_
        refine TO.y (Y.move rfl) rfl rfl rfl ?_
        refine TO.y (Y.move rfl) rfl rfl rfl ?_
        refine TO.y (Y.fromRaw (lo := I) ke30 (by omega) (by omega) rfl rfl rfl) rfl rfl rfl ?_
        refine TO.y (Y.move rfl) rfl rfl rfl ?_
        refine TO.ef (Ef.rawCopy (sl := v.length) 0 2 ke30 rfl rfl rfl rfl (by omega) (by rw [q3]; exact m1) (by rw [hl2]; exact m3) (by rw [List.drop_zero]; exact ho2) rfl) rfl rfl rfl (fun _ => ?_)
        refine TO.nil ?_
        refine TE.next ?_
        refine TW.seq ?_
        refine TW.draw (isH := []) hMix ?_
        refine TA.y (listed' := #[true, false, false, false, false, false, false, false, false]) 0 [] rfl (Y.move rfl) rfl rfl rfl (by kernel_rfl) (by kernel_rfl) (by kernel_rfl) rfl rfl ?_
        refine TA.y (listed' := #[true, true, false, false, false, false, false, false, false]) 1 [] rfl (Y.move rfl) rfl rfl rfl (by kernel_rfl) (by kernel_rfl) (by kernel_rfl) rfl rfl ?_
        refine TA.y (listed' := #[true, true, true, false, false, false, false, false, false]) 2 [] rfl (Y.move rfl) rfl rfl rfl (by kernel_rfl) (by kernel_rfl) (by kernel_rfl) rfl rfl ?_
        refine TA.y (listed' := #[true, true, true, true, false, false, false, false, false]) 3 [] rfl (Y.add rfl rfl) rfl rfl rfl (by kernel_rfl) (by kernel_rfl) (by kernel_rfl) rfl rfl ?_
        refine TA.y (listed' := #[true, true, true, true, true, false, false, false, false]) 4 [] rfl (Y.fromRaw (lo := I + v.length) ke30 (by omega) (by omega) (wr2 I v.length (by omega)) rfl rfl) rfl rfl rfl (by kernel_rfl) (by kernel_rfl) (by kernel_rfl) rfl rfl ?_
        refine TA.y (listed' := #[true, true, true, true, true, true, false, false, false]) 5 [] rfl (Y.move rfl) rfl rfl rfl (by kernel_rfl) (by kernel_rfl) (by kernel_rfl) rfl rfl ?_
        refine TA.y (listed' := #[true, true, true, true, true, true, true, false, false]) 6 [] rfl (Y.move rfl) rfl rfl rfl (by kernel_rfl) (by kernel_rfl) (by kernel_rfl) rfl rfl ?_
        refine TA.y (listed' := #[true, true, true, true, true, true, true, true, false]) 7 [] rfl (Y.fromRaw (lo := I) ke30 (by omega) (by omega) rfl rfl rfl) rfl rfl rfl (by kernel_rfl) (by kernel_rfl) (by kernel_rfl) rfl rfl ?_
        refine TA.one 8 (by kernel_rfl) ?_
        refine TX.ef (listed' := #[true, true, true, true, true, true, true, true, true]) [] rfl (Ef.rawCopy (sl := s.length - I) 0 1 ke30 rfl rfl rfl rfl (by omega) (by rw [q4]; exact m2) (by rw [hl1]; exact m4) (ins_one ho1 h1n) rfl) rfl rfl rfl rfl (fun _ => rfl) (fun _ => ?_)
        refine TA.nil (by kernel_rfl) ?_
        refine TE.next ?_
        refine TW.seq ?_
        refine TW.region ?_
        refine TO.y (Y.move rfl) rfl rfl rfl ?_
        refine TO.y (Y.assign rfl) rfl rfl rfl ?_
        refine TO.nil ?_
        refine TE.next ?_
        refine TW.ret ?_
        refine TE.then_ret ?_
        refine TE.ghost (Gh.fold (α := Ent) (l := s) (k := v) (i := I) [0, 2, 2, 0, 0] rfl h1n hz2 hz3 q5 q6) (fun _ => ?_)
        exact TE.leaf fun _ _ hf_ hs_ => ret_any (rs := [.tmp 6]) (vs := [.slice (some ⟨g, 0, none⟩) (s.length + v.length) gc]) (.inl rfl) rfl ⟨rfl, trivial⟩ hf_ hs_ ⟨(.slice (some ⟨g, 0, none⟩) (s.length + v.length) gc), rfl, hs_.pulls [0] rfl⟩
      · refine TW.cond_f rfl (by rw [e1]; exact decide_eq_false (by omega)) ?_
        refine TW.skip ?_
        refine TE.next ?_
        refine TW.seq ?_
        refine TW.region ?_
        refine TO.y (Y.move rfl) rfl rfl rfl ?_
        refine TO.y (Y.move rfl) rfl rfl rfl ?_
        refine TO.y (Y.move rfl) rfl rfl rfl ?_
        refine TO.y (Y.add rfl rfl) rfl rfl rfl ?_
        refine TO.y (Y.toRaw (hi := s.length + v.length) ke30 (by omega) e1 rfl rfl) rfl rfl rfl ?_
        refine TO.y (Y.assign rfl) rfl rfl rfl ?_
        refine TO.nil ?_
        refine TE.next ?_
        obtain ⟨q1, q2, q3, q4, q5⟩ := insB h1n (by omega) hc3 hl1 hl2
        have m1 : 0 + I * 4 + v.length * 4 ≤ cap * 4 := by omega
        have m2 : 0 + (I + v.length) * 4 + (s.length - I) * 4 ≤ cap * 4 := by omega
        have m3 : 0 + v.length * 4 ≤ cap2 * 4 := by omega
        have m4 : 0 + I * 4 + (s.length - I) * 4 ≤ cap * 4 := by omega
        have hne : cur ≠ [] := by intro e; rw [e] at hl1; simp at hl1; omega
        refine TW.seq ?_
        refine TW.seq ?_
        refine TW.region ?_
        refine TO.y (Y.move rfl) rfl rfl rfl ?_
        refine TO.y (Y.move rfl) rfl rfl rfl ?_
        refine TO.y (Y.move rfl) rfl rfl rfl ?_
        refine TO.y (Y.move rfl) rfl rfl rfl ?_
        refine TO.y (Y.add rfl rfl) rfl rfl rfl ?_
        refine TO.y (Y.fromRaw (lo := I + v.length) ke30 (by omega) (by omega) (wr2 I v.length (by omega)) rfl rfl) rfl rfl rfl ?_
        refine TO.ef (Ef.overlaps (tr := 4) 1 0 Try.func107 (by kernel_rfl) (by kernel_rfl) (by kernel_rfl) (by kernel_rfl) ke30 rfl rfl (Ne.symm hbb) rfl rfl hne) rfl rfl rfl (fun _ => ?_)
        refine TO.y (Y.not rfl) rfl rfl rfl ?_
        refine TO.nil ?_
        refine TE.next ?_
        refine TW.cond_true rfl ?_
        refine TW.seq ?_
        refine TW.draw (isH := []) hMix ?_
        refine TA.y (listed' := #[true, false, false, false, false, false, false, false, false]) 0 [] rfl (Y.move rfl) rfl rfl rfl (by kernel_rfl) (by kernel_rfl) (by kernel_rfl) rfl rfl ?_
        refine TA.y (listed' := #[true, true, false, false, false, false, false, false, false]) 1 [] rfl (Y.move rfl) rfl rfl rfl (by kernel_rfl) (by kernel_rfl) (by kernel_rfl) rfl rfl ?_
        refine TA.y (listed' := #[true, true, true, false, false, false, false, false, false]) 2 [] rfl (Y.move rfl) rfl rfl rfl (by kernel_rfl) (by kernel_rfl) (by kernel_rfl) rfl rfl ?_
        refine TA.y (listed' := #[true, true, true, true, false, false, false, false, false]) 3 [] rfl (Y.add rfl rfl) rfl rfl rfl (by kernel_rfl) (by kernel_rfl) (by kernel_rfl) rfl rfl ?_
        refine TA.y (listed' := #[true, true, true, true, true, false, false, false, false]) 4 [] rfl (Y.fromRaw (lo := I + v.length) ke30 (by omega) (by omega) (wr2 I v.length (by omega)) rfl rfl) rfl rfl rfl (by kernel_rfl) (by kernel_rfl) (by kernel_rfl) rfl rfl ?_
        refine TA.y (listed' := #[true, true, true, true, true, true, false, false, false]) 5 [] rfl (Y.move rfl) rfl rfl rfl (by kernel_rfl) (by kernel_rfl) (by kernel_rfl) rfl rfl ?_
        refine TA.y (listed' := #[true, true, true, true, true, true, true, false, false]) 6 [] rfl (Y.move rfl) rfl rfl rfl (by kernel_rfl) (by kernel_rfl) (by kernel_rfl) rfl rfl ?_
        refine TA.y (listed' := #[true, true, true, true, true, true, true, true, false]) 7 [] rfl (Y.fromRaw (lo := I) ke30 (by omega) (by omega) rfl rfl rfl) rfl rfl rfl (by kernel_rfl) (by kernel_rfl) (by kernel_rfl) rfl rfl ?_
        refine TA.one 8 (by kernel_rfl) ?_
        refine TX.ef (listed' := #[true, true, true, true, true, true, true, true, true]) [] rfl (Ef.rawCopy (sl := s.length - I) 0 0 ke30 rfl rfl rfl rfl (by omega) (by rw [hl1]; exact m2) (by rw [hl1]; exact m4) (ins_one ho1 h1n) rfl) rfl rfl rfl rfl (fun _ => rfl) (fun _ => ?_)
        refine TA.nil (by kernel_rfl) ?_
        refine TE.next ?_
        refine TW.seq ?_
        refine TW.region ?_
        refine TO.y (Y.move rfl) rfl rfl rfl ?_
        refine TO.y (Y.move rfl) rfl rfl rfl ?_
        refine TO.y (Y.fromRaw (lo := I) ke30 (by omega) (by omega) rfl rfl rfl) rfl rfl rfl ?_
        refine TO.y (Y.move rfl) rfl rfl rfl ?_
        refine TO.ef (Ef.rawCopy (sl := v.length) 0 1 ke30 rfl rfl rfl rfl (by omega) (by rw [q3]; exact m1) (by rw [hl2]; exact m3) (by rw [List.drop_zero]; exact ho2) rfl) rfl rfl rfl (fun _ => ?_)
        refine TO.nil ?_
        refine TE.next ?_
        refine TW.seq ?_
        refine TW.region ?_
        refine TO.y (Y.move rfl) rfl rfl rfl ?_
        refine TO.y (Y.assign rfl) rfl rfl rfl ?_
        refine TO.nil ?_
        refine TE.next ?_
        refine TW.ret ?_
        refine TE.then_ret ?_
        refine TE.ghost (Gh.fold (α := Ent) (l := s) (k := v) (i := I) [0, 1, 1, 0] rfl h1n (by omega) hc2 q4 q5) (fun _ => ?_)
        exact TE.leaf fun _ _ hf_ hs_ => ret_any (rs := [.tmp 6]) (vs := [.slice (some ⟨b, 0, none⟩) (s.length + v.length) cap]) (.inl rfl) rfl ⟨rfl, trivial⟩ hf_ hs_ ⟨(.slice (some ⟨b, 0, none⟩) (s.length + v.length) cap), rfl, hs_.pulls [0] rfl⟩

/-- slices.BinarySearchFunc[[]loop.example/g00950/impl.Ent,loop.example/g00950/impl.Ent,loop.example/g00950/impl.Ent] -/
noncomputable def slices_BinarySearchFunc_39542_at_impl_compareEnts (x : List Ent) (target : Ent) : Option (Int × Bool) :=
  bindC (loopO (fun (S2 : Int × Int) => if (decide (S2.1 < S2.2)) = true then ((idx x (IntKind.i64.wrap (ishr .u64 (IntKind.u64.wrap (IntKind.i64.wrap (S2.1 + S2.2))) (1 : Int)))).bind fun E7 =>
  (impl_compareEnts E7 target).bind fun R9 =>
  bindC (if (decide (R9 < (0 : Int))) = true then (some (.go (IntKind.i64.wrap (IntKind.i64.wrap (ishr .u64 (IntKind.u64.wrap (IntKind.i64.wrap (S2.1 + S2.2))) (1 : Int)) + (1 : Int)), S2.2)))
  else (some (.go (S2.1, IntKind.i64.wrap (ishr .u64 (IntKind.u64.wrap (IntKind.i64.wrap (S2.1 + S2.2))) (1 : Int))))))
  (fun (T12 : Int × Int) => some (.go (T12.1, T12.2))))
  else (some (.done (.go S2.1))))
  ((0 : Int), ((x.length : Nat) : Int)))
  (fun (T4 : Int) => (if (decide (T4 < ((x.length : Nat) : Int))) = true then ((idx x T4).bind fun E18 =>
  (impl_compareEnts E18 target).bind fun R20 =>
  some (decide (R20 = (0 : Int))))
  else (some false)).bind (fun (T15 : Bool) =>
  some (T4, T15)))

theorem slices_BinarySearchFunc_39542_at_impl_compareEnts_con (x : List Ent) (target : Ent) (V_x0 : Value) (r : Int × Bool) (hm : slices_BinarySearchFunc_39542_at_impl_compareEnts x target = some r) :
    Con Try.prog 96 [V_x0, .agg #[strV target.Key, .int .i64 target.Seq, .bool target.Del, strV target.Val], .func (.func 97) #[] #[]] [] [(V_x0, lc x)] (fun _ : Unit => .tuple #[.int .i64 r.1, .bool r.2]) (fun _ => []) := by
  refine Con.intro (args := [V_x0, .agg #[strV target.Key, .int .i64 target.Seq, .bool target.Del, strV target.Val], .func (.func 97) #[] #[]]) (n := 49) (val := fun r (_ : Unit) => .tuple #[.int .i64 r.1, .bool r.2]) (post := fun _ _ => []) (m := slices_BinarySearchFunc_39542_at_impl_compareEnts x target) Try.func96 rfl rfl rfl hm ?_
  intro w S hrd
  have HB_V_x0 := hrd _ (.head _)
  clear hrd
  unfold slices_BinarySearchFunc_39542_at_impl_compareEnts
  refine TW.seq ?_
  refine TW.region ?_
  refine TO.ef (Ef.box rfl (Cel.plain rfl rfl)) rfl rfl rfl (fun B1 => ?_)
  refine TO.y (Y.assign rfl) rfl rfl rfl ?_
  refine TO.y (Y.assign rfl) rfl rfl rfl ?_
  refine TO.nil ?_
  refine TE.next ?_
  refine TW.seq ?_
  refine TW.region ?_
  refine TO.y (Y.move rfl) rfl rfl rfl ?_
  refine TO.y (Y.len (l := x) ke30 (Base.can HB_V_x0) rfl) rfl rfl rfl ?_
  refine TO.y (Y.assign rfl) rfl rfl rfl ?_
  refine TO.nil ?_
  refine TE.next ?_
  refine TW.seq ?_
  refine TW.region ?_
  refine TO.y (Y.move rfl) rfl rfl rfl ?_
  refine TO.y (Y.assign rfl) rfl rfl rfl ?_
  refine TO.y (Y.assign rfl) rfl rfl rfl ?_
  refine TO.nil ?_
  refine TE.next ?_
  refine TW.seq ?_
  refine TW.joinX (τ := Int) (X := Unit) (fun T _ => [(0, V_x0), (2, .func (.func 97) #[] #[]), (4, .pointer (some ⟨B1, 0, none⟩)), (8, .int .i64 ((x.length : Nat) : Int)), (9, .int .i64 T)]) (fun _ _ => [.box B1 73 [strV target.Key, .int .i64 target.Seq, .bool target.Del, strV target.Val]]) ?_ (fun T4 X5 => ?_)
  · refine TW.block ?_
    refine TW.loopX (σ := Int × Int) (X := Unit) (fun T _ => [(0, V_x0), (2, .func (.func 97) #[] #[]), (4, .pointer (some ⟨B1, 0, none⟩)), (8, .int .i64 ((x.length : Nat) : Int)), (9, .int .i64 T.1), (10, .int .i64 T.2)]) (fun _ _ => [.box B1 73 [strV target.Key, .int .i64 target.Seq, .bool target.Del, strV target.Val]]) () [0] ⟨rfl, rfl, rfl, rfl, rfl, rfl, trivial⟩ rfl (fun S2 X3 => ?_)
    refine TW.seq ?_
    refine TW.seq ?_
    refine TW.region ?_
    refine TO.y (Y.move rfl) rfl rfl rfl ?_
    refine TO.y (Y.move rfl) rfl rfl rfl ?_
    refine TO.y (Y.lss rfl rfl) rfl rfl rfl ?_
    refine TO.nil ?_
    refine TE.next ?_
    refine TW.cond rfl (fun H6 => ?_) (fun H6 => ?_)
    · refine TW.skip ?_
      refine TE.next ?_
      refine TW.block ?_
      refine TW.seq ?_
      refine TW.region ?_
      refine TO.y (Y.move rfl) rfl rfl rfl ?_
      refine TO.y (Y.move rfl) rfl rfl rfl ?_
      refine TO.y (Y.add rfl rfl) rfl rfl rfl ?_
      refine TO.y (Y.conv ki3 ki128 rfl) rfl rfl rfl ?_
      refine TO.y (Y.shr (by decide) rfl rfl) rfl rfl rfl ?_
      refine TO.y (Y.conv ki128 ki3 rfl) rfl rfl rfl ?_
      refine TO.y (Y.assign rfl) rfl rfl rfl ?_
      refine TO.nil ?_
      refine TE.next ?_
      refine TW.seq ?_
      refine TW.draw (isH := [.box B1 73 [strV target.Key, .int .i64 target.Seq, .bool target.Del, strV target.Val]]) hMix ?_
      refine TA.y (listed' := #[true, false, false, false, false, false, false, false]) 0 [0] rfl (Y.move rfl) rfl rfl rfl (by kernel_rfl) (by kernel_rfl) (by kernel_rfl) rfl rfl ?_
      refine TA.y (listed' := #[true, true, false, false, false, false, false, false]) 1 [0] rfl (Y.move rfl) rfl rfl rfl (by kernel_rfl) (by kernel_rfl) (by kernel_rfl) rfl rfl ?_
      refine TA.y (listed' := #[true, true, true, false, false, false, false, false]) 2 [0] rfl (Y.move rfl) rfl rfl rfl (by kernel_rfl) (by kernel_rfl) (by kernel_rfl) rfl rfl ?_
      refine TA.bind fun E7 H8 => ?_
      refine TA.y (listed' := #[true, true, true, true, false, false, false, false]) 3 [0] rfl (Y.index ke30 (Base.can HB_V_x0) H8 rfl rfl) rfl rfl rfl (by kernel_rfl) (by kernel_rfl) (by kernel_rfl) rfl rfl ?_
      refine TA.y (listed' := #[true, true, true, true, true, false, false, false]) 4 [0] rfl (Y.load_el (us := [strV E7.Key, .int .i64 E7.Seq, .bool E7.Del, strV E7.Val]) (u := .agg #[strV E7.Key, .int .i64 E7.Seq, .bool E7.Del, strV E7.Val]) kk73 rfl (Base.can HB_V_x0) (idx_get H8).2.2 rfl rfl rfl rfl rfl) rfl rfl rfl (by kernel_rfl) (by kernel_rfl) (by kernel_rfl) rfl rfl ?_
      refine TA.y (listed' := #[true, true, true, true, true, true, false, false]) 5 [0] rfl (Y.load_box (v := .agg #[strV target.Key, .int .i64 target.Seq, .bool target.Del, strV target.Val]) 0 kk73 rfl rfl rfl) rfl rfl rfl (by kernel_rfl) (by kernel_rfl) (by kernel_rfl) rfl rfl ?_
      refine TA.bind fun R9 H10 => ?_
      refine TA.one 6 (by kernel_rfl) ?_
      refine TX.ef (listed' := #[true, true, true, true, true, true, true, false]) [0] rfl (Ef.callv (rest := [.box B1 73 [strV target.Key, .int .i64 target.Seq, .bool target.Del, strV target.Val]]) [0] (impl_compareEnts_con E7 target  R9 H10) kc97 rfl rfl rfl rfl trivial) rfl rfl rfl rfl (fun _ => rfl) (fun _ => ?_)
      refine TA.y (listed' := #[true, true, true, true, true, true, true, true]) 7 [0] rfl (Y.lss rfl rfl) rfl rfl rfl (by kernel_rfl) (by kernel_rfl) (by kernel_rfl) rfl rfl ?_
      refine TA.nil (by kernel_rfl) ?_
      refine TE.next ?_
      refine TW.joinX (τ := Int × Int) (X := Unit) (fun T _ => [(0, V_x0), (2, .func (.func 97) #[] #[]), (4, .pointer (some ⟨B1, 0, none⟩)), (8, .int .i64 ((x.length : Nat) : Int)), (9, .int .i64 T.1), (10, .int .i64 T.2)]) (fun _ _ => [.box B1 73 [strV target.Key, .int .i64 target.Seq, .bool target.Del, strV target.Val]]) ?_ (fun T12 X13 => ?_)
      · refine TW.cond rfl (fun H14 => ?_) (fun H14 => ?_)
        · refine TW.region ?_
          refine TO.y (Y.move rfl) rfl rfl rfl ?_
          refine TO.y (Y.add rfl rfl) rfl rfl rfl ?_
          refine TO.y (Y.assign rfl) rfl rfl rfl ?_
          refine TO.nil ?_
          exact TE.jn_go () [0] ⟨rfl, rfl, rfl, rfl, rfl, rfl, trivial⟩ rfl
        · refine TW.region ?_
          refine TO.y (Y.move rfl) rfl rfl rfl ?_
          refine TO.y (Y.assign rfl) rfl rfl rfl ?_
          refine TO.nil ?_
          exact TE.jn_go () [0] ⟨rfl, rfl, rfl, rfl, rfl, rfl, trivial⟩ rfl
      · refine TE.block_normal ?_
        exact TE.lp_go () [0] ⟨rfl, rfl, rfl, rfl, rfl, rfl, trivial⟩ rfl
    · refine TW.exit ?_
      refine TE.then_exit ?_
      refine TE.lp_exit ?_
      refine TE.block_exit ?_
      exact TE.jn_go () [0] ⟨rfl, rfl, rfl, rfl, rfl, trivial⟩ rfl
  · refine TE.next ?_
    refine TW.seq ?_
    refine TW.joinBX (τ := Bool) (X := Unit) (fun T _ => [(6, .int .i64 T4), (7, .bool T)]) (fun _ _ => []) ?_ (fun T15 X16 => ?_)
    · refine TW.draw (isH := [.box B1 73 [strV target.Key, .int .i64 target.Seq, .bool target.Del, strV target.Val]]) hMix ?_
      refine TA.y (listed' := #[true, false, false, false, false, false, false, false, false, false, false, false, false, false, false, false]) 0 [0] rfl (Y.move rfl) rfl rfl rfl (by kernel_rfl) (by kernel_rfl) (by kernel_rfl) rfl rfl ?_
      refine TA.y (listed' := #[true, true, false, false, false, false, false, false, false, false, false, false, false, false, false, false]) 1 [0] rfl (Y.move rfl) rfl rfl rfl (by kernel_rfl) (by kernel_rfl) (by kernel_rfl) rfl rfl ?_
      refine TA.y (listed' := #[true, true, true, false, false, false, false, false, false, false, false, false, false, false, false, false]) 2 [0] rfl (Y.move rfl) rfl rfl rfl (by kernel_rfl) (by kernel_rfl) (by kernel_rfl) rfl rfl ?_
      refine TA.y (listed' := #[true, true, true, true, false, false, false, false, false, false, false, false, false, false, false, false]) 3 [0] rfl (Y.lss rfl rfl) rfl rfl rfl (by kernel_rfl) (by kernel_rfl) (by kernel_rfl) rfl rfl ?_
      refine TA.y (listed' := #[true, true, true, true, true, false, false, false, false, false, false, false, false, false, false, false]) 4 [0] rfl (Y.move rfl) rfl rfl rfl (by kernel_rfl) (by kernel_rfl) (by kernel_rfl) rfl rfl ?_
      refine TA.ite (b := decide (T4 < ((x.length : Nat) : Int))) (fun H17 => ?_) (fun H17 => ?_)
      · refine TA.y (listed' := #[true, true, true, true, true, true, false, false, false, false, false, false, false, false, false, false]) 5 [0] rfl (Y.move rfl) (Gd.at 4 true 39 (decide (T4 < ((x.length : Nat) : Int))) rfl rfl rfl (beq_tt H17)) rfl rfl (by kernel_rfl) (by kernel_rfl) (by kernel_rfl) rfl rfl ?_
        refine TA.y (listed' := #[true, true, true, true, true, true, true, false, false, false, false, false, false, false, false, false]) 6 [0] rfl (Y.move rfl) (Gd.at 4 true 39 (decide (T4 < ((x.length : Nat) : Int))) rfl rfl rfl (beq_tt H17)) rfl rfl (by kernel_rfl) (by kernel_rfl) (by kernel_rfl) rfl rfl ?_
        refine TA.y (listed' := #[true, true, true, true, true, true, true, true, false, false, false, false, false, false, false, false]) 7 [0] rfl (Y.move rfl) (Gd.at 4 true 39 (decide (T4 < ((x.length : Nat) : Int))) rfl rfl rfl (beq_tt H17)) rfl rfl (by kernel_rfl) (by kernel_rfl) (by kernel_rfl) rfl rfl ?_
        refine TA.bind fun E18 H19 => ?_
        refine TA.y (listed' := #[true, true, true, true, true, true, true, true, true, false, false, false, false, false, false, false]) 8 [0] rfl (Y.index ke30 (Base.can HB_V_x0) H19 rfl rfl) (Gd.at 4 true 39 (decide (T4 < ((x.length : Nat) : Int))) rfl rfl rfl (beq_tt H17)) rfl rfl (by kernel_rfl) (by kernel_rfl) (by kernel_rfl) rfl rfl ?_
        refine TA.y (listed' := #[true, true, true, true, true, true, true, true, true, true, false, false, false, false, false, false]) 9 [0] rfl (Y.load_el (us := [strV E18.Key, .int .i64 E18.Seq, .bool E18.Del, strV E18.Val]) (u := .agg #[strV E18.Key, .int .i64 E18.Seq, .bool E18.Del, strV E18.Val]) kk73 rfl (Base.can HB_V_x0) (idx_get H19).2.2 rfl rfl rfl rfl rfl) (Gd.at 4 true 39 (decide (T4 < ((x.length : Nat) : Int))) rfl rfl rfl (beq_tt H17)) rfl rfl (by kernel_rfl) (by kernel_rfl) (by kernel_rfl) rfl rfl ?_
        refine TA.y (listed' := #[true, true, true, true, true, true, true, true, true, true, true, false, false, false, false, false]) 10 [0] rfl (Y.load_box (v := .agg #[strV target.Key, .int .i64 target.Seq, .bool target.Del, strV target.Val]) 0 kk73 rfl rfl rfl) (Gd.at 4 true 39 (decide (T4 < ((x.length : Nat) : Int))) rfl rfl rfl (beq_tt H17)) rfl rfl (by kernel_rfl) (by kernel_rfl) (by kernel_rfl) rfl rfl ?_
        refine TA.bind fun R20 H21 => ?_
        refine TA.one 11 (by kernel_rfl) ?_
        refine TX.ef (listed' := #[true, true, true, true, true, true, true, true, true, true, true, true, false, false, false, false]) [0] rfl (Ef.callv (rest := [.box B1 73 [strV target.Key, .int .i64 target.Seq, .bool target.Del, strV target.Val]]) [0] (impl_compareEnts_con E18 target  R20 H21) kc97 rfl rfl rfl rfl trivial) (Gd.at 4 true 39 (decide (T4 < ((x.length : Nat) : Int))) rfl rfl rfl (beq_tt H17)) rfl rfl rfl (fun _ => rfl) (fun _ => ?_)
        refine TA.y (listed' := #[true, true, true, true, true, true, true, true, true, true, true, true, true, false, false, false]) 12 [0] rfl (Y.eql rfl rfl) (Gd.at 4 true 39 (decide (T4 < ((x.length : Nat) : Int))) rfl rfl rfl (beq_tt H17)) rfl rfl (by kernel_rfl) (by kernel_rfl) (by kernel_rfl) rfl rfl ?_
        refine TA.y (listed' := #[true, true, true, true, true, true, true, true, true, true, true, true, true, true, false, false]) 13 [0] rfl (Y.pick_t H17 rfl rfl) rfl rfl rfl (by kernel_rfl) (by kernel_rfl) (by kernel_rfl) rfl rfl ?_
        refine TA.y (listed' := #[true, true, true, true, true, true, true, true, true, true, true, true, true, true, true, false]) 14 [0] rfl (Y.assign rfl) rfl rfl rfl (by kernel_rfl) (by kernel_rfl) (by kernel_rfl) rfl rfl ?_
        refine TA.y (listed' := #[true, true, true, true, true, true, true, true, true, true, true, true, true, true, true, true]) 15 [0] rfl (Y.assign rfl) rfl rfl rfl (by kernel_rfl) (by kernel_rfl) (by kernel_rfl) rfl rfl ?_
        refine TA.nil (by kernel_rfl) ?_
        exact TE.jb_go () [] ⟨rfl, rfl, trivial⟩ rfl
      · refine TA.off (listed' := #[true, true, true, true, true, true, false, false, false, false, false, false, false, false, false, false]) 5 [0] rfl (Gd.at 4 true 39 (decide (T4 < ((x.length : Nat) : Int))) rfl rfl rfl (beq_ft H17)) rfl rfl (by kernel_rfl) (by kernel_rfl) (by kernel_rfl) rfl rfl ?_
        refine TA.off (listed' := #[true, true, true, true, true, true, true, false, false, false, false, false, false, false, false, false]) 6 [0] rfl (Gd.at 4 true 39 (decide (T4 < ((x.length : Nat) : Int))) rfl rfl rfl (beq_ft H17)) rfl rfl (by kernel_rfl) (by kernel_rfl) (by kernel_rfl) rfl rfl ?_
        refine TA.off (listed' := #[true, true, true, true, true, true, true, true, false, false, false, false, false, false, false, false]) 7 [0] rfl (Gd.at 4 true 39 (decide (T4 < ((x.length : Nat) : Int))) rfl rfl rfl (beq_ft H17)) rfl rfl (by kernel_rfl) (by kernel_rfl) (by kernel_rfl) rfl rfl ?_
        refine TA.off (listed' := #[true, true, true, true, true, true, true, true, true, false, false, false, false, false, false, false]) 8 [0] rfl (Gd.at 4 true 39 (decide (T4 < ((x.length : Nat) : Int))) rfl rfl rfl (beq_ft H17)) rfl rfl (by kernel_rfl) (by kernel_rfl) (by kernel_rfl) rfl rfl ?_
        refine TA.off (listed' := #[true, true, true, true, true, true, true, true, true, true, false, false, false, false, false, false]) 9 [0] rfl (Gd.at 4 true 39 (decide (T4 < ((x.length : Nat) : Int))) rfl rfl rfl (beq_ft H17)) rfl rfl (by kernel_rfl) (by kernel_rfl) (by kernel_rfl) rfl rfl ?_
        refine TA.off (listed' := #[true, true, true, true, true, true, true, true, true, true, true, false, false, false, false, false]) 10 [0] rfl (Gd.at 4 true 39 (decide (T4 < ((x.length : Nat) : Int))) rfl rfl rfl (beq_ft H17)) rfl rfl (by kernel_rfl) (by kernel_rfl) (by kernel_rfl) rfl rfl ?_
        refine TA.off (listed' := #[true, true, true, true, true, true, true, true, true, true, true, true, false, false, false, false]) 11 [0] rfl (Gd.at 4 true 39 (decide (T4 < ((x.length : Nat) : Int))) rfl rfl rfl (beq_ft H17)) rfl rfl (by kernel_rfl) (by kernel_rfl) (by kernel_rfl) rfl rfl ?_
        refine TA.off (listed' := #[true, true, true, true, true, true, true, true, true, true, true, true, true, false, false, false]) 12 [0] rfl (Gd.at 4 true 39 (decide (T4 < ((x.length : Nat) : Int))) rfl rfl rfl (beq_ft H17)) rfl rfl (by kernel_rfl) (by kernel_rfl) (by kernel_rfl) rfl rfl ?_
        refine TA.y (listed' := #[true, true, true, true, true, true, true, true, true, true, true, true, true, true, false, false]) 13 [0] rfl (Y.pick_f H17 rfl rfl) rfl rfl rfl (by kernel_rfl) (by kernel_rfl) (by kernel_rfl) rfl rfl ?_
        refine TA.y (listed' := #[true, true, true, true, true, true, true, true, true, true, true, true, true, true, true, false]) 14 [0] rfl (Y.assign rfl) rfl rfl rfl (by kernel_rfl) (by kernel_rfl) (by kernel_rfl) rfl rfl ?_
        refine TA.y (listed' := #[true, true, true, true, true, true, true, true, true, true, true, true, true, true, true, true]) 15 [0] rfl (Y.assign rfl) rfl rfl rfl (by kernel_rfl) (by kernel_rfl) (by kernel_rfl) rfl rfl ?_
        refine TA.nil (by kernel_rfl) ?_
        exact TE.jb_go () [] ⟨rfl, rfl, trivial⟩ rfl
    · refine TE.next ?_
      refine TW.ret ?_
      exact TE.leaf fun _ _ hf_ hs_ => ret_any (rs := [.tmp 6, .tmp 7]) (vs := [.int .i64 T4, .bool T15]) (.inl rfl) rfl ⟨rfl, ⟨rfl, trivial⟩⟩ hf_ hs_ ⟨(), rfl, hs_.pulls [] rfl⟩

/-- loop.example/g00950/impl.put -/
noncomputable def impl_put (l : List Ent) (e : Ent) : Option (List Ent × Bool) :=
  (slices_BinarySearchFunc_39542_at_impl_compareEnts l e).bind fun R2 =>
  if R2.2 = true then (some (l, false))
  else ((slices_Insert_94167 l R2.1 ([e])).bind fun R7 =>
  some (R7, true))

theorem impl_put_con (l : List Ent) (e : Ent) (V_l0 : Value) (r : List Ent × Bool) (hm : impl_put l e = some r) :
    Con Try.prog 81 [V_l0, .agg #[strV e.Key, .int .i64 e.Seq, .bool e.Del, strV e.Val]] [.own V_l0 (lc l)] [] (fun X : Value => .tuple #[X, .bool r.2]) (fun X => [.own X (lc r.1)]) := by
  refine Con.intro (args := [V_l0, .agg #[strV e.Key, .int .i64 e.Seq, .bool e.Del, strV e.Val]]) (n := 21) (val := fun r (X : Value) => .tuple #[X, .bool r.2]) (post := fun r X => [.own X (lc r.1)]) (m := impl_put l e) Try.func81 rfl rfl rfl hm ?_
  intro w S _
  unfold impl_put
  refine TW.seq ?_
  refine TW.region ?_
  refine TO.ef (Ef.box rfl (Cel.plain rfl rfl)) rfl rfl rfl (fun B1 => ?_)
  refine TO.y (Y.assign rfl) rfl rfl rfl ?_
  refine TO.y (Y.assign rfl) rfl rfl rfl ?_
  refine TO.nil ?_
  refine TE.next ?_
  refine TW.seq ?_
  refine TW.region ?_
  refine TO.y (Y.move rfl) rfl rfl rfl ?_
  refine TO.y (Y.load_box (v := .agg #[strV e.Key, .int .i64 e.Seq, .bool e.Del, strV e.Val]) 0 kk73 rfl rfl rfl) rfl rfl rfl ?_
  refine TO.bind fun R2 H3 => ?_
  refine TO.ef (Ef.call (rest := [.box B1 73 [strV e.Key, .int .i64 e.Seq, .bool e.Del, strV e.Val], .own V_l0 (lc l)]) [0, 0] (slices_BinarySearchFunc_39542_at_impl_compareEnts_con l e V_l0 R2 H3) kc96 rfl rfl ⟨(Can.own 1 rfl), trivial⟩) rfl rfl rfl (fun _ => ?_)
  refine TO.y (Y.move rfl) rfl rfl rfl ?_
  refine TO.y (Y.extract rfl rfl) rfl rfl rfl ?_
  refine TO.y (Y.extract rfl rfl) rfl rfl rfl ?_
  refine TO.y (Y.assign rfl) rfl rfl rfl ?_
  refine TO.y (Y.assign rfl) rfl rfl rfl ?_
  refine TO.nil ?_
  refine TE.next ?_
  refine TW.seq ?_
  refine TW.seq ?_
  refine TW.region ?_
  refine TO.y (Y.move rfl) rfl rfl rfl ?_
  refine TO.nil ?_
  refine TE.next ?_
  refine TW.cond rfl (fun H5 => ?_) (fun H5 => ?_)
  · refine TW.seq ?_
    refine TW.region ?_
    refine TO.y (Y.move rfl) rfl rfl rfl ?_
    refine TO.y (Y.assign rfl) rfl rfl rfl ?_
    refine TO.y (Y.assign rfl) rfl rfl rfl ?_
    refine TO.nil ?_
    refine TE.next ?_
    refine TW.ret ?_
    refine TE.then_ret ?_
    exact TE.leaf fun _ _ hf_ hs_ => ret_any (rs := [.tmp 4, .tmp 5]) (vs := [V_l0, .bool false]) (.inl rfl) rfl ⟨rfl, ⟨rfl, trivial⟩⟩ hf_ hs_ ⟨V_l0, rfl, hs_.pulls [1] rfl⟩
  · refine TW.skip ?_
    refine TE.next ?_
    refine TW.seq ?_
    refine TW.region ?_
    refine TO.y (Y.move rfl) rfl rfl rfl ?_
    refine TO.y (Y.move rfl) rfl rfl rfl ?_
    refine TO.y (Y.load_box (v := .agg #[strV e.Key, .int .i64 e.Seq, .bool e.Del, strV e.Val]) 0 kk73 rfl rfl rfl) rfl rfl rfl ?_
    refine TO.ef (Ef.buildSlice (α := Ent) (Vs := [.agg #[strV e.Key, .int .i64 e.Seq, .bool e.Del, strV e.Val]]) [e] ke30 kz73 rfl rfl rfl rfl rfl) rfl rfl rfl (fun B6 => ?_)
    refine TO.bind fun R7 H8 => ?_
    refine TO.ef (Ef.call (rest := [.box B1 73 [strV e.Key, .int .i64 e.Seq, .bool e.Del, strV e.Val]]) [2, 0, 0] (slices_Insert_94167_con l R2.1 ([e]) V_l0 (.slice (some ⟨B6, 0, none⟩) 1 1) R7 H8) kc98 rfl rfl trivial) rfl rfl rfl (fun Y9 => ?_)
    refine TO.y (Y.assign rfl) rfl rfl rfl ?_
    refine TO.y (Y.assign rfl) rfl rfl rfl ?_
    refine TO.nil ?_
    refine TE.next ?_
    refine TW.ret ?_
    exact TE.leaf fun _ _ hf_ hs_ => ret_any (rs := [.tmp 4, .tmp 5]) (vs := [Y9, .bool true]) (.inl rfl) rfl ⟨rfl, ⟨rfl, trivial⟩⟩ hf_ hs_ ⟨Y9, rfl, hs_.pulls [0] rfl⟩

/-- (*loop.example/g00950/impl.Eng).engPut$1 -/
noncomputable def impl_Eng_engPut_1 (x : Op) (c0_ : Op) : Option Bool :=
  some (decide (x.Key = c0_.Key))

theorem impl_Eng_engPut_1_con (x : Op) (c0_ : Op) (B_c0_ : Nat) (r : Bool) (hm : impl_Eng_engPut_1 x c0_ = some r) :
    Con Try.prog 80 [.agg #[strV x.Key, .bool x.Del, strV x.Val], .pointer (some ⟨B_c0_, 0, none⟩)] [.box B_c0_ 70 [strV c0_.Key, .bool c0_.Del, strV c0_.Val]] [] (fun _ : Unit => .bool r) (fun _ => [.box B_c0_ 70 [strV c0_.Key, .bool c0_.Del, strV c0_.Val]]) := by
  refine Con.intro (args := [.agg #[strV x.Key, .bool x.Del, strV x.Val], .pointer (some ⟨B_c0_, 0, none⟩)]) (n := 9) (val := fun r (_ : Unit) => .bool r) (post := fun _ _ => [.box B_c0_ 70 [strV c0_.Key, .bool c0_.Del, strV c0_.Val]]) (m := impl_Eng_engPut_1 x c0_) Try.func80 rfl rfl rfl hm ?_
  intro w S _
  unfold impl_Eng_engPut_1
  refine TW.seq ?_
  refine TW.region ?_
  refine TO.ef (Ef.box rfl (Cel.plain rfl rfl)) rfl rfl rfl (fun B1 => ?_)
  refine TO.y (Y.assign rfl) rfl rfl rfl ?_
  refine TO.nil ?_
  refine TE.next ?_
  refine TW.seq ?_
  refine TW.region ?_
  refine TO.y (Y.field_box kf70_0 rfl rfl) rfl rfl rfl ?_
  refine TO.y (Y.load_box (v := strV x.Key) 0 kk9 rfl rfl rfl) rfl rfl rfl ?_
  refine TO.y (Y.field_box kf70_0 rfl rfl) rfl rfl rfl ?_
  refine TO.y (Y.load_box (v := strV c0_.Key) 1 kk9 rfl rfl rfl) rfl rfl rfl ?_
  refine TO.y (Y.seql rfl rfl) rfl rfl rfl ?_
  refine TO.y (Y.assign rfl) rfl rfl rfl ?_
  refine TO.nil ?_
  refine TE.next ?_
  refine TW.ret ?_
  exact TE.leaf fun _ _ hf_ hs_ => ret_any (rs := [.tmp 3]) (vs := [.bool (decide (x.Key = c0_.Key))]) (.inl rfl) rfl ⟨rfl, trivial⟩ hf_ hs_ ⟨(), rfl, hs_.pulls [1] rfl⟩

/-- slices.IndexFunc[[]loop.example/g00950/impl.Op,loop.example/g00950/impl.Op] -/
noncomputable def slices_IndexFunc_6733_at_impl_Eng_engPut_1 (s : List Op) (f_c0 : Op) : Option Int :=
  bindC (loopO (fun (S1 : Int) => if (decide (S1 < ((s.length : Nat) : Int))) = true then ((idx s S1).bind fun E6 =>
  (impl_Eng_engPut_1 E6 f_c0).bind fun R8 =>
  if R8 = true then (some (.done (.done S1)))
  else (some (.go (IntKind.i64.wrap (S1 + (1 : Int))))))
  else (some (.done (.go ()))))
  (0 : Int))
  (fun (T3 : Unit) => some (-1 : Int))

theorem slices_IndexFunc_6733_at_impl_Eng_engPut_1_con (s : List Op) (f_c0 : Op) (V_s0 : Value) (B_f_c0 : Nat) (r : Int) (hm : slices_IndexFunc_6733_at_impl_Eng_engPut_1 s f_c0 = some r) :
    Con Try.prog 95 [V_s0, .func (.func 80) #[] #[.pointer (some ⟨B_f_c0, 0, none⟩)]] [.box B_f_c0 70 [strV f_c0.Key, .bool f_c0.Del, strV f_c0.Val]] [(V_s0, lc s)] (fun _ : Unit => .int .i64 r) (fun _ => [.box B_f_c0 70 [strV f_c0.Key, .bool f_c0.Del, strV f_c0.Val]]) := by
  refine Con.intro (args := [V_s0, .func (.func 80) #[] #[.pointer (some ⟨B_f_c0, 0, none⟩)]]) (n := 19) (val := fun r (_ : Unit) => .int .i64 r) (post := fun _ _ => [.box B_f_c0 70 [strV f_c0.Key, .bool f_c0.Del, strV f_c0.Val]]) (m := slices_IndexFunc_6733_at_impl_Eng_engPut_1 s f_c0) Try.func95 rfl rfl rfl hm ?_
  intro w S hrd
  have HB_V_s0 := hrd _ (.head _)
  clear hrd
  unfold slices_IndexFunc_6733_at_impl_Eng_engPut_1
  refine TW.seq ?_
  refine TW.region ?_
  refine TO.y (Y.assign rfl) rfl rfl rfl ?_
  refine TO.nil ?_
  refine TE.next ?_
  refine TW.seq ?_
  refine TW.seq ?_
  refine TW.region ?_
  refine TO.y (Y.move rfl) rfl rfl rfl ?_
  refine TO.y (Y.len (l := s) ke37 (Base.can HB_V_s0) rfl) rfl rfl rfl ?_
  refine TO.y (Y.move rfl) rfl rfl rfl ?_
  refine TO.nil ?_
  refine TE.next ?_
  refine TW.joinX (τ := Unit) (X := Unit) (fun _ _ => []) (fun _ _ => [.box B_f_c0 70 [strV f_c0.Key, .bool f_c0.Del, strV f_c0.Val]]) ?_ (fun T3 X4 => ?_)
  · refine TW.block ?_
    refine TW.loopX (σ := Int) (X := Unit) (fun T _ => [(0, V_s0), (1, .func (.func 80) #[] #[.pointer (some ⟨B_f_c0, 0, none⟩)]), (7, .int .i64 ((s.length : Nat) : Int)), (8, .int .i64 T)]) (fun _ _ => [.box B_f_c0 70 [strV f_c0.Key, .bool f_c0.Del, strV f_c0.Val]]) () [0] ⟨rfl, rfl, rfl, rfl, trivial⟩ rfl (fun S1 X2 => ?_)
    refine TW.seq ?_
    refine TW.region ?_
    refine TO.y (Y.lss rfl rfl) rfl rfl rfl ?_
    refine TO.nil ?_
    refine TE.next ?_
    refine TW.seq ?_
    refine TW.cond rfl (fun H5 => ?_) (fun H5 => ?_)
    · refine TW.skip ?_
      refine TE.next ?_
      refine TW.seq ?_
      refine TW.block ?_
      refine TW.seq ?_
      refine TW.region ?_
      refine TO.y (Y.move rfl) rfl rfl rfl ?_
      refine TO.y (Y.assign rfl) rfl rfl rfl ?_
      refine TO.nil ?_
      refine TE.next ?_
      refine TW.seq ?_
      refine TW.region ?_
      refine TO.y (Y.move rfl) rfl rfl rfl ?_
      refine TO.y (Y.move rfl) rfl rfl rfl ?_
      refine TO.y (Y.move rfl) rfl rfl rfl ?_
      refine TO.bind fun E6 H7 => ?_
      refine TO.y (Y.index ke37 (Base.can HB_V_s0) H7 rfl rfl) rfl rfl rfl ?_
      refine TO.y (Y.load_el (us := [strV E6.Key, .bool E6.Del, strV E6.Val]) (u := .agg #[strV E6.Key, .bool E6.Del, strV E6.Val]) kk70 rfl (Base.can HB_V_s0) (idx_get H7).2.2 rfl rfl rfl rfl rfl) rfl rfl rfl ?_
      refine TO.bind fun R8 H9 => ?_
      refine TO.ef (Ef.callv (rest := []) [0] (impl_Eng_engPut_1_con E6 f_c0 B_f_c0 R8 H9) kc80 rfl rfl rfl rfl trivial) rfl rfl rfl (fun _ => ?_)
      refine TO.nil ?_
      refine TE.next ?_
      refine TW.cond rfl (fun H11 => ?_) (fun H11 => ?_)
      · refine TW.seq ?_
        refine TW.region ?_
        refine TO.y (Y.move rfl) rfl rfl rfl ?_
        refine TO.y (Y.assign rfl) rfl rfl rfl ?_
        refine TO.nil ?_
        refine TE.next ?_
        refine TW.ret ?_
        refine TE.block_ret ?_
        refine TE.then_ret ?_
        refine TE.lp_ret ?_
        refine TE.block_ret ?_
        refine TE.jn_done ?_
        refine TE.then_ret ?_
        exact TE.leaf fun _ _ hf_ hs_ => ret_any (rs := [.tmp 4]) (vs := [.int .i64 S1]) (.inl rfl) rfl ⟨rfl, trivial⟩ hf_ hs_ ⟨(), rfl, hs_.pulls [0] rfl⟩
      · refine TW.skip ?_
        refine TE.block_normal ?_
        refine TE.next ?_
        refine TW.region ?_
        refine TO.y (Y.add rfl rfl) rfl rfl rfl ?_
        refine TO.y (Y.move rfl) rfl rfl rfl ?_
        refine TO.nil ?_
        exact TE.lp_go () [0] ⟨rfl, rfl, rfl, rfl, trivial⟩ rfl
    · refine TW.exit ?_
      refine TE.then_exit ?_
      refine TE.lp_exit ?_
      refine TE.block_exit ?_
      exact TE.jn_go () [0] trivial rfl
  · refine TE.next ?_
    refine TW.seq ?_
    refine TW.region ?_
    refine TO.y (Y.assign rfl) rfl rfl rfl ?_
    refine TO.nil ?_
    refine TE.next ?_
    refine TW.ret ?_
    exact TE.leaf fun _ _ hf_ hs_ => ret_any (rs := [.tmp 4]) (vs := [.int .i64 (-1 : Int)]) (.inl rfl) rfl ⟨rfl, trivial⟩ hf_ hs_ ⟨(), rfl, hs_.pulls [0] rfl⟩

/-- slices.ContainsFunc[[]loop.example/g00950/impl.Op,loop.example/g00950/impl.Op] -/
noncomputable def slices_ContainsFunc_6733_at_impl_Eng_engPut_1 (s : List Op) (f_c0 : Op) : Option Bool :=
  (slices_IndexFunc_6733_at_impl_Eng_engPut_1 s f_c0).bind fun R1 =>
  some (decide (R1 ≥ (0 : Int)))

theorem slices_ContainsFunc_6733_at_impl_Eng_engPut_1_con (s : List Op) (f_c0 : Op) (V_s0 : Value) (B_f_c0 : Nat) (r : Bool) (hm : slices_ContainsFunc_6733_at_impl_Eng_engPut_1 s f_c0 = some r) :
    Con Try.prog 79 [V_s0, .func (.func 80) #[] #[.pointer (some ⟨B_f_c0, 0, none⟩)]] [.box B_f_c0 70 [strV f_c0.Key, .bool f_c0.Del, strV f_c0.Val]] [(V_s0, lc s)] (fun _ : Unit => .bool r) (fun _ => [.box B_f_c0 70 [strV f_c0.Key, .bool f_c0.Del, strV f_c0.Val]]) := by
  refine Con.intro (args := [V_s0, .func (.func 80) #[] #[.pointer (some ⟨B_f_c0, 0, none⟩)]]) (n := 9) (val := fun r (_ : Unit) => .bool r) (post := fun _ _ => [.box B_f_c0 70 [strV f_c0.Key, .bool f_c0.Del, strV f_c0.Val]]) (m := slices_ContainsFunc_6733_at_impl_Eng_engPut_1 s f_c0) Try.func79 rfl rfl rfl hm ?_
  intro w S hrd
  have HB_V_s0 := hrd _ (.head _)
  clear hrd
  unfold slices_ContainsFunc_6733_at_impl_Eng_engPut_1
  refine TW.seq ?_
  refine TW.region ?_
  refine TO.y (Y.assign rfl) rfl rfl rfl ?_
  refine TO.nil ?_
  refine TE.next ?_
  refine TW.seq ?_
  refine TW.region ?_
  refine TO.y (Y.move rfl) rfl rfl rfl ?_
  refine TO.y (Y.move rfl) rfl rfl rfl ?_
  refine TO.bind fun R1 H2 => ?_
  refine TO.ef (Ef.call (rest := []) [0] (slices_IndexFunc_6733_at_impl_Eng_engPut_1_con s f_c0 V_s0 B_f_c0 R1 H2) kc95 rfl rfl ⟨(Base.can HB_V_s0), trivial⟩) rfl rfl rfl (fun _ => ?_)
  refine TO.y (Y.geq rfl rfl) rfl rfl rfl ?_
  refine TO.y (Y.assign rfl) rfl rfl rfl ?_
  refine TO.nil ?_
  refine TE.next ?_
  refine TW.ret ?_
  exact TE.leaf fun _ _ hf_ hs_ => ret_any (rs := [.tmp 4]) (vs := [.bool (decide (R1 ≥ (0 : Int)))]) (.inl rfl) rfl ⟨rfl, trivial⟩ hf_ hs_ ⟨(), rfl, hs_.pulls [0] rfl⟩

end Go.Proofs.Ytfanigbmjmiidaa
