/-
  The functions that a law reaches, each as a pure function, with the proof that the program computes it, and the step from a pure law to the given statement. Conditions: none.
-/
import Derived.Test.YthlnhpkdccojcaaS1
set_option linter.unusedVariables false
set_option maxRecDepth 100000
set_option maxHeartbeats 4000000
namespace Go.Proofs.Ythlnhpkdccojcaa
open Go Sl

/-- loop.example/g00950/laws.FnExactShowEdit -/
noncomputable def laws_FnExactShowEdit (aE : Edit) : Option Bool :=
  (laws_szEdit aE (1048576 : Int)).bind fun R2 =>
  if (decide (R2 < (0 : Int))) = true then (some true)
  else ((laws_toEdit aE).bind fun R6 =>
  (spec_ShowEdit R6).bind fun R9 =>
  (impl_ShowEdit R6).bind fun R14 =>
  if (!(decide (R14 = R9))) = true then (some false)
  else ((laws_eqEdit R6 R6).bind fun R19 =>
  if (!R19) = true then (some false)
  else (some true)))

theorem laws_FnExactShowEdit_con (aE : Edit) (V_aE0 : Value) (V_aE1 : Value) (r : Bool) (hm : laws_FnExactShowEdit aE = some r) :
    Con Try.prog 3 [.agg #[V_aE0, V_aE1]] [] [(V_aE0, lc aE.Add), (V_aE1, lc aE.Drop)] (fun _ : Unit => .bool r) (fun _ => []) := by
  refine Con.intro (args := [.agg #[V_aE0, V_aE1]]) (n := 27) (val := fun r (_ : Unit) => .bool r) (post := fun _ _ => []) (m := laws_FnExactShowEdit aE) Try.func3 rfl rfl rfl hm ?_
  intro w S hrd
  have HB_V_aE0 := hrd _ (.head _)
  have HB_V_aE1 := hrd _ (.tail _ (.head _))
  clear hrd
  unfold laws_FnExactShowEdit
  refine TW.seq ?_
  refine TW.region ?_
  refine TO.ef (Ef.box rfl (Cel.agg ⟨(One.can (Base.can HB_V_aE0)), (One.can (Base.can HB_V_aE1)), trivial⟩)) rfl rfl rfl (fun B1 => ?_)
  refine TO.y (Y.assign rfl) rfl rfl rfl ?_
  refine TO.nil ?_
  refine TE.next ?_
  refine TW.seq ?_
  refine TW.region ?_
  refine TO.y (Y.assign rfl) rfl rfl rfl ?_
  refine TO.nil ?_
  refine TE.next ?_
  refine TW.seq ?_
  refine TW.region ?_
  refine TO.y (Y.load_box (v := .agg #[V_aE0, V_aE1]) 0 kk25 rfl rfl rfl) rfl rfl rfl ?_
  refine TO.y (Y.move rfl) rfl rfl rfl ?_
  refine TO.bind fun R2 H3 => ?_
  refine TO.ef (Ef.call (rest := [.box B1 25 [V_aE0, V_aE1]]) [0] (laws_szEdit_con aE (1048576 : Int) V_aE0 V_aE1 R2 H3) kc6 rfl rfl ⟨(Base.can HB_V_aE0), (Base.can HB_V_aE1), trivial⟩) rfl rfl rfl (fun _ => ?_)
  refine TO.y (Y.assign rfl) rfl rfl rfl ?_
  refine TO.nil ?_
  refine TE.next ?_
  refine TW.seq ?_
  refine TW.seq ?_
  refine TW.region ?_
  refine TO.y (Y.move rfl) rfl rfl rfl ?_
  refine TO.y (Y.lss rfl rfl) rfl rfl rfl ?_
  refine TO.nil ?_
  refine TE.next ?_
  refine TW.cond rfl (fun H5 => ?_) (fun H5 => ?_)
  · refine TW.seq ?_
    refine TW.region ?_
    refine TO.y (Y.assign rfl) rfl rfl rfl ?_
    refine TO.nil ?_
    refine TE.next ?_
    refine TW.ret ?_
    refine TE.then_ret ?_
    exact TE.leaf fun _ _ hf_ hs_ => ret_any (rs := [.tmp 2]) (vs := [.bool true]) (.inl rfl) rfl ⟨rfl, trivial⟩ hf_ hs_ ⟨(), rfl, hs_.pulls [] rfl⟩
  · refine TW.skip ?_
    refine TE.next ?_
    refine TW.seq ?_
    refine TW.region ?_
    refine TO.y (Y.load_box (v := .agg #[V_aE0, V_aE1]) 0 kk25 rfl rfl rfl) rfl rfl rfl ?_
    refine TO.bind fun R6 H7 => ?_
    refine TO.ef (Ef.call (rest := [.box B1 25 [V_aE0, V_aE1]]) [0] (laws_toEdit_con aE V_aE0 V_aE1 R6 H7) kc8 rfl rfl ⟨(Base.can HB_V_aE0), (Base.can HB_V_aE1), trivial⟩) rfl rfl rfl (fun Y8 => ?_)
    refine TO.bind fun R9 H10 => ?_
    refine TO.ef (Ef.call (rest := [.own Y8.1 (lc R6.Add), .own Y8.2 (lc R6.Drop), .box B1 25 [V_aE0, V_aE1]]) [0, 0, 0] (spec_ShowEdit_con R6 Y8.1 Y8.2 R9 H10) kc7 rfl rfl ⟨(Can.own 0 rfl), (Can.own 1 rfl), trivial⟩) rfl rfl rfl (fun _ => ?_)
    refine TO.y (Y.assign rfl) rfl rfl rfl ?_
    refine TO.nil ?_
    refine TE.next ?_
    refine TW.seq ?_
    refine TW.region ?_
    refine TO.y (Y.load_box (v := .agg #[V_aE0, V_aE1]) 2 kk25 rfl rfl rfl) rfl rfl rfl ?_
    refine TO.ef (Ef.call (rest := [.own Y8.1 (lc R6.Add), .own Y8.2 (lc R6.Drop), .box B1 25 [V_aE0, V_aE1]]) [0, 0, 0] (laws_toEdit_con aE V_aE0 V_aE1 R6 H7) kc8 rfl rfl ⟨(Base.can HB_V_aE0), (Base.can HB_V_aE1), trivial⟩) rfl rfl rfl (fun Y12 => ?_)
    refine TO.ef (Ef.alloc kz30 rfl) rfl rfl rfl (fun B13 => ?_)
    refine TO.ef0 (Ef.store_box (us := [Y12.1, Y12.2]) (vs' := [Y12.1, Y12.2]) (is' := [.box B13 30 [Y12.1, Y12.2], .own Y12.1 (lc R6.Add), .own Y12.2 (lc R6.Drop), .own Y8.1 (lc R6.Add), .own Y8.2 (lc R6.Drop), .box B1 25 [V_aE0, V_aE1]]) 0 kk30 rfl rfl rfl (Cel.agg ⟨(One.can (Can.own 1 rfl)), (One.can (Can.own 2 rfl)), trivial⟩) rfl rfl rfl rfl) rfl rfl (fun _ => ?_)
    refine TO.nil ?_
    refine TE.next ?_
    refine TW.seq ?_
    refine TW.region ?_
    refine TO.y (Y.load_box (v := .agg #[Y12.1, Y12.2]) 0 kk30 rfl rfl rfl) rfl rfl rfl ?_
    refine TO.bind fun R14 H15 => ?_
    refine TO.ef (Ef.call (rest := [.box B13 30 [Y12.1, Y12.2], .own Y12.1 (lc R6.Add), .own Y12.2 (lc R6.Drop), .own Y8.1 (lc R6.Add), .own Y8.2 (lc R6.Drop), .box B1 25 [V_aE0, V_aE1]]) [0, 0, 0, 0, 0, 0] (impl_ShowEdit_con R6 Y12.1 Y12.2 R14 H15) kc9 rfl rfl ⟨(Can.own 1 rfl), (Can.own 2 rfl), trivial⟩) rfl rfl rfl (fun _ => ?_)
    refine TO.y (Y.assign rfl) rfl rfl rfl ?_
    refine TO.nil ?_
    refine TE.next ?_
    refine TW.seq ?_
    refine TW.seq ?_
    refine TW.region ?_
    refine TO.y (Y.move rfl) rfl rfl rfl ?_
    refine TO.y (Y.move rfl) rfl rfl rfl ?_
    refine TO.y (Y.sneq rfl rfl) rfl rfl rfl ?_
    refine TO.nil ?_
    refine TE.next ?_
    refine TW.cond rfl (fun H17 => ?_) (fun H17 => ?_)
    · refine TW.seq ?_
      refine TW.region ?_
      refine TO.y (Y.assign rfl) rfl rfl rfl ?_
      refine TO.nil ?_
      refine TE.next ?_
      refine TW.ret ?_
      refine TE.then_ret ?_
      exact TE.leaf fun _ _ hf_ hs_ => ret_any (rs := [.tmp 2]) (vs := [.bool false]) (.inl rfl) rfl ⟨rfl, trivial⟩ hf_ hs_ ⟨(), rfl, hs_.pulls [] rfl⟩
    · refine TW.skip ?_
      refine TE.next ?_
      refine TW.seq ?_
      refine TW.seq ?_
      refine TW.draw (isH := [.box B13 30 [Y12.1, Y12.2], .own Y12.1 (lc R6.Add), .own Y12.2 (lc R6.Drop), .own Y8.1 (lc R6.Add), .own Y8.2 (lc R6.Drop), .box B1 25 [V_aE0, V_aE1]]) hMix ?_
      refine TA.y (listed' := #[true, false, false, false, false]) 0 [0, 0, 0, 0, 0, 0] rfl (Y.load_box (v := .agg #[Y12.1, Y12.2]) 0 kk30 rfl rfl rfl) rfl rfl rfl (by kernel_rfl) (by kernel_rfl) (by kernel_rfl) rfl rfl ?_
      refine TA.y (listed' := #[true, true, false, false, false]) 1 [0, 0, 0, 0, 0, 0] rfl (Y.load_box (v := .agg #[V_aE0, V_aE1]) 5 kk25 rfl rfl rfl) rfl rfl rfl (by kernel_rfl) (by kernel_rfl) (by kernel_rfl) rfl rfl ?_
      refine TA.one 2 (by kernel_rfl) ?_
      refine TX.ef (listed' := #[true, true, true, false, false]) [2, 2, 2, 2, 2, 2] rfl (Ef.call (rest := [.box B13 30 [Y12.1, Y12.2], .own Y12.1 (lc R6.Add), .own Y12.2 (lc R6.Drop), .own Y8.1 (lc R6.Add), .own Y8.2 (lc R6.Drop), .box B1 25 [V_aE0, V_aE1]]) [0, 0, 0, 0, 0, 0] (laws_toEdit_con aE V_aE0 V_aE1 R6 H7) kc8 rfl rfl ⟨(Base.can HB_V_aE0), (Base.can HB_V_aE1), trivial⟩) rfl rfl rfl rfl (fun _ => rfl) (fun Y18 => ?_)
      refine TA.bind fun R19 H20 => ?_
      refine TA.one 3 (by kernel_rfl) ?_
      refine TX.ef (listed' := #[true, true, true, true, false]) [2, 2, 2, 2, 2, 2] rfl (Ef.call (rest := [.own Y18.1 (lc R6.Add), .own Y18.2 (lc R6.Drop), .box B13 30 [Y12.1, Y12.2], .own Y12.1 (lc R6.Add), .own Y12.2 (lc R6.Drop), .own Y8.1 (lc R6.Add), .own Y8.2 (lc R6.Drop), .box B1 25 [V_aE0, V_aE1]]) [0, 0, 0, 0, 0, 0, 0, 0] (laws_eqEdit_con R6 R6 Y12.1 Y12.2 Y18.1 Y18.2 R19 H20) kc10 rfl rfl ⟨(Can.own 3 rfl), (Can.own 4 rfl), (Can.own 0 rfl), (Can.own 1 rfl), trivial⟩) rfl rfl rfl rfl (fun _ => rfl) (fun _ => ?_)
      refine TA.y (listed' := #[true, true, true, true, true]) 4 [2, 2, 2, 2, 2, 2] rfl (Y.not rfl) rfl rfl rfl (by kernel_rfl) (by kernel_rfl) (by kernel_rfl) rfl rfl ?_
      refine TA.nil (by kernel_rfl) ?_
      refine TE.next ?_
      refine TW.cond rfl (fun H22 => ?_) (fun H22 => ?_)
      · refine TW.seq ?_
        refine TW.region ?_
        refine TO.y (Y.assign rfl) rfl rfl rfl ?_
        refine TO.nil ?_
        refine TE.next ?_
        refine TW.ret ?_
        refine TE.then_ret ?_
        exact TE.leaf fun _ _ hf_ hs_ => ret_any (rs := [.tmp 2]) (vs := [.bool false]) (.inl rfl) rfl ⟨rfl, trivial⟩ hf_ hs_ ⟨(), rfl, hs_.pulls [] rfl⟩
      · refine TW.skip ?_
        refine TE.next ?_
        refine TW.seq ?_
        refine TW.region ?_
        refine TO.y (Y.assign rfl) rfl rfl rfl ?_
        refine TO.nil ?_
        refine TE.next ?_
        refine TW.ret ?_
        exact TE.leaf fun _ _ hf_ hs_ => ret_any (rs := [.tmp 2]) (vs := [.bool true]) (.inl rfl) rfl ⟨rfl, trivial⟩ hf_ hs_ ⟨(), rfl, hs_.pulls [] rfl⟩

end Go.Proofs.Ythlnhpkdccojcaa
