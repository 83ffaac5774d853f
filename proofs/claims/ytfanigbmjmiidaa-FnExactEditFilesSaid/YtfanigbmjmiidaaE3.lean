/-
  The functions that a law reaches, each as a pure function, with the proof that the program computes it, and the step from a pure law to the given statement. Conditions: none.
-/
import Derived.Test.YtfanigbmjmiidaaE2
set_option linter.unusedVariables false
set_option maxRecDepth 100000
set_option maxHeartbeats 4000000
namespace Go.Proofs.Ytfanigbmjmiidaa
open Go Sl

/-- loop.example/g00950/laws.heldFileS -/
noncomputable def laws_heldFileS (a : List File) (k : Int) : Option Int :=
  bindC (loopO (fun (S1 : Int × Int) => if (decide (S1.2 < ((a.length : Nat) : Int))) = true then ((idx a S1.2).bind fun E6 =>
  if (!(decide (E6.No = S1.1))) = true then (some (.done (.done (-1 : Int))))
  else (if (!(decide (E6.Level = IntKind.i64.wrap (S1.1 + (1 : Int))))) = true then (some (.done (.done (-1 : Int))))
  else ((laws_markText (IntKind.i64.wrap (IntKind.i64.wrap (S1.1 + (1 : Int)) + (1 : Int)))).bind fun R10 =>
  if (!(decide (E6.Lo = R10))) = true then (some (.done (.done (-1 : Int))))
  else ((laws_markText (IntKind.i64.wrap (IntKind.i64.wrap (IntKind.i64.wrap (S1.1 + (1 : Int)) + (1 : Int)) + (1 : Int)))).bind fun R14 =>
  if (!(decide (E6.Hi = R14))) = true then (some (.done (.done (-1 : Int))))
  else (some (.go (IntKind.i64.wrap (IntKind.i64.wrap (IntKind.i64.wrap (IntKind.i64.wrap (S1.1 + (1 : Int)) + (1 : Int)) + (1 : Int)) + (1 : Int)), IntKind.i64.wrap (S1.2 + (1 : Int)))))))))
  else (some (.done (.go S1.1))))
  (k, (0 : Int)))
  (fun (T3 : Int) => some T3)

theorem laws_heldFileS_con (a : List File) (k : Int) (V_a0 : Value) (r : Int) (hm : laws_heldFileS a k = some r) :
    Con Try.prog 26 [V_a0, .int .i64 k] [] [(V_a0, lc a)] (fun _ : Unit => .int .i64 r) (fun _ => []) := by
  refine Con.intro (args := [V_a0, .int .i64 k]) (n := 51) (val := fun r (_ : Unit) => .int .i64 r) (post := fun _ _ => []) (m := laws_heldFileS a k) Try.func26 rfl rfl rfl hm ?_
  intro w S hrd
  have HB_V_a0 := hrd _ (.head _)
  clear hrd
  unfold laws_heldFileS
  refine TW.seq ?_
  refine TW.region ?_
  refine TO.y (Y.assign rfl) rfl rfl rfl ?_
  refine TO.nil ?_
  refine TE.next ?_
  refine TW.seq ?_
  refine TW.seq ?_
  refine TW.region ?_
  refine TO.y (Y.assign rfl) rfl rfl rfl ?_
  refine TO.nil ?_
  refine TE.next ?_
  refine TW.joinX (τ := Int) (X := Unit) (fun T _ => [(1, .int .i64 T)]) (fun _ _ => []) ?_ (fun T3 X4 => ?_)
  · refine TW.block ?_
    refine TW.loopX (σ := Int × Int) (X := Unit) (fun T _ => [(0, V_a0), (1, .int .i64 T.1), (5, .int .i64 T.2)]) (fun _ _ => []) () [] ⟨rfl, rfl, rfl, trivial⟩ rfl (fun S1 X2 => ?_)
    refine TW.seq ?_
    refine TW.seq ?_
    refine TW.region ?_
    refine TO.y (Y.move rfl) rfl rfl rfl ?_
    refine TO.y (Y.move rfl) rfl rfl rfl ?_
    refine TO.y (Y.len (l := a) ke49 (Base.can HB_V_a0) rfl) rfl rfl rfl ?_
    refine TO.y (Y.lss rfl rfl) rfl rfl rfl ?_
    refine TO.nil ?_
    refine TE.next ?_
    refine TW.cond rfl (fun H5 => ?_) (fun H5 => ?_)
    · refine TW.skip ?_
      refine TE.next ?_
      refine TW.seq ?_
      refine TW.block ?_
      refine TW.seq ?_
      refine TW.seq ?_
      refine TW.region ?_
      refine TO.y (Y.move rfl) rfl rfl rfl ?_
      refine TO.y (Y.move rfl) rfl rfl rfl ?_
      refine TO.bind fun E6 H7 => ?_
      refine TO.y (Y.index ke49 (Base.can HB_V_a0) H7 rfl rfl) rfl rfl rfl ?_
      refine TO.y (Y.field_el kf91_0 (Base.can HB_V_a0) (idx_get H7).2.2 rfl rfl) rfl rfl rfl ?_
      refine TO.y (Y.load_el (us := [.int .i64 E6.No]) (u := .int .i64 E6.No) kk3 rfl (Base.can HB_V_a0) (idx_get H7).2.2 rfl rfl rfl rfl rfl) rfl rfl rfl ?_
      refine TO.y (Y.move rfl) rfl rfl rfl ?_
      refine TO.y (Y.neq rfl rfl) rfl rfl rfl ?_
      refine TO.nil ?_
      refine TE.next ?_
      refine TW.cond rfl (fun H8 => ?_) (fun H8 => ?_)
      · refine TW.seq ?_
        refine TW.region ?_
        refine TO.y (Y.assign rfl) rfl rfl rfl ?_
        refine TO.nil ?_
        refine TE.next ?_
        refine TW.ret ?_
        refine TE.then_ret ?_
        refine TE.block_ret ?_
        refine TE.then_ret ?_
        refine TE.lp_ret ?_
        refine TE.block_ret ?_
        refine TE.jn_done ?_
        refine TE.then_ret ?_
        exact TE.leaf fun _ _ hf_ hs_ => ret_any (rs := [.tmp 4]) (vs := [.int .i64 (-1 : Int)]) (.inl rfl) rfl ⟨rfl, trivial⟩ hf_ hs_ ⟨(), rfl, hs_.pulls [] rfl⟩
      · refine TW.skip ?_
        refine TE.next ?_
        refine TW.seq ?_
        refine TW.region ?_
        refine TO.y (Y.move rfl) rfl rfl rfl ?_
        refine TO.y (Y.add rfl rfl) rfl rfl rfl ?_
        refine TO.y (Y.assign rfl) rfl rfl rfl ?_
        refine TO.nil ?_
        refine TE.next ?_
        refine TW.seq ?_
        refine TW.seq ?_
        refine TW.region ?_
        refine TO.y (Y.move rfl) rfl rfl rfl ?_
        refine TO.y (Y.move rfl) rfl rfl rfl ?_
        refine TO.y (Y.index ke49 (Base.can HB_V_a0) H7 rfl rfl) rfl rfl rfl ?_
        refine TO.y (Y.field_el kf91_1 (Base.can HB_V_a0) (idx_get H7).2.2 rfl rfl) rfl rfl rfl ?_
        refine TO.y (Y.load_el (us := [.int .i64 E6.Level]) (u := .int .i64 E6.Level) kk3 rfl (Base.can HB_V_a0) (idx_get H7).2.2 rfl rfl rfl rfl rfl) rfl rfl rfl ?_
        refine TO.y (Y.move rfl) rfl rfl rfl ?_
        refine TO.y (Y.neq rfl rfl) rfl rfl rfl ?_
        refine TO.nil ?_
        refine TE.next ?_
        refine TW.cond rfl (fun H9 => ?_) (fun H9 => ?_)
        · refine TW.seq ?_
          refine TW.region ?_
          refine TO.y (Y.assign rfl) rfl rfl rfl ?_
          refine TO.nil ?_
          refine TE.next ?_
          refine TW.ret ?_
          refine TE.then_ret ?_
          refine TE.block_ret ?_
          refine TE.then_ret ?_
          refine TE.lp_ret ?_
          refine TE.block_ret ?_
          refine TE.jn_done ?_
          refine TE.then_ret ?_
          exact TE.leaf fun _ _ hf_ hs_ => ret_any (rs := [.tmp 4]) (vs := [.int .i64 (-1 : Int)]) (.inl rfl) rfl ⟨rfl, trivial⟩ hf_ hs_ ⟨(), rfl, hs_.pulls [] rfl⟩
        · refine TW.skip ?_
          refine TE.next ?_
          refine TW.seq ?_
          refine TW.region ?_
          refine TO.y (Y.move rfl) rfl rfl rfl ?_
          refine TO.y (Y.add rfl rfl) rfl rfl rfl ?_
          refine TO.y (Y.assign rfl) rfl rfl rfl ?_
          refine TO.nil ?_
          refine TE.next ?_
          refine TW.seq ?_
          refine TW.seq ?_
          refine TW.draw (isH := []) hMix ?_
          refine TA.y (listed' := #[true, false, false, false, false, false, false, false]) 0 [] rfl (Y.move rfl) rfl rfl rfl (by kernel_rfl) (by kernel_rfl) (by kernel_rfl) rfl rfl ?_
          refine TA.y (listed' := #[true, true, false, false, false, false, false, false]) 1 [] rfl (Y.move rfl) rfl rfl rfl (by kernel_rfl) (by kernel_rfl) (by kernel_rfl) rfl rfl ?_
          refine TA.y (listed' := #[true, true, true, false, false, false, false, false]) 2 [] rfl (Y.index ke49 (Base.can HB_V_a0) H7 rfl rfl) rfl rfl rfl (by kernel_rfl) (by kernel_rfl) (by kernel_rfl) rfl rfl ?_
          refine TA.y (listed' := #[true, true, true, true, false, false, false, false]) 3 [] rfl (Y.field_el kf91_2 (Base.can HB_V_a0) (idx_get H7).2.2 rfl rfl) rfl rfl rfl (by kernel_rfl) (by kernel_rfl) (by kernel_rfl) rfl rfl ?_
          refine TA.y (listed' := #[true, true, true, true, true, false, false, false]) 4 [] rfl (Y.load_el (us := [strV E6.Lo]) (u := strV E6.Lo) kk9 rfl (Base.can HB_V_a0) (idx_get H7).2.2 rfl rfl rfl rfl rfl) rfl rfl rfl (by kernel_rfl) (by kernel_rfl) (by kernel_rfl) rfl rfl ?_
          refine TA.y (listed' := #[true, true, true, true, true, true, false, false]) 5 [] rfl (Y.move rfl) rfl rfl rfl (by kernel_rfl) (by kernel_rfl) (by kernel_rfl) rfl rfl ?_
          refine TA.bind fun R10 H11 => ?_
          refine TA.one 6 (by kernel_rfl) ?_
          refine TX.ef (listed' := #[true, true, true, true, true, true, true, false]) [] rfl (Ef.call (rest := []) [] (laws_markText_con (IntKind.i64.wrap (IntKind.i64.wrap (S1.1 + (1 : Int)) + (1 : Int)))  R10 H11) kc50 rfl rfl trivial) rfl rfl rfl rfl (fun _ => rfl) (fun _ => ?_)
          refine TA.y (listed' := #[true, true, true, true, true, true, true, true]) 7 [] rfl (Y.sneq rfl rfl) rfl rfl rfl (by kernel_rfl) (by kernel_rfl) (by kernel_rfl) rfl rfl ?_
          refine TA.nil (by kernel_rfl) ?_
          refine TE.next ?_
          refine TW.cond rfl (fun H13 => ?_) (fun H13 => ?_)
          · refine TW.seq ?_
            refine TW.region ?_
            refine TO.y (Y.assign rfl) rfl rfl rfl ?_
            refine TO.nil ?_
            refine TE.next ?_
            refine TW.ret ?_
            refine TE.then_ret ?_
            refine TE.block_ret ?_
            refine TE.then_ret ?_
            refine TE.lp_ret ?_
            refine TE.block_ret ?_
            refine TE.jn_done ?_
            refine TE.then_ret ?_
            exact TE.leaf fun _ _ hf_ hs_ => ret_any (rs := [.tmp 4]) (vs := [.int .i64 (-1 : Int)]) (.inl rfl) rfl ⟨rfl, trivial⟩ hf_ hs_ ⟨(), rfl, hs_.pulls [] rfl⟩
          · refine TW.skip ?_
            refine TE.next ?_
            refine TW.seq ?_
            refine TW.region ?_
            refine TO.y (Y.move rfl) rfl rfl rfl ?_
            refine TO.y (Y.add rfl rfl) rfl rfl rfl ?_
            refine TO.y (Y.assign rfl) rfl rfl rfl ?_
            refine TO.nil ?_
            refine TE.next ?_
            refine TW.seq ?_
            refine TW.seq ?_
            refine TW.draw (isH := []) hMix ?_
            refine TA.y (listed' := #[true, false, false, false, false, false, false, false]) 0 [] rfl (Y.move rfl) rfl rfl rfl (by kernel_rfl) (by kernel_rfl) (by kernel_rfl) rfl rfl ?_
            refine TA.y (listed' := #[true, true, false, false, false, false, false, false]) 1 [] rfl (Y.move rfl) rfl rfl rfl (by kernel_rfl) (by kernel_rfl) (by kernel_rfl) rfl rfl ?_
            refine TA.y (listed' := #[true, true, true, false, false, false, false, false]) 2 [] rfl (Y.index ke49 (Base.can HB_V_a0) H7 rfl rfl) rfl rfl rfl (by kernel_rfl) (by kernel_rfl) (by kernel_rfl) rfl rfl ?_
            refine TA.y (listed' := #[true, true, true, true, false, false, false, false]) 3 [] rfl (Y.field_el kf91_3 (Base.can HB_V_a0) (idx_get H7).2.2 rfl rfl) rfl rfl rfl (by kernel_rfl) (by kernel_rfl) (by kernel_rfl) rfl rfl ?_
            refine TA.y (listed' := #[true, true, true, true, true, false, false, false]) 4 [] rfl (Y.load_el (us := [strV E6.Hi]) (u := strV E6.Hi) kk9 rfl (Base.can HB_V_a0) (idx_get H7).2.2 rfl rfl rfl rfl rfl) rfl rfl rfl (by kernel_rfl) (by kernel_rfl) (by kernel_rfl) rfl rfl ?_
            refine TA.y (listed' := #[true, true, true, true, true, true, false, false]) 5 [] rfl (Y.move rfl) rfl rfl rfl (by kernel_rfl) (by kernel_rfl) (by kernel_rfl) rfl rfl ?_
            refine TA.bind fun R14 H15 => ?_
            refine TA.one 6 (by kernel_rfl) ?_
            refine TX.ef (listed' := #[true, true, true, true, true, true, true, false]) [] rfl (Ef.call (rest := []) [] (laws_markText_con (IntKind.i64.wrap (IntKind.i64.wrap (IntKind.i64.wrap (S1.1 + (1 : Int)) + (1 : Int)) + (1 : Int)))  R14 H15) kc50 rfl rfl trivial) rfl rfl rfl rfl (fun _ => rfl) (fun _ => ?_)
            refine TA.y (listed' := #[true, true, true, true, true, true, true, true]) 7 [] rfl (Y.sneq rfl rfl) rfl rfl rfl (by kernel_rfl) (by kernel_rfl) (by kernel_rfl) rfl rfl ?_
            refine TA.nil (by kernel_rfl) ?_
            refine TE.next ?_
            refine TW.cond rfl (fun H17 => ?_) (fun H17 => ?_)
            · refine TW.seq ?_
              refine TW.region ?_
              refine TO.y (Y.assign rfl) rfl rfl rfl ?_
              refine TO.nil ?_
              refine TE.next ?_
              refine TW.ret ?_
              refine TE.then_ret ?_
              refine TE.block_ret ?_
              refine TE.then_ret ?_
              refine TE.lp_ret ?_
              refine TE.block_ret ?_
              refine TE.jn_done ?_
              refine TE.then_ret ?_
              exact TE.leaf fun _ _ hf_ hs_ => ret_any (rs := [.tmp 4]) (vs := [.int .i64 (-1 : Int)]) (.inl rfl) rfl ⟨rfl, trivial⟩ hf_ hs_ ⟨(), rfl, hs_.pulls [] rfl⟩
            · refine TW.skip ?_
              refine TE.next ?_
              refine TW.region ?_
              refine TO.y (Y.move rfl) rfl rfl rfl ?_
              refine TO.y (Y.add rfl rfl) rfl rfl rfl ?_
              refine TO.y (Y.assign rfl) rfl rfl rfl ?_
              refine TO.nil ?_
              refine TE.block_normal ?_
              refine TE.next ?_
              refine TW.region ?_
              refine TO.y (Y.move rfl) rfl rfl rfl ?_
              refine TO.y (Y.add rfl rfl) rfl rfl rfl ?_
              refine TO.y (Y.assign rfl) rfl rfl rfl ?_
              refine TO.nil ?_
              exact TE.lp_go () [] ⟨rfl, rfl, rfl, trivial⟩ rfl
    · refine TW.exit ?_
      refine TE.then_exit ?_
      refine TE.lp_exit ?_
      refine TE.block_exit ?_
      exact TE.jn_go () [] ⟨rfl, trivial⟩ rfl
  · refine TE.next ?_
    refine TW.seq ?_
    refine TW.region ?_
    refine TO.y (Y.move rfl) rfl rfl rfl ?_
    refine TO.y (Y.assign rfl) rfl rfl rfl ?_
    refine TO.nil ?_
    refine TE.next ?_
    refine TW.ret ?_
    exact TE.leaf fun _ _ hf_ hs_ => ret_any (rs := [.tmp 4]) (vs := [.int .i64 T3]) (.inl rfl) rfl ⟨rfl, trivial⟩ hf_ hs_ ⟨(), rfl, hs_.pulls [] rfl⟩

/-- loop.example/g00950/laws.FnExactEditFiles -/
noncomputable def laws_FnExactEditFiles (aL : List File) (aE : Edit) : Option Bool :=
  (laws_szFileS aL (1048576 : Int)).bind fun R2 =>
  if (decide (R2 < (0 : Int))) = true then (some true)
  else ((laws_szEdit aE R2).bind fun R6 =>
  if (decide (R6 < (0 : Int))) = true then (some true)
  else ((laws_toFileS aL).bind fun R10 =>
  (laws_toEdit aE).bind fun R13 =>
  (spec_EditFiles R10 R13).bind fun R16 =>
  (impl_EditFiles R10 R13).bind fun R22 =>
  ((laws_eqFileS R22.1 R16.1).bind fun R27 =>
  if (!R27) = true then (some true)
  else (some (!(decide (R22.2 = R16.2))))).bind (fun (T25 : Bool) =>
  if T25 = true then (some false)
  else ((laws_eqFileS R10 R10).bind fun R33 =>
  if (!R33) = true then (some false)
  else ((laws_eqEdit R13 R13).bind fun R38 =>
  if (!R38) = true then (some false)
  else ((laws_markFileS R10 (1 : Int)).bind fun R42 =>
  (laws_markEdit R13 R42.1).bind fun R45 =>
  (if (decide (R45.1 < (0 : Int))) = true then (some true)
  else ((laws_eqFileS R22.1 R16.1).bind fun R51 =>
  if (!R51) = true then (some true)
  else (some (!(decide (R22.2 = R16.2)))))).bind (fun (T48 : Bool) =>
  if T48 = true then (some false)
  else ((laws_markFileS R22.1 (1 : Int)).bind fun R56 =>
  (laws_heldFileS R56.2 (1 : Int)).bind fun R59 =>
  if (decide (R59 < (0 : Int))) = true then (some false)
  else (if (!(decide (R59 = R56.1))) = true then (some false)
  else (((laws_eqFileS R22.1 R16.1).bind fun R69 =>
  if (!R69) = true then (some true)
  else (some (!(decide (R22.2 = R16.2))))).bind (fun (T67 : Bool) =>
  if T67 = true then (some false)
  else (if (decide (R59 < (0 : Int))) = true then (some false)
  else (if (!(decide (R59 = R56.1))) = true then (some false)
  else (some true))))))))))))))

theorem laws_FnExactEditFiles_con (aL : List File) (aE : Edit) (V_aL0 : Value) (V_aE0 : Value) (V_aE1 : Value) (r : Bool) (hm : laws_FnExactEditFiles aL aE = some r) :
    Con Try.prog 4 [V_aL0, .agg #[V_aE0, V_aE1]] [] [(V_aL0, lc aL), (V_aE0, lc aE.Add), (V_aE1, lc aE.Drop)] (fun _ : Unit => .bool r) (fun _ => []) := by
  refine Con.intro (args := [V_aL0, .agg #[V_aE0, V_aE1]]) (n := 119) (val := fun r (_ : Unit) => .bool r) (post := fun _ _ => []) (m := laws_FnExactEditFiles aL aE) Try.func4 rfl rfl rfl hm ?_
  intro w S hrd
  have HB_V_aL0 := hrd _ (.head _)
  have HB_V_aE0 := hrd _ (.tail _ (.head _))
  have HB_V_aE1 := hrd _ (.tail _ (.tail _ (.head _)))
  clear hrd
  unfold laws_FnExactEditFiles
  refine TW.seq ?_
  refine TW.region ?_
  refine TO.ef (Ef.box rfl (Cel.agg ⟨(One.can (Base.can HB_V_aE0)), (One.can (Base.can HB_V_aE1)), trivial⟩)) rfl rfl rfl (fun B1 => ?_)
  refine TO.y (Y.assign rfl) rfl rfl rfl ?_
  refine TO.nil ?_
  refine TE.next ?_
  refine TW.seq ?_
  refine TW.region ?_
  refine TO.y (Y.assign rfl) rfl rfl rfl ?_
  refine TO.nil ?_
  refine TE.next ?_
  refine TW.seq ?_
  refine TW.region ?_
  refine TO.y (Y.move rfl) rfl rfl rfl ?_
  refine TO.y (Y.move rfl) rfl rfl rfl ?_
  refine TO.bind fun R2 H3 => ?_
  refine TO.ef (Ef.call (rest := [.box B1 46 [V_aE0, V_aE1]]) [0] (laws_szFileS_con aL (1048576 : Int) V_aL0 R2 H3) kc16 rfl rfl ⟨(Base.can HB_V_aL0), trivial⟩) rfl rfl rfl (fun _ => ?_)
  refine TO.y (Y.assign rfl) rfl rfl rfl ?_
  refine TO.nil ?_
  refine TE.next ?_
  refine TW.seq ?_
  refine TW.seq ?_
  refine TW.region ?_
  refine TO.y (Y.move rfl) rfl rfl rfl ?_
  refine TO.y (Y.lss rfl rfl) rfl rfl rfl ?_
  refine TO.nil ?_
  refine TE.next ?_
  refine TW.cond rfl (fun H5 => ?_) (fun H5 => ?_)
  · refine TW.seq ?_
    refine TW.region ?_
    refine TO.y (Y.assign rfl) rfl rfl rfl ?_
    refine TO.nil ?_
    refine TE.next ?_
    refine TW.ret ?_
    refine TE.then_ret ?_
    exact TE.leaf fun _ _ hf_ hs_ => ret_any (rs := [.tmp 4]) (vs := [.bool true]) (.inl rfl) rfl ⟨rfl, trivial⟩ hf_ hs_ ⟨(), rfl, hs_.pulls [] rfl⟩
  · refine TW.skip ?_
    refine TE.next ?_
    refine TW.seq ?_
    refine TW.region ?_
    refine TO.y (Y.load_box (v := .agg #[V_aE0, V_aE1]) 0 kk46 rfl rfl rfl) rfl rfl rfl ?_
    refine TO.y (Y.move rfl) rfl rfl rfl ?_
    refine TO.bind fun R6 H7 => ?_
    refine TO.ef (Ef.call (rest := [.box B1 46 [V_aE0, V_aE1]]) [0] (laws_szEdit_con aE R2 V_aE0 V_aE1 R6 H7) kc17 rfl rfl ⟨(Base.can HB_V_aE0), (Base.can HB_V_aE1), trivial⟩) rfl rfl rfl (fun _ => ?_)
    refine TO.y (Y.assign rfl) rfl rfl rfl ?_
    refine TO.nil ?_
    refine TE.next ?_
    refine TW.seq ?_
    refine TW.seq ?_
    refine TW.region ?_
    refine TO.y (Y.move rfl) rfl rfl rfl ?_
    refine TO.y (Y.lss rfl rfl) rfl rfl rfl ?_
    refine TO.nil ?_
    refine TE.next ?_
    refine TW.cond rfl (fun H9 => ?_) (fun H9 => ?_)
    · refine TW.seq ?_
      refine TW.region ?_
      refine TO.y (Y.assign rfl) rfl rfl rfl ?_
      refine TO.nil ?_
      refine TE.next ?_
      refine TW.ret ?_
      refine TE.then_ret ?_
      exact TE.leaf fun _ _ hf_ hs_ => ret_any (rs := [.tmp 4]) (vs := [.bool true]) (.inl rfl) rfl ⟨rfl, trivial⟩ hf_ hs_ ⟨(), rfl, hs_.pulls [] rfl⟩
    · refine TW.skip ?_
      refine TE.next ?_
      refine TW.seq ?_
      refine TW.draw (isH := [.box B1 46 [V_aE0, V_aE1]]) hMix ?_
      refine TA.y (listed' := #[true, false, false, false, false, false, false, false, false, false]) 0 [0] rfl (Y.move rfl) rfl rfl rfl (by kernel_rfl) (by kernel_rfl) (by kernel_rfl) rfl rfl ?_
      refine TA.y (listed' := #[true, false, true, false, false, false, false, false, false, false]) 2 [0] rfl (Y.load_box (v := .agg #[V_aE0, V_aE1]) 0 kk46 rfl rfl rfl) rfl rfl rfl (by kernel_rfl) (by kernel_rfl) (by kernel_rfl) rfl rfl ?_
      refine TA.bind fun R10 H11 => ?_
      refine TA.one 1 (by kernel_rfl) ?_
      refine TX.ef (listed' := #[true, true, true, false, false, false, false, false, false, false]) [1] rfl (Ef.call (rest := [.box B1 46 [V_aE0, V_aE1]]) [0] (laws_toFileS_con aL V_aL0 R10 H11) kc19 rfl rfl ⟨(Base.can HB_V_aL0), trivial⟩) rfl rfl rfl rfl (fun _ => rfl) (fun Y12 => ?_)
      refine TA.bind fun R13 H14 => ?_
      refine TA.one 3 (by kernel_rfl) ?_
      refine TX.ef (listed' := #[true, true, true, true, false, false, false, false, false, false]) [3] rfl (Ef.call (rest := [.own Y12 (lc R10), .box B1 46 [V_aE0, V_aE1]]) [0, 0] (laws_toEdit_con aE V_aE0 V_aE1 R13 H14) kc20 rfl rfl ⟨(Base.can HB_V_aE0), (Base.can HB_V_aE1), trivial⟩) rfl rfl rfl rfl (fun _ => rfl) (fun Y15 => ?_)
      refine TA.bind fun R16 H17 => ?_
      refine TA.one 4 (by kernel_rfl) ?_
      refine TX.ef (listed' := #[true, true, true, true, true, false, false, false, false, false]) [4] rfl (Ef.call (rest := [.own Y15.1 (lc R13.Add), .own Y15.2 (lc R13.Drop), .own Y12 (lc R10), .box B1 46 [V_aE0, V_aE1]]) [0, 0, 0, 0] (spec_EditFiles_con R10 R13 Y12 Y15.1 Y15.2 R16 H17) kc18 rfl rfl ⟨(Can.own 2 rfl), (Can.own 0 rfl), (Can.own 1 rfl), trivial⟩) rfl rfl rfl rfl (fun _ => rfl) (fun Y18 => ?_)
      refine TA.y (listed' := #[true, true, true, true, true, true, false, false, false, false]) 5 [4] rfl (Y.move rfl) rfl rfl rfl (by kernel_rfl) (by kernel_rfl) (by kernel_rfl) rfl rfl ?_
      refine TA.y (listed' := #[true, true, true, true, true, true, true, false, false, false]) 6 [4] rfl (Y.extract rfl rfl) rfl rfl rfl (by kernel_rfl) (by kernel_rfl) (by kernel_rfl) rfl rfl ?_
      refine TA.y (listed' := #[true, true, true, true, true, true, true, true, false, false]) 7 [4] rfl (Y.extract rfl rfl) rfl rfl rfl (by kernel_rfl) (by kernel_rfl) (by kernel_rfl) rfl rfl ?_
      refine TA.y (listed' := #[true, true, true, true, true, true, true, true, true, false]) 8 [4] rfl (Y.assign rfl) rfl rfl rfl (by kernel_rfl) (by kernel_rfl) (by kernel_rfl) rfl rfl ?_
      refine TA.y (listed' := #[true, true, true, true, true, true, true, true, true, true]) 9 [4] rfl (Y.assign rfl) rfl rfl rfl (by kernel_rfl) (by kernel_rfl) (by kernel_rfl) rfl rfl ?_
      refine TA.nil (by kernel_rfl) ?_
      refine TE.next ?_
      refine TW.seq ?_
      refine TW.region ?_
      refine TO.y (Y.move rfl) rfl rfl rfl ?_
      refine TO.ef (Ef.call (rest := [.own Y18 (lc R16.1), .own Y15.1 (lc R13.Add), .own Y15.2 (lc R13.Drop), .own Y12 (lc R10), .box B1 46 [V_aE0, V_aE1]]) [0, 0, 0, 0, 0] (laws_toFileS_con aL V_aL0 R10 H11) kc19 rfl rfl ⟨(Base.can HB_V_aL0), trivial⟩) rfl rfl rfl (fun Y19 => ?_)
      refine TO.y (Y.assign rfl) rfl rfl rfl ?_
      refine TO.nil ?_
      refine TE.next ?_
      refine TW.seq ?_
      refine TW.region ?_
      refine TO.y (Y.load_box (v := .agg #[V_aE0, V_aE1]) 5 kk46 rfl rfl rfl) rfl rfl rfl ?_
      refine TO.ef (Ef.call (rest := [.own Y19 (lc R10), .own Y18 (lc R16.1), .own Y15.1 (lc R13.Add), .own Y15.2 (lc R13.Drop), .own Y12 (lc R10), .box B1 46 [V_aE0, V_aE1]]) [0, 0, 0, 0, 0, 0] (laws_toEdit_con aE V_aE0 V_aE1 R13 H14) kc20 rfl rfl ⟨(Base.can HB_V_aE0), (Base.can HB_V_aE1), trivial⟩) rfl rfl rfl (fun Y20 => ?_)
      refine TO.ef (Ef.alloc kz54 rfl) rfl rfl rfl (fun B21 => ?_)
      refine TO.ef0 (Ef.store_box (us := [Y20.1, Y20.2]) (vs' := [Y20.1, Y20.2]) (is' := [.box B21 54 [Y20.1, Y20.2], .own Y20.1 (lc R13.Add), .own Y20.2 (lc R13.Drop), .own Y19 (lc R10), .own Y18 (lc R16.1), .own Y15.1 (lc R13.Add), .own Y15.2 (lc R13.Drop), .own Y12 (lc R10), .box B1 46 [V_aE0, V_aE1]]) 0 kk54 rfl rfl rfl (Cel.agg ⟨(One.can (Can.own 1 rfl)), (One.can (Can.own 2 rfl)), trivial⟩) rfl rfl rfl rfl) rfl rfl (fun _ => ?_)
      refine TO.nil ?_
      refine TE.next ?_
      refine TW.seq ?_
      refine TW.region ?_
      refine TO.y (Y.move rfl) rfl rfl rfl ?_
      refine TO.y (Y.load_box (v := .agg #[Y20.1, Y20.2]) 0 kk54 rfl rfl rfl) rfl rfl rfl ?_
      refine TO.bind fun R22 H23 => ?_
      refine TO.ef (Ef.call (rest := [.box B21 54 [Y20.1, Y20.2], .own Y20.1 (lc R13.Add), .own Y20.2 (lc R13.Drop), .own Y19 (lc R10), .own Y18 (lc R16.1), .own Y15.1 (lc R13.Add), .own Y15.2 (lc R13.Drop), .own Y12 (lc R10), .box B1 46 [V_aE0, V_aE1]]) [0, 0, 0, 0, 0, 0, 0, 0, 0] (impl_EditFiles_con R10 R13 Y19 Y20.1 Y20.2 R22 H23) kc21 rfl rfl ⟨(Can.own 3 rfl), (Can.own 1 rfl), (Can.own 2 rfl), trivial⟩) rfl rfl rfl (fun Y24 => ?_)
      refine TO.y (Y.move rfl) rfl rfl rfl ?_
      refine TO.y (Y.extract rfl rfl) rfl rfl rfl ?_
      refine TO.y (Y.extract rfl rfl) rfl rfl rfl ?_
      refine TO.y (Y.assign rfl) rfl rfl rfl ?_
      refine TO.y (Y.assign rfl) rfl rfl rfl ?_
      refine TO.nil ?_
      refine TE.next ?_
      refine TW.seq ?_
      refine TW.seq ?_
      refine TW.joinBX (τ := Bool) (X := Unit) (fun T _ => [(0, V_aL0), (3, .pointer (some ⟨B1, 0, none⟩)), (6, Y18), (7, .bool R16.2), (8, Y19), (9, .pointer (some ⟨B21, 0, none⟩)), (10, Y24), (11, .bool R22.2), (53, .bool T)]) (fun _ _ => [.box B1 46 [V_aE0, V_aE1], .box B21 54 [Y20.1, Y20.2], .own Y18 (lc R16.1), .own Y19 (lc R10), .own Y20.1 (lc R13.Add), .own Y20.2 (lc R13.Drop), .own Y24 (lc R22.1)]) ?_ (fun T25 X26 => ?_)
      · refine TW.region ?_
        refine TO.y (Y.move rfl) rfl rfl rfl ?_
        refine TO.y (Y.move rfl) rfl rfl rfl ?_
        refine TO.bind fun R27 H28 => ?_
        refine TO.ef (Ef.call (rest := [.own Y24 (lc R22.1), .box B21 54 [Y20.1, Y20.2], .own Y20.1 (lc R13.Add), .own Y20.2 (lc R13.Drop), .own Y19 (lc R10), .own Y18 (lc R16.1), .own Y15.1 (lc R13.Add), .own Y15.2 (lc R13.Drop), .own Y12 (lc R10), .box B1 46 [V_aE0, V_aE1]]) [0, 0, 0, 0, 0, 0, 0, 0, 0, 0] (laws_eqFileS_con R22.1 R16.1 Y24 Y18 R27 H28) kc22 rfl rfl ⟨(Can.own 0 rfl), (Can.own 5 rfl), trivial⟩) rfl rfl rfl (fun _ => ?_)
        refine TO.y (Y.not rfl) rfl rfl rfl ?_
        refine TO.y (Y.move rfl) rfl rfl rfl ?_
        refine TO.ite (b := !R27) (fun H30 => ?_) (fun H30 => ?_)
        · refine TO.off (Gd.at 4 false 49 (!R27) rfl rfl rfl (beq_tf H30)) rfl rfl ?_
          refine TO.off (Gd.at 4 false 49 (!R27) rfl rfl rfl (beq_tf H30)) rfl rfl ?_
          refine TO.off (Gd.at 4 false 49 (!R27) rfl rfl rfl (beq_tf H30)) rfl rfl ?_
          refine TO.y (Y.pick_t H30 rfl rfl) rfl rfl rfl ?_
          refine TO.nil ?_
          exact TE.jb_go () [9, 1, 4, 3, 1, 1, 0] ⟨rfl, rfl, rfl, rfl, rfl, rfl, rfl, rfl, rfl, trivial⟩ rfl
        · refine TO.y (Y.move rfl) (Gd.at 4 false 49 (!R27) rfl rfl rfl (beq_ff H30)) rfl rfl ?_
          refine TO.y (Y.move rfl) (Gd.at 4 false 49 (!R27) rfl rfl rfl (beq_ff H30)) rfl rfl ?_
          refine TO.y (Y.neb kb4 rfl rfl) (Gd.at 4 false 49 (!R27) rfl rfl rfl (beq_ff H30)) rfl rfl ?_
          refine TO.y (Y.pick_f H30 rfl rfl) rfl rfl rfl ?_
          refine TO.nil ?_
          exact TE.jb_go () [9, 1, 4, 3, 1, 1, 0] ⟨rfl, rfl, rfl, rfl, rfl, rfl, rfl, rfl, rfl, trivial⟩ rfl
      · refine TE.next ?_
        refine TW.cond rfl (fun H31 => ?_) (fun H31 => ?_)
        · refine TW.seq ?_
          refine TW.region ?_
          refine TO.y (Y.assign rfl) rfl rfl rfl ?_
          refine TO.nil ?_
          refine TE.next ?_
          refine TW.ret ?_
          refine TE.then_ret ?_
          exact TE.leaf fun _ _ hf_ hs_ => ret_any (rs := [.tmp 4]) (vs := [.bool false]) (.inl rfl) rfl ⟨rfl, trivial⟩ hf_ hs_ ⟨(), rfl, hs_.pulls [] rfl⟩
        · refine TW.skip ?_
          refine TE.next ?_
          refine TW.seq ?_
          refine TW.seq ?_
          refine TW.region ?_
          refine TO.y (Y.move rfl) rfl rfl rfl ?_
          refine TO.y (Y.move rfl) rfl rfl rfl ?_
          refine TO.ef (Ef.call (rest := [.box B1 46 [V_aE0, V_aE1], .box B21 54 [Y20.1, Y20.2], .own Y18 (lc R16.1), .own Y19 (lc R10), .own Y20.1 (lc R13.Add), .own Y20.2 (lc R13.Drop), .own Y24 (lc R22.1)]) [0, 0, 0, 0, 0, 0, 0] (laws_toFileS_con aL V_aL0 R10 H11) kc19 rfl rfl ⟨(Base.can HB_V_aL0), trivial⟩) rfl rfl rfl (fun Y32 => ?_)
          refine TO.bind fun R33 H34 => ?_
          refine TO.ef (Ef.call (rest := [.own Y32 (lc R10), .box B1 46 [V_aE0, V_aE1], .box B21 54 [Y20.1, Y20.2], .own Y18 (lc R16.1), .own Y19 (lc R10), .own Y20.1 (lc R13.Add), .own Y20.2 (lc R13.Drop), .own Y24 (lc R22.1)]) [0, 0, 0, 0, 0, 0, 0, 0] (laws_eqFileS_con R10 R10 Y19 Y32 R33 H34) kc22 rfl rfl ⟨(Can.own 4 rfl), (Can.own 0 rfl), trivial⟩) rfl rfl rfl (fun _ => ?_)
          refine TO.y (Y.not rfl) rfl rfl rfl ?_
          refine TO.nil ?_
          refine TE.next ?_
          refine TW.cond rfl (fun H36 => ?_) (fun H36 => ?_)
          · refine TW.seq ?_
            refine TW.region ?_
            refine TO.y (Y.assign rfl) rfl rfl rfl ?_
            refine TO.nil ?_
            refine TE.next ?_
            refine TW.ret ?_
            refine TE.then_ret ?_
            exact TE.leaf fun _ _ hf_ hs_ => ret_any (rs := [.tmp 4]) (vs := [.bool false]) (.inl rfl) rfl ⟨rfl, trivial⟩ hf_ hs_ ⟨(), rfl, hs_.pulls [] rfl⟩
          · refine TW.skip ?_
            refine TE.next ?_
            refine TW.seq ?_
            refine TW.seq ?_
            refine TW.draw (isH := [.own Y32 (lc R10), .box B1 46 [V_aE0, V_aE1], .box B21 54 [Y20.1, Y20.2], .own Y18 (lc R16.1), .own Y19 (lc R10), .own Y20.1 (lc R13.Add), .own Y20.2 (lc R13.Drop), .own Y24 (lc R22.1)]) hMix ?_
            refine TA.y (listed' := #[true, false, false, false, false]) 0 [0, 0, 0, 0, 0, 0, 0, 0] rfl (Y.load_box (v := .agg #[Y20.1, Y20.2]) 2 kk54 rfl rfl rfl) rfl rfl rfl (by kernel_rfl) (by kernel_rfl) (by kernel_rfl) rfl rfl ?_
            refine TA.y (listed' := #[true, true, false, false, false]) 1 [0, 0, 0, 0, 0, 0, 0, 0] rfl (Y.load_box (v := .agg #[V_aE0, V_aE1]) 1 kk46 rfl rfl rfl) rfl rfl rfl (by kernel_rfl) (by kernel_rfl) (by kernel_rfl) rfl rfl ?_
            refine TA.one 2 (by kernel_rfl) ?_
            refine TX.ef (listed' := #[true, true, true, false, false]) [2, 2, 2, 2, 2, 2, 2, 2] rfl (Ef.call (rest := [.own Y32 (lc R10), .box B1 46 [V_aE0, V_aE1], .box B21 54 [Y20.1, Y20.2], .own Y18 (lc R16.1), .own Y19 (lc R10), .own Y20.1 (lc R13.Add), .own Y20.2 (lc R13.Drop), .own Y24 (lc R22.1)]) [0, 0, 0, 0, 0, 0, 0, 0] (laws_toEdit_con aE V_aE0 V_aE1 R13 H14) kc20 rfl rfl ⟨(Base.can HB_V_aE0), (Base.can HB_V_aE1), trivial⟩) rfl rfl rfl rfl (fun _ => rfl) (fun Y37 => ?_)
            refine TA.bind fun R38 H39 => ?_
            refine TA.one 3 (by kernel_rfl) ?_
            refine TX.ef (listed' := #[true, true, true, true, false]) [2, 2, 2, 2, 2, 2, 2, 2] rfl (Ef.call (rest := [.own Y37.1 (lc R13.Add), .own Y37.2 (lc R13.Drop), .own Y32 (lc R10), .box B1 46 [V_aE0, V_aE1], .box B21 54 [Y20.1, Y20.2], .own Y18 (lc R16.1), .own Y19 (lc R10), .own Y20.1 (lc R13.Add), .own Y20.2 (lc R13.Drop), .own Y24 (lc R22.1)]) [0, 0, 0, 0, 0, 0, 0, 0, 0, 0] (laws_eqEdit_con R13 R13 Y20.1 Y20.2 Y37.1 Y37.2 R38 H39) kc23 rfl rfl ⟨(Can.own 7 rfl), (Can.own 8 rfl), (Can.own 0 rfl), (Can.own 1 rfl), trivial⟩) rfl rfl rfl rfl (fun _ => rfl) (fun _ => ?_)
            refine TA.y (listed' := #[true, true, true, true, true]) 4 [2, 2, 2, 2, 2, 2, 2, 2] rfl (Y.not rfl) rfl rfl rfl (by kernel_rfl) (by kernel_rfl) (by kernel_rfl) rfl rfl ?_
            refine TA.nil (by kernel_rfl) ?_
            refine TE.next ?_
            refine TW.cond rfl (fun H41 => ?_) (fun H41 => ?_)
            · refine TW.seq ?_
              refine TW.region ?_
              refine TO.y (Y.assign rfl) rfl rfl rfl ?_
              refine TO.nil ?_
              refine TE.next ?_
              refine TW.ret ?_
              refine TE.then_ret ?_
              exact TE.leaf fun _ _ hf_ hs_ => ret_any (rs := [.tmp 4]) (vs := [.bool false]) (.inl rfl) rfl ⟨rfl, trivial⟩ hf_ hs_ ⟨(), rfl, hs_.pulls [] rfl⟩
            · refine TW.skip ?_
              refine TE.next ?_
              refine TW.seq ?_
              refine TW.region ?_
              refine TO.y (Y.assign rfl) rfl rfl rfl ?_
              refine TO.nil ?_
              refine TE.next ?_
              refine TW.seq ?_
              refine TW.region ?_
              refine TO.y (Y.move rfl) rfl rfl rfl ?_
              refine TO.y (Y.move rfl) rfl rfl rfl ?_
              refine TO.bind fun R42 H43 => ?_
              refine TO.ef (Ef.call (rest := [.own Y37.1 (lc R13.Add), .own Y37.2 (lc R13.Drop), .own Y32 (lc R10), .box B1 46 [V_aE0, V_aE1], .box B21 54 [Y20.1, Y20.2], .own Y18 (lc R16.1), .own Y20.1 (lc R13.Add), .own Y20.2 (lc R13.Drop), .own Y24 (lc R22.1)]) [6, 0, 0, 0, 0, 0, 0, 0, 0, 0] (laws_markFileS_con R10 (1 : Int) Y19 R42 H43) kc24 rfl rfl trivial) rfl rfl rfl (fun _ => ?_)
              refine TO.y (Y.assign rfl) rfl rfl rfl ?_
              refine TO.nil ?_
              refine TE.next ?_
              refine TW.seq ?_
              refine TW.region ?_
              refine TO.y (Y.load_box (v := .agg #[Y20.1, Y20.2]) 5 kk54 rfl rfl rfl) rfl rfl rfl ?_
              refine TO.y (Y.move rfl) rfl rfl rfl ?_
              refine TO.bind fun R45 H46 => ?_
              refine TO.ef (Ef.call (rest := [.own Y19 (lc R42.2), .own Y37.1 (lc R13.Add), .own Y37.2 (lc R13.Drop), .own Y32 (lc R10), .box B1 46 [V_aE0, V_aE1], .box B21 54 [Y20.1, Y20.2], .own Y18 (lc R16.1), .own Y24 (lc R22.1)]) [7, 7, 0, 0, 0, 0, 0, 0, 0, 0] (laws_markEdit_con R13 R42.1 Y20.1 Y20.2 R45 H46) kc25 rfl rfl trivial) rfl rfl rfl (fun _ => ?_)
              refine TO.y (Y.assign rfl) rfl rfl rfl ?_
              refine TO.nil ?_
              refine TE.next ?_
              refine TW.seq ?_
              refine TW.seq ?_
              refine TW.joinBX (τ := Bool) (X := Unit) (fun T _ => [(0, V_aL0), (3, .pointer (some ⟨B1, 0, none⟩)), (6, Y18), (7, .bool R16.2), (10, Y24), (82, .bool T)]) (fun _ _ => [.box B1 46 [V_aE0, V_aE1], .own Y18 (lc R16.1), .own Y24 (lc R22.1)]) ?_ (fun T48 X49 => ?_)
              · refine TW.region ?_
                refine TO.y (Y.move rfl) rfl rfl rfl ?_
                refine TO.y (Y.lss rfl rfl) rfl rfl rfl ?_
                refine TO.y (Y.move rfl) rfl rfl rfl ?_
                refine TO.ite (b := decide (R45.1 < (0 : Int))) (fun H50 => ?_) (fun H50 => ?_)
                · refine TO.off (Gd.at 2 false 72 (decide (R45.1 < (0 : Int))) rfl rfl rfl (beq_tf H50)) rfl rfl ?_
                  refine TO.off (Gd.at 2 false 72 (decide (R45.1 < (0 : Int))) rfl rfl rfl (beq_tf H50)) rfl rfl ?_
                  refine TO.off (Gd.at 2 false 72 (decide (R45.1 < (0 : Int))) rfl rfl rfl (beq_tf H50)) rfl rfl ?_
                  refine TO.off (Gd.at 2 false 72 (decide (R45.1 < (0 : Int))) rfl rfl rfl (beq_tf H50)) rfl rfl ?_
                  refine TO.y (Y.pick_t H50 rfl rfl) rfl rfl rfl ?_
                  refine TO.y (Y.move rfl) rfl rfl rfl ?_
                  refine TO.off (Gd.at 8 false 78 true rfl rfl rfl rfl) rfl rfl ?_
                  refine TO.off (Gd.at 8 false 78 true rfl rfl rfl rfl) rfl rfl ?_
                  refine TO.off (Gd.at 8 false 78 true rfl rfl rfl rfl) rfl rfl ?_
                  refine TO.y (Y.pick_t rfl rfl rfl) rfl rfl rfl ?_
                  refine TO.nil ?_
                  exact TE.jb_go () [6, 7, 7] ⟨rfl, rfl, rfl, rfl, rfl, rfl, trivial⟩ rfl
                · refine TO.y (Y.move rfl) (Gd.at 2 false 72 (decide (R45.1 < (0 : Int))) rfl rfl rfl (beq_ff H50)) rfl rfl ?_
                  refine TO.y (Y.move rfl) (Gd.at 2 false 72 (decide (R45.1 < (0 : Int))) rfl rfl rfl (beq_ff H50)) rfl rfl ?_
                  refine TO.bind fun R51 H52 => ?_
                  refine TO.ef (Ef.call (rest := [.own Y20.1 (lc R45.2.1), .own Y20.2 (lc R45.2.2), .own Y19 (lc R42.2), .own Y37.1 (lc R13.Add), .own Y37.2 (lc R13.Drop), .own Y32 (lc R10), .box B1 46 [V_aE0, V_aE1], .box B21 54 [Y20.1, Y20.2], .own Y18 (lc R16.1), .own Y24 (lc R22.1)]) [0, 0, 0, 0, 0, 0, 0, 0, 0, 0] (laws_eqFileS_con R22.1 R16.1 Y24 Y18 R51 H52) kc22 rfl rfl ⟨(Can.own 9 rfl), (Can.own 8 rfl), trivial⟩) (Gd.at 2 false 72 (decide (R45.1 < (0 : Int))) rfl rfl rfl (beq_ff H50)) rfl rfl (fun _ => ?_)
                  refine TO.y (Y.not rfl) (Gd.at 2 false 72 (decide (R45.1 < (0 : Int))) rfl rfl rfl (beq_ff H50)) rfl rfl ?_
                  refine TO.y (Y.pick_f H50 rfl rfl) rfl rfl rfl ?_
                  refine TO.y (Y.move rfl) rfl rfl rfl ?_
                  refine TO.ite (b := !R51) (fun H54 => ?_) (fun H54 => ?_)
                  · refine TO.off (Gd.at 8 false 78 (!R51) rfl rfl rfl (beq_tf H54)) rfl rfl ?_
                    refine TO.off (Gd.at 8 false 78 (!R51) rfl rfl rfl (beq_tf H54)) rfl rfl ?_
                    refine TO.off (Gd.at 8 false 78 (!R51) rfl rfl rfl (beq_tf H54)) rfl rfl ?_
                    refine TO.y (Y.pick_t H54 rfl rfl) rfl rfl rfl ?_
                    refine TO.nil ?_
                    exact TE.jb_go () [6, 7, 7] ⟨rfl, rfl, rfl, rfl, rfl, rfl, trivial⟩ rfl
                  · refine TO.y (Y.move rfl) (Gd.at 8 false 78 (!R51) rfl rfl rfl (beq_ff H54)) rfl rfl ?_
                    refine TO.y (Y.move rfl) (Gd.at 8 false 78 (!R51) rfl rfl rfl (beq_ff H54)) rfl rfl ?_
                    refine TO.y (Y.neb kb4 rfl rfl) (Gd.at 8 false 78 (!R51) rfl rfl rfl (beq_ff H54)) rfl rfl ?_
                    refine TO.y (Y.pick_f H54 rfl rfl) rfl rfl rfl ?_
                    refine TO.nil ?_
                    exact TE.jb_go () [6, 7, 7] ⟨rfl, rfl, rfl, rfl, rfl, rfl, trivial⟩ rfl
              · refine TE.next ?_
                refine TW.cond rfl (fun H55 => ?_) (fun H55 => ?_)
                · refine TW.seq ?_
                  refine TW.region ?_
                  refine TO.y (Y.assign rfl) rfl rfl rfl ?_
                  refine TO.nil ?_
                  refine TE.next ?_
                  refine TW.ret ?_
                  refine TE.then_ret ?_
                  exact TE.leaf fun _ _ hf_ hs_ => ret_any (rs := [.tmp 4]) (vs := [.bool false]) (.inl rfl) rfl ⟨rfl, trivial⟩ hf_ hs_ ⟨(), rfl, hs_.pulls [] rfl⟩
                · refine TW.skip ?_
                  refine TE.next ?_
                  refine TW.seq ?_
                  refine TW.region ?_
                  refine TO.y (Y.assign rfl) rfl rfl rfl ?_
                  refine TO.nil ?_
                  refine TE.next ?_
                  refine TW.seq ?_
                  refine TW.region ?_
                  refine TO.y (Y.move rfl) rfl rfl rfl ?_
                  refine TO.y (Y.move rfl) rfl rfl rfl ?_
                  refine TO.bind fun R56 H57 => ?_
                  refine TO.ef (Ef.call (rest := [.box B1 46 [V_aE0, V_aE1], .own Y18 (lc R16.1)]) [2, 0, 0] (laws_markFileS_con R22.1 (1 : Int) Y24 R56 H57) kc24 rfl rfl trivial) rfl rfl rfl (fun _ => ?_)
                  refine TO.y (Y.assign rfl) rfl rfl rfl ?_
                  refine TO.nil ?_
                  refine TE.next ?_
                  refine TW.seq ?_
                  refine TW.region ?_
                  refine TO.y (Y.assign rfl) rfl rfl rfl ?_
                  refine TO.nil ?_
                  refine TE.next ?_
                  refine TW.seq ?_
                  refine TW.region ?_
                  refine TO.y (Y.move rfl) rfl rfl rfl ?_
                  refine TO.y (Y.move rfl) rfl rfl rfl ?_
                  refine TO.bind fun R59 H60 => ?_
                  refine TO.ef (Ef.call (rest := [.own Y24 (lc R56.2), .box B1 46 [V_aE0, V_aE1], .own Y18 (lc R16.1)]) [0, 0, 0] (laws_heldFileS_con R56.2 (1 : Int) Y24 R59 H60) kc26 rfl rfl ⟨(Can.own 0 rfl), trivial⟩) rfl rfl rfl (fun _ => ?_)
                  refine TO.y (Y.assign rfl) rfl rfl rfl ?_
                  refine TO.nil ?_
                  refine TE.next ?_
                  refine TW.seq ?_
                  refine TW.seq ?_
                  refine TW.region ?_
                  refine TO.y (Y.move rfl) rfl rfl rfl ?_
                  refine TO.y (Y.lss rfl rfl) rfl rfl rfl ?_
                  refine TO.nil ?_
                  refine TE.next ?_
                  refine TW.cond rfl (fun H62 => ?_) (fun H62 => ?_)
                  · refine TW.seq ?_
                    refine TW.region ?_
                    refine TO.y (Y.assign rfl) rfl rfl rfl ?_
                    refine TO.nil ?_
                    refine TE.next ?_
                    refine TW.ret ?_
                    refine TE.then_ret ?_
                    exact TE.leaf fun _ _ hf_ hs_ => ret_any (rs := [.tmp 4]) (vs := [.bool false]) (.inl rfl) rfl ⟨rfl, trivial⟩ hf_ hs_ ⟨(), rfl, hs_.pulls [] rfl⟩
                  · refine TW.skip ?_
                    refine TE.next ?_
                    refine TW.seq ?_
                    refine TW.seq ?_
                    refine TW.region ?_
                    refine TO.y (Y.move rfl) rfl rfl rfl ?_
                    refine TO.y (Y.move rfl) rfl rfl rfl ?_
                    refine TO.y (Y.neq rfl rfl) rfl rfl rfl ?_
                    refine TO.nil ?_
                    refine TE.next ?_
                    refine TW.cond rfl (fun H63 => ?_) (fun H63 => ?_)
                    · refine TW.seq ?_
                      refine TW.region ?_
                      refine TO.y (Y.assign rfl) rfl rfl rfl ?_
                      refine TO.nil ?_
                      refine TE.next ?_
                      refine TW.ret ?_
                      refine TE.then_ret ?_
                      exact TE.leaf fun _ _ hf_ hs_ => ret_any (rs := [.tmp 4]) (vs := [.bool false]) (.inl rfl) rfl ⟨rfl, trivial⟩ hf_ hs_ ⟨(), rfl, hs_.pulls [] rfl⟩
                    · refine TW.skip ?_
                      refine TE.next ?_
                      refine TW.seq ?_
                      refine TW.draw (isH := [.own Y24 (lc R56.2), .box B1 46 [V_aE0, V_aE1], .own Y18 (lc R16.1)]) hMix ?_
                      refine TA.y (listed' := #[true, false, false, false, false, false, false, false, false, false]) 0 [0, 0, 0] rfl (Y.move rfl) rfl rfl rfl (by kernel_rfl) (by kernel_rfl) (by kernel_rfl) rfl rfl ?_
                      refine TA.y (listed' := #[true, false, true, false, false, false, false, false, false, false]) 2 [0, 0, 0] rfl (Y.load_box (v := .agg #[V_aE0, V_aE1]) 1 kk46 rfl rfl rfl) rfl rfl rfl (by kernel_rfl) (by kernel_rfl) (by kernel_rfl) rfl rfl ?_
                      refine TA.one 1 (by kernel_rfl) ?_
                      refine TX.ef (listed' := #[true, true, true, false, false, false, false, false, false, false]) [1, 1, 1] rfl (Ef.call (rest := [.own Y24 (lc R56.2), .box B1 46 [V_aE0, V_aE1], .own Y18 (lc R16.1)]) [0, 0, 0] (laws_toFileS_con aL V_aL0 R10 H11) kc19 rfl rfl ⟨(Base.can HB_V_aL0), trivial⟩) rfl rfl rfl rfl (fun _ => rfl) (fun Y64 => ?_)
                      refine TA.one 3 (by kernel_rfl) ?_
                      refine TX.ef (listed' := #[true, true, true, true, false, false, false, false, false, false]) [3, 3, 3] rfl (Ef.call (rest := [.own Y64 (lc R10), .own Y24 (lc R56.2), .box B1 46 [V_aE0, V_aE1], .own Y18 (lc R16.1)]) [0, 0, 0, 0] (laws_toEdit_con aE V_aE0 V_aE1 R13 H14) kc20 rfl rfl ⟨(Base.can HB_V_aE0), (Base.can HB_V_aE1), trivial⟩) rfl rfl rfl rfl (fun _ => rfl) (fun Y65 => ?_)
                      refine TA.one 4 (by kernel_rfl) ?_
                      refine TX.ef (listed' := #[true, true, true, true, true, false, false, false, false, false]) [4, 4, 4] rfl (Ef.call (rest := [.own Y65.1 (lc R13.Add), .own Y65.2 (lc R13.Drop), .own Y64 (lc R10), .own Y24 (lc R56.2), .box B1 46 [V_aE0, V_aE1], .own Y18 (lc R16.1)]) [0, 0, 0, 0, 0, 0] (impl_EditFiles_con R10 R13 Y64 Y65.1 Y65.2 R22 H23) kc21 rfl rfl ⟨(Can.own 2 rfl), (Can.own 0 rfl), (Can.own 1 rfl), trivial⟩) rfl rfl rfl rfl (fun _ => rfl) (fun Y66 => ?_)
                      refine TA.y (listed' := #[true, true, true, true, true, true, false, false, false, false]) 5 [4, 4, 4] rfl (Y.move rfl) rfl rfl rfl (by kernel_rfl) (by kernel_rfl) (by kernel_rfl) rfl rfl ?_
                      refine TA.y (listed' := #[true, true, true, true, true, true, true, false, false, false]) 6 [4, 4, 4] rfl (Y.extract rfl rfl) rfl rfl rfl (by kernel_rfl) (by kernel_rfl) (by kernel_rfl) rfl rfl ?_
                      refine TA.y (listed' := #[true, true, true, true, true, true, true, true, false, false]) 7 [4, 4, 4] rfl (Y.extract rfl rfl) rfl rfl rfl (by kernel_rfl) (by kernel_rfl) (by kernel_rfl) rfl rfl ?_
                      refine TA.y (listed' := #[true, true, true, true, true, true, true, true, true, false]) 8 [4, 4, 4] rfl (Y.assign rfl) rfl rfl rfl (by kernel_rfl) (by kernel_rfl) (by kernel_rfl) rfl rfl ?_
                      refine TA.y (listed' := #[true, true, true, true, true, true, true, true, true, true]) 9 [4, 4, 4] rfl (Y.assign rfl) rfl rfl rfl (by kernel_rfl) (by kernel_rfl) (by kernel_rfl) rfl rfl ?_
                      refine TA.nil (by kernel_rfl) ?_
                      refine TE.next ?_
                      refine TW.seq ?_
                      refine TW.seq ?_
                      refine TW.joinBX (τ := Bool) (X := Unit) (fun T _ => [(10, Y24), (13, .int .i64 R56.1), (110, .bool T)]) (fun _ _ => [.own Y24 (lc R56.2)]) ?_ (fun T67 X68 => ?_)
                      · refine TW.region ?_
                        refine TO.y (Y.move rfl) rfl rfl rfl ?_
                        refine TO.y (Y.move rfl) rfl rfl rfl ?_
                        refine TO.bind fun R69 H70 => ?_
                        refine TO.ef (Ef.call (rest := [.own Y66 (lc R22.1), .own Y65.1 (lc R13.Add), .own Y65.2 (lc R13.Drop), .own Y64 (lc R10), .own Y24 (lc R56.2), .box B1 46 [V_aE0, V_aE1], .own Y18 (lc R16.1)]) [0, 0, 0, 0, 0, 0, 0] (laws_eqFileS_con R22.1 R16.1 Y66 Y18 R69 H70) kc22 rfl rfl ⟨(Can.own 0 rfl), (Can.own 6 rfl), trivial⟩) rfl rfl rfl (fun _ => ?_)
                        refine TO.y (Y.not rfl) rfl rfl rfl ?_
                        refine TO.y (Y.move rfl) rfl rfl rfl ?_
                        refine TO.ite (b := !R69) (fun H72 => ?_) (fun H72 => ?_)
                        · refine TO.off (Gd.at 4 false 106 (!R69) rfl rfl rfl (beq_tf H72)) rfl rfl ?_
                          refine TO.off (Gd.at 4 false 106 (!R69) rfl rfl rfl (beq_tf H72)) rfl rfl ?_
                          refine TO.off (Gd.at 4 false 106 (!R69) rfl rfl rfl (beq_tf H72)) rfl rfl ?_
                          refine TO.y (Y.pick_t H72 rfl rfl) rfl rfl rfl ?_
                          refine TO.nil ?_
                          exact TE.jb_go () [4] ⟨rfl, rfl, rfl, trivial⟩ rfl
                        · refine TO.y (Y.move rfl) (Gd.at 4 false 106 (!R69) rfl rfl rfl (beq_ff H72)) rfl rfl ?_
                          refine TO.y (Y.move rfl) (Gd.at 4 false 106 (!R69) rfl rfl rfl (beq_ff H72)) rfl rfl ?_
                          refine TO.y (Y.neb kb4 rfl rfl) (Gd.at 4 false 106 (!R69) rfl rfl rfl (beq_ff H72)) rfl rfl ?_
                          refine TO.y (Y.pick_f H72 rfl rfl) rfl rfl rfl ?_
                          refine TO.nil ?_
                          exact TE.jb_go () [4] ⟨rfl, rfl, rfl, trivial⟩ rfl
                      · refine TE.next ?_
                        refine TW.cond rfl (fun H73 => ?_) (fun H73 => ?_)
                        · refine TW.seq ?_
                          refine TW.region ?_
                          refine TO.y (Y.assign rfl) rfl rfl rfl ?_
                          refine TO.nil ?_
                          refine TE.next ?_
                          refine TW.ret ?_
                          refine TE.then_ret ?_
                          exact TE.leaf fun _ _ hf_ hs_ => ret_any (rs := [.tmp 4]) (vs := [.bool false]) (.inl rfl) rfl ⟨rfl, trivial⟩ hf_ hs_ ⟨(), rfl, hs_.pulls [] rfl⟩
                        · refine TW.skip ?_
                          refine TE.next ?_
                          refine TW.seq ?_
                          refine TW.region ?_
                          refine TO.y (Y.assign rfl) rfl rfl rfl ?_
                          refine TO.nil ?_
                          refine TE.next ?_
                          refine TW.seq ?_
                          refine TW.region ?_
                          refine TO.y (Y.move rfl) rfl rfl rfl ?_
                          refine TO.y (Y.move rfl) rfl rfl rfl ?_
                          refine TO.ef (Ef.call (rest := [.own Y24 (lc R56.2)]) [0] (laws_heldFileS_con R56.2 (1 : Int) Y24 R59 H60) kc26 rfl rfl ⟨(Can.own 0 rfl), trivial⟩) rfl rfl rfl (fun _ => ?_)
                          refine TO.y (Y.assign rfl) rfl rfl rfl ?_
                          refine TO.nil ?_
                          refine TE.next ?_
                          refine TW.seq ?_
                          refine TW.seq ?_
                          refine TW.region ?_
                          refine TO.y (Y.move rfl) rfl rfl rfl ?_
                          refine TO.y (Y.lss rfl rfl) rfl rfl rfl ?_
                          refine TO.nil ?_
                          refine TE.next ?_
                          refine TW.cond rfl (fun H75 => ?_) (fun H75 => ?_)
                          · refine TW.seq ?_
                            refine TW.region ?_
                            refine TO.y (Y.assign rfl) rfl rfl rfl ?_
                            refine TO.nil ?_
                            refine TE.next ?_
                            refine TW.ret ?_
                            refine TE.then_ret ?_
                            exact TE.leaf fun _ _ hf_ hs_ => ret_any (rs := [.tmp 4]) (vs := [.bool false]) (.inl rfl) rfl ⟨rfl, trivial⟩ hf_ hs_ ⟨(), rfl, hs_.pulls [] rfl⟩
                          · refine TW.skip ?_
                            refine TE.next ?_
                            refine TW.seq ?_
                            refine TW.seq ?_
                            refine TW.region ?_
                            refine TO.y (Y.move rfl) rfl rfl rfl ?_
                            refine TO.y (Y.move rfl) rfl rfl rfl ?_
                            refine TO.y (Y.neq rfl rfl) rfl rfl rfl ?_
                            refine TO.nil ?_
                            refine TE.next ?_
                            refine TW.cond rfl (fun H76 => ?_) (fun H76 => ?_)
                            · refine TW.seq ?_
                              refine TW.region ?_
                              refine TO.y (Y.assign rfl) rfl rfl rfl ?_
                              refine TO.nil ?_
                              refine TE.next ?_
                              refine TW.ret ?_
                              refine TE.then_ret ?_
                              exact TE.leaf fun _ _ hf_ hs_ => ret_any (rs := [.tmp 4]) (vs := [.bool false]) (.inl rfl) rfl ⟨rfl, trivial⟩ hf_ hs_ ⟨(), rfl, hs_.pulls [] rfl⟩
                            · refine TW.skip ?_
                              refine TE.next ?_
                              refine TW.seq ?_
                              refine TW.region ?_
                              refine TO.y (Y.assign rfl) rfl rfl rfl ?_
                              refine TO.nil ?_
                              refine TE.next ?_
                              refine TW.ret ?_
                              exact TE.leaf fun _ _ hf_ hs_ => ret_any (rs := [.tmp 4]) (vs := [.bool true]) (.inl rfl) rfl ⟨rfl, trivial⟩ hf_ hs_ ⟨(), rfl, hs_.pulls [] rfl⟩

end Go.Proofs.Ytfanigbmjmiidaa
