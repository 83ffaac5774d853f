/-
  The functions that a law reaches, each as a pure function, with the proof that the program computes it, and the step from a pure law to the given statement. Conditions: none.
-/
import Derived.Test.YtpnnbeiojpphhabI3
set_option linter.unusedVariables false
set_option maxRecDepth 100000
set_option maxHeartbeats 4000000
namespace Go.Proofs.Ytpnnbeiojpphhab
open Go Sl

/-- loop.example/g00950/laws.heldFileS -/
noncomputable def laws_heldFileS (a : List File) (k : Int) : Option Int :=
  bindC (loopO (fun (S1 : Int × Int) => if (decide (S1.2 < ((a.length : Nat) : Int))) = true then ((idx a S1.2).bind fun E6 =>
  if (!(decide (E6.No = S1.1))) = true then (some (.done (.done (-1 : Int))))
  else (if (!(decide (E6.Level = IntKind.i64.wrap (S1.1 + (1 : Int))))) = true then (some (.done (.done (-1 : Int))))
  else ((laws_markText (IntKind.i64.wrap (IntKind.i64.wrap (S1.1 + (1 : Int)) + (1 : Int)))).bind fun R10 =>
  if (!(decide (E6.Lo = R10))) = true then (some (.done (.done (-1 : Int))))
  else ((laws_markText (IntKind.i64.wrap (IntKind.i64.wrap (IntKind.i64.wrap (S1.1 + (1 : Int)) + (1 : Int)) + (1 : Int)))).bind fun R14 =>
  if (!(decide (E6.Hi = R14))) = true then (some (.done (.done (-1 : Int))))
  else (some (.go (IntKind.i64.wrap (IntKind.i64.wrap (IntKind.i64.wrap (IntKind.i64.wrap (S1.1 + (1 : Int)) + (1 : Int)) + (1 : Int)) + (1 : Int)), IntKind.i64.wrap (S1.2 + (1 : Int)))))))))
  else (some (.done (.go S1.1))))
  (k, (0 : Int)))
  (fun (T3 : Int) => some T3)

theorem laws_heldFileS_con (a : List File) (k : Int) (V_a0 : Value) (r : Int) (hm : laws_heldFileS a k = some r) :
    Con Try.prog 24 [V_a0, .int .i64 k] [] [(V_a0, lc a)] (fun _ : Unit => .int .i64 r) (fun _ => []) := by
  refine Con.intro (args := [V_a0, .int .i64 k]) (n := 51) (val := fun r (_ : Unit) => .int .i64 r) (post := fun _ _ => []) (m := laws_heldFileS a k) Try.func24 rfl rfl rfl hm ?_
  intro w S hrd
  have HB_V_a0 := hrd _ (.head _)
  clear hrd
  unfold laws_heldFileS
  refine TW.seq ?_
  refine TW.region ?_
  refine TO.y (Y.assign rfl) rfl rfl rfl ?_
  refine TO.nil ?_
  refine TE.next ?_
  refine TW.seq ?_
  refine TW.seq ?_
  refine TW.region ?_
  refine TO.y (Y.assign rfl) rfl rfl rfl ?_
  refine TO.nil ?_
  refine TE.next ?_
  refine TW.joinX (τ := Int) (X := Unit) (fun T _ => [(1, .int .i64 T)]) (fun _ _ => []) ?_ (fun T3 X4 => ?_)
  · refine TW.block ?_
    refine TW.loopX (σ := Int × Int) (X := Unit) (fun T _ => [(0, V_a0), (1, .int .i64 T.1), (5, .int .i64 T.2)]) (fun _ _ => []) () [] ⟨rfl, rfl, rfl, trivial⟩ rfl (fun S1 X2 => ?_)
    refine TW.seq ?_
    refine TW.seq ?_
    refine TW.region ?_
    refine TO.y (Y.move rfl) rfl rfl rfl ?_
    refine TO.y (Y.move rfl) rfl rfl rfl ?_
    refine TO.y (Y.len (l := a) ke40 (Base.can HB_V_a0) rfl) rfl rfl rfl ?_
    refine TO.y (Y.lss rfl rfl) rfl rfl rfl ?_
    refine TO.nil ?_
    refine TE.next ?_
    refine TW.cond rfl (fun H5 => ?_) (fun H5 => ?_)
    · refine TW.skip ?_
      refine TE.next ?_
      refine TW.seq ?_
      refine TW.block ?_
      refine TW.seq ?_
      refine TW.seq ?_
      refine TW.region ?_
      refine TO.y (Y.move rfl) rfl rfl rfl ?_
      refine TO.y (Y.move rfl) rfl rfl rfl ?_
      refine TO.bind fun E6 H7 => ?_
      refine TO.y (Y.index ke40 (Base.can HB_V_a0) H7 rfl rfl) rfl rfl rfl ?_
      refine TO.y (Y.field_el kf44_0 (Base.can HB_V_a0) (idx_get H7).2.2 rfl rfl) rfl rfl rfl ?_
      refine TO.y (Y.load_el (us := [.int .i64 E6.No]) (u := .int .i64 E6.No) kk3 rfl (Base.can HB_V_a0) (idx_get H7).2.2 rfl rfl rfl rfl rfl) rfl rfl rfl ?_
      refine TO.y (Y.move rfl) rfl rfl rfl ?_
      refine TO.y (Y.neq rfl rfl) rfl rfl rfl ?_
      refine TO.nil ?_
      refine TE.next ?_
      refine TW.cond rfl (fun H8 => ?_) (fun H8 => ?_)
      · refine TW.seq ?_
        refine TW.region ?_
        refine TO.y (Y.assign rfl) rfl rfl rfl ?_
        refine TO.nil ?_
        refine TE.next ?_
        refine TW.ret ?_
        refine TE.then_ret ?_
        refine TE.block_ret ?_
        refine TE.then_ret ?_
        refine TE.lp_ret ?_
        refine TE.block_ret ?_
        refine TE.jn_done ?_
        refine TE.then_ret ?_
        exact TE.leaf fun _ _ hf_ hs_ => ret_any (rs := [.tmp 4]) (vs := [.int .i64 (-1 : Int)]) (.inl rfl) rfl ⟨rfl, trivial⟩ hf_ hs_ ⟨(), rfl, hs_.pulls [] rfl⟩
      · refine TW.skip ?_
        refine TE.next ?_
        refine TW.seq ?_
        refine TW.region ?_
        refine TO.y (Y.move rfl) rfl rfl rfl ?_
        refine TO.y (Y.add rfl rfl) rfl rfl rfl ?_
        refine TO.y (Y.assign rfl) rfl rfl rfl ?_
        refine TO.nil ?_
        refine TE.next ?_
        refine TW.seq ?_
        refine TW.seq ?_
        refine TW.region ?_
        refine TO.y (Y.move rfl) rfl rfl rfl ?_
        refine TO.y (Y.move rfl) rfl rfl rfl ?_
        refine TO.y (Y.index ke40 (Base.can HB_V_a0) H7 rfl rfl) rfl rfl rfl ?_
        refine TO.y (Y.field_el kf44_1 (Base.can HB_V_a0) (idx_get H7).2.2 rfl rfl) rfl rfl rfl ?_
        refine TO.y (Y.load_el (us := [.int .i64 E6.Level]) (u := .int .i64 E6.Level) kk3 rfl (Base.can HB_V_a0) (idx_get H7).2.2 rfl rfl rfl rfl rfl) rfl rfl rfl ?_
        refine TO.y (Y.move rfl) rfl rfl rfl ?_
        refine TO.y (Y.neq rfl rfl) rfl rfl rfl ?_
        refine TO.nil ?_
        refine TE.next ?_
        refine TW.cond rfl (fun H9 => ?_) (fun H9 => ?_)
        · refine TW.seq ?_
          refine TW.region ?_
          refine TO.y (Y.assign rfl) rfl rfl rfl ?_
          refine TO.nil ?_
          refine TE.next ?_
          refine TW.ret ?_
          refine TE.then_ret ?_
          refine TE.block_ret ?_
          refine TE.then_ret ?_
          refine TE.lp_ret ?_
          refine TE.block_ret ?_
          refine TE.jn_done ?_
          refine TE.then_ret ?_
          exact TE.leaf fun _ _ hf_ hs_ => ret_any (rs := [.tmp 4]) (vs := [.int .i64 (-1 : Int)]) (.inl rfl) rfl ⟨rfl, trivial⟩ hf_ hs_ ⟨(), rfl, hs_.pulls [] rfl⟩
        · refine TW.skip ?_
          refine TE.next ?_
          refine TW.seq ?_
          refine TW.region ?_
          refine TO.y (Y.move rfl) rfl rfl rfl ?_
          refine TO.y (Y.add rfl rfl) rfl rfl rfl ?_
          refine TO.y (Y.assign rfl) rfl rfl rfl ?_
          refine TO.nil ?_
          refine TE.next ?_
          refine TW.seq ?_
          refine TW.seq ?_
          refine TW.draw (isH := []) hMix ?_
          refine TA.y (listed' := #[true, false, false, false, false, false, false, false]) 0 [] rfl (Y.move rfl) rfl rfl rfl (by kernel_rfl) (by kernel_rfl) (by kernel_rfl) rfl rfl ?_
          refine TA.y (listed' := #[true, true, false, false, false, false, false, false]) 1 [] rfl (Y.move rfl) rfl rfl rfl (by kernel_rfl) (by kernel_rfl) (by kernel_rfl) rfl rfl ?_
          refine TA.y (listed' := #[true, true, true, false, false, false, false, false]) 2 [] rfl (Y.index ke40 (Base.can HB_V_a0) H7 rfl rfl) rfl rfl rfl (by kernel_rfl) (by kernel_rfl) (by kernel_rfl) rfl rfl ?_
          refine TA.y (listed' := #[true, true, true, true, false, false, false, false]) 3 [] rfl (Y.field_el kf44_2 (Base.can HB_V_a0) (idx_get H7).2.2 rfl rfl) rfl rfl rfl (by kernel_rfl) (by kernel_rfl) (by kernel_rfl) rfl rfl ?_
          refine TA.y (listed' := #[true, true, true, true, true, false, false, false]) 4 [] rfl (Y.load_el (us := [strV E6.Lo]) (u := strV E6.Lo) kk9 rfl (Base.can HB_V_a0) (idx_get H7).2.2 rfl rfl rfl rfl rfl) rfl rfl rfl (by kernel_rfl) (by kernel_rfl) (by kernel_rfl) rfl rfl ?_
          refine TA.y (listed' := #[true, true, true, true, true, true, false, false]) 5 [] rfl (Y.move rfl) rfl rfl rfl (by kernel_rfl) (by kernel_rfl) (by kernel_rfl) rfl rfl ?_
          refine TA.bind fun R10 H11 => ?_
          refine TA.one 6 (by kernel_rfl) ?_
          refine TX.ef (listed' := #[true, true, true, true, true, true, true, false]) [] rfl (Ef.call (rest := []) [] (laws_markText_con (IntKind.i64.wrap (IntKind.i64.wrap (S1.1 + (1 : Int)) + (1 : Int)))  R10 H11) kc75 rfl rfl trivial) rfl rfl rfl rfl (fun _ => rfl) (fun _ => ?_)
          refine TA.y (listed' := #[true, true, true, true, true, true, true, true]) 7 [] rfl (Y.sneq rfl rfl) rfl rfl rfl (by kernel_rfl) (by kernel_rfl) (by kernel_rfl) rfl rfl ?_
          refine TA.nil (by kernel_rfl) ?_
          refine TE.next ?_
          refine TW.cond rfl (fun H13 => ?_) (fun H13 => ?_)
          · refine TW.seq ?_
            refine TW.region ?_
            refine TO.y (Y.assign rfl) rfl rfl rfl ?_
            refine TO.nil ?_
            refine TE.next ?_
            refine TW.ret ?_
            refine TE.then_ret ?_
            refine TE.block_ret ?_
            refine TE.then_ret ?_
            refine TE.lp_ret ?_
            refine TE.block_ret ?_
            refine TE.jn_done ?_
            refine TE.then_ret ?_
            exact TE.leaf fun _ _ hf_ hs_ => ret_any (rs := [.tmp 4]) (vs := [.int .i64 (-1 : Int)]) (.inl rfl) rfl ⟨rfl, trivial⟩ hf_ hs_ ⟨(), rfl, hs_.pulls [] rfl⟩
          · refine TW.skip ?_
            refine TE.next ?_
            refine TW.seq ?_
            refine TW.region ?_
            refine TO.y (Y.move rfl) rfl rfl rfl ?_
            refine TO.y (Y.add rfl rfl) rfl rfl rfl ?_
            refine TO.y (Y.assign rfl) rfl rfl rfl ?_
            refine TO.nil ?_
            refine TE.next ?_
            refine TW.seq ?_
            refine TW.seq ?_
            refine TW.draw (isH := []) hMix ?_
            refine TA.y (listed' := #[true, false, false, false, false, false, false, false]) 0 [] rfl (Y.move rfl) rfl rfl rfl (by kernel_rfl) (by kernel_rfl) (by kernel_rfl) rfl rfl ?_
            refine TA.y (listed' := #[true, true, false, false, false, false, false, false]) 1 [] rfl (Y.move rfl) rfl rfl rfl (by kernel_rfl) (by kernel_rfl) (by kernel_rfl) rfl rfl ?_
            refine TA.y (listed' := #[true, true, true, false, false, false, false, false]) 2 [] rfl (Y.index ke40 (Base.can HB_V_a0) H7 rfl rfl) rfl rfl rfl (by kernel_rfl) (by kernel_rfl) (by kernel_rfl) rfl rfl ?_
            refine TA.y (listed' := #[true, true, true, true, false, false, false, false]) 3 [] rfl (Y.field_el kf44_3 (Base.can HB_V_a0) (idx_get H7).2.2 rfl rfl) rfl rfl rfl (by kernel_rfl) (by kernel_rfl) (by kernel_rfl) rfl rfl ?_
            refine TA.y (listed' := #[true, true, true, true, true, false, false, false]) 4 [] rfl (Y.load_el (us := [strV E6.Hi]) (u := strV E6.Hi) kk9 rfl (Base.can HB_V_a0) (idx_get H7).2.2 rfl rfl rfl rfl rfl) rfl rfl rfl (by kernel_rfl) (by kernel_rfl) (by kernel_rfl) rfl rfl ?_
            refine TA.y (listed' := #[true, true, true, true, true, true, false, false]) 5 [] rfl (Y.move rfl) rfl rfl rfl (by kernel_rfl) (by kernel_rfl) (by kernel_rfl) rfl rfl ?_
            refine TA.bind fun R14 H15 => ?_
            refine TA.one 6 (by kernel_rfl) ?_
            refine TX.ef (listed' := #[true, true, true, true, true, true, true, false]) [] rfl (Ef.call (rest := []) [] (laws_markText_con (IntKind.i64.wrap (IntKind.i64.wrap (IntKind.i64.wrap (S1.1 + (1 : Int)) + (1 : Int)) + (1 : Int)))  R14 H15) kc75 rfl rfl trivial) rfl rfl rfl rfl (fun _ => rfl) (fun _ => ?_)
            refine TA.y (listed' := #[true, true, true, true, true, true, true, true]) 7 [] rfl (Y.sneq rfl rfl) rfl rfl rfl (by kernel_rfl) (by kernel_rfl) (by kernel_rfl) rfl rfl ?_
            refine TA.nil (by kernel_rfl) ?_
            refine TE.next ?_
            refine TW.cond rfl (fun H17 => ?_) (fun H17 => ?_)
            · refine TW.seq ?_
              refine TW.region ?_
              refine TO.y (Y.assign rfl) rfl rfl rfl ?_
              refine TO.nil ?_
              refine TE.next ?_
              refine TW.ret ?_
              refine TE.then_ret ?_
              refine TE.block_ret ?_
              refine TE.then_ret ?_
              refine TE.lp_ret ?_
              refine TE.block_ret ?_
              refine TE.jn_done ?_
              refine TE.then_ret ?_
              exact TE.leaf fun _ _ hf_ hs_ => ret_any (rs := [.tmp 4]) (vs := [.int .i64 (-1 : Int)]) (.inl rfl) rfl ⟨rfl, trivial⟩ hf_ hs_ ⟨(), rfl, hs_.pulls [] rfl⟩
            · refine TW.skip ?_
              refine TE.next ?_
              refine TW.region ?_
              refine TO.y (Y.move rfl) rfl rfl rfl ?_
              refine TO.y (Y.add rfl rfl) rfl rfl rfl ?_
              refine TO.y (Y.assign rfl) rfl rfl rfl ?_
              refine TO.nil ?_
              refine TE.block_normal ?_
              refine TE.next ?_
              refine TW.region ?_
              refine TO.y (Y.move rfl) rfl rfl rfl ?_
              refine TO.y (Y.add rfl rfl) rfl rfl rfl ?_
              refine TO.y (Y.assign rfl) rfl rfl rfl ?_
              refine TO.nil ?_
              exact TE.lp_go () [] ⟨rfl, rfl, rfl, trivial⟩ rfl
    · refine TW.exit ?_
      refine TE.then_exit ?_
      refine TE.lp_exit ?_
      refine TE.block_exit ?_
      exact TE.jn_go () [] ⟨rfl, trivial⟩ rfl
  · refine TE.next ?_
    refine TW.seq ?_
    refine TW.region ?_
    refine TO.y (Y.move rfl) rfl rfl rfl ?_
    refine TO.y (Y.assign rfl) rfl rfl rfl ?_
    refine TO.nil ?_
    refine TE.next ?_
    refine TW.ret ?_
    exact TE.leaf fun _ _ hf_ hs_ => ret_any (rs := [.tmp 4]) (vs := [.int .i64 T3]) (.inl rfl) rfl ⟨rfl, trivial⟩ hf_ hs_ ⟨(), rfl, hs_.pulls [] rfl⟩

/-- loop.example/g00950/laws.FnExactFilesAdd -/
noncomputable def laws_FnExactFilesAdd (aL : List File) (aF : File) : Option Bool :=
  (laws_szFileS aL (1048576 : Int)).bind fun R2 =>
  if (decide (R2 < (0 : Int))) = true then (some true)
  else ((laws_szFile aF R2).bind fun R6 =>
  if (decide (R6 < (0 : Int))) = true then (some true)
  else ((laws_toFileS aL).bind fun R10 =>
  (laws_toFile aF).bind fun R13 =>
  (spec_FilesAdd R10 R13).bind fun R16 =>
  (impl_FilesAdd R10 R13).bind fun R21 =>
  ((laws_eqFileS R21.1 R16.1).bind fun R26 =>
  if (!R26) = true then (some true)
  else (some (!(decide (R21.2 = R16.2))))).bind (fun (T24 : Bool) =>
  if T24 = true then (some false)
  else ((laws_eqFileS R10 R10).bind fun R32 =>
  if (!R32) = true then (some false)
  else ((laws_markFileS R10 (1 : Int)).bind fun R36 =>
  (if (decide (R36.1 < (0 : Int))) = true then (some true)
  else ((laws_eqFileS R21.1 R16.1).bind fun R42 =>
  if (!R42) = true then (some true)
  else (some (!(decide (R21.2 = R16.2)))))).bind (fun (T39 : Bool) =>
  if T39 = true then (some false)
  else ((laws_markFileS R21.1 (1 : Int)).bind fun R47 =>
  (laws_heldFileS R47.2 (1 : Int)).bind fun R50 =>
  if (decide (R50 < (0 : Int))) = true then (some false)
  else (if (!(decide (R50 = R47.1))) = true then (some false)
  else (((laws_eqFileS R21.1 R16.1).bind fun R60 =>
  if (!R60) = true then (some true)
  else (some (!(decide (R21.2 = R16.2))))).bind (fun (T58 : Bool) =>
  if T58 = true then (some false)
  else (if (decide (R50 < (0 : Int))) = true then (some false)
  else (if (!(decide (R50 = R47.1))) = true then (some false)
  else (some true)))))))))))))

theorem laws_FnExactFilesAdd_con (aL : List File) (aF : File) (V_aL0 : Value) (r : Bool) (hm : laws_FnExactFilesAdd aL aF = some r) :
    Con Try.prog 4 [V_aL0, .agg #[.int .i64 aF.No, .int .i64 aF.Level, strV aF.Lo, strV aF.Hi]] [] [(V_aL0, lc aL)] (fun _ : Unit => .bool r) (fun _ => []) := by
  refine Con.intro (args := [V_aL0, .agg #[.int .i64 aF.No, .int .i64 aF.Level, strV aF.Lo, strV aF.Hi]]) (n := 109) (val := fun r (_ : Unit) => .bool r) (post := fun _ _ => []) (m := laws_FnExactFilesAdd aL aF) Try.func4 rfl rfl rfl hm ?_
  intro w S hrd
  have HB_V_aL0 := hrd _ (.head _)
  clear hrd
  unfold laws_FnExactFilesAdd
  refine TW.seq ?_
  refine TW.region ?_
  refine TO.ef (Ef.box rfl (Cel.plain rfl rfl)) rfl rfl rfl (fun B1 => ?_)
  refine TO.y (Y.assign rfl) rfl rfl rfl ?_
  refine TO.nil ?_
  refine TE.next ?_
  refine TW.seq ?_
  refine TW.region ?_
  refine TO.y (Y.assign rfl) rfl rfl rfl ?_
  refine TO.nil ?_
  refine TE.next ?_
  refine TW.seq ?_
  refine TW.region ?_
  refine TO.y (Y.move rfl) rfl rfl rfl ?_
  refine TO.y (Y.move rfl) rfl rfl rfl ?_
  refine TO.bind fun R2 H3 => ?_
  refine TO.ef (Ef.call (rest := [.box B1 37 [.int .i64 aF.No, .int .i64 aF.Level, strV aF.Lo, strV aF.Hi]]) [0] (laws_szFileS_con aL (1048576 : Int) V_aL0 R2 H3) kc16 rfl rfl ⟨(Base.can HB_V_aL0), trivial⟩) rfl rfl rfl (fun _ => ?_)
  refine TO.y (Y.assign rfl) rfl rfl rfl ?_
  refine TO.nil ?_
  refine TE.next ?_
  refine TW.seq ?_
  refine TW.seq ?_
  refine TW.region ?_
  refine TO.y (Y.move rfl) rfl rfl rfl ?_
  refine TO.y (Y.lss rfl rfl) rfl rfl rfl ?_
  refine TO.nil ?_
  refine TE.next ?_
  refine TW.cond rfl (fun H5 => ?_) (fun H5 => ?_)
  · refine TW.seq ?_
    refine TW.region ?_
    refine TO.y (Y.assign rfl) rfl rfl rfl ?_
    refine TO.nil ?_
    refine TE.next ?_
    refine TW.ret ?_
    refine TE.then_ret ?_
    exact TE.leaf fun _ _ hf_ hs_ => ret_any (rs := [.tmp 4]) (vs := [.bool true]) (.inl rfl) rfl ⟨rfl, trivial⟩ hf_ hs_ ⟨(), rfl, hs_.pulls [] rfl⟩
  · refine TW.skip ?_
    refine TE.next ?_
    refine TW.seq ?_
    refine TW.region ?_
    refine TO.y (Y.load_box (v := .agg #[.int .i64 aF.No, .int .i64 aF.Level, strV aF.Lo, strV aF.Hi]) 0 kk37 rfl rfl rfl) rfl rfl rfl ?_
    refine TO.y (Y.move rfl) rfl rfl rfl ?_
    refine TO.bind fun R6 H7 => ?_
    refine TO.ef (Ef.call (rest := [.box B1 37 [.int .i64 aF.No, .int .i64 aF.Level, strV aF.Lo, strV aF.Hi]]) [0] (laws_szFile_con aF R2  R6 H7) kc17 rfl rfl trivial) rfl rfl rfl (fun _ => ?_)
    refine TO.y (Y.assign rfl) rfl rfl rfl ?_
    refine TO.nil ?_
    refine TE.next ?_
    refine TW.seq ?_
    refine TW.seq ?_
    refine TW.region ?_
    refine TO.y (Y.move rfl) rfl rfl rfl ?_
    refine TO.y (Y.lss rfl rfl) rfl rfl rfl ?_
    refine TO.nil ?_
    refine TE.next ?_
    refine TW.cond rfl (fun H9 => ?_) (fun H9 => ?_)
    · refine TW.seq ?_
      refine TW.region ?_
      refine TO.y (Y.assign rfl) rfl rfl rfl ?_
      refine TO.nil ?_
      refine TE.next ?_
      refine TW.ret ?_
      refine TE.then_ret ?_
      exact TE.leaf fun _ _ hf_ hs_ => ret_any (rs := [.tmp 4]) (vs := [.bool true]) (.inl rfl) rfl ⟨rfl, trivial⟩ hf_ hs_ ⟨(), rfl, hs_.pulls [] rfl⟩
    · refine TW.skip ?_
      refine TE.next ?_
      refine TW.seq ?_
      refine TW.draw (isH := [.box B1 37 [.int .i64 aF.No, .int .i64 aF.Level, strV aF.Lo, strV aF.Hi]]) hMix ?_
      refine TA.y (listed' := #[true, false, false, false, false, false, false, false, false, false]) 0 [0] rfl (Y.move rfl) rfl rfl rfl (by kernel_rfl) (by kernel_rfl) (by kernel_rfl) rfl rfl ?_
      refine TA.y (listed' := #[true, false, true, false, false, false, false, false, false, false]) 2 [0] rfl (Y.load_box (v := .agg #[.int .i64 aF.No, .int .i64 aF.Level, strV aF.Lo, strV aF.Hi]) 0 kk37 rfl rfl rfl) rfl rfl rfl (by kernel_rfl) (by kernel_rfl) (by kernel_rfl) rfl rfl ?_
      refine TA.bind fun R10 H11 => ?_
      refine TA.one 1 (by kernel_rfl) ?_
      refine TX.ef (listed' := #[true, true, true, false, false, false, false, false, false, false]) [1] rfl (Ef.call (rest := [.box B1 37 [.int .i64 aF.No, .int .i64 aF.Level, strV aF.Lo, strV aF.Hi]]) [0] (laws_toFileS_con aL V_aL0 R10 H11) kc19 rfl rfl ⟨(Base.can HB_V_aL0), trivial⟩) rfl rfl rfl rfl (fun _ => rfl) (fun Y12 => ?_)
      refine TA.bind fun R13 H14 => ?_
      refine TA.one 3 (by kernel_rfl) ?_
      refine TX.ef (listed' := #[true, true, true, true, false, false, false, false, false, false]) [1] rfl (Ef.call (rest := [.own Y12 (lc R10), .box B1 37 [.int .i64 aF.No, .int .i64 aF.Level, strV aF.Lo, strV aF.Hi]]) [0, 0] (laws_toFile_con aF  R13 H14) kc20 rfl rfl trivial) rfl rfl rfl rfl (fun _ => rfl) (fun _ => ?_)
      refine TA.bind fun R16 H17 => ?_
      refine TA.one 4 (by kernel_rfl) ?_
      refine TX.ef (listed' := #[true, true, true, true, true, false, false, false, false, false]) [2] rfl (Ef.call (rest := [.own Y12 (lc R10), .box B1 37 [.int .i64 aF.No, .int .i64 aF.Level, strV aF.Lo, strV aF.Hi]]) [0, 0] (spec_FilesAdd_con R10 R13 Y12 R16 H17) kc18 rfl rfl ⟨(Can.own 0 rfl), trivial⟩) rfl rfl rfl rfl (fun _ => rfl) (fun Y18 => ?_)
      refine TA.y (listed' := #[true, true, true, true, true, true, false, false, false, false]) 5 [2] rfl (Y.move rfl) rfl rfl rfl (by kernel_rfl) (by kernel_rfl) (by kernel_rfl) rfl rfl ?_
      refine TA.y (listed' := #[true, true, true, true, true, true, true, false, false, false]) 6 [2] rfl (Y.extract rfl rfl) rfl rfl rfl (by kernel_rfl) (by kernel_rfl) (by kernel_rfl) rfl rfl ?_
      refine TA.y (listed' := #[true, true, true, true, true, true, true, true, false, false]) 7 [2] rfl (Y.extract rfl rfl) rfl rfl rfl (by kernel_rfl) (by kernel_rfl) (by kernel_rfl) rfl rfl ?_
      refine TA.y (listed' := #[true, true, true, true, true, true, true, true, true, false]) 8 [2] rfl (Y.assign rfl) rfl rfl rfl (by kernel_rfl) (by kernel_rfl) (by kernel_rfl) rfl rfl ?_
      refine TA.y (listed' := #[true, true, true, true, true, true, true, true, true, true]) 9 [2] rfl (Y.assign rfl) rfl rfl rfl (by kernel_rfl) (by kernel_rfl) (by kernel_rfl) rfl rfl ?_
      refine TA.nil (by kernel_rfl) ?_
      refine TE.next ?_
      refine TW.seq ?_
      refine TW.region ?_
      refine TO.y (Y.move rfl) rfl rfl rfl ?_
      refine TO.ef (Ef.call (rest := [.own Y18 (lc R16.1), .own Y12 (lc R10), .box B1 37 [.int .i64 aF.No, .int .i64 aF.Level, strV aF.Lo, strV aF.Hi]]) [0, 0, 0] (laws_toFileS_con aL V_aL0 R10 H11) kc19 rfl rfl ⟨(Base.can HB_V_aL0), trivial⟩) rfl rfl rfl (fun Y19 => ?_)
      refine TO.y (Y.assign rfl) rfl rfl rfl ?_
      refine TO.nil ?_
      refine TE.next ?_
      refine TW.seq ?_
      refine TW.region ?_
      refine TO.y (Y.move rfl) rfl rfl rfl ?_
      refine TO.y (Y.load_box (v := .agg #[.int .i64 aF.No, .int .i64 aF.Level, strV aF.Lo, strV aF.Hi]) 3 kk37 rfl rfl rfl) rfl rfl rfl ?_
      refine TO.ef (Ef.call (rest := [.own Y19 (lc R10), .own Y18 (lc R16.1), .own Y12 (lc R10), .box B1 37 [.int .i64 aF.No, .int .i64 aF.Level, strV aF.Lo, strV aF.Hi]]) [0, 0, 0, 0] (laws_toFile_con aF  R13 H14) kc20 rfl rfl trivial) rfl rfl rfl (fun _ => ?_)
      refine TO.bind fun R21 H22 => ?_
      refine TO.ef (Ef.call (rest := [.own Y19 (lc R10), .own Y18 (lc R16.1), .own Y12 (lc R10), .box B1 37 [.int .i64 aF.No, .int .i64 aF.Level, strV aF.Lo, strV aF.Hi]]) [0, 0, 0, 0] (impl_FilesAdd_con R10 R13 Y19 R21 H22) kc21 rfl rfl ⟨(Can.own 0 rfl), trivial⟩) rfl rfl rfl (fun Y23 => ?_)
      refine TO.y (Y.move rfl) rfl rfl rfl ?_
      refine TO.y (Y.extract rfl rfl) rfl rfl rfl ?_
      refine TO.y (Y.extract rfl rfl) rfl rfl rfl ?_
      refine TO.y (Y.assign rfl) rfl rfl rfl ?_
      refine TO.y (Y.assign rfl) rfl rfl rfl ?_
      refine TO.nil ?_
      refine TE.next ?_
      refine TW.seq ?_
      refine TW.seq ?_
      refine TW.joinBX (τ := Bool) (X := Unit) (fun T _ => [(0, V_aL0), (3, .pointer (some ⟨B1, 0, none⟩)), (6, Y18), (7, .bool R16.2), (8, Y19), (9, Y23), (10, .bool R21.2), (51, .bool T)]) (fun _ _ => [.box B1 37 [.int .i64 aF.No, .int .i64 aF.Level, strV aF.Lo, strV aF.Hi], .own Y18 (lc R16.1), .own Y19 (lc R10), .own Y23 (lc R21.1)]) ?_ (fun T24 X25 => ?_)
      · refine TW.region ?_
        refine TO.y (Y.move rfl) rfl rfl rfl ?_
        refine TO.y (Y.move rfl) rfl rfl rfl ?_
        refine TO.bind fun R26 H27 => ?_
        refine TO.ef (Ef.call (rest := [.own Y23 (lc R21.1), .own Y19 (lc R10), .own Y18 (lc R16.1), .own Y12 (lc R10), .box B1 37 [.int .i64 aF.No, .int .i64 aF.Level, strV aF.Lo, strV aF.Hi]]) [0, 0, 0, 0, 0] (laws_eqFileS_con R21.1 R16.1 Y23 Y18 R26 H27) kc22 rfl rfl ⟨(Can.own 0 rfl), (Can.own 2 rfl), trivial⟩) rfl rfl rfl (fun _ => ?_)
        refine TO.y (Y.not rfl) rfl rfl rfl ?_
        refine TO.y (Y.move rfl) rfl rfl rfl ?_
        refine TO.ite (b := !R26) (fun H29 => ?_) (fun H29 => ?_)
        · refine TO.off (Gd.at 4 false 47 (!R26) rfl rfl rfl (beq_tf H29)) rfl rfl ?_
          refine TO.off (Gd.at 4 false 47 (!R26) rfl rfl rfl (beq_tf H29)) rfl rfl ?_
          refine TO.off (Gd.at 4 false 47 (!R26) rfl rfl rfl (beq_tf H29)) rfl rfl ?_
          refine TO.y (Y.pick_t H29 rfl rfl) rfl rfl rfl ?_
          refine TO.nil ?_
          exact TE.jb_go () [4, 2, 1, 0] ⟨rfl, rfl, rfl, rfl, rfl, rfl, rfl, rfl, trivial⟩ rfl
        · refine TO.y (Y.move rfl) (Gd.at 4 false 47 (!R26) rfl rfl rfl (beq_ff H29)) rfl rfl ?_
          refine TO.y (Y.move rfl) (Gd.at 4 false 47 (!R26) rfl rfl rfl (beq_ff H29)) rfl rfl ?_
          refine TO.y (Y.neb kb4 rfl rfl) (Gd.at 4 false 47 (!R26) rfl rfl rfl (beq_ff H29)) rfl rfl ?_
          refine TO.y (Y.pick_f H29 rfl rfl) rfl rfl rfl ?_
          refine TO.nil ?_
          exact TE.jb_go () [4, 2, 1, 0] ⟨rfl, rfl, rfl, rfl, rfl, rfl, rfl, rfl, trivial⟩ rfl
      · refine TE.next ?_
        refine TW.cond rfl (fun H30 => ?_) (fun H30 => ?_)
        · refine TW.seq ?_
          refine TW.region ?_
          refine TO.y (Y.assign rfl) rfl rfl rfl ?_
          refine TO.nil ?_
          refine TE.next ?_
          refine TW.ret ?_
          refine TE.then_ret ?_
          exact TE.leaf fun _ _ hf_ hs_ => ret_any (rs := [.tmp 4]) (vs := [.bool false]) (.inl rfl) rfl ⟨rfl, trivial⟩ hf_ hs_ ⟨(), rfl, hs_.pulls [] rfl⟩
        · refine TW.skip ?_
          refine TE.next ?_
          refine TW.seq ?_
          refine TW.seq ?_
          refine TW.region ?_
          refine TO.y (Y.move rfl) rfl rfl rfl ?_
          refine TO.y (Y.move rfl) rfl rfl rfl ?_
          refine TO.ef (Ef.call (rest := [.box B1 37 [.int .i64 aF.No, .int .i64 aF.Level, strV aF.Lo, strV aF.Hi], .own Y18 (lc R16.1), .own Y19 (lc R10), .own Y23 (lc R21.1)]) [0, 0, 0, 0] (laws_toFileS_con aL V_aL0 R10 H11) kc19 rfl rfl ⟨(Base.can HB_V_aL0), trivial⟩) rfl rfl rfl (fun Y31 => ?_)
          refine TO.bind fun R32 H33 => ?_
          refine TO.ef (Ef.call (rest := [.own Y31 (lc R10), .box B1 37 [.int .i64 aF.No, .int .i64 aF.Level, strV aF.Lo, strV aF.Hi], .own Y18 (lc R16.1), .own Y19 (lc R10), .own Y23 (lc R21.1)]) [0, 0, 0, 0, 0] (laws_eqFileS_con R10 R10 Y19 Y31 R32 H33) kc22 rfl rfl ⟨(Can.own 3 rfl), (Can.own 0 rfl), trivial⟩) rfl rfl rfl (fun _ => ?_)
          refine TO.y (Y.not rfl) rfl rfl rfl ?_
          refine TO.nil ?_
          refine TE.next ?_
          refine TW.cond rfl (fun H35 => ?_) (fun H35 => ?_)
          · refine TW.seq ?_
            refine TW.region ?_
            refine TO.y (Y.assign rfl) rfl rfl rfl ?_
            refine TO.nil ?_
            refine TE.next ?_
            refine TW.ret ?_
            refine TE.then_ret ?_
            exact TE.leaf fun _ _ hf_ hs_ => ret_any (rs := [.tmp 4]) (vs := [.bool false]) (.inl rfl) rfl ⟨rfl, trivial⟩ hf_ hs_ ⟨(), rfl, hs_.pulls [] rfl⟩
          · refine TW.skip ?_
            refine TE.next ?_
            refine TW.seq ?_
            refine TW.region ?_
            refine TO.y (Y.assign rfl) rfl rfl rfl ?_
            refine TO.nil ?_
            refine TE.next ?_
            refine TW.seq ?_
            refine TW.region ?_
            refine TO.y (Y.move rfl) rfl rfl rfl ?_
            refine TO.y (Y.move rfl) rfl rfl rfl ?_
            refine TO.bind fun R36 H37 => ?_
            refine TO.ef (Ef.call (rest := [.own Y31 (lc R10), .box B1 37 [.int .i64 aF.No, .int .i64 aF.Level, strV aF.Lo, strV aF.Hi], .own Y18 (lc R16.1), .own Y23 (lc R21.1)]) [3, 0, 0, 0, 0] (laws_markFileS_con R10 (1 : Int) Y19 R36 H37) kc23 rfl rfl trivial) rfl rfl rfl (fun _ => ?_)
            refine TO.y (Y.assign rfl) rfl rfl rfl ?_
            refine TO.nil ?_
            refine TE.next ?_
            refine TW.seq ?_
            refine TW.seq ?_
            refine TW.joinBX (τ := Bool) (X := Unit) (fun T _ => [(0, V_aL0), (3, .pointer (some ⟨B1, 0, none⟩)), (6, Y18), (7, .bool R16.2), (9, Y23), (72, .bool T)]) (fun _ _ => [.box B1 37 [.int .i64 aF.No, .int .i64 aF.Level, strV aF.Lo, strV aF.Hi], .own Y18 (lc R16.1), .own Y23 (lc R21.1)]) ?_ (fun T39 X40 => ?_)
            · refine TW.region ?_
              refine TO.y (Y.move rfl) rfl rfl rfl ?_
              refine TO.y (Y.lss rfl rfl) rfl rfl rfl ?_
              refine TO.y (Y.move rfl) rfl rfl rfl ?_
              refine TO.ite (b := decide (R36.1 < (0 : Int))) (fun H41 => ?_) (fun H41 => ?_)
              · refine TO.off (Gd.at 2 false 62 (decide (R36.1 < (0 : Int))) rfl rfl rfl (beq_tf H41)) rfl rfl ?_
                refine TO.off (Gd.at 2 false 62 (decide (R36.1 < (0 : Int))) rfl rfl rfl (beq_tf H41)) rfl rfl ?_
                refine TO.off (Gd.at 2 false 62 (decide (R36.1 < (0 : Int))) rfl rfl rfl (beq_tf H41)) rfl rfl ?_
                refine TO.off (Gd.at 2 false 62 (decide (R36.1 < (0 : Int))) rfl rfl rfl (beq_tf H41)) rfl rfl ?_
                refine TO.y (Y.pick_t H41 rfl rfl) rfl rfl rfl ?_
                refine TO.y (Y.move rfl) rfl rfl rfl ?_
                refine TO.off (Gd.at 8 false 68 true rfl rfl rfl rfl) rfl rfl ?_
                refine TO.off (Gd.at 8 false 68 true rfl rfl rfl rfl) rfl rfl ?_
                refine TO.off (Gd.at 8 false 68 true rfl rfl rfl rfl) rfl rfl ?_
                refine TO.y (Y.pick_t rfl rfl rfl) rfl rfl rfl ?_
                refine TO.nil ?_
                exact TE.jb_go () [2, 2, 2] ⟨rfl, rfl, rfl, rfl, rfl, rfl, trivial⟩ rfl
              · refine TO.y (Y.move rfl) (Gd.at 2 false 62 (decide (R36.1 < (0 : Int))) rfl rfl rfl (beq_ff H41)) rfl rfl ?_
                refine TO.y (Y.move rfl) (Gd.at 2 false 62 (decide (R36.1 < (0 : Int))) rfl rfl rfl (beq_ff H41)) rfl rfl ?_
                refine TO.bind fun R42 H43 => ?_
                refine TO.ef (Ef.call (rest := [.own Y19 (lc R36.2), .own Y31 (lc R10), .box B1 37 [.int .i64 aF.No, .int .i64 aF.Level, strV aF.Lo, strV aF.Hi], .own Y18 (lc R16.1), .own Y23 (lc R21.1)]) [0, 0, 0, 0, 0] (laws_eqFileS_con R21.1 R16.1 Y23 Y18 R42 H43) kc22 rfl rfl ⟨(Can.own 4 rfl), (Can.own 3 rfl), trivial⟩) (Gd.at 2 false 62 (decide (R36.1 < (0 : Int))) rfl rfl rfl (beq_ff H41)) rfl rfl (fun _ => ?_)
                refine TO.y (Y.not rfl) (Gd.at 2 false 62 (decide (R36.1 < (0 : Int))) rfl rfl rfl (beq_ff H41)) rfl rfl ?_
                refine TO.y (Y.pick_f H41 rfl rfl) rfl rfl rfl ?_
                refine TO.y (Y.move rfl) rfl rfl rfl ?_
                refine TO.ite (b := !R42) (fun H45 => ?_) (fun H45 => ?_)
                · refine TO.off (Gd.at 8 false 68 (!R42) rfl rfl rfl (beq_tf H45)) rfl rfl ?_
                  refine TO.off (Gd.at 8 false 68 (!R42) rfl rfl rfl (beq_tf H45)) rfl rfl ?_
                  refine TO.off (Gd.at 8 false 68 (!R42) rfl rfl rfl (beq_tf H45)) rfl rfl ?_
                  refine TO.y (Y.pick_t H45 rfl rfl) rfl rfl rfl ?_
                  refine TO.nil ?_
                  exact TE.jb_go () [2, 2, 2] ⟨rfl, rfl, rfl, rfl, rfl, rfl, trivial⟩ rfl
                · refine TO.y (Y.move rfl) (Gd.at 8 false 68 (!R42) rfl rfl rfl (beq_ff H45)) rfl rfl ?_
                  refine TO.y (Y.move rfl) (Gd.at 8 false 68 (!R42) rfl rfl rfl (beq_ff H45)) rfl rfl ?_
                  refine TO.y (Y.neb kb4 rfl rfl) (Gd.at 8 false 68 (!R42) rfl rfl rfl (beq_ff H45)) rfl rfl ?_
                  refine TO.y (Y.pick_f H45 rfl rfl) rfl rfl rfl ?_
                  refine TO.nil ?_
                  exact TE.jb_go () [2, 2, 2] ⟨rfl, rfl, rfl, rfl, rfl, rfl, trivial⟩ rfl
            · refine TE.next ?_
              refine TW.cond rfl (fun H46 => ?_) (fun H46 => ?_)
              · refine TW.seq ?_
                refine TW.region ?_
                refine TO.y (Y.assign rfl) rfl rfl rfl ?_
                refine TO.nil ?_
                refine TE.next ?_
                refine TW.ret ?_
                refine TE.then_ret ?_
                exact TE.leaf fun _ _ hf_ hs_ => ret_any (rs := [.tmp 4]) (vs := [.bool false]) (.inl rfl) rfl ⟨rfl, trivial⟩ hf_ hs_ ⟨(), rfl, hs_.pulls [] rfl⟩
              · refine TW.skip ?_
                refine TE.next ?_
                refine TW.seq ?_
                refine TW.region ?_
                refine TO.y (Y.assign rfl) rfl rfl rfl ?_
                refine TO.nil ?_
                refine TE.next ?_
                refine TW.seq ?_
                refine TW.region ?_
                refine TO.y (Y.move rfl) rfl rfl rfl ?_
                refine TO.y (Y.move rfl) rfl rfl rfl ?_
                refine TO.bind fun R47 H48 => ?_
                refine TO.ef (Ef.call (rest := [.box B1 37 [.int .i64 aF.No, .int .i64 aF.Level, strV aF.Lo, strV aF.Hi], .own Y18 (lc R16.1)]) [2, 0, 0] (laws_markFileS_con R21.1 (1 : Int) Y23 R47 H48) kc23 rfl rfl trivial) rfl rfl rfl (fun _ => ?_)
                refine TO.y (Y.assign rfl) rfl rfl rfl ?_
                refine TO.nil ?_
                refine TE.next ?_
                refine TW.seq ?_
                refine TW.region ?_
                refine TO.y (Y.assign rfl) rfl rfl rfl ?_
                refine TO.nil ?_
                refine TE.next ?_
                refine TW.seq ?_
                refine TW.region ?_
                refine TO.y (Y.move rfl) rfl rfl rfl ?_
                refine TO.y (Y.move rfl) rfl rfl rfl ?_
                refine TO.bind fun R50 H51 => ?_
                refine TO.ef (Ef.call (rest := [.own Y23 (lc R47.2), .box B1 37 [.int .i64 aF.No, .int .i64 aF.Level, strV aF.Lo, strV aF.Hi], .own Y18 (lc R16.1)]) [0, 0, 0] (laws_heldFileS_con R47.2 (1 : Int) Y23 R50 H51) kc24 rfl rfl ⟨(Can.own 0 rfl), trivial⟩) rfl rfl rfl (fun _ => ?_)
                refine TO.y (Y.assign rfl) rfl rfl rfl ?_
                refine TO.nil ?_
                refine TE.next ?_
                refine TW.seq ?_
                refine TW.seq ?_
                refine TW.region ?_
                refine TO.y (Y.move rfl) rfl rfl rfl ?_
                refine TO.y (Y.lss rfl rfl) rfl rfl rfl ?_
                refine TO.nil ?_
                refine TE.next ?_
                refine TW.cond rfl (fun H53 => ?_) (fun H53 => ?_)
                · refine TW.seq ?_
                  refine TW.region ?_
                  refine TO.y (Y.assign rfl) rfl rfl rfl ?_
                  refine TO.nil ?_
                  refine TE.next ?_
                  refine TW.ret ?_
                  refine TE.then_ret ?_
                  exact TE.leaf fun _ _ hf_ hs_ => ret_any (rs := [.tmp 4]) (vs := [.bool false]) (.inl rfl) rfl ⟨rfl, trivial⟩ hf_ hs_ ⟨(), rfl, hs_.pulls [] rfl⟩
                · refine TW.skip ?_
                  refine TE.next ?_
                  refine TW.seq ?_
                  refine TW.seq ?_
                  refine TW.region ?_
                  refine TO.y (Y.move rfl) rfl rfl rfl ?_
                  refine TO.y (Y.move rfl) rfl rfl rfl ?_
                  refine TO.y (Y.neq rfl rfl) rfl rfl rfl ?_
                  refine TO.nil ?_
                  refine TE.next ?_
                  refine TW.cond rfl (fun H54 => ?_) (fun H54 => ?_)
                  · refine TW.seq ?_
                    refine TW.region ?_
                    refine TO.y (Y.assign rfl) rfl rfl rfl ?_
                    refine TO.nil ?_
                    refine TE.next ?_
                    refine TW.ret ?_
                    refine TE.then_ret ?_
                    exact TE.leaf fun _ _ hf_ hs_ => ret_any (rs := [.tmp 4]) (vs := [.bool false]) (.inl rfl) rfl ⟨rfl, trivial⟩ hf_ hs_ ⟨(), rfl, hs_.pulls [] rfl⟩
                  · refine TW.skip ?_
                    refine TE.next ?_
                    refine TW.seq ?_
                    refine TW.draw (isH := [.own Y23 (lc R47.2), .box B1 37 [.int .i64 aF.No, .int .i64 aF.Level, strV aF.Lo, strV aF.Hi], .own Y18 (lc R16.1)]) hMix ?_
                    refine TA.y (listed' := #[true, false, false, false, false, false, false, false, false, false]) 0 [0, 0, 0] rfl (Y.move rfl) rfl rfl rfl (by kernel_rfl) (by kernel_rfl) (by kernel_rfl) rfl rfl ?_
                    refine TA.y (listed' := #[true, false, true, false, false, false, false, false, false, false]) 2 [0, 0, 0] rfl (Y.load_box (v := .agg #[.int .i64 aF.No, .int .i64 aF.Level, strV aF.Lo, strV aF.Hi]) 1 kk37 rfl rfl rfl) rfl rfl rfl (by kernel_rfl) (by kernel_rfl) (by kernel_rfl) rfl rfl ?_
                    refine TA.one 1 (by kernel_rfl) ?_
                    refine TX.ef (listed' := #[true, true, true, false, false, false, false, false, false, false]) [1, 1, 1] rfl (Ef.call (rest := [.own Y23 (lc R47.2), .box B1 37 [.int .i64 aF.No, .int .i64 aF.Level, strV aF.Lo, strV aF.Hi], .own Y18 (lc R16.1)]) [0, 0, 0] (laws_toFileS_con aL V_aL0 R10 H11) kc19 rfl rfl ⟨(Base.can HB_V_aL0), trivial⟩) rfl rfl rfl rfl (fun _ => rfl) (fun Y55 => ?_)
                    refine TA.one 3 (by kernel_rfl) ?_
                    refine TX.ef (listed' := #[true, true, true, true, false, false, false, false, false, false]) [1, 1, 1] rfl (Ef.call (rest := [.own Y55 (lc R10), .own Y23 (lc R47.2), .box B1 37 [.int .i64 aF.No, .int .i64 aF.Level, strV aF.Lo, strV aF.Hi], .own Y18 (lc R16.1)]) [0, 0, 0, 0] (laws_toFile_con aF  R13 H14) kc20 rfl rfl trivial) rfl rfl rfl rfl (fun _ => rfl) (fun _ => ?_)
                    refine TA.one 4 (by kernel_rfl) ?_
                    refine TX.ef (listed' := #[true, true, true, true, true, false, false, false, false, false]) [2, 2, 2] rfl (Ef.call (rest := [.own Y55 (lc R10), .own Y23 (lc R47.2), .box B1 37 [.int .i64 aF.No, .int .i64 aF.Level, strV aF.Lo, strV aF.Hi], .own Y18 (lc R16.1)]) [0, 0, 0, 0] (impl_FilesAdd_con R10 R13 Y55 R21 H22) kc21 rfl rfl ⟨(Can.own 0 rfl), trivial⟩) rfl rfl rfl rfl (fun _ => rfl) (fun Y57 => ?_)
                    refine TA.y (listed' := #[true, true, true, true, true, true, false, false, false, false]) 5 [2, 2, 2] rfl (Y.move rfl) rfl rfl rfl (by kernel_rfl) (by kernel_rfl) (by kernel_rfl) rfl rfl ?_
                    refine TA.y (listed' := #[true, true, true, true, true, true, true, false, false, false]) 6 [2, 2, 2] rfl (Y.extract rfl rfl) rfl rfl rfl (by kernel_rfl) (by kernel_rfl) (by kernel_rfl) rfl rfl ?_
                    refine TA.y (listed' := #[true, true, true, true, true, true, true, true, false, false]) 7 [2, 2, 2] rfl (Y.extract rfl rfl) rfl rfl rfl (by kernel_rfl) (by kernel_rfl) (by kernel_rfl) rfl rfl ?_
                    refine TA.y (listed' := #[true, true, true, true, true, true, true, true, true, false]) 8 [2, 2, 2] rfl (Y.assign rfl) rfl rfl rfl (by kernel_rfl) (by kernel_rfl) (by kernel_rfl) rfl rfl ?_
                    refine TA.y (listed' := #[true, true, true, true, true, true, true, true, true, true]) 9 [2, 2, 2] rfl (Y.assign rfl) rfl rfl rfl (by kernel_rfl) (by kernel_rfl) (by kernel_rfl) rfl rfl ?_
                    refine TA.nil (by kernel_rfl) ?_
                    refine TE.next ?_
                    refine TW.seq ?_
                    refine TW.seq ?_
                    refine TW.joinBX (τ := Bool) (X := Unit) (fun T _ => [(9, Y23), (12, .int .i64 R47.1), (100, .bool T)]) (fun _ _ => [.own Y23 (lc R47.2)]) ?_ (fun T58 X59 => ?_)
                    · refine TW.region ?_
                      refine TO.y (Y.move rfl) rfl rfl rfl ?_
                      refine TO.y (Y.move rfl) rfl rfl rfl ?_
                      refine TO.bind fun R60 H61 => ?_
                      refine TO.ef (Ef.call (rest := [.own Y57 (lc R21.1), .own Y55 (lc R10), .own Y23 (lc R47.2), .box B1 37 [.int .i64 aF.No, .int .i64 aF.Level, strV aF.Lo, strV aF.Hi], .own Y18 (lc R16.1)]) [0, 0, 0, 0, 0] (laws_eqFileS_con R21.1 R16.1 Y57 Y18 R60 H61) kc22 rfl rfl ⟨(Can.own 0 rfl), (Can.own 4 rfl), trivial⟩) rfl rfl rfl (fun _ => ?_)
                      refine TO.y (Y.not rfl) rfl rfl rfl ?_
                      refine TO.y (Y.move rfl) rfl rfl rfl ?_
                      refine TO.ite (b := !R60) (fun H63 => ?_) (fun H63 => ?_)
                      · refine TO.off (Gd.at 4 false 96 (!R60) rfl rfl rfl (beq_tf H63)) rfl rfl ?_
                        refine TO.off (Gd.at 4 false 96 (!R60) rfl rfl rfl (beq_tf H63)) rfl rfl ?_
                        refine TO.off (Gd.at 4 false 96 (!R60) rfl rfl rfl (beq_tf H63)) rfl rfl ?_
                        refine TO.y (Y.pick_t H63 rfl rfl) rfl rfl rfl ?_
                        refine TO.nil ?_
                        exact TE.jb_go () [2] ⟨rfl, rfl, rfl, trivial⟩ rfl
                      · refine TO.y (Y.move rfl) (Gd.at 4 false 96 (!R60) rfl rfl rfl (beq_ff H63)) rfl rfl ?_
                        refine TO.y (Y.move rfl) (Gd.at 4 false 96 (!R60) rfl rfl rfl (beq_ff H63)) rfl rfl ?_
                        refine TO.y (Y.neb kb4 rfl rfl) (Gd.at 4 false 96 (!R60) rfl rfl rfl (beq_ff H63)) rfl rfl ?_
                        refine TO.y (Y.pick_f H63 rfl rfl) rfl rfl rfl ?_
                        refine TO.nil ?_
                        exact TE.jb_go () [2] ⟨rfl, rfl, rfl, trivial⟩ rfl
                    · refine TE.next ?_
                      refine TW.cond rfl (fun H64 => ?_) (fun H64 => ?_)
                      · refine TW.seq ?_
                        refine TW.region ?_
                        refine TO.y (Y.assign rfl) rfl rfl rfl ?_
                        refine TO.nil ?_
                        refine TE.next ?_
                        refine TW.ret ?_
                        refine TE.then_ret ?_
                        exact TE.leaf fun _ _ hf_ hs_ => ret_any (rs := [.tmp 4]) (vs := [.bool false]) (.inl rfl) rfl ⟨rfl, trivial⟩ hf_ hs_ ⟨(), rfl, hs_.pulls [] rfl⟩
                      · refine TW.skip ?_
                        refine TE.next ?_
                        refine TW.seq ?_
                        refine TW.region ?_
                        refine TO.y (Y.assign rfl) rfl rfl rfl ?_
                        refine TO.nil ?_
                        refine TE.next ?_
                        refine TW.seq ?_
                        refine TW.region ?_
                        refine TO.y (Y.move rfl) rfl rfl rfl ?_
                        refine TO.y (Y.move rfl) rfl rfl rfl ?_
                        refine TO.ef (Ef.call (rest := [.own Y23 (lc R47.2)]) [0] (laws_heldFileS_con R47.2 (1 : Int) Y23 R50 H51) kc24 rfl rfl ⟨(Can.own 0 rfl), trivial⟩) rfl rfl rfl (fun _ => ?_)
                        refine TO.y (Y.assign rfl) rfl rfl rfl ?_
                        refine TO.nil ?_
                        refine TE.next ?_
                        refine TW.seq ?_
                        refine TW.seq ?_
                        refine TW.region ?_
                        refine TO.y (Y.move rfl) rfl rfl rfl ?_
                        refine TO.y (Y.lss rfl rfl) rfl rfl rfl ?_
                        refine TO.nil ?_
                        refine TE.next ?_
                        refine TW.cond rfl (fun H66 => ?_) (fun H66 => ?_)
                        · refine TW.seq ?_
                          refine TW.region ?_
                          refine TO.y (Y.assign rfl) rfl rfl rfl ?_
                          refine TO.nil ?_
                          refine TE.next ?_
                          refine TW.ret ?_
                          refine TE.then_ret ?_
                          exact TE.leaf fun _ _ hf_ hs_ => ret_any (rs := [.tmp 4]) (vs := [.bool false]) (.inl rfl) rfl ⟨rfl, trivial⟩ hf_ hs_ ⟨(), rfl, hs_.pulls [] rfl⟩
                        · refine TW.skip ?_
                          refine TE.next ?_
                          refine TW.seq ?_
                          refine TW.seq ?_
                          refine TW.region ?_
                          refine TO.y (Y.move rfl) rfl rfl rfl ?_
                          refine TO.y (Y.move rfl) rfl rfl rfl ?_
                          refine TO.y (Y.neq rfl rfl) rfl rfl rfl ?_
                          refine TO.nil ?_
                          refine TE.next ?_
                          refine TW.cond rfl (fun H67 => ?_) (fun H67 => ?_)
                          · refine TW.seq ?_
                            refine TW.region ?_
                            refine TO.y (Y.assign rfl) rfl rfl rfl ?_
                            refine TO.nil ?_
                            refine TE.next ?_
                            refine TW.ret ?_
                            refine TE.then_ret ?_
                            exact TE.leaf fun _ _ hf_ hs_ => ret_any (rs := [.tmp 4]) (vs := [.bool false]) (.inl rfl) rfl ⟨rfl, trivial⟩ hf_ hs_ ⟨(), rfl, hs_.pulls [] rfl⟩
                          · refine TW.skip ?_
                            refine TE.next ?_
                            refine TW.seq ?_
                            refine TW.region ?_
                            refine TO.y (Y.assign rfl) rfl rfl rfl ?_
                            refine TO.nil ?_
                            refine TE.next ?_
                            refine TW.ret ?_
                            exact TE.leaf fun _ _ hf_ hs_ => ret_any (rs := [.tmp 4]) (vs := [.bool true]) (.inl rfl) rfl ⟨rfl, trivial⟩ hf_ hs_ ⟨(), rfl, hs_.pulls [] rfl⟩

end Go.Proofs.Ytpnnbeiojpphhab
