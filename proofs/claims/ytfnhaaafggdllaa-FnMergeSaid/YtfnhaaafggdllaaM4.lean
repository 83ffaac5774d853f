/-
  The functions that a law reaches, each as a pure function, with the proof that the program computes it, and the step from a pure law to the given statement. Conditions: none.
-/
import Derived.Test.YtfnhaaafggdllaaM3
set_option linter.unusedVariables false
set_option maxRecDepth 100000
set_option maxHeartbeats 4000000
namespace Go.Proofs.Ytfnhaaafggdllaa
open Go Sl

/-- loop.example/g00950/laws.FnMerge -/
noncomputable def laws_FnMerge (code : List UInt8) : Option Bool :=
  (laws_big code).bind fun R1 =>
  if R1 = true then (some true)
  else ((spec_DrawMergeEnts code).bind fun R5 =>
  (impl_MergeEnts R5).bind fun R8 =>
  (spec_MergeEnts R5).bind fun R11 =>
  (laws_sameEnts R8 R11).bind fun R14 =>
  if (!R14) = true then (some false)
  else (bindC (loopO (fun (S18 : Bool × Int × Int) => if (decide (S18.2.2 < ((R5.length : Nat) : Int))) = true then ((if S18.1 = true then ((idx R5 S18.2.2).bind fun E26 =>
  (spec_MemOk E26).bind fun R29 =>
  some R29)
  else (some false)).bind (fun (T23 : Bool) =>
  (idx R5 S18.2.2).bind fun E32 =>
  some (.go (T23, IntKind.i64.wrap (S18.2.1 + ((E32.length : Nat) : Int)), IntKind.i64.wrap (S18.2.2 + (1 : Int))))))
  else (some (.done (.go (S18.1, S18.2.1)))))
  (true, (0 : Int), (0 : Int)))
  (fun (T20 : Bool × Int) => (if (!T20.1) = true then (some true)
  else (some (decide (T20.2 > (400 : Int))))).bind (fun (T35 : Bool) =>
  if T35 = true then (some true)
  else (bindC (loopO (fun (S39 : Int) => if (decide (S39 < ((R8.length : Nat) : Int))) = true then (((idx R8 (IntKind.i64.wrap (S39 - (1 : Int)))).bind fun E46 =>
  (idx R8 S39).bind fun E48 =>
  if (!(sLt E46.Key E48.Key || decide (E46.Key = E48.Key))) = true then (some true)
  else (if (decide (E46.Key = E48.Key)) = true then (some (decide (E46.Seq ≤ E48.Seq)))
  else (some false))).bind (fun (T44 : Bool) =>
  if T44 = true then (some (.done (.done false)))
  else (some (.go (IntKind.i64.wrap (S39 + (1 : Int)))))))
  else (some (.done (.go ()))))
  (1 : Int))
  (fun (T41 : Unit) => bindC (loopO (fun (S53 : Int) => if (decide (S53 < ((R5.length : Nat) : Int))) = true then (bindC (loopO (fun (S58 : Int) => (idx R5 S53).bind fun E62 =>
  if (decide (S58 < ((E62.length : Nat) : Int))) = true then (bindC (loopO (fun (S66 : Bool × Int) => if (decide (S66.2 < ((R8.length : Nat) : Int))) = true then ((if S66.1 = true then (some true)
  else ((idx R8 S66.2).bind fun E74 =>
  (idx E62 S58).bind fun E78 =>
  if (decide (E74.Key = E78.Key)) = true then (if (decide (E74.Seq = E78.Seq)) = true then (if (decide (S53 > (0 : Int))) = true then (some true)
  else (some (decide (E74.Key = E78.Key) && (decide (E74.Seq = E78.Seq) && (decide (E74.Del = E78.Del) && (decide (E74.Val = E78.Val) && true))))))
  else (some false))
  else (some false))).bind (fun (T71 : Bool) =>
  some (.go (T71, IntKind.i64.wrap (S66.2 + (1 : Int))))))
  else (some (.done (.go S66.1))))
  (false, (0 : Int)))
  (fun (T68 : Bool) => if (!T68) = true then (some (.done (.done (.done (.done false)))))
  else (some (.go (IntKind.i64.wrap (S58 + (1 : Int)))))))
  else (some (.done (.go ()))))
  (0 : Int))
  (fun (T60 : Unit) => some (.go (IntKind.i64.wrap (S53 + (1 : Int))))))
  else (some (.done (.go ()))))
  (0 : Int))
  (fun (T55 : Unit) => some (decide (((R8.length : Nat) : Int) ≤ T20.2)))))))))

theorem laws_FnMerge_con (code : List UInt8) (V_code0 : Value) (r : Bool) (hm : laws_FnMerge code = some r) :
    Con Try.prog 3 [V_code0] [] [(V_code0, lc code)] (fun _ : Unit => .bool r) (fun _ => []) := by
  refine Con.intro (args := [V_code0]) (n := 175) (val := fun r (_ : Unit) => .bool r) (post := fun _ _ => []) (m := laws_FnMerge code) Try.func3 rfl rfl rfl hm ?_
  intro w S hrd
  have HB_V_code0 := hrd _ (.head _)
  clear hrd
  unfold laws_FnMerge
  refine TW.seq ?_
  refine TW.region ?_
  refine TO.y (Y.assign rfl) rfl rfl rfl ?_
  refine TO.nil ?_
  refine TE.next ?_
  refine TW.seq ?_
  refine TW.seq ?_
  refine TW.region ?_
  refine TO.y (Y.move rfl) rfl rfl rfl ?_
  refine TO.bind fun R1 H2 => ?_
  refine TO.ef (Ef.call (rest := []) [] (laws_big_con code V_code0 R1 H2) kc7 rfl rfl ⟨(Base.can HB_V_code0), trivial⟩) rfl rfl rfl (fun _ => ?_)
  refine TO.nil ?_
  refine TE.next ?_
  refine TW.cond rfl (fun H4 => ?_) (fun H4 => ?_)
  · refine TW.seq ?_
    refine TW.region ?_
    refine TO.y (Y.assign rfl) rfl rfl rfl ?_
    refine TO.nil ?_
    refine TE.next ?_
    refine TW.ret ?_
    refine TE.then_ret ?_
    exact TE.leaf fun _ _ hf_ hs_ => ret_any (rs := [.tmp 2]) (vs := [.bool true]) (.inl rfl) rfl ⟨rfl, trivial⟩ hf_ hs_ ⟨(), rfl, hs_.pulls [] rfl⟩
  · refine TW.skip ?_
    refine TE.next ?_
    refine TW.seq ?_
    refine TW.region ?_
    refine TO.y (Y.move rfl) rfl rfl rfl ?_
    refine TO.bind fun R5 H6 => ?_
    refine TO.ef (Ef.call (rest := []) [] (spec_DrawMergeEnts_con code V_code0 R5 H6) kc8 rfl rfl ⟨(Base.can HB_V_code0), trivial⟩) rfl rfl rfl (fun Y7 => ?_)
    refine TO.y (Y.assign rfl) rfl rfl rfl ?_
    refine TO.nil ?_
    refine TE.next ?_
    refine TW.seq ?_
    refine TW.region ?_
    refine TO.y (Y.move rfl) rfl rfl rfl ?_
    refine TO.bind fun R8 H9 => ?_
    refine TO.ef (Ef.call (rest := [.own Y7 (lc R5)]) [0] (impl_MergeEnts_con R5 Y7 R8 H9) kc9 rfl rfl ⟨(Can.own 0 rfl), trivial⟩) rfl rfl rfl (fun Y10 => ?_)
    refine TO.y (Y.assign rfl) rfl rfl rfl ?_
    refine TO.nil ?_
    refine TE.next ?_
    refine TW.seq ?_
    refine TW.seq ?_
    refine TW.region ?_
    refine TO.y (Y.move rfl) rfl rfl rfl ?_
    refine TO.y (Y.move rfl) rfl rfl rfl ?_
    refine TO.bind fun R11 H12 => ?_
    refine TO.ef (Ef.call (rest := [.own Y10 (lc R8), .own Y7 (lc R5)]) [0, 0] (spec_MergeEnts_con R5 Y7 R11 H12) kc11 rfl rfl ⟨(Can.own 1 rfl), trivial⟩) rfl rfl rfl (fun Y13 => ?_)
    refine TO.bind fun R14 H15 => ?_
    refine TO.ef (Ef.call (rest := [.own Y13 (lc R11), .own Y10 (lc R8), .own Y7 (lc R5)]) [0, 0, 0] (laws_sameEnts_con R8 R11 Y10 Y13 R14 H15) kc10 rfl rfl ⟨(Can.own 1 rfl), (Can.own 0 rfl), trivial⟩) rfl rfl rfl (fun _ => ?_)
    refine TO.y (Y.not rfl) rfl rfl rfl ?_
    refine TO.nil ?_
    refine TE.next ?_
    refine TW.cond rfl (fun H17 => ?_) (fun H17 => ?_)
    · refine TW.seq ?_
      refine TW.region ?_
      refine TO.y (Y.assign rfl) rfl rfl rfl ?_
      refine TO.nil ?_
      refine TE.next ?_
      refine TW.ret ?_
      refine TE.then_ret ?_
      exact TE.leaf fun _ _ hf_ hs_ => ret_any (rs := [.tmp 2]) (vs := [.bool false]) (.inl rfl) rfl ⟨rfl, trivial⟩ hf_ hs_ ⟨(), rfl, hs_.pulls [] rfl⟩
    · refine TW.skip ?_
      refine TE.next ?_
      refine TW.seq ?_
      refine TW.region ?_
      refine TO.y (Y.assign rfl) rfl rfl rfl ?_
      refine TO.nil ?_
      refine TE.next ?_
      refine TW.seq ?_
      refine TW.region ?_
      refine TO.y (Y.assign rfl) rfl rfl rfl ?_
      refine TO.nil ?_
      refine TE.next ?_
      refine TW.seq ?_
      refine TW.seq ?_
      refine TW.region ?_
      refine TO.y (Y.assign rfl) rfl rfl rfl ?_
      refine TO.nil ?_
      refine TE.next ?_
      refine TW.joinX (τ := Bool × Int) (X := Unit) (fun T _ => [(3, Y7), (4, Y10), (5, .bool T.1), (6, .int .i64 T.2)]) (fun _ _ => [.own Y7 (lc R5), .own Y10 (lc R8)]) ?_ (fun T20 X21 => ?_)
      · refine TW.block ?_
        refine TW.loopX (σ := Bool × Int × Int) (X := Unit) (fun T _ => [(3, Y7), (4, Y10), (5, .bool T.1), (6, .int .i64 T.2.1), (7, .int .i64 T.2.2)]) (fun _ _ => [.own Y7 (lc R5), .own Y10 (lc R8)]) () [2, 1] ⟨rfl, rfl, rfl, rfl, rfl, trivial⟩ rfl (fun S18 X19 => ?_)
        refine TW.seq ?_
        refine TW.seq ?_
        refine TW.region ?_
        refine TO.y (Y.move rfl) rfl rfl rfl ?_
        refine TO.y (Y.move rfl) rfl rfl rfl ?_
        refine TO.y (Y.len (l := R5) ke24 (Can.own 0 rfl) rfl) rfl rfl rfl ?_
        refine TO.y (Y.lss rfl rfl) rfl rfl rfl ?_
        refine TO.nil ?_
        refine TE.next ?_
        refine TW.cond rfl (fun H22 => ?_) (fun H22 => ?_)
        · refine TW.skip ?_
          refine TE.next ?_
          refine TW.seq ?_
          refine TW.block ?_
          refine TW.seq ?_
          refine TW.joinBX (τ := Bool) (X := Unit) (fun T _ => [(3, Y7), (4, Y10), (5, .bool T), (6, .int .i64 S18.2.1), (7, .int .i64 S18.2.2)]) (fun _ _ => [.own Y7 (lc R5), .own Y10 (lc R8)]) ?_ (fun T23 X24 => ?_)
          · refine TW.region ?_
            refine TO.y (Y.move rfl) rfl rfl rfl ?_
            refine TO.y (Y.move rfl) rfl rfl rfl ?_
            refine TO.ite (b := S18.1) (fun H25 => ?_) (fun H25 => ?_)
            · refine TO.y (Y.move rfl) (Gd.at 1 true 31 S18.1 rfl rfl rfl (beq_tt H25)) rfl rfl ?_
              refine TO.y (Y.move rfl) (Gd.at 1 true 31 S18.1 rfl rfl rfl (beq_tt H25)) rfl rfl ?_
              refine TO.bind fun E26 H27 => ?_
              refine TO.y (Y.index ke24 (Can.own 0 rfl) H27 rfl rfl) (Gd.at 1 true 31 S18.1 rfl rfl rfl (beq_tt H25)) rfl rfl ?_
              refine TO.ghost (X := Value) (is' := fun X28 => [.own Y7 (hl R5 S18.2.2.toNat [.raw X28]), .own X28 (lc E26), .own Y10 (lc R8)]) (Gh.open 1 S18.2.2.toNat [0, 0] rfl (idx_get H27).2.2 rfl) (fun X28 => ?_)
              refine TO.y (Y.load_hole (α := List Ent) (us := [X28]) (u := X28) kk26 rfl (i := 0) rfl (idx_get H27).2.2 rfl rfl rfl rfl rfl rfl) (Gd.at 1 true 31 S18.1 rfl rfl rfl (beq_tt H25)) rfl rfl ?_
              refine TO.bind fun R29 H30 => ?_
              refine TO.ef (Ef.call (rest := [.own Y7 (hl R5 S18.2.2.toNat [.raw X28]), .own X28 (lc E26), .own Y10 (lc R8)]) [0, 0, 0] (spec_MemOk_con E26 X28 R29 H30) kc12 rfl rfl ⟨(Can.own 1 rfl), trivial⟩) (Gd.at 1 true 31 S18.1 rfl rfl rfl (beq_tt H25)) rfl rfl (fun _ => ?_)
              refine TO.y (Y.pick_t H25 rfl rfl) rfl rfl rfl ?_
              refine TO.y (Y.assign rfl) rfl rfl rfl ?_
              refine TO.nil ?_
              refine TE.ghost (is' := fun _ => [.own Y7 (lc R5), .own Y10 (lc R8)]) (Gh.close_same (js := [.own X28 (lc E26)]) (r := [.own Y10 (lc R8)]) [0, 0, 0] rfl (idx_get H27).2.2 (Cls.fill Cls.nil) rfl) (fun _ => ?_)
              exact TE.jb_go () [0, 0] ⟨rfl, rfl, rfl, rfl, rfl, trivial⟩ rfl
            · refine TO.off (Gd.at 1 true 31 S18.1 rfl rfl rfl (beq_ft H25)) rfl rfl ?_
              refine TO.off (Gd.at 1 true 31 S18.1 rfl rfl rfl (beq_ft H25)) rfl rfl ?_
              refine TO.off (Gd.at 1 true 31 S18.1 rfl rfl rfl (beq_ft H25)) rfl rfl ?_
              refine TO.off (Gd.at 1 true 31 S18.1 rfl rfl rfl (beq_ft H25)) rfl rfl ?_
              refine TO.off (Gd.at 1 true 31 S18.1 rfl rfl rfl (beq_ft H25)) rfl rfl ?_
              refine TO.y (Y.pick_f H25 rfl rfl) rfl rfl rfl ?_
              refine TO.y (Y.assign rfl) rfl rfl rfl ?_
              refine TO.nil ?_
              exact TE.jb_go () [0, 0] ⟨rfl, rfl, rfl, rfl, rfl, trivial⟩ rfl
          · refine TE.next ?_
            refine TW.region ?_
            refine TO.y (Y.move rfl) rfl rfl rfl ?_
            refine TO.y (Y.move rfl) rfl rfl rfl ?_
            refine TO.y (Y.move rfl) rfl rfl rfl ?_
            refine TO.bind fun E32 H33 => ?_
            refine TO.y (Y.index ke24 (Can.own 0 rfl) H33 rfl rfl) rfl rfl rfl ?_
            refine TO.ghost (X := Value) (is' := fun X34 => [.own Y7 (hl R5 S18.2.2.toNat [.raw X34]), .own X34 (lc E32), .own Y10 (lc R8)]) (Gh.open 1 S18.2.2.toNat [0, 0] rfl (idx_get H33).2.2 rfl) (fun X34 => ?_)
            refine TO.y (Y.load_hole (α := List Ent) (us := [X34]) (u := X34) kk26 rfl (i := 0) rfl (idx_get H33).2.2 rfl rfl rfl rfl rfl rfl) rfl rfl rfl ?_
            refine TO.y (Y.len (l := E32) ke26 (Can.own 1 rfl) rfl) rfl rfl rfl ?_
            refine TO.y (Y.add rfl rfl) rfl rfl rfl ?_
            refine TO.y (Y.assign rfl) rfl rfl rfl ?_
            refine TO.nil ?_
            refine TE.block_normal ?_
            refine TE.next ?_
            refine TW.region ?_
            refine TO.y (Y.move rfl) rfl rfl rfl ?_
            refine TO.y (Y.add rfl rfl) rfl rfl rfl ?_
            refine TO.y (Y.assign rfl) rfl rfl rfl ?_
            refine TO.nil ?_
            refine TE.ghost (is' := fun _ => [.own Y7 (lc R5), .own Y10 (lc R8)]) (Gh.close_same (js := [.own X34 (lc E32)]) (r := [.own Y10 (lc R8)]) [0, 0, 0] rfl (idx_get H33).2.2 (Cls.fill Cls.nil) rfl) (fun _ => ?_)
            exact TE.lp_go () [0, 0] ⟨rfl, rfl, rfl, rfl, rfl, trivial⟩ rfl
        · refine TW.exit ?_
          refine TE.then_exit ?_
          refine TE.lp_exit ?_
          refine TE.block_exit ?_
          exact TE.jn_go () [0, 0] ⟨rfl, rfl, rfl, rfl, trivial⟩ rfl
      · refine TE.next ?_
        refine TW.seq ?_
        refine TW.seq ?_
        refine TW.joinBX (τ := Bool) (X := Unit) (fun T _ => [(3, Y7), (4, Y10), (6, .int .i64 T20.2), (50, .bool T)]) (fun _ _ => [.own Y7 (lc R5), .own Y10 (lc R8)]) ?_ (fun T35 X36 => ?_)
        · refine TW.region ?_
          refine TO.y (Y.move rfl) rfl rfl rfl ?_
          refine TO.y (Y.not rfl) rfl rfl rfl ?_
          refine TO.y (Y.move rfl) rfl rfl rfl ?_
          refine TO.ite (b := !T20.1) (fun H37 => ?_) (fun H37 => ?_)
          · refine TO.off (Gd.at 2 false 47 (!T20.1) rfl rfl rfl (beq_tf H37)) rfl rfl ?_
            refine TO.off (Gd.at 2 false 47 (!T20.1) rfl rfl rfl (beq_tf H37)) rfl rfl ?_
            refine TO.y (Y.pick_t H37 rfl rfl) rfl rfl rfl ?_
            refine TO.nil ?_
            exact TE.jb_go () [0, 0] ⟨rfl, rfl, rfl, rfl, trivial⟩ rfl
          · refine TO.y (Y.move rfl) (Gd.at 2 false 47 (!T20.1) rfl rfl rfl (beq_ff H37)) rfl rfl ?_
            refine TO.y (Y.gtr rfl rfl) (Gd.at 2 false 47 (!T20.1) rfl rfl rfl (beq_ff H37)) rfl rfl ?_
            refine TO.y (Y.pick_f H37 rfl rfl) rfl rfl rfl ?_
            refine TO.nil ?_
            exact TE.jb_go () [0, 0] ⟨rfl, rfl, rfl, rfl, trivial⟩ rfl
        · refine TE.next ?_
          refine TW.cond rfl (fun H38 => ?_) (fun H38 => ?_)
          · refine TW.seq ?_
            refine TW.region ?_
            refine TO.y (Y.assign rfl) rfl rfl rfl ?_
            refine TO.nil ?_
            refine TE.next ?_
            refine TW.ret ?_
            refine TE.then_ret ?_
            exact TE.leaf fun _ _ hf_ hs_ => ret_any (rs := [.tmp 2]) (vs := [.bool true]) (.inl rfl) rfl ⟨rfl, trivial⟩ hf_ hs_ ⟨(), rfl, hs_.pulls [] rfl⟩
          · refine TW.skip ?_
            refine TE.next ?_
            refine TW.seq ?_
            refine TW.seq ?_
            refine TW.region ?_
            refine TO.y (Y.assign rfl) rfl rfl rfl ?_
            refine TO.nil ?_
            refine TE.next ?_
            refine TW.joinX (τ := Unit) (X := Unit) (fun _ _ => [(3, Y7), (4, Y10), (6, .int .i64 T20.2)]) (fun _ _ => [.own Y7 (lc R5), .own Y10 (lc R8)]) ?_ (fun T41 X42 => ?_)
            · refine TW.block ?_
              refine TW.loopX (σ := Int) (X := Unit) (fun T _ => [(3, Y7), (4, Y10), (6, .int .i64 T20.2), (8, .int .i64 T)]) (fun _ _ => [.own Y7 (lc R5), .own Y10 (lc R8)]) () [0, 0] ⟨rfl, rfl, rfl, rfl, trivial⟩ rfl (fun S39 X40 => ?_)
              refine TW.seq ?_
              refine TW.seq ?_
              refine TW.region ?_
              refine TO.y (Y.move rfl) rfl rfl rfl ?_
              refine TO.y (Y.move rfl) rfl rfl rfl ?_
              refine TO.y (Y.len (l := R8) ke26 (Can.own 1 rfl) rfl) rfl rfl rfl ?_
              refine TO.y (Y.lss rfl rfl) rfl rfl rfl ?_
              refine TO.nil ?_
              refine TE.next ?_
              refine TW.cond rfl (fun H43 => ?_) (fun H43 => ?_)
              · refine TW.skip ?_
                refine TE.next ?_
                refine TW.seq ?_
                refine TW.block ?_
                refine TW.seq ?_
                refine TW.joinBX (τ := Bool) (X := Unit) (fun T _ => [(3, Y7), (4, Y10), (6, .int .i64 T20.2), (8, .int .i64 S39), (96, .bool T)]) (fun _ _ => [.own Y7 (lc R5), .own Y10 (lc R8)]) ?_ (fun T44 X45 => ?_)
                · refine TW.draw (isH := [.own Y7 (lc R5), .own Y10 (lc R8)]) hMix ?_
                  refine TA.y (listed' := #[true, false, false, false, false, false, false, false, false, false, false, false, false, false, false, false, false, false, false, false, false, false, false, false, false, false, false, false, false, false, false, false, false, false, false, false, false, false, false, false]) 0 [0, 0] rfl (Y.move rfl) rfl rfl rfl (by kernel_rfl) (by kernel_rfl) (by kernel_rfl) rfl rfl ?_
                  refine TA.y (listed' := #[true, true, false, false, false, false, false, false, false, false, false, false, false, false, false, false, false, false, false, false, false, false, false, false, false, false, false, false, false, false, false, false, false, false, false, false, false, false, false, false]) 1 [0, 0] rfl (Y.move rfl) rfl rfl rfl (by kernel_rfl) (by kernel_rfl) (by kernel_rfl) rfl rfl ?_
                  refine TA.y (listed' := #[true, true, true, false, false, false, false, false, false, false, false, false, false, false, false, false, false, false, false, false, false, false, false, false, false, false, false, false, false, false, false, false, false, false, false, false, false, false, false, false]) 2 [0, 0] rfl (Y.sub rfl rfl) rfl rfl rfl (by kernel_rfl) (by kernel_rfl) (by kernel_rfl) rfl rfl ?_
                  refine TA.bind fun E46 H47 => ?_
                  refine TA.y (listed' := #[true, true, true, true, false, false, false, false, false, false, false, false, false, false, false, false, false, false, false, false, false, false, false, false, false, false, false, false, false, false, false, false, false, false, false, false, false, false, false, false]) 3 [0, 0] rfl (Y.index ke26 (Can.own 1 rfl) H47 rfl rfl) rfl rfl rfl (by kernel_rfl) (by kernel_rfl) (by kernel_rfl) rfl rfl ?_
                  refine TA.y (listed' := #[true, true, true, true, true, false, false, false, false, false, false, false, false, false, false, false, false, false, false, false, false, false, false, false, false, false, false, false, false, false, false, false, false, false, false, false, false, false, false, false]) 4 [0, 0] rfl (Y.field_el kf31_0 (Can.own 1 rfl) (idx_get H47).2.2 rfl rfl) rfl rfl rfl (by kernel_rfl) (by kernel_rfl) (by kernel_rfl) rfl rfl ?_
                  refine TA.y (listed' := #[true, true, true, true, true, true, false, false, false, false, false, false, false, false, false, false, false, false, false, false, false, false, false, false, false, false, false, false, false, false, false, false, false, false, false, false, false, false, false, false]) 5 [0, 0] rfl (Y.load_el (us := [strV E46.Key]) (u := strV E46.Key) kk9 rfl (Can.own 1 rfl) (idx_get H47).2.2 rfl rfl rfl rfl rfl) rfl rfl rfl (by kernel_rfl) (by kernel_rfl) (by kernel_rfl) rfl rfl ?_
                  refine TA.y (listed' := #[true, true, true, true, true, true, true, false, false, false, false, false, false, false, false, false, false, false, false, false, false, false, false, false, false, false, false, false, false, false, false, false, false, false, false, false, false, false, false, false]) 6 [0, 0] rfl (Y.move rfl) rfl rfl rfl (by kernel_rfl) (by kernel_rfl) (by kernel_rfl) rfl rfl ?_
                  refine TA.y (listed' := #[true, true, true, true, true, true, true, true, false, false, false, false, false, false, false, false, false, false, false, false, false, false, false, false, false, false, false, false, false, false, false, false, false, false, false, false, false, false, false, false]) 7 [0, 0] rfl (Y.move rfl) rfl rfl rfl (by kernel_rfl) (by kernel_rfl) (by kernel_rfl) rfl rfl ?_
                  refine TA.bind fun E48 H49 => ?_
                  refine TA.y (listed' := #[true, true, true, true, true, true, true, true, true, false, false, false, false, false, false, false, false, false, false, false, false, false, false, false, false, false, false, false, false, false, false, false, false, false, false, false, false, false, false, false]) 8 [0, 0] rfl (Y.index ke26 (Can.own 1 rfl) H49 rfl rfl) rfl rfl rfl (by kernel_rfl) (by kernel_rfl) (by kernel_rfl) rfl rfl ?_
                  refine TA.y (listed' := #[true, true, true, true, true, true, true, true, true, true, false, false, false, false, false, false, false, false, false, false, false, false, false, false, false, false, false, false, false, false, false, false, false, false, false, false, false, false, false, false]) 9 [0, 0] rfl (Y.field_el kf31_0 (Can.own 1 rfl) (idx_get H49).2.2 rfl rfl) rfl rfl rfl (by kernel_rfl) (by kernel_rfl) (by kernel_rfl) rfl rfl ?_
                  refine TA.y (listed' := #[true, true, true, true, true, true, true, true, true, true, true, false, false, false, false, false, false, false, false, false, false, false, false, false, false, false, false, false, false, false, false, false, false, false, false, false, false, false, false, false]) 10 [0, 0] rfl (Y.load_el (us := [strV E48.Key]) (u := strV E48.Key) kk9 rfl (Can.own 1 rfl) (idx_get H49).2.2 rfl rfl rfl rfl rfl) rfl rfl rfl (by kernel_rfl) (by kernel_rfl) (by kernel_rfl) rfl rfl ?_
                  refine TA.y (listed' := #[true, true, true, true, true, true, true, true, true, true, true, true, false, false, false, false, false, false, false, false, false, false, false, false, false, false, false, false, false, false, false, false, false, false, false, false, false, false, false, false]) 11 [0, 0] rfl (Y.sgtr rfl rfl) rfl rfl rfl (by kernel_rfl) (by kernel_rfl) (by kernel_rfl) rfl rfl ?_
                  refine TA.y (listed' := #[true, true, true, true, true, true, true, true, true, true, true, true, true, false, false, false, false, false, false, false, false, false, false, false, false, false, false, false, false, false, false, false, false, false, false, false, false, false, false, false]) 12 [0, 0] rfl (Y.move rfl) rfl rfl rfl (by kernel_rfl) (by kernel_rfl) (by kernel_rfl) rfl rfl ?_
                  refine TA.ite (b := !(sLt E46.Key E48.Key || decide (E46.Key = E48.Key))) (fun H50 => ?_) (fun H50 => ?_)
                  · refine TA.off (listed' := #[true, true, true, true, true, true, true, true, true, true, true, true, true, true, false, false, false, false, false, false, false, false, false, false, false, false, false, false, false, false, false, false, false, false, false, false, false, false, false, false]) 13 [0, 0] rfl (Gd.at 12 false 69 (!(sLt E46.Key E48.Key || decide (E46.Key = E48.Key))) rfl rfl rfl (beq_tf H50)) rfl rfl (by kernel_rfl) (by kernel_rfl) (by kernel_rfl) rfl rfl ?_
                    refine TA.off (listed' := #[true, true, true, true, true, true, true, true, true, true, true, true, true, true, true, false, false, false, false, false, false, false, false, false, false, false, false, false, false, false, false, false, false, false, false, false, false, false, false, false]) 14 [0, 0] rfl (Gd.at 12 false 69 (!(sLt E46.Key E48.Key || decide (E46.Key = E48.Key))) rfl rfl rfl (beq_tf H50)) rfl rfl (by kernel_rfl) (by kernel_rfl) (by kernel_rfl) rfl rfl ?_
                    refine TA.off (listed' := #[true, true, true, true, true, true, true, true, true, true, true, true, true, true, true, true, false, false, false, false, false, false, false, false, false, false, false, false, false, false, false, false, false, false, false, false, false, false, false, false]) 15 [0, 0] rfl (Gd.at 12 false 69 (!(sLt E46.Key E48.Key || decide (E46.Key = E48.Key))) rfl rfl rfl (beq_tf H50)) rfl rfl (by kernel_rfl) (by kernel_rfl) (by kernel_rfl) rfl rfl ?_
                    refine TA.off (listed' := #[true, true, true, true, true, true, true, true, true, true, true, true, true, true, true, true, true, false, false, false, false, false, false, false, false, false, false, false, false, false, false, false, false, false, false, false, false, false, false, false]) 16 [0, 0] rfl (Gd.at 12 false 69 (!(sLt E46.Key E48.Key || decide (E46.Key = E48.Key))) rfl rfl rfl (beq_tf H50)) rfl rfl (by kernel_rfl) (by kernel_rfl) (by kernel_rfl) rfl rfl ?_
                    refine TA.off (listed' := #[true, true, true, true, true, true, true, true, true, true, true, true, true, true, true, true, true, true, false, false, false, false, false, false, false, false, false, false, false, false, false, false, false, false, false, false, false, false, false, false]) 17 [0, 0] rfl (Gd.at 12 false 69 (!(sLt E46.Key E48.Key || decide (E46.Key = E48.Key))) rfl rfl rfl (beq_tf H50)) rfl rfl (by kernel_rfl) (by kernel_rfl) (by kernel_rfl) rfl rfl ?_
                    refine TA.off (listed' := #[true, true, true, true, true, true, true, true, true, true, true, true, true, true, true, true, true, true, true, false, false, false, false, false, false, false, false, false, false, false, false, false, false, false, false, false, false, false, false, false]) 18 [0, 0] rfl (Gd.at 12 false 69 (!(sLt E46.Key E48.Key || decide (E46.Key = E48.Key))) rfl rfl rfl (beq_tf H50)) rfl rfl (by kernel_rfl) (by kernel_rfl) (by kernel_rfl) rfl rfl ?_
                    refine TA.off (listed' := #[true, true, true, true, true, true, true, true, true, true, true, true, true, true, true, true, true, true, true, true, false, false, false, false, false, false, false, false, false, false, false, false, false, false, false, false, false, false, false, false]) 19 [0, 0] rfl (Gd.at 12 false 69 (!(sLt E46.Key E48.Key || decide (E46.Key = E48.Key))) rfl rfl rfl (beq_tf H50)) rfl rfl (by kernel_rfl) (by kernel_rfl) (by kernel_rfl) rfl rfl ?_
                    refine TA.off (listed' := #[true, true, true, true, true, true, true, true, true, true, true, true, true, true, true, true, true, true, true, true, true, false, false, false, false, false, false, false, false, false, false, false, false, false, false, false, false, false, false, false]) 20 [0, 0] rfl (Gd.at 12 false 69 (!(sLt E46.Key E48.Key || decide (E46.Key = E48.Key))) rfl rfl rfl (beq_tf H50)) rfl rfl (by kernel_rfl) (by kernel_rfl) (by kernel_rfl) rfl rfl ?_
                    refine TA.off (listed' := #[true, true, true, true, true, true, true, true, true, true, true, true, true, true, true, true, true, true, true, true, true, true, false, false, false, false, false, false, false, false, false, false, false, false, false, false, false, false, false, false]) 21 [0, 0] rfl (Gd.at 12 false 69 (!(sLt E46.Key E48.Key || decide (E46.Key = E48.Key))) rfl rfl rfl (beq_tf H50)) rfl rfl (by kernel_rfl) (by kernel_rfl) (by kernel_rfl) rfl rfl ?_
                    refine TA.off (listed' := #[true, true, true, true, true, true, true, true, true, true, true, true, true, true, true, true, true, true, true, true, true, true, true, false, false, false, false, false, false, false, false, false, false, false, false, false, false, false, false, false]) 22 [0, 0] rfl (Gd.at 12 false 69 (!(sLt E46.Key E48.Key || decide (E46.Key = E48.Key))) rfl rfl rfl (beq_tf H50)) rfl rfl (by kernel_rfl) (by kernel_rfl) (by kernel_rfl) rfl rfl ?_
                    refine TA.off (listed' := #[true, true, true, true, true, true, true, true, true, true, true, true, true, true, true, true, true, true, true, true, true, true, true, true, false, false, false, false, false, false, false, false, false, false, false, false, false, false, false, false]) 23 [0, 0] rfl (Gd.at 12 false 69 (!(sLt E46.Key E48.Key || decide (E46.Key = E48.Key))) rfl rfl rfl (beq_tf H50)) rfl rfl (by kernel_rfl) (by kernel_rfl) (by kernel_rfl) rfl rfl ?_
                    refine TA.off (listed' := #[true, true, true, true, true, true, true, true, true, true, true, true, true, true, true, true, true, true, true, true, true, true, true, true, true, false, false, false, false, false, false, false, false, false, false, false, false, false, false, false]) 24 [0, 0] rfl (Gd.at 12 false 69 (!(sLt E46.Key E48.Key || decide (E46.Key = E48.Key))) rfl rfl rfl (beq_tf H50)) rfl rfl (by kernel_rfl) (by kernel_rfl) (by kernel_rfl) rfl rfl ?_
                    refine TA.off (listed' := #[true, true, true, true, true, true, true, true, true, true, true, true, true, true, true, true, true, true, true, true, true, true, true, true, true, true, false, false, false, false, false, false, false, false, false, false, false, false, false, false]) 25 [0, 0] rfl (Gd.at 12 false 69 (!(sLt E46.Key E48.Key || decide (E46.Key = E48.Key))) rfl rfl rfl (beq_tf H50)) rfl rfl (by kernel_rfl) (by kernel_rfl) (by kernel_rfl) rfl rfl ?_
                    refine TA.off (listed' := #[true, true, true, true, true, true, true, true, true, true, true, true, true, true, true, true, true, true, true, true, true, true, true, true, true, true, true, false, false, false, false, false, false, false, false, false, false, false, false, false]) 26 [0, 0] rfl (Gd.un 25 true 82 rfl rfl rfl) rfl rfl (by kernel_rfl) (by kernel_rfl) (by kernel_rfl) rfl rfl ?_
                    refine TA.off (listed' := #[true, true, true, true, true, true, true, true, true, true, true, true, true, true, true, true, true, true, true, true, true, true, true, true, true, true, true, true, false, false, false, false, false, false, false, false, false, false, false, false]) 27 [0, 0] rfl (Gd.un 25 true 82 rfl rfl rfl) rfl rfl (by kernel_rfl) (by kernel_rfl) (by kernel_rfl) rfl rfl ?_
                    refine TA.off (listed' := #[true, true, true, true, true, true, true, true, true, true, true, true, true, true, true, true, true, true, true, true, true, true, true, true, true, true, true, true, true, false, false, false, false, false, false, false, false, false, false, false]) 28 [0, 0] rfl (Gd.un 25 true 82 rfl rfl rfl) rfl rfl (by kernel_rfl) (by kernel_rfl) (by kernel_rfl) rfl rfl ?_
                    refine TA.off (listed' := #[true, true, true, true, true, true, true, true, true, true, true, true, true, true, true, true, true, true, true, true, true, true, true, true, true, true, true, true, true, true, false, false, false, false, false, false, false, false, false, false]) 29 [0, 0] rfl (Gd.un 25 true 82 rfl rfl rfl) rfl rfl (by kernel_rfl) (by kernel_rfl) (by kernel_rfl) rfl rfl ?_
                    refine TA.off (listed' := #[true, true, true, true, true, true, true, true, true, true, true, true, true, true, true, true, true, true, true, true, true, true, true, true, true, true, true, true, true, true, true, false, false, false, false, false, false, false, false, false]) 30 [0, 0] rfl (Gd.un 25 true 82 rfl rfl rfl) rfl rfl (by kernel_rfl) (by kernel_rfl) (by kernel_rfl) rfl rfl ?_
                    refine TA.off (listed' := #[true, true, true, true, true, true, true, true, true, true, true, true, true, true, true, true, true, true, true, true, true, true, true, true, true, true, true, true, true, true, true, true, false, false, false, false, false, false, false, false]) 31 [0, 0] rfl (Gd.un 25 true 82 rfl rfl rfl) rfl rfl (by kernel_rfl) (by kernel_rfl) (by kernel_rfl) rfl rfl ?_
                    refine TA.off (listed' := #[true, true, true, true, true, true, true, true, true, true, true, true, true, true, true, true, true, true, true, true, true, true, true, true, true, true, true, true, true, true, true, true, true, false, false, false, false, false, false, false]) 32 [0, 0] rfl (Gd.un 25 true 82 rfl rfl rfl) rfl rfl (by kernel_rfl) (by kernel_rfl) (by kernel_rfl) rfl rfl ?_
                    refine TA.off (listed' := #[true, true, true, true, true, true, true, true, true, true, true, true, true, true, true, true, true, true, true, true, true, true, true, true, true, true, true, true, true, true, true, true, true, true, false, false, false, false, false, false]) 33 [0, 0] rfl (Gd.un 25 true 82 rfl rfl rfl) rfl rfl (by kernel_rfl) (by kernel_rfl) (by kernel_rfl) rfl rfl ?_
                    refine TA.off (listed' := #[true, true, true, true, true, true, true, true, true, true, true, true, true, true, true, true, true, true, true, true, true, true, true, true, true, true, true, true, true, true, true, true, true, true, true, false, false, false, false, false]) 34 [0, 0] rfl (Gd.un 25 true 82 rfl rfl rfl) rfl rfl (by kernel_rfl) (by kernel_rfl) (by kernel_rfl) rfl rfl ?_
                    refine TA.off (listed' := #[true, true, true, true, true, true, true, true, true, true, true, true, true, true, true, true, true, true, true, true, true, true, true, true, true, true, true, true, true, true, true, true, true, true, true, true, false, false, false, false]) 35 [0, 0] rfl (Gd.un 25 true 82 rfl rfl rfl) rfl rfl (by kernel_rfl) (by kernel_rfl) (by kernel_rfl) rfl rfl ?_
                    refine TA.off (listed' := #[true, true, true, true, true, true, true, true, true, true, true, true, true, true, true, true, true, true, true, true, true, true, true, true, true, true, true, true, true, true, true, true, true, true, true, true, true, false, false, false]) 36 [0, 0] rfl (Gd.un 25 true 82 rfl rfl rfl) rfl rfl (by kernel_rfl) (by kernel_rfl) (by kernel_rfl) rfl rfl ?_
                    refine TA.off (listed' := #[true, true, true, true, true, true, true, true, true, true, true, true, true, true, true, true, true, true, true, true, true, true, true, true, true, true, true, true, true, true, true, true, true, true, true, true, true, true, false, false]) 37 [0, 0] rfl (Gd.un 25 true 82 rfl rfl rfl) rfl rfl (by kernel_rfl) (by kernel_rfl) (by kernel_rfl) rfl rfl ?_
                    refine TA.off (listed' := #[true, true, true, true, true, true, true, true, true, true, true, true, true, true, true, true, true, true, true, true, true, true, true, true, true, true, true, true, true, true, true, true, true, true, true, true, true, true, true, false]) 38 [0, 0] rfl (Gd.at 12 false 69 (!(sLt E46.Key E48.Key || decide (E46.Key = E48.Key))) rfl rfl rfl (beq_tf H50)) rfl rfl (by kernel_rfl) (by kernel_rfl) (by kernel_rfl) rfl rfl ?_
                    refine TA.y (listed' := #[true, true, true, true, true, true, true, true, true, true, true, true, true, true, true, true, true, true, true, true, true, true, true, true, true, true, true, true, true, true, true, true, true, true, true, true, true, true, true, true]) 39 [0, 0] rfl (Y.pick_t H50 rfl rfl) rfl rfl rfl (by kernel_rfl) (by kernel_rfl) (by kernel_rfl) rfl rfl ?_
                    refine TA.nil (by kernel_rfl) ?_
                    exact TE.jb_go () [0, 0] ⟨rfl, rfl, rfl, rfl, rfl, trivial⟩ rfl
                  · refine TA.y (listed' := #[true, true, true, true, true, true, true, true, true, true, true, true, true, true, false, false, false, false, false, false, false, false, false, false, false, false, false, false, false, false, false, false, false, false, false, false, false, false, false, false]) 13 [0, 0] rfl (Y.move rfl) (Gd.at 12 false 69 (!(sLt E46.Key E48.Key || decide (E46.Key = E48.Key))) rfl rfl rfl (beq_ff H50)) rfl rfl (by kernel_rfl) (by kernel_rfl) (by kernel_rfl) rfl rfl ?_
                    refine TA.y (listed' := #[true, true, true, true, true, true, true, true, true, true, true, true, true, true, true, false, false, false, false, false, false, false, false, false, false, false, false, false, false, false, false, false, false, false, false, false, false, false, false, false]) 14 [0, 0] rfl (Y.move rfl) (Gd.at 12 false 69 (!(sLt E46.Key E48.Key || decide (E46.Key = E48.Key))) rfl rfl rfl (beq_ff H50)) rfl rfl (by kernel_rfl) (by kernel_rfl) (by kernel_rfl) rfl rfl ?_
                    refine TA.y (listed' := #[true, true, true, true, true, true, true, true, true, true, true, true, true, true, true, true, false, false, false, false, false, false, false, false, false, false, false, false, false, false, false, false, false, false, false, false, false, false, false, false]) 15 [0, 0] rfl (Y.sub rfl rfl) (Gd.at 12 false 69 (!(sLt E46.Key E48.Key || decide (E46.Key = E48.Key))) rfl rfl rfl (beq_ff H50)) rfl rfl (by kernel_rfl) (by kernel_rfl) (by kernel_rfl) rfl rfl ?_
                    refine TA.y (listed' := #[true, true, true, true, true, true, true, true, true, true, true, true, true, true, true, true, true, false, false, false, false, false, false, false, false, false, false, false, false, false, false, false, false, false, false, false, false, false, false, false]) 16 [0, 0] rfl (Y.index ke26 (Can.own 1 rfl) H47 rfl rfl) (Gd.at 12 false 69 (!(sLt E46.Key E48.Key || decide (E46.Key = E48.Key))) rfl rfl rfl (beq_ff H50)) rfl rfl (by kernel_rfl) (by kernel_rfl) (by kernel_rfl) rfl rfl ?_
                    refine TA.y (listed' := #[true, true, true, true, true, true, true, true, true, true, true, true, true, true, true, true, true, true, false, false, false, false, false, false, false, false, false, false, false, false, false, false, false, false, false, false, false, false, false, false]) 17 [0, 0] rfl (Y.field_el kf31_0 (Can.own 1 rfl) (idx_get H47).2.2 rfl rfl) (Gd.at 12 false 69 (!(sLt E46.Key E48.Key || decide (E46.Key = E48.Key))) rfl rfl rfl (beq_ff H50)) rfl rfl (by kernel_rfl) (by kernel_rfl) (by kernel_rfl) rfl rfl ?_
                    refine TA.y (listed' := #[true, true, true, true, true, true, true, true, true, true, true, true, true, true, true, true, true, true, true, false, false, false, false, false, false, false, false, false, false, false, false, false, false, false, false, false, false, false, false, false]) 18 [0, 0] rfl (Y.load_el (us := [strV E46.Key]) (u := strV E46.Key) kk9 rfl (Can.own 1 rfl) (idx_get H47).2.2 rfl rfl rfl rfl rfl) (Gd.at 12 false 69 (!(sLt E46.Key E48.Key || decide (E46.Key = E48.Key))) rfl rfl rfl (beq_ff H50)) rfl rfl (by kernel_rfl) (by kernel_rfl) (by kernel_rfl) rfl rfl ?_
                    refine TA.y (listed' := #[true, true, true, true, true, true, true, true, true, true, true, true, true, true, true, true, true, true, true, true, false, false, false, false, false, false, false, false, false, false, false, false, false, false, false, false, false, false, false, false]) 19 [0, 0] rfl (Y.move rfl) (Gd.at 12 false 69 (!(sLt E46.Key E48.Key || decide (E46.Key = E48.Key))) rfl rfl rfl (beq_ff H50)) rfl rfl (by kernel_rfl) (by kernel_rfl) (by kernel_rfl) rfl rfl ?_
                    refine TA.y (listed' := #[true, true, true, true, true, true, true, true, true, true, true, true, true, true, true, true, true, true, true, true, true, false, false, false, false, false, false, false, false, false, false, false, false, false, false, false, false, false, false, false]) 20 [0, 0] rfl (Y.move rfl) (Gd.at 12 false 69 (!(sLt E46.Key E48.Key || decide (E46.Key = E48.Key))) rfl rfl rfl (beq_ff H50)) rfl rfl (by kernel_rfl) (by kernel_rfl) (by kernel_rfl) rfl rfl ?_
                    refine TA.y (listed' := #[true, true, true, true, true, true, true, true, true, true, true, true, true, true, true, true, true, true, true, true, true, true, false, false, false, false, false, false, false, false, false, false, false, false, false, false, false, false, false, false]) 21 [0, 0] rfl (Y.index ke26 (Can.own 1 rfl) H49 rfl rfl) (Gd.at 12 false 69 (!(sLt E46.Key E48.Key || decide (E46.Key = E48.Key))) rfl rfl rfl (beq_ff H50)) rfl rfl (by kernel_rfl) (by kernel_rfl) (by kernel_rfl) rfl rfl ?_
                    refine TA.y (listed' := #[true, true, true, true, true, true, true, true, true, true, true, true, true, true, true, true, true, true, true, true, true, true, true, false, false, false, false, false, false, false, false, false, false, false, false, false, false, false, false, false]) 22 [0, 0] rfl (Y.field_el kf31_0 (Can.own 1 rfl) (idx_get H49).2.2 rfl rfl) (Gd.at 12 false 69 (!(sLt E46.Key E48.Key || decide (E46.Key = E48.Key))) rfl rfl rfl (beq_ff H50)) rfl rfl (by kernel_rfl) (by kernel_rfl) (by kernel_rfl) rfl rfl ?_
                    refine TA.y (listed' := #[true, true, true, true, true, true, true, true, true, true, true, true, true, true, true, true, true, true, true, true, true, true, true, true, false, false, false, false, false, false, false, false, false, false, false, false, false, false, false, false]) 23 [0, 0] rfl (Y.load_el (us := [strV E48.Key]) (u := strV E48.Key) kk9 rfl (Can.own 1 rfl) (idx_get H49).2.2 rfl rfl rfl rfl rfl) (Gd.at 12 false 69 (!(sLt E46.Key E48.Key || decide (E46.Key = E48.Key))) rfl rfl rfl (beq_ff H50)) rfl rfl (by kernel_rfl) (by kernel_rfl) (by kernel_rfl) rfl rfl ?_
                    refine TA.y (listed' := #[true, true, true, true, true, true, true, true, true, true, true, true, true, true, true, true, true, true, true, true, true, true, true, true, true, false, false, false, false, false, false, false, false, false, false, false, false, false, false, false]) 24 [0, 0] rfl (Y.seql rfl rfl) (Gd.at 12 false 69 (!(sLt E46.Key E48.Key || decide (E46.Key = E48.Key))) rfl rfl rfl (beq_ff H50)) rfl rfl (by kernel_rfl) (by kernel_rfl) (by kernel_rfl) rfl rfl ?_
                    refine TA.y (listed' := #[true, true, true, true, true, true, true, true, true, true, true, true, true, true, true, true, true, true, true, true, true, true, true, true, true, true, false, false, false, false, false, false, false, false, false, false, false, false, false, false]) 25 [0, 0] rfl (Y.move rfl) (Gd.at 12 false 69 (!(sLt E46.Key E48.Key || decide (E46.Key = E48.Key))) rfl rfl rfl (beq_ff H50)) rfl rfl (by kernel_rfl) (by kernel_rfl) (by kernel_rfl) rfl rfl ?_
                    refine TA.ite (b := decide (E46.Key = E48.Key)) (fun H51 => ?_) (fun H51 => ?_)
                    · refine TA.y (listed' := #[true, true, true, true, true, true, true, true, true, true, true, true, true, true, true, true, true, true, true, true, true, true, true, true, true, true, true, false, false, false, false, false, false, false, false, false, false, false, false, false]) 26 [0, 0] rfl (Y.move rfl) (Gd.at 25 true 82 (decide (E46.Key = E48.Key)) rfl rfl rfl (beq_tt H51)) rfl rfl (by kernel_rfl) (by kernel_rfl) (by kernel_rfl) rfl rfl ?_
                      refine TA.y (listed' := #[true, true, true, true, true, true, true, true, true, true, true, true, true, true, true, true, true, true, true, true, true, true, true, true, true, true, true, true, false, false, false, false, false, false, false, false, false, false, false, false]) 27 [0, 0] rfl (Y.move rfl) (Gd.at 25 true 82 (decide (E46.Key = E48.Key)) rfl rfl rfl (beq_tt H51)) rfl rfl (by kernel_rfl) (by kernel_rfl) (by kernel_rfl) rfl rfl ?_
                      refine TA.y (listed' := #[true, true, true, true, true, true, true, true, true, true, true, true, true, true, true, true, true, true, true, true, true, true, true, true, true, true, true, true, true, false, false, false, false, false, false, false, false, false, false, false]) 28 [0, 0] rfl (Y.sub rfl rfl) (Gd.at 25 true 82 (decide (E46.Key = E48.Key)) rfl rfl rfl (beq_tt H51)) rfl rfl (by kernel_rfl) (by kernel_rfl) (by kernel_rfl) rfl rfl ?_
                      refine TA.y (listed' := #[true, true, true, true, true, true, true, true, true, true, true, true, true, true, true, true, true, true, true, true, true, true, true, true, true, true, true, true, true, true, false, false, false, false, false, false, false, false, false, false]) 29 [0, 0] rfl (Y.index ke26 (Can.own 1 rfl) H47 rfl rfl) (Gd.at 25 true 82 (decide (E46.Key = E48.Key)) rfl rfl rfl (beq_tt H51)) rfl rfl (by kernel_rfl) (by kernel_rfl) (by kernel_rfl) rfl rfl ?_
                      refine TA.y (listed' := #[true, true, true, true, true, true, true, true, true, true, true, true, true, true, true, true, true, true, true, true, true, true, true, true, true, true, true, true, true, true, true, false, false, false, false, false, false, false, false, false]) 30 [0, 0] rfl (Y.field_el kf31_1 (Can.own 1 rfl) (idx_get H47).2.2 rfl rfl) (Gd.at 25 true 82 (decide (E46.Key = E48.Key)) rfl rfl rfl (beq_tt H51)) rfl rfl (by kernel_rfl) (by kernel_rfl) (by kernel_rfl) rfl rfl ?_
                      refine TA.y (listed' := #[true, true, true, true, true, true, true, true, true, true, true, true, true, true, true, true, true, true, true, true, true, true, true, true, true, true, true, true, true, true, true, true, false, false, false, false, false, false, false, false]) 31 [0, 0] rfl (Y.load_el (us := [.int .i64 E46.Seq]) (u := .int .i64 E46.Seq) kk3 rfl (Can.own 1 rfl) (idx_get H47).2.2 rfl rfl rfl rfl rfl) (Gd.at 25 true 82 (decide (E46.Key = E48.Key)) rfl rfl rfl (beq_tt H51)) rfl rfl (by kernel_rfl) (by kernel_rfl) (by kernel_rfl) rfl rfl ?_
                      refine TA.y (listed' := #[true, true, true, true, true, true, true, true, true, true, true, true, true, true, true, true, true, true, true, true, true, true, true, true, true, true, true, true, true, true, true, true, true, false, false, false, false, false, false, false]) 32 [0, 0] rfl (Y.move rfl) (Gd.at 25 true 82 (decide (E46.Key = E48.Key)) rfl rfl rfl (beq_tt H51)) rfl rfl (by kernel_rfl) (by kernel_rfl) (by kernel_rfl) rfl rfl ?_
                      refine TA.y (listed' := #[true, true, true, true, true, true, true, true, true, true, true, true, true, true, true, true, true, true, true, true, true, true, true, true, true, true, true, true, true, true, true, true, true, true, false, false, false, false, false, false]) 33 [0, 0] rfl (Y.move rfl) (Gd.at 25 true 82 (decide (E46.Key = E48.Key)) rfl rfl rfl (beq_tt H51)) rfl rfl (by kernel_rfl) (by kernel_rfl) (by kernel_rfl) rfl rfl ?_
                      refine TA.y (listed' := #[true, true, true, true, true, true, true, true, true, true, true, true, true, true, true, true, true, true, true, true, true, true, true, true, true, true, true, true, true, true, true, true, true, true, true, false, false, false, false, false]) 34 [0, 0] rfl (Y.index ke26 (Can.own 1 rfl) H49 rfl rfl) (Gd.at 25 true 82 (decide (E46.Key = E48.Key)) rfl rfl rfl (beq_tt H51)) rfl rfl (by kernel_rfl) (by kernel_rfl) (by kernel_rfl) rfl rfl ?_
                      refine TA.y (listed' := #[true, true, true, true, true, true, true, true, true, true, true, true, true, true, true, true, true, true, true, true, true, true, true, true, true, true, true, true, true, true, true, true, true, true, true, true, false, false, false, false]) 35 [0, 0] rfl (Y.field_el kf31_1 (Can.own 1 rfl) (idx_get H49).2.2 rfl rfl) (Gd.at 25 true 82 (decide (E46.Key = E48.Key)) rfl rfl rfl (beq_tt H51)) rfl rfl (by kernel_rfl) (by kernel_rfl) (by kernel_rfl) rfl rfl ?_
                      refine TA.y (listed' := #[true, true, true, true, true, true, true, true, true, true, true, true, true, true, true, true, true, true, true, true, true, true, true, true, true, true, true, true, true, true, true, true, true, true, true, true, true, false, false, false]) 36 [0, 0] rfl (Y.load_el (us := [.int .i64 E48.Seq]) (u := .int .i64 E48.Seq) kk3 rfl (Can.own 1 rfl) (idx_get H49).2.2 rfl rfl rfl rfl rfl) (Gd.at 25 true 82 (decide (E46.Key = E48.Key)) rfl rfl rfl (beq_tt H51)) rfl rfl (by kernel_rfl) (by kernel_rfl) (by kernel_rfl) rfl rfl ?_
                      refine TA.y (listed' := #[true, true, true, true, true, true, true, true, true, true, true, true, true, true, true, true, true, true, true, true, true, true, true, true, true, true, true, true, true, true, true, true, true, true, true, true, true, true, false, false]) 37 [0, 0] rfl (Y.leq rfl rfl) (Gd.at 25 true 82 (decide (E46.Key = E48.Key)) rfl rfl rfl (beq_tt H51)) rfl rfl (by kernel_rfl) (by kernel_rfl) (by kernel_rfl) rfl rfl ?_
                      refine TA.y (listed' := #[true, true, true, true, true, true, true, true, true, true, true, true, true, true, true, true, true, true, true, true, true, true, true, true, true, true, true, true, true, true, true, true, true, true, true, true, true, true, true, false]) 38 [0, 0] rfl (Y.pick_t H51 rfl rfl) (Gd.at 12 false 69 (!(sLt E46.Key E48.Key || decide (E46.Key = E48.Key))) rfl rfl rfl (beq_ff H50)) rfl rfl (by kernel_rfl) (by kernel_rfl) (by kernel_rfl) rfl rfl ?_
                      refine TA.y (listed' := #[true, true, true, true, true, true, true, true, true, true, true, true, true, true, true, true, true, true, true, true, true, true, true, true, true, true, true, true, true, true, true, true, true, true, true, true, true, true, true, true]) 39 [0, 0] rfl (Y.pick_f H50 rfl rfl) rfl rfl rfl (by kernel_rfl) (by kernel_rfl) (by kernel_rfl) rfl rfl ?_
                      refine TA.nil (by kernel_rfl) ?_
                      exact TE.jb_go () [0, 0] ⟨rfl, rfl, rfl, rfl, rfl, trivial⟩ rfl
                    · refine TA.off (listed' := #[true, true, true, true, true, true, true, true, true, true, true, true, true, true, true, true, true, true, true, true, true, true, true, true, true, true, true, false, false, false, false, false, false, false, false, false, false, false, false, false]) 26 [0, 0] rfl (Gd.at 25 true 82 (decide (E46.Key = E48.Key)) rfl rfl rfl (beq_ft H51)) rfl rfl (by kernel_rfl) (by kernel_rfl) (by kernel_rfl) rfl rfl ?_
                      refine TA.off (listed' := #[true, true, true, true, true, true, true, true, true, true, true, true, true, true, true, true, true, true, true, true, true, true, true, true, true, true, true, true, false, false, false, false, false, false, false, false, false, false, false, false]) 27 [0, 0] rfl (Gd.at 25 true 82 (decide (E46.Key = E48.Key)) rfl rfl rfl (beq_ft H51)) rfl rfl (by kernel_rfl) (by kernel_rfl) (by kernel_rfl) rfl rfl ?_
                      refine TA.off (listed' := #[true, true, true, true, true, true, true, true, true, true, true, true, true, true, true, true, true, true, true, true, true, true, true, true, true, true, true, true, true, false, false, false, false, false, false, false, false, false, false, false]) 28 [0, 0] rfl (Gd.at 25 true 82 (decide (E46.Key = E48.Key)) rfl rfl rfl (beq_ft H51)) rfl rfl (by kernel_rfl) (by kernel_rfl) (by kernel_rfl) rfl rfl ?_
                      refine TA.off (listed' := #[true, true, true, true, true, true, true, true, true, true, true, true, true, true, true, true, true, true, true, true, true, true, true, true, true, true, true, true, true, true, false, false, false, false, false, false, false, false, false, false]) 29 [0, 0] rfl (Gd.at 25 true 82 (decide (E46.Key = E48.Key)) rfl rfl rfl (beq_ft H51)) rfl rfl (by kernel_rfl) (by kernel_rfl) (by kernel_rfl) rfl rfl ?_
                      refine TA.off (listed' := #[true, true, true, true, true, true, true, true, true, true, true, true, true, true, true, true, true, true, true, true, true, true, true, true, true, true, true, true, true, true, true, false, false, false, false, false, false, false, false, false]) 30 [0, 0] rfl (Gd.at 25 true 82 (decide (E46.Key = E48.Key)) rfl rfl rfl (beq_ft H51)) rfl rfl (by kernel_rfl) (by kernel_rfl) (by kernel_rfl) rfl rfl ?_
                      refine TA.off (listed' := #[true, true, true, true, true, true, true, true, true, true, true, true, true, true, true, true, true, true, true, true, true, true, true, true, true, true, true, true, true, true, true, true, false, false, false, false, false, false, false, false]) 31 [0, 0] rfl (Gd.at 25 true 82 (decide (E46.Key = E48.Key)) rfl rfl rfl (beq_ft H51)) rfl rfl (by kernel_rfl) (by kernel_rfl) (by kernel_rfl) rfl rfl ?_
                      refine TA.off (listed' := #[true, true, true, true, true, true, true, true, true, true, true, true, true, true, true, true, true, true, true, true, true, true, true, true, true, true, true, true, true, true, true, true, true, false, false, false, false, false, false, false]) 32 [0, 0] rfl (Gd.at 25 true 82 (decide (E46.Key = E48.Key)) rfl rfl rfl (beq_ft H51)) rfl rfl (by kernel_rfl) (by kernel_rfl) (by kernel_rfl) rfl rfl ?_
                      refine TA.off (listed' := #[true, true, true, true, true, true, true, true, true, true, true, true, true, true, true, true, true, true, true, true, true, true, true, true, true, true, true, true, true, true, true, true, true, true, false, false, false, false, false, false]) 33 [0, 0] rfl (Gd.at 25 true 82 (decide (E46.Key = E48.Key)) rfl rfl rfl (beq_ft H51)) rfl rfl (by kernel_rfl) (by kernel_rfl) (by kernel_rfl) rfl rfl ?_
                      refine TA.off (listed' := #[true, true, true, true, true, true, true, true, true, true, true, true, true, true, true, true, true, true, true, true, true, true, true, true, true, true, true, true, true, true, true, true, true, true, true, false, false, false, false, false]) 34 [0, 0] rfl (Gd.at 25 true 82 (decide (E46.Key = E48.Key)) rfl rfl rfl (beq_ft H51)) rfl rfl (by kernel_rfl) (by kernel_rfl) (by kernel_rfl) rfl rfl ?_
                      refine TA.off (listed' := #[true, true, true, true, true, true, true, true, true, true, true, true, true, true, true, true, true, true, true, true, true, true, true, true, true, true, true, true, true, true, true, true, true, true, true, true, false, false, false, false]) 35 [0, 0] rfl (Gd.at 25 true 82 (decide (E46.Key = E48.Key)) rfl rfl rfl (beq_ft H51)) rfl rfl (by kernel_rfl) (by kernel_rfl) (by kernel_rfl) rfl rfl ?_
                      refine TA.off (listed' := #[true, true, true, true, true, true, true, true, true, true, true, true, true, true, true, true, true, true, true, true, true, true, true, true, true, true, true, true, true, true, true, true, true, true, true, true, true, false, false, false]) 36 [0, 0] rfl (Gd.at 25 true 82 (decide (E46.Key = E48.Key)) rfl rfl rfl (beq_ft H51)) rfl rfl (by kernel_rfl) (by kernel_rfl) (by kernel_rfl) rfl rfl ?_
                      refine TA.off (listed' := #[true, true, true, true, true, true, true, true, true, true, true, true, true, true, true, true, true, true, true, true, true, true, true, true, true, true, true, true, true, true, true, true, true, true, true, true, true, true, false, false]) 37 [0, 0] rfl (Gd.at 25 true 82 (decide (E46.Key = E48.Key)) rfl rfl rfl (beq_ft H51)) rfl rfl (by kernel_rfl) (by kernel_rfl) (by kernel_rfl) rfl rfl ?_
                      refine TA.y (listed' := #[true, true, true, true, true, true, true, true, true, true, true, true, true, true, true, true, true, true, true, true, true, true, true, true, true, true, true, true, true, true, true, true, true, true, true, true, true, true, true, false]) 38 [0, 0] rfl (Y.pick_f H51 rfl rfl) (Gd.at 12 false 69 (!(sLt E46.Key E48.Key || decide (E46.Key = E48.Key))) rfl rfl rfl (beq_ff H50)) rfl rfl (by kernel_rfl) (by kernel_rfl) (by kernel_rfl) rfl rfl ?_
                      refine TA.y (listed' := #[true, true, true, true, true, true, true, true, true, true, true, true, true, true, true, true, true, true, true, true, true, true, true, true, true, true, true, true, true, true, true, true, true, true, true, true, true, true, true, true]) 39 [0, 0] rfl (Y.pick_f H50 rfl rfl) rfl rfl rfl (by kernel_rfl) (by kernel_rfl) (by kernel_rfl) rfl rfl ?_
                      refine TA.nil (by kernel_rfl) ?_
                      exact TE.jb_go () [0, 0] ⟨rfl, rfl, rfl, rfl, rfl, trivial⟩ rfl
                · refine TE.next ?_
                  refine TW.cond rfl (fun H52 => ?_) (fun H52 => ?_)
                  · refine TW.seq ?_
                    refine TW.region ?_
                    refine TO.y (Y.assign rfl) rfl rfl rfl ?_
                    refine TO.nil ?_
                    refine TE.next ?_
                    refine TW.ret ?_
                    refine TE.block_ret ?_
                    refine TE.then_ret ?_
                    refine TE.lp_ret ?_
                    refine TE.block_ret ?_
                    refine TE.jn_done ?_
                    refine TE.then_ret ?_
                    exact TE.leaf fun _ _ hf_ hs_ => ret_any (rs := [.tmp 2]) (vs := [.bool false]) (.inl rfl) rfl ⟨rfl, trivial⟩ hf_ hs_ ⟨(), rfl, hs_.pulls [] rfl⟩
                  · refine TW.skip ?_
                    refine TE.block_normal ?_
                    refine TE.next ?_
                    refine TW.region ?_
                    refine TO.y (Y.move rfl) rfl rfl rfl ?_
                    refine TO.y (Y.add rfl rfl) rfl rfl rfl ?_
                    refine TO.y (Y.assign rfl) rfl rfl rfl ?_
                    refine TO.nil ?_
                    exact TE.lp_go () [0, 0] ⟨rfl, rfl, rfl, rfl, trivial⟩ rfl
              · refine TW.exit ?_
                refine TE.then_exit ?_
                refine TE.lp_exit ?_
                refine TE.block_exit ?_
                exact TE.jn_go () [0, 0] ⟨rfl, rfl, rfl, trivial⟩ rfl
            · refine TE.next ?_
              refine TW.seq ?_
              refine TW.seq ?_
              refine TW.region ?_
              refine TO.y (Y.assign rfl) rfl rfl rfl ?_
              refine TO.nil ?_
              refine TE.next ?_
              refine TW.joinX (τ := Unit) (X := Unit) (fun _ _ => [(4, Y10), (6, .int .i64 T20.2)]) (fun _ _ => [.own Y10 (lc R8)]) ?_ (fun T55 X56 => ?_)
              · refine TW.block ?_
                refine TW.loopX (σ := Int) (X := Unit) (fun T _ => [(3, Y7), (4, Y10), (6, .int .i64 T20.2), (9, .int .i64 T)]) (fun _ _ => [.own Y7 (lc R5), .own Y10 (lc R8)]) () [0, 0] ⟨rfl, rfl, rfl, rfl, trivial⟩ rfl (fun S53 X54 => ?_)
                refine TW.seq ?_
                refine TW.seq ?_
                refine TW.region ?_
                refine TO.y (Y.move rfl) rfl rfl rfl ?_
                refine TO.y (Y.move rfl) rfl rfl rfl ?_
                refine TO.y (Y.len (l := R5) ke24 (Can.own 0 rfl) rfl) rfl rfl rfl ?_
                refine TO.y (Y.lss rfl rfl) rfl rfl rfl ?_
                refine TO.nil ?_
                refine TE.next ?_
                refine TW.cond rfl (fun H57 => ?_) (fun H57 => ?_)
                · refine TW.skip ?_
                  refine TE.next ?_
                  refine TW.seq ?_
                  refine TW.block ?_
                  refine TW.seq ?_
                  refine TW.region ?_
                  refine TO.y (Y.assign rfl) rfl rfl rfl ?_
                  refine TO.nil ?_
                  refine TE.next ?_
                  refine TW.joinX (τ := Unit) (X := Unit) (fun _ _ => [(3, Y7), (4, Y10), (6, .int .i64 T20.2), (9, .int .i64 S53)]) (fun _ _ => [.own Y7 (lc R5), .own Y10 (lc R8)]) ?_ (fun T60 X61 => ?_)
                  · refine TW.block ?_
                    refine TW.loopX (σ := Int) (X := Unit) (fun T _ => [(3, Y7), (4, Y10), (6, .int .i64 T20.2), (9, .int .i64 S53), (10, .int .i64 T)]) (fun _ _ => [.own Y7 (lc R5), .own Y10 (lc R8)]) () [0, 0] ⟨rfl, rfl, rfl, rfl, rfl, trivial⟩ rfl (fun S58 X59 => ?_)
                    refine TW.seq ?_
                    refine TW.seq ?_
                    refine TW.region ?_
                    refine TO.y (Y.move rfl) rfl rfl rfl ?_
                    refine TO.y (Y.move rfl) rfl rfl rfl ?_
                    refine TO.y (Y.move rfl) rfl rfl rfl ?_
                    refine TO.bind fun E62 H63 => ?_
                    refine TO.y (Y.index ke24 (Can.own 0 rfl) H63 rfl rfl) rfl rfl rfl ?_
                    refine TO.ghost (X := Value) (is' := fun X64 => [.own Y7 (hl R5 S53.toNat [.raw X64]), .own X64 (lc E62), .own Y10 (lc R8)]) (Gh.open 1 S53.toNat [0, 0] rfl (idx_get H63).2.2 rfl) (fun X64 => ?_)
                    refine TO.y (Y.load_hole (α := List Ent) (us := [X64]) (u := X64) kk26 rfl (i := 0) rfl (idx_get H63).2.2 rfl rfl rfl rfl rfl rfl) rfl rfl rfl ?_
                    refine TO.y (Y.len (l := E62) ke26 (Can.own 1 rfl) rfl) rfl rfl rfl ?_
                    refine TO.y (Y.lss rfl rfl) rfl rfl rfl ?_
                    refine TO.nil ?_
                    refine TE.next ?_
                    refine TW.cond rfl (fun H65 => ?_) (fun H65 => ?_)
                    · refine TW.skip ?_
                      refine TE.next ?_
                      refine TW.seq ?_
                      refine TW.block ?_
                      refine TW.seq ?_
                      refine TW.region ?_
                      refine TO.y (Y.assign rfl) rfl rfl rfl ?_
                      refine TO.nil ?_
                      refine TE.next ?_
                      refine TW.seq ?_
                      refine TW.seq ?_
                      refine TW.region ?_
                      refine TO.y (Y.assign rfl) rfl rfl rfl ?_
                      refine TO.nil ?_
                      refine TE.next ?_
                      refine TW.joinX (τ := Bool) (X := Unit) (fun T _ => [(3, Y7), (4, Y10), (6, .int .i64 T20.2), (9, .int .i64 S53), (10, .int .i64 S58), (11, .bool T)]) (fun _ _ => [.own Y7 (lc R5), .own Y10 (lc R8)]) ?_ (fun T68 X69 => ?_)
                      · refine TW.block ?_
                        refine TW.ghost (is' := fun _ => [.own Y7 (lc R5), .own Y10 (lc R8)]) (Gh.close_same (js := [.own X64 (lc E62)]) (r := [.own Y10 (lc R8)]) [0, 0, 0] rfl (idx_get H63).2.2 (Cls.fill Cls.nil) rfl) (fun _ => ?_)
                        refine TW.loopX (σ := Bool × Int) (X := Unit) (fun T _ => [(3, Y7), (4, Y10), (6, .int .i64 T20.2), (9, .int .i64 S53), (10, .int .i64 S58), (11, .bool T.1), (12, .int .i64 T.2)]) (fun _ _ => [.own Y7 (lc R5), .own Y10 (lc R8)]) () [0, 0] ⟨rfl, rfl, rfl, rfl, rfl, rfl, rfl, trivial⟩ rfl (fun S66 X67 => ?_)
                        refine TW.seq ?_
                        refine TW.seq ?_
                        refine TW.region ?_
                        refine TO.y (Y.move rfl) rfl rfl rfl ?_
                        refine TO.y (Y.move rfl) rfl rfl rfl ?_
                        refine TO.y (Y.len (l := R8) ke26 (Can.own 1 rfl) rfl) rfl rfl rfl ?_
                        refine TO.y (Y.lss rfl rfl) rfl rfl rfl ?_
                        refine TO.nil ?_
                        refine TE.next ?_
                        refine TW.cond rfl (fun H70 => ?_) (fun H70 => ?_)
                        · refine TW.skip ?_
                          refine TE.next ?_
                          refine TW.seq ?_
                          refine TW.block ?_
                          refine TW.joinBX (τ := Bool) (X := Unit) (fun T _ => [(3, Y7), (4, Y10), (6, .int .i64 T20.2), (9, .int .i64 S53), (10, .int .i64 S58), (11, .bool T), (12, .int .i64 S66.2)]) (fun _ _ => [.own Y7 (lc R5), .own Y10 (lc R8)]) ?_ (fun T71 X72 => ?_)
                          · refine TW.draw (isH := [.own Y10 (lc R8)]) hMix ?_
                            refine TA.y (listed' := #[true, false, false, false, false, false, false, false, false, false, false, false, false, false, false, false, false, false, false, false, false, false, false, false, false, false, false, false, false, false, false, false, false, false, false, false, false, false, false, false, false, false, false, false, false, false, false, false, false, false, false, false]) 0 [1] rfl (Y.move rfl) rfl rfl rfl (by kernel_rfl) (by kernel_rfl) (by kernel_rfl) rfl rfl ?_
                            refine TA.y (listed' := #[true, true, false, false, false, false, false, false, false, false, false, false, false, false, false, false, false, false, false, false, false, false, false, false, false, false, false, false, false, false, false, false, false, false, false, false, false, false, false, false, false, false, false, false, false, false, false, false, false, false, false, false]) 1 [1] rfl (Y.move rfl) rfl rfl rfl (by kernel_rfl) (by kernel_rfl) (by kernel_rfl) rfl rfl ?_
                            refine TA.ite (b := S66.1) (fun H73 => ?_) (fun H73 => ?_)
                            · refine TA.off (listed' := #[true, true, true, false, false, false, false, false, false, false, false, false, false, false, false, false, false, false, false, false, false, false, false, false, false, false, false, false, false, false, false, false, false, false, false, false, false, false, false, false, false, false, false, false, false, false, false, false, false, false, false, false]) 2 [1] rfl (Gd.at 1 false 119 S66.1 rfl rfl rfl (beq_tf H73)) rfl rfl (by kernel_rfl) (by kernel_rfl) (by kernel_rfl) rfl rfl ?_
                              refine TA.off (listed' := #[true, true, true, true, false, false, false, false, false, false, false, false, false, false, false, false, false, false, false, false, false, false, false, false, false, false, false, false, false, false, false, false, false, false, false, false, false, false, false, false, false, false, false, false, false, false, false, false, false, false, false, false]) 3 [1] rfl (Gd.at 1 false 119 S66.1 rfl rfl rfl (beq_tf H73)) rfl rfl (by kernel_rfl) (by kernel_rfl) (by kernel_rfl) rfl rfl ?_
                              refine TA.off (listed' := #[true, true, true, true, true, false, false, false, false, false, false, false, false, false, false, false, false, false, false, false, false, false, false, false, false, false, false, false, false, false, false, false, false, false, false, false, false, false, false, false, false, false, false, false, false, false, false, false, false, false, false, false]) 4 [1] rfl (Gd.at 1 false 119 S66.1 rfl rfl rfl (beq_tf H73)) rfl rfl (by kernel_rfl) (by kernel_rfl) (by kernel_rfl) rfl rfl ?_
                              refine TA.off (listed' := #[true, true, true, true, true, true, false, false, false, false, false, false, false, false, false, false, false, false, false, false, false, false, false, false, false, false, false, false, false, false, false, false, false, false, false, false, false, false, false, false, false, false, false, false, false, false, false, false, false, false, false, false]) 5 [1] rfl (Gd.at 1 false 119 S66.1 rfl rfl rfl (beq_tf H73)) rfl rfl (by kernel_rfl) (by kernel_rfl) (by kernel_rfl) rfl rfl ?_
                              refine TA.off (listed' := #[true, true, true, true, true, true, true, false, false, false, false, false, false, false, false, false, false, false, false, false, false, false, false, false, false, false, false, false, false, false, false, false, false, false, false, false, false, false, false, false, false, false, false, false, false, false, false, false, false, false, false, false]) 6 [1] rfl (Gd.at 1 false 119 S66.1 rfl rfl rfl (beq_tf H73)) rfl rfl (by kernel_rfl) (by kernel_rfl) (by kernel_rfl) rfl rfl ?_
                              refine TA.off (listed' := #[true, true, true, true, true, true, true, true, false, false, false, false, false, false, false, false, false, false, false, false, false, false, false, false, false, false, false, false, false, false, false, false, false, false, false, false, false, false, false, false, false, false, false, false, false, false, false, false, false, false, false, false]) 7 [1] rfl (Gd.at 1 false 119 S66.1 rfl rfl rfl (beq_tf H73)) rfl rfl (by kernel_rfl) (by kernel_rfl) (by kernel_rfl) rfl rfl ?_
                              refine TA.off (listed' := #[true, true, true, true, true, true, true, true, true, false, false, false, false, false, false, false, false, false, false, false, false, false, false, false, false, false, false, false, false, false, false, false, false, false, false, false, false, false, false, false, false, false, false, false, false, false, false, false, false, false, false, false]) 8 [1] rfl (Gd.at 1 false 119 S66.1 rfl rfl rfl (beq_tf H73)) rfl rfl (by kernel_rfl) (by kernel_rfl) (by kernel_rfl) rfl rfl ?_
                              refine TA.off (listed' := #[true, true, true, true, true, true, true, true, true, true, false, false, false, false, false, false, false, false, false, false, false, false, false, false, false, false, false, false, false, false, false, false, false, false, false, false, false, false, false, false, false, false, false, false, false, false, false, false, false, false, false, false]) 9 [1] rfl (Gd.at 1 false 119 S66.1 rfl rfl rfl (beq_tf H73)) rfl rfl (by kernel_rfl) (by kernel_rfl) (by kernel_rfl) rfl rfl ?_
                              refine TA.off (listed' := #[true, true, true, true, true, true, true, true, true, true, true, false, false, false, false, false, false, false, false, false, false, false, false, false, false, false, false, false, false, false, false, false, false, false, false, false, false, false, false, false, false, false, false, false, false, false, false, false, false, false, false, false]) 10 [1] rfl (Gd.at 1 false 119 S66.1 rfl rfl rfl (beq_tf H73)) rfl rfl (by kernel_rfl) (by kernel_rfl) (by kernel_rfl) rfl rfl ?_
                              refine TA.off (listed' := #[true, true, true, true, true, true, true, true, true, true, true, true, false, false, false, false, false, false, false, false, false, false, false, false, false, false, false, false, false, false, false, false, false, false, false, false, false, false, false, false, false, false, false, false, false, false, false, false, false, false, false, false]) 11 [1] rfl (Gd.at 1 false 119 S66.1 rfl rfl rfl (beq_tf H73)) rfl rfl (by kernel_rfl) (by kernel_rfl) (by kernel_rfl) rfl rfl ?_
                              refine TA.off (listed' := #[true, true, true, true, true, true, true, true, true, true, true, true, true, false, false, false, false, false, false, false, false, false, false, false, false, false, false, false, false, false, false, false, false, false, false, false, false, false, false, false, false, false, false, false, false, false, false, false, false, false, false, false]) 12 [1] rfl (Gd.at 1 false 119 S66.1 rfl rfl rfl (beq_tf H73)) rfl rfl (by kernel_rfl) (by kernel_rfl) (by kernel_rfl) rfl rfl ?_
                              refine TA.off (listed' := #[true, true, true, true, true, true, true, true, true, true, true, true, true, true, false, false, false, false, false, false, false, false, false, false, false, false, false, false, false, false, false, false, false, false, false, false, false, false, false, false, false, false, false, false, false, false, false, false, false, false, false, false]) 13 [1] rfl (Gd.at 1 false 119 S66.1 rfl rfl rfl (beq_tf H73)) rfl rfl (by kernel_rfl) (by kernel_rfl) (by kernel_rfl) rfl rfl ?_
                              refine TA.off (listed' := #[true, true, true, true, true, true, true, true, true, true, true, true, true, true, true, false, false, false, false, false, false, false, false, false, false, false, false, false, false, false, false, false, false, false, false, false, false, false, false, false, false, false, false, false, false, false, false, false, false, false, false, false]) 14 [1] rfl (Gd.at 1 false 119 S66.1 rfl rfl rfl (beq_tf H73)) rfl rfl (by kernel_rfl) (by kernel_rfl) (by kernel_rfl) rfl rfl ?_
                              refine TA.off (listed' := #[true, true, true, true, true, true, true, true, true, true, true, true, true, true, true, true, false, false, false, false, false, false, false, false, false, false, false, false, false, false, false, false, false, false, false, false, false, false, false, false, false, false, false, false, false, false, false, false, false, false, false, false]) 15 [1] rfl (Gd.at 1 false 119 S66.1 rfl rfl rfl (beq_tf H73)) rfl rfl (by kernel_rfl) (by kernel_rfl) (by kernel_rfl) rfl rfl ?_
                              refine TA.off (listed' := #[true, true, true, true, true, true, true, true, true, true, true, true, true, true, true, true, true, false, false, false, false, false, false, false, false, false, false, false, false, false, false, false, false, false, false, false, false, false, false, false, false, false, false, false, false, false, false, false, false, false, false, false]) 16 [1] rfl (Gd.at 1 false 119 S66.1 rfl rfl rfl (beq_tf H73)) rfl rfl (by kernel_rfl) (by kernel_rfl) (by kernel_rfl) rfl rfl ?_
                              refine TA.off (listed' := #[true, true, true, true, true, true, true, true, true, true, true, true, true, true, true, true, true, true, false, false, false, false, false, false, false, false, false, false, false, false, false, false, false, false, false, false, false, false, false, false, false, false, false, false, false, false, false, false, false, false, false, false]) 17 [1] rfl (Gd.un 16 true 134 rfl rfl rfl) rfl rfl (by kernel_rfl) (by kernel_rfl) (by kernel_rfl) rfl rfl ?_
                              refine TA.off (listed' := #[true, true, true, true, true, true, true, true, true, true, true, true, true, true, true, true, true, true, true, false, false, false, false, false, false, false, false, false, false, false, false, false, false, false, false, false, false, false, false, false, false, false, false, false, false, false, false, false, false, false, false, false]) 18 [1] rfl (Gd.un 16 true 134 rfl rfl rfl) rfl rfl (by kernel_rfl) (by kernel_rfl) (by kernel_rfl) rfl rfl ?_
                              refine TA.off (listed' := #[true, true, true, true, true, true, true, true, true, true, true, true, true, true, true, true, true, true, true, true, false, false, false, false, false, false, false, false, false, false, false, false, false, false, false, false, false, false, false, false, false, false, false, false, false, false, false, false, false, false, false, false]) 19 [1] rfl (Gd.un 16 true 134 rfl rfl rfl) rfl rfl (by kernel_rfl) (by kernel_rfl) (by kernel_rfl) rfl rfl ?_
                              refine TA.off (listed' := #[true, true, true, true, true, true, true, true, true, true, true, true, true, true, true, true, true, true, true, true, true, false, false, false, false, false, false, false, false, false, false, false, false, false, false, false, false, false, false, false, false, false, false, false, false, false, false, false, false, false, false, false]) 20 [1] rfl (Gd.un 16 true 134 rfl rfl rfl) rfl rfl (by kernel_rfl) (by kernel_rfl) (by kernel_rfl) rfl rfl ?_
                              refine TA.off (listed' := #[true, true, true, true, true, true, true, true, true, true, true, true, true, true, true, true, true, true, true, true, true, true, false, false, false, false, false, false, false, false, false, false, false, false, false, false, false, false, false, false, false, false, false, false, false, false, false, false, false, false, false, false]) 21 [1] rfl (Gd.un 16 true 134 rfl rfl rfl) rfl rfl (by kernel_rfl) (by kernel_rfl) (by kernel_rfl) rfl rfl ?_
                              refine TA.off (listed' := #[true, true, true, true, true, true, true, true, true, true, true, true, true, true, true, true, true, true, true, true, true, true, true, false, false, false, false, false, false, false, false, false, false, false, false, false, false, false, false, false, false, false, false, false, false, false, false, false, false, false, false, false]) 22 [1] rfl (Gd.un 16 true 134 rfl rfl rfl) rfl rfl (by kernel_rfl) (by kernel_rfl) (by kernel_rfl) rfl rfl ?_
                              refine TA.off (listed' := #[true, true, true, true, true, true, true, true, true, true, true, true, true, true, true, true, true, true, true, true, true, true, true, true, false, false, false, false, false, false, false, false, false, false, false, false, false, false, false, false, false, false, false, false, false, false, false, false, false, false, false, false]) 23 [1] rfl (Gd.un 16 true 134 rfl rfl rfl) rfl rfl (by kernel_rfl) (by kernel_rfl) (by kernel_rfl) rfl rfl ?_
                              refine TA.off (listed' := #[true, true, true, true, true, true, true, true, true, true, true, true, true, true, true, true, true, true, true, true, true, true, true, true, true, false, false, false, false, false, false, false, false, false, false, false, false, false, false, false, false, false, false, false, false, false, false, false, false, false, false, false]) 24 [1] rfl (Gd.un 16 true 134 rfl rfl rfl) rfl rfl (by kernel_rfl) (by kernel_rfl) (by kernel_rfl) rfl rfl ?_
                              refine TA.off (listed' := #[true, true, true, true, true, true, true, true, true, true, true, true, true, true, true, true, true, true, true, true, true, true, true, true, true, true, false, false, false, false, false, false, false, false, false, false, false, false, false, false, false, false, false, false, false, false, false, false, false, false, false, false]) 25 [1] rfl (Gd.un 16 true 134 rfl rfl rfl) rfl rfl (by kernel_rfl) (by kernel_rfl) (by kernel_rfl) rfl rfl ?_
                              refine TA.off (listed' := #[true, true, true, true, true, true, true, true, true, true, true, true, true, true, true, true, true, true, true, true, true, true, true, true, true, true, true, false, false, false, false, false, false, false, false, false, false, false, false, false, false, false, false, false, false, false, false, false, false, false, false, false]) 26 [1] rfl (Gd.un 16 true 134 rfl rfl rfl) rfl rfl (by kernel_rfl) (by kernel_rfl) (by kernel_rfl) rfl rfl ?_
                              refine TA.off (listed' := #[true, true, true, true, true, true, true, true, true, true, true, true, true, true, true, true, true, true, true, true, true, true, true, true, true, true, true, true, false, false, false, false, false, false, false, false, false, false, false, false, false, false, false, false, false, false, false, false, false, false, false, false]) 27 [1] rfl (Gd.un 16 true 134 rfl rfl rfl) rfl rfl (by kernel_rfl) (by kernel_rfl) (by kernel_rfl) rfl rfl ?_
                              refine TA.off (listed' := #[true, true, true, true, true, true, true, true, true, true, true, true, true, true, true, true, true, true, true, true, true, true, true, true, true, true, true, true, true, false, false, false, false, false, false, false, false, false, false, false, false, false, false, false, false, false, false, false, false, false, false, false]) 28 [1] rfl (Gd.un 16 true 134 rfl rfl rfl) rfl rfl (by kernel_rfl) (by kernel_rfl) (by kernel_rfl) rfl rfl ?_
                              refine TA.off (listed' := #[true, true, true, true, true, true, true, true, true, true, true, true, true, true, true, true, true, true, true, true, true, true, true, true, true, true, true, true, true, true, false, false, false, false, false, false, false, false, false, false, false, false, false, false, false, false, false, false, false, false, false, false]) 29 [1] rfl (Gd.un 16 true 134 rfl rfl rfl) rfl rfl (by kernel_rfl) (by kernel_rfl) (by kernel_rfl) rfl rfl ?_
                              refine TA.off (listed' := #[true, true, true, true, true, true, true, true, true, true, true, true, true, true, true, true, true, true, true, true, true, true, true, true, true, true, true, true, true, true, true, false, false, false, false, false, false, false, false, false, false, false, false, false, false, false, false, false, false, false, false, false]) 30 [1] rfl (Gd.un 16 true 134 rfl rfl rfl) rfl rfl (by kernel_rfl) (by kernel_rfl) (by kernel_rfl) rfl rfl ?_
                              refine TA.off (listed' := #[true, true, true, true, true, true, true, true, true, true, true, true, true, true, true, true, true, true, true, true, true, true, true, true, true, true, true, true, true, true, true, true, false, false, false, false, false, false, false, false, false, false, false, false, false, false, false, false, false, false, false, false]) 31 [1] rfl (Gd.at 1 false 119 S66.1 rfl rfl rfl (beq_tf H73)) rfl rfl (by kernel_rfl) (by kernel_rfl) (by kernel_rfl) rfl rfl ?_
                              refine TA.off (listed' := #[true, true, true, true, true, true, true, true, true, true, true, true, true, true, true, true, true, true, true, true, true, true, true, true, true, true, true, true, true, true, true, true, true, false, false, false, false, false, false, false, false, false, false, false, false, false, false, false, false, false, false, false]) 32 [1] rfl (Gd.at 1 false 119 S66.1 rfl rfl rfl (beq_tf H73)) rfl rfl (by kernel_rfl) (by kernel_rfl) (by kernel_rfl) rfl rfl ?_
                              refine TA.off (listed' := #[true, true, true, true, true, true, true, true, true, true, true, true, true, true, true, true, true, true, true, true, true, true, true, true, true, true, true, true, true, true, true, true, true, true, false, false, false, false, false, false, false, false, false, false, false, false, false, false, false, false, false, false]) 33 [1] rfl (Gd.un 32 true 150 rfl rfl rfl) rfl rfl (by kernel_rfl) (by kernel_rfl) (by kernel_rfl) rfl rfl ?_
                              refine TA.off (listed' := #[true, true, true, true, true, true, true, true, true, true, true, true, true, true, true, true, true, true, true, true, true, true, true, true, true, true, true, true, true, true, true, true, true, true, true, false, false, false, false, false, false, false, false, false, false, false, false, false, false, false, false, false]) 34 [1] rfl (Gd.un 32 true 150 rfl rfl rfl) rfl rfl (by kernel_rfl) (by kernel_rfl) (by kernel_rfl) rfl rfl ?_
                              refine TA.off (listed' := #[true, true, true, true, true, true, true, true, true, true, true, true, true, true, true, true, true, true, true, true, true, true, true, true, true, true, true, true, true, true, true, true, true, true, true, true, false, false, false, false, false, false, false, false, false, false, false, false, false, false, false, false]) 35 [1] rfl (Gd.un 32 true 150 rfl rfl rfl) rfl rfl (by kernel_rfl) (by kernel_rfl) (by kernel_rfl) rfl rfl ?_
                              refine TA.off (listed' := #[true, true, true, true, true, true, true, true, true, true, true, true, true, true, true, true, true, true, true, true, true, true, true, true, true, true, true, true, true, true, true, true, true, true, true, true, true, false, false, false, false, false, false, false, false, false, false, false, false, false, false, false]) 36 [1] rfl (Gd.un 35 false 153 rfl rfl rfl) rfl rfl (by kernel_rfl) (by kernel_rfl) (by kernel_rfl) rfl rfl ?_
                              refine TA.off (listed' := #[true, true, true, true, true, true, true, true, true, true, true, true, true, true, true, true, true, true, true, true, true, true, true, true, true, true, true, true, true, true, true, true, true, true, true, true, true, true, false, false, false, false, false, false, false, false, false, false, false, false, false, false]) 37 [1] rfl (Gd.un 35 false 153 rfl rfl rfl) rfl rfl (by kernel_rfl) (by kernel_rfl) (by kernel_rfl) rfl rfl ?_
                              refine TA.off (listed' := #[true, true, true, true, true, true, true, true, true, true, true, true, true, true, true, true, true, true, true, true, true, true, true, true, true, true, true, true, true, true, true, true, true, true, true, true, true, true, true, false, false, false, false, false, false, false, false, false, false, false, false, false]) 38 [1] rfl (Gd.un 35 false 153 rfl rfl rfl) rfl rfl (by kernel_rfl) (by kernel_rfl) (by kernel_rfl) rfl rfl ?_
                              refine TA.off (listed' := #[true, true, true, true, true, true, true, true, true, true, true, true, true, true, true, true, true, true, true, true, true, true, true, true, true, true, true, true, true, true, true, true, true, true, true, true, true, true, true, true, false, false, false, false, false, false, false, false, false, false, false, false]) 39 [1] rfl (Gd.un 35 false 153 rfl rfl rfl) rfl rfl (by kernel_rfl) (by kernel_rfl) (by kernel_rfl) rfl rfl ?_
                              refine TA.off (listed' := #[true, true, true, true, true, true, true, true, true, true, true, true, true, true, true, true, true, true, true, true, true, true, true, true, true, true, true, true, true, true, true, true, true, true, true, true, true, true, true, true, true, false, false, false, false, false, false, false, false, false, false, false]) 40 [1] rfl (Gd.un 35 false 153 rfl rfl rfl) rfl rfl (by kernel_rfl) (by kernel_rfl) (by kernel_rfl) rfl rfl ?_
                              refine TA.off (listed' := #[true, true, true, true, true, true, true, true, true, true, true, true, true, true, true, true, true, true, true, true, true, true, true, true, true, true, true, true, true, true, true, true, true, true, true, true, true, true, true, true, true, true, false, false, false, false, false, false, false, false, false, false]) 41 [1] rfl (Gd.un 35 false 153 rfl rfl rfl) rfl rfl (by kernel_rfl) (by kernel_rfl) (by kernel_rfl) rfl rfl ?_
                              refine TA.off (listed' := #[true, true, true, true, true, true, true, true, true, true, true, true, true, true, true, true, true, true, true, true, true, true, true, true, true, true, true, true, true, true, true, true, true, true, true, true, true, true, true, true, true, true, true, false, false, false, false, false, false, false, false, false]) 42 [1] rfl (Gd.un 35 false 153 rfl rfl rfl) rfl rfl (by kernel_rfl) (by kernel_rfl) (by kernel_rfl) rfl rfl ?_
                              refine TA.off (listed' := #[true, true, true, true, true, true, true, true, true, true, true, true, true, true, true, true, true, true, true, true, true, true, true, true, true, true, true, true, true, true, true, true, true, true, true, true, true, true, true, true, true, true, true, true, false, false, false, false, false, false, false, false]) 43 [1] rfl (Gd.un 35 false 153 rfl rfl rfl) rfl rfl (by kernel_rfl) (by kernel_rfl) (by kernel_rfl) rfl rfl ?_
                              refine TA.off (listed' := #[true, true, true, true, true, true, true, true, true, true, true, true, true, true, true, true, true, true, true, true, true, true, true, true, true, true, true, true, true, true, true, true, true, true, true, true, true, true, true, true, true, true, true, true, true, false, false, false, false, false, false, false]) 44 [1] rfl (Gd.un 35 false 153 rfl rfl rfl) rfl rfl (by kernel_rfl) (by kernel_rfl) (by kernel_rfl) rfl rfl ?_
                              refine TA.off (listed' := #[true, true, true, true, true, true, true, true, true, true, true, true, true, true, true, true, true, true, true, true, true, true, true, true, true, true, true, true, true, true, true, true, true, true, true, true, true, true, true, true, true, true, true, true, true, true, false, false, false, false, false, false]) 45 [1] rfl (Gd.un 35 false 153 rfl rfl rfl) rfl rfl (by kernel_rfl) (by kernel_rfl) (by kernel_rfl) rfl rfl ?_
                              refine TA.off (listed' := #[true, true, true, true, true, true, true, true, true, true, true, true, true, true, true, true, true, true, true, true, true, true, true, true, true, true, true, true, true, true, true, true, true, true, true, true, true, true, true, true, true, true, true, true, true, true, true, false, false, false, false, false]) 46 [1] rfl (Gd.un 35 false 153 rfl rfl rfl) rfl rfl (by kernel_rfl) (by kernel_rfl) (by kernel_rfl) rfl rfl ?_
                              refine TA.off (listed' := #[true, true, true, true, true, true, true, true, true, true, true, true, true, true, true, true, true, true, true, true, true, true, true, true, true, true, true, true, true, true, true, true, true, true, true, true, true, true, true, true, true, true, true, true, true, true, true, true, false, false, false, false]) 47 [1] rfl (Gd.un 35 false 153 rfl rfl rfl) rfl rfl (by kernel_rfl) (by kernel_rfl) (by kernel_rfl) rfl rfl ?_
                              refine TA.off (listed' := #[true, true, true, true, true, true, true, true, true, true, true, true, true, true, true, true, true, true, true, true, true, true, true, true, true, true, true, true, true, true, true, true, true, true, true, true, true, true, true, true, true, true, true, true, true, true, true, true, true, false, false, false]) 48 [1] rfl (Gd.un 32 true 150 rfl rfl rfl) rfl rfl (by kernel_rfl) (by kernel_rfl) (by kernel_rfl) rfl rfl ?_
                              refine TA.off (listed' := #[true, true, true, true, true, true, true, true, true, true, true, true, true, true, true, true, true, true, true, true, true, true, true, true, true, true, true, true, true, true, true, true, true, true, true, true, true, true, true, true, true, true, true, true, true, true, true, true, true, true, false, false]) 49 [1] rfl (Gd.at 1 false 119 S66.1 rfl rfl rfl (beq_tf H73)) rfl rfl (by kernel_rfl) (by kernel_rfl) (by kernel_rfl) rfl rfl ?_
                              refine TA.y (listed' := #[true, true, true, true, true, true, true, true, true, true, true, true, true, true, true, true, true, true, true, true, true, true, true, true, true, true, true, true, true, true, true, true, true, true, true, true, true, true, true, true, true, true, true, true, true, true, true, true, true, true, true, false]) 50 [1] rfl (Y.pick_t H73 rfl rfl) rfl rfl rfl (by kernel_rfl) (by kernel_rfl) (by kernel_rfl) rfl rfl ?_
                              refine TA.y (listed' := #[true, true, true, true, true, true, true, true, true, true, true, true, true, true, true, true, true, true, true, true, true, true, true, true, true, true, true, true, true, true, true, true, true, true, true, true, true, true, true, true, true, true, true, true, true, true, true, true, true, true, true, true]) 51 [1] rfl (Y.assign rfl) rfl rfl rfl (by kernel_rfl) (by kernel_rfl) (by kernel_rfl) rfl rfl ?_
                              refine TA.nil (by kernel_rfl) ?_
                              exact TE.jb_go () [0, 0] ⟨rfl, rfl, rfl, rfl, rfl, rfl, rfl, trivial⟩ rfl
                            · refine TA.y (listed' := #[true, true, true, false, false, false, false, false, false, false, false, false, false, false, false, false, false, false, false, false, false, false, false, false, false, false, false, false, false, false, false, false, false, false, false, false, false, false, false, false, false, false, false, false, false, false, false, false, false, false, false, false]) 2 [1] rfl (Y.move rfl) (Gd.at 1 false 119 S66.1 rfl rfl rfl (beq_ff H73)) rfl rfl (by kernel_rfl) (by kernel_rfl) (by kernel_rfl) rfl rfl ?_
                              refine TA.y (listed' := #[true, true, true, true, false, false, false, false, false, false, false, false, false, false, false, false, false, false, false, false, false, false, false, false, false, false, false, false, false, false, false, false, false, false, false, false, false, false, false, false, false, false, false, false, false, false, false, false, false, false, false, false]) 3 [1] rfl (Y.move rfl) (Gd.at 1 false 119 S66.1 rfl rfl rfl (beq_ff H73)) rfl rfl (by kernel_rfl) (by kernel_rfl) (by kernel_rfl) rfl rfl ?_
                              refine TA.bind fun E74 H75 => ?_
                              refine TA.y (listed' := #[true, true, true, true, true, false, false, false, false, false, false, false, false, false, false, false, false, false, false, false, false, false, false, false, false, false, false, false, false, false, false, false, false, false, false, false, false, false, false, false, false, false, false, false, false, false, false, false, false, false, false, false]) 4 [1] rfl (Y.index ke26 (Can.own 0 rfl) H75 rfl rfl) (Gd.at 1 false 119 S66.1 rfl rfl rfl (beq_ff H73)) rfl rfl (by kernel_rfl) (by kernel_rfl) (by kernel_rfl) rfl rfl ?_
                              refine TA.y (listed' := #[true, true, true, true, true, true, false, false, false, false, false, false, false, false, false, false, false, false, false, false, false, false, false, false, false, false, false, false, false, false, false, false, false, false, false, false, false, false, false, false, false, false, false, false, false, false, false, false, false, false, false, false]) 5 [1] rfl (Y.field_el kf31_0 (Can.own 0 rfl) (idx_get H75).2.2 rfl rfl) (Gd.at 1 false 119 S66.1 rfl rfl rfl (beq_ff H73)) rfl rfl (by kernel_rfl) (by kernel_rfl) (by kernel_rfl) rfl rfl ?_
                              refine TA.y (listed' := #[true, true, true, true, true, true, true, false, false, false, false, false, false, false, false, false, false, false, false, false, false, false, false, false, false, false, false, false, false, false, false, false, false, false, false, false, false, false, false, false, false, false, false, false, false, false, false, false, false, false, false, false]) 6 [1] rfl (Y.load_el (us := [strV E74.Key]) (u := strV E74.Key) kk9 rfl (Can.own 0 rfl) (idx_get H75).2.2 rfl rfl rfl rfl rfl) (Gd.at 1 false 119 S66.1 rfl rfl rfl (beq_ff H73)) rfl rfl (by kernel_rfl) (by kernel_rfl) (by kernel_rfl) rfl rfl ?_
                              refine TA.y (listed' := #[true, true, true, true, true, true, true, true, false, false, false, false, false, false, false, false, false, false, false, false, false, false, false, false, false, false, false, false, false, false, false, false, false, false, false, false, false, false, false, false, false, false, false, false, false, false, false, false, false, false, false, false]) 7 [1] rfl (Y.move rfl) (Gd.at 1 false 119 S66.1 rfl rfl rfl (beq_ff H73)) rfl rfl (by kernel_rfl) (by kernel_rfl) (by kernel_rfl) rfl rfl ?_
                              refine TA.y (listed' := #[true, true, true, true, true, true, true, true, true, false, false, false, false, false, false, false, false, false, false, false, false, false, false, false, false, false, false, false, false, false, false, false, false, false, false, false, false, false, false, false, false, false, false, false, false, false, false, false, false, false, false, false]) 8 [1] rfl (Y.move rfl) (Gd.at 1 false 119 S66.1 rfl rfl rfl (beq_ff H73)) rfl rfl (by kernel_rfl) (by kernel_rfl) (by kernel_rfl) rfl rfl ?_
                              refine TA.y (listed' := #[true, true, true, true, true, true, true, true, true, false, false, true, false, false, false, false, false, false, false, false, false, false, false, false, false, false, false, false, false, false, false, false, false, false, false, false, false, false, false, false, false, false, false, false, false, false, false, false, false, false, false, false]) 11 [1] rfl (Y.move rfl) (Gd.at 1 false 119 S66.1 rfl rfl rfl (beq_ff H73)) rfl rfl (by kernel_rfl) (by kernel_rfl) (by kernel_rfl) rfl rfl ?_
                              refine TA.one 9 (by kernel_rfl) ?_
                              refine TX.y (listed' := #[true, true, true, true, true, true, true, true, true, true, false, true, false, false, false, false, false, false, false, false, false, false, false, false, false, false, false, false, false, false, false, false, false, false, false, false, false, false, false, false, false, false, false, false, false, false, false, false, false, false, false, false]) [1] rfl (Y.index ke24 (Can.own 0 rfl) H63 rfl rfl) (Gd.at 1 false 119 S66.1 rfl rfl rfl (beq_ff H73)) rfl rfl rfl rfl ?_
                              refine TA.ghost (X := Value) (is' := fun X77 => [.own Y7 (hl R5 S53.toNat [.raw X77]), .own X77 (lc E62), .own Y10 (lc R8)]) (Gh.open 1 S53.toNat [0, 0] rfl (idx_get H63).2.2 rfl) (fun X77 => ?_)
                              refine TA.one 10 (by kernel_rfl) ?_
                              refine TX.y (listed' := #[true, true, true, true, true, true, true, true, true, true, true, true, false, false, false, false, false, false, false, false, false, false, false, false, false, false, false, false, false, false, false, false, false, false, false, false, false, false, false, false, false, false, false, false, false, false, false, false, false, false, false, false]) [2] rfl (Y.load_hole (α := List Ent) (us := [X77]) (u := X77) kk26 rfl (i := 0) rfl (idx_get H63).2.2 rfl rfl rfl rfl rfl rfl) (Gd.at 1 false 119 S66.1 rfl rfl rfl (beq_ff H73)) rfl rfl rfl rfl ?_
                              refine TA.bind fun E78 H79 => ?_
                              refine TA.one 12 (by kernel_rfl) ?_
                              refine TX.y (listed' := #[true, true, true, true, true, true, true, true, true, true, true, true, true, false, false, false, false, false, false, false, false, false, false, false, false, false, false, false, false, false, false, false, false, false, false, false, false, false, false, false, false, false, false, false, false, false, false, false, false, false, false, false]) [2] rfl (Y.index ke26 (Can.own 1 rfl) H79 rfl rfl) (Gd.at 1 false 119 S66.1 rfl rfl rfl (beq_ff H73)) rfl rfl rfl rfl ?_
                              refine TA.one 13 (by kernel_rfl) ?_
                              refine TX.y (listed' := #[true, true, true, true, true, true, true, true, true, true, true, true, true, true, false, false, false, false, false, false, false, false, false, false, false, false, false, false, false, false, false, false, false, false, false, false, false, false, false, false, false, false, false, false, false, false, false, false, false, false, false, false]) [2] rfl (Y.field_el kf31_0 (Can.own 1 rfl) (idx_get H79).2.2 rfl rfl) (Gd.at 1 false 119 S66.1 rfl rfl rfl (beq_ff H73)) rfl rfl rfl rfl ?_
                              refine TA.one 14 (by kernel_rfl) ?_
                              refine TX.y (listed' := #[true, true, true, true, true, true, true, true, true, true, true, true, true, true, true, false, false, false, false, false, false, false, false, false, false, false, false, false, false, false, false, false, false, false, false, false, false, false, false, false, false, false, false, false, false, false, false, false, false, false, false, false]) [2] rfl (Y.load_el (us := [strV E78.Key]) (u := strV E78.Key) kk9 rfl (Can.own 1 rfl) (idx_get H79).2.2 rfl rfl rfl rfl rfl) (Gd.at 1 false 119 S66.1 rfl rfl rfl (beq_ff H73)) rfl rfl rfl rfl ?_
                              refine TA.y (listed' := #[true, true, true, true, true, true, true, true, true, true, true, true, true, true, true, true, false, false, false, false, false, false, false, false, false, false, false, false, false, false, false, false, false, false, false, false, false, false, false, false, false, false, false, false, false, false, false, false, false, false, false, false]) 15 [2] rfl (Y.seql rfl rfl) (Gd.at 1 false 119 S66.1 rfl rfl rfl (beq_ff H73)) rfl rfl (by kernel_rfl) (by kernel_rfl) (by kernel_rfl) rfl rfl ?_
                              refine TA.y (listed' := #[true, true, true, true, true, true, true, true, true, true, true, true, true, true, true, true, true, false, false, false, false, false, false, false, false, false, false, false, false, false, false, false, false, false, false, false, false, false, false, false, false, false, false, false, false, false, false, false, false, false, false, false]) 16 [2] rfl (Y.move rfl) (Gd.at 1 false 119 S66.1 rfl rfl rfl (beq_ff H73)) rfl rfl (by kernel_rfl) (by kernel_rfl) (by kernel_rfl) rfl rfl ?_
                              refine TA.ite (b := decide (E74.Key = E78.Key)) (fun H80 => ?_) (fun H80 => ?_)
                              · refine TA.y (listed' := #[true, true, true, true, true, true, true, true, true, true, true, true, true, true, true, true, true, true, false, false, false, false, false, false, false, false, false, false, false, false, false, false, false, false, false, false, false, false, false, false, false, false, false, false, false, false, false, false, false, false, false, false]) 17 [2] rfl (Y.move rfl) (Gd.at 16 true 134 (decide (E74.Key = E78.Key)) rfl rfl rfl (beq_tt H80)) rfl rfl (by kernel_rfl) (by kernel_rfl) (by kernel_rfl) rfl rfl ?_
                                refine TA.y (listed' := #[true, true, true, true, true, true, true, true, true, true, true, true, true, true, true, true, true, true, true, false, false, false, false, false, false, false, false, false, false, false, false, false, false, false, false, false, false, false, false, false, false, false, false, false, false, false, false, false, false, false, false, false]) 18 [2] rfl (Y.move rfl) (Gd.at 16 true 134 (decide (E74.Key = E78.Key)) rfl rfl rfl (beq_tt H80)) rfl rfl (by kernel_rfl) (by kernel_rfl) (by kernel_rfl) rfl rfl ?_
                                refine TA.y (listed' := #[true, true, true, true, true, true, true, true, true, true, true, true, true, true, true, true, true, true, true, true, false, false, false, false, false, false, false, false, false, false, false, false, false, false, false, false, false, false, false, false, false, false, false, false, false, false, false, false, false, false, false, false]) 19 [2] rfl (Y.index ke26 (Can.own 0 rfl) H75 rfl rfl) (Gd.at 16 true 134 (decide (E74.Key = E78.Key)) rfl rfl rfl (beq_tt H80)) rfl rfl (by kernel_rfl) (by kernel_rfl) (by kernel_rfl) rfl rfl ?_
                                refine TA.y (listed' := #[true, true, true, true, true, true, true, true, true, true, true, true, true, true, true, true, true, true, true, true, true, false, false, false, false, false, false, false, false, false, false, false, false, false, false, false, false, false, false, false, false, false, false, false, false, false, false, false, false, false, false, false]) 20 [2] rfl (Y.field_el kf31_1 (Can.own 0 rfl) (idx_get H75).2.2 rfl rfl) (Gd.at 16 true 134 (decide (E74.Key = E78.Key)) rfl rfl rfl (beq_tt H80)) rfl rfl (by kernel_rfl) (by kernel_rfl) (by kernel_rfl) rfl rfl ?_
                                refine TA.y (listed' := #[true, true, true, true, true, true, true, true, true, true, true, true, true, true, true, true, true, true, true, true, true, true, false, false, false, false, false, false, false, false, false, false, false, false, false, false, false, false, false, false, false, false, false, false, false, false, false, false, false, false, false, false]) 21 [2] rfl (Y.load_el (us := [.int .i64 E74.Seq]) (u := .int .i64 E74.Seq) kk3 rfl (Can.own 0 rfl) (idx_get H75).2.2 rfl rfl rfl rfl rfl) (Gd.at 16 true 134 (decide (E74.Key = E78.Key)) rfl rfl rfl (beq_tt H80)) rfl rfl (by kernel_rfl) (by kernel_rfl) (by kernel_rfl) rfl rfl ?_
                                refine TA.y (listed' := #[true, true, true, true, true, true, true, true, true, true, true, true, true, true, true, true, true, true, true, true, true, true, true, false, false, false, false, false, false, false, false, false, false, false, false, false, false, false, false, false, false, false, false, false, false, false, false, false, false, false, false, false]) 22 [2] rfl (Y.move rfl) (Gd.at 16 true 134 (decide (E74.Key = E78.Key)) rfl rfl rfl (beq_tt H80)) rfl rfl (by kernel_rfl) (by kernel_rfl) (by kernel_rfl) rfl rfl ?_
                                refine TA.y (listed' := #[true, true, true, true, true, true, true, true, true, true, true, true, true, true, true, true, true, true, true, true, true, true, true, true, false, false, false, false, false, false, false, false, false, false, false, false, false, false, false, false, false, false, false, false, false, false, false, false, false, false, false, false]) 23 [2] rfl (Y.move rfl) (Gd.at 16 true 134 (decide (E74.Key = E78.Key)) rfl rfl rfl (beq_tt H80)) rfl rfl (by kernel_rfl) (by kernel_rfl) (by kernel_rfl) rfl rfl ?_
                                refine TA.y (listed' := #[true, true, true, true, true, true, true, true, true, true, true, true, true, true, true, true, true, true, true, true, true, true, true, true, false, false, true, false, false, false, false, false, false, false, false, false, false, false, false, false, false, false, false, false, false, false, false, false, false, false, false, false]) 26 [2] rfl (Y.move rfl) (Gd.at 16 true 134 (decide (E74.Key = E78.Key)) rfl rfl rfl (beq_tt H80)) rfl rfl (by kernel_rfl) (by kernel_rfl) (by kernel_rfl) rfl rfl ?_
                                refine TA.one 24 (by kernel_rfl) ?_
                                refine TX.y (listed' := #[true, true, true, true, true, true, true, true, true, true, true, true, true, true, true, true, true, true, true, true, true, true, true, true, true, false, true, false, false, false, false, false, false, false, false, false, false, false, false, false, false, false, false, false, false, false, false, false, false, false, false, false]) [2] rfl (Y.index ke24 (Can.own 0 rfl) H63 rfl rfl) (Gd.at 16 true 134 (decide (E74.Key = E78.Key)) rfl rfl rfl (beq_tt H80)) rfl rfl rfl rfl ?_
                                refine TA.one 25 (by kernel_rfl) ?_
                                refine TX.y (listed' := #[true, true, true, true, true, true, true, true, true, true, true, true, true, true, true, true, true, true, true, true, true, true, true, true, true, true, true, false, false, false, false, false, false, false, false, false, false, false, false, false, false, false, false, false, false, false, false, false, false, false, false, false]) [2] rfl (Y.load_hole (α := List Ent) (us := [X77]) (u := X77) kk26 rfl (i := 0) rfl (idx_get H63).2.2 rfl rfl rfl rfl rfl rfl) (Gd.at 16 true 134 (decide (E74.Key = E78.Key)) rfl rfl rfl (beq_tt H80)) rfl rfl rfl rfl ?_
                                refine TA.one 27 (by kernel_rfl) ?_
                                refine TX.y (listed' := #[true, true, true, true, true, true, true, true, true, true, true, true, true, true, true, true, true, true, true, true, true, true, true, true, true, true, true, true, false, false, false, false, false, false, false, false, false, false, false, false, false, false, false, false, false, false, false, false, false, false, false, false]) [2] rfl (Y.index ke26 (Can.own 1 rfl) H79 rfl rfl) (Gd.at 16 true 134 (decide (E74.Key = E78.Key)) rfl rfl rfl (beq_tt H80)) rfl rfl rfl rfl ?_
                                refine TA.one 28 (by kernel_rfl) ?_
                                refine TX.y (listed' := #[true, true, true, true, true, true, true, true, true, true, true, true, true, true, true, true, true, true, true, true, true, true, true, true, true, true, true, true, true, false, false, false, false, false, false, false, false, false, false, false, false, false, false, false, false, false, false, false, false, false, false, false]) [2] rfl (Y.field_el kf31_1 (Can.own 1 rfl) (idx_get H79).2.2 rfl rfl) (Gd.at 16 true 134 (decide (E74.Key = E78.Key)) rfl rfl rfl (beq_tt H80)) rfl rfl rfl rfl ?_
                                refine TA.one 29 (by kernel_rfl) ?_
                                refine TX.y (listed' := #[true, true, true, true, true, true, true, true, true, true, true, true, true, true, true, true, true, true, true, true, true, true, true, true, true, true, true, true, true, true, false, false, false, false, false, false, false, false, false, false, false, false, false, false, false, false, false, false, false, false, false, false]) [2] rfl (Y.load_el (us := [.int .i64 E78.Seq]) (u := .int .i64 E78.Seq) kk3 rfl (Can.own 1 rfl) (idx_get H79).2.2 rfl rfl rfl rfl rfl) (Gd.at 16 true 134 (decide (E74.Key = E78.Key)) rfl rfl rfl (beq_tt H80)) rfl rfl rfl rfl ?_
                                refine TA.y (listed' := #[true, true, true, true, true, true, true, true, true, true, true, true, true, true, true, true, true, true, true, true, true, true, true, true, true, true, true, true, true, true, true, false, false, false, false, false, false, false, false, false, false, false, false, false, false, false, false, false, false, false, false, false]) 30 [2] rfl (Y.eql rfl rfl) (Gd.at 16 true 134 (decide (E74.Key = E78.Key)) rfl rfl rfl (beq_tt H80)) rfl rfl (by kernel_rfl) (by kernel_rfl) (by kernel_rfl) rfl rfl ?_
                                refine TA.y (listed' := #[true, true, true, true, true, true, true, true, true, true, true, true, true, true, true, true, true, true, true, true, true, true, true, true, true, true, true, true, true, true, true, true, false, false, false, false, false, false, false, false, false, false, false, false, false, false, false, false, false, false, false, false]) 31 [2] rfl (Y.pick_t H80 rfl rfl) (Gd.at 1 false 119 S66.1 rfl rfl rfl (beq_ff H73)) rfl rfl (by kernel_rfl) (by kernel_rfl) (by kernel_rfl) rfl rfl ?_
                                refine TA.y (listed' := #[true, true, true, true, true, true, true, true, true, true, true, true, true, true, true, true, true, true, true, true, true, true, true, true, true, true, true, true, true, true, true, true, true, false, false, false, false, false, false, false, false, false, false, false, false, false, false, false, false, false, false, false]) 32 [2] rfl (Y.move rfl) (Gd.at 1 false 119 S66.1 rfl rfl rfl (beq_ff H73)) rfl rfl (by kernel_rfl) (by kernel_rfl) (by kernel_rfl) rfl rfl ?_
                                refine TA.ite (b := decide (E74.Seq = E78.Seq)) (fun H81 => ?_) (fun H81 => ?_)
                                · refine TA.y (listed' := #[true, true, true, true, true, true, true, true, true, true, true, true, true, true, true, true, true, true, true, true, true, true, true, true, true, true, true, true, true, true, true, true, true, true, false, false, false, false, false, false, false, false, false, false, false, false, false, false, false, false, false, false]) 33 [2] rfl (Y.move rfl) (Gd.at 32 true 150 (decide (E74.Seq = E78.Seq)) rfl rfl rfl (beq_tt H81)) rfl rfl (by kernel_rfl) (by kernel_rfl) (by kernel_rfl) rfl rfl ?_
                                  refine TA.y (listed' := #[true, true, true, true, true, true, true, true, true, true, true, true, true, true, true, true, true, true, true, true, true, true, true, true, true, true, true, true, true, true, true, true, true, true, true, false, false, false, false, false, false, false, false, false, false, false, false, false, false, false, false, false]) 34 [2] rfl (Y.gtr rfl rfl) (Gd.at 32 true 150 (decide (E74.Seq = E78.Seq)) rfl rfl rfl (beq_tt H81)) rfl rfl (by kernel_rfl) (by kernel_rfl) (by kernel_rfl) rfl rfl ?_
                                  refine TA.y (listed' := #[true, true, true, true, true, true, true, true, true, true, true, true, true, true, true, true, true, true, true, true, true, true, true, true, true, true, true, true, true, true, true, true, true, true, true, true, false, false, false, false, false, false, false, false, false, false, false, false, false, false, false, false]) 35 [2] rfl (Y.move rfl) (Gd.at 32 true 150 (decide (E74.Seq = E78.Seq)) rfl rfl rfl (beq_tt H81)) rfl rfl (by kernel_rfl) (by kernel_rfl) (by kernel_rfl) rfl rfl ?_
                                  refine TA.ite (b := decide (S53 > (0 : Int))) (fun H82 => ?_) (fun H82 => ?_)
                                  · refine TA.off (listed' := #[true, true, true, true, true, true, true, true, true, true, true, true, true, true, true, true, true, true, true, true, true, true, true, true, true, true, true, true, true, true, true, true, true, true, true, true, true, false, false, false, false, false, false, false, false, false, false, false, false, false, false, false]) 36 [2] rfl (Gd.at 35 false 153 (decide (S53 > (0 : Int))) rfl rfl rfl (beq_tf H82)) rfl rfl (by kernel_rfl) (by kernel_rfl) (by kernel_rfl) rfl rfl ?_
                                    refine TA.off (listed' := #[true, true, true, true, true, true, true, true, true, true, true, true, true, true, true, true, true, true, true, true, true, true, true, true, true, true, true, true, true, true, true, true, true, true, true, true, true, true, false, false, false, false, false, false, false, false, false, false, false, false, false, false]) 37 [2] rfl (Gd.at 35 false 153 (decide (S53 > (0 : Int))) rfl rfl rfl (beq_tf H82)) rfl rfl (by kernel_rfl) (by kernel_rfl) (by kernel_rfl) rfl rfl ?_
                                    refine TA.off (listed' := #[true, true, true, true, true, true, true, true, true, true, true, true, true, true, true, true, true, true, true, true, true, true, true, true, true, true, true, true, true, true, true, true, true, true, true, true, true, true, true, false, false, false, false, false, false, false, false, false, false, false, false, false]) 38 [2] rfl (Gd.at 35 false 153 (decide (S53 > (0 : Int))) rfl rfl rfl (beq_tf H82)) rfl rfl (by kernel_rfl) (by kernel_rfl) (by kernel_rfl) rfl rfl ?_
                                    refine TA.off (listed' := #[true, true, true, true, true, true, true, true, true, true, true, true, true, true, true, true, true, true, true, true, true, true, true, true, true, true, true, true, true, true, true, true, true, true, true, true, true, true, true, true, false, false, false, false, false, false, false, false, false, false, false, false]) 39 [2] rfl (Gd.at 35 false 153 (decide (S53 > (0 : Int))) rfl rfl rfl (beq_tf H82)) rfl rfl (by kernel_rfl) (by kernel_rfl) (by kernel_rfl) rfl rfl ?_
                                    refine TA.off (listed' := #[true, true, true, true, true, true, true, true, true, true, true, true, true, true, true, true, true, true, true, true, true, true, true, true, true, true, true, true, true, true, true, true, true, true, true, true, true, true, true, true, true, false, false, false, false, false, false, false, false, false, false, false]) 40 [2] rfl (Gd.at 35 false 153 (decide (S53 > (0 : Int))) rfl rfl rfl (beq_tf H82)) rfl rfl (by kernel_rfl) (by kernel_rfl) (by kernel_rfl) rfl rfl ?_
                                    refine TA.off (listed' := #[true, true, true, true, true, true, true, true, true, true, true, true, true, true, true, true, true, true, true, true, true, true, true, true, true, true, true, true, true, true, true, true, true, true, true, true, true, true, true, true, true, true, false, false, false, false, false, false, false, false, false, false]) 41 [2] rfl (Gd.at 35 false 153 (decide (S53 > (0 : Int))) rfl rfl rfl (beq_tf H82)) rfl rfl (by kernel_rfl) (by kernel_rfl) (by kernel_rfl) rfl rfl ?_
                                    refine TA.off (listed' := #[true, true, true, true, true, true, true, true, true, true, true, true, true, true, true, true, true, true, true, true, true, true, true, true, true, true, true, true, true, true, true, true, true, true, true, true, true, true, true, true, true, true, true, false, false, false, false, false, false, false, false, false]) 42 [2] rfl (Gd.at 35 false 153 (decide (S53 > (0 : Int))) rfl rfl rfl (beq_tf H82)) rfl rfl (by kernel_rfl) (by kernel_rfl) (by kernel_rfl) rfl rfl ?_
                                    refine TA.off (listed' := #[true, true, true, true, true, true, true, true, true, true, true, true, true, true, true, true, true, true, true, true, true, true, true, true, true, true, true, true, true, true, true, true, true, true, true, true, true, true, true, true, true, true, true, true, false, false, false, false, false, false, false, false]) 43 [2] rfl (Gd.at 35 false 153 (decide (S53 > (0 : Int))) rfl rfl rfl (beq_tf H82)) rfl rfl (by kernel_rfl) (by kernel_rfl) (by kernel_rfl) rfl rfl ?_
                                    refine TA.off (listed' := #[true, true, true, true, true, true, true, true, true, true, true, true, true, true, true, true, true, true, true, true, true, true, true, true, true, true, true, true, true, true, true, true, true, true, true, true, true, true, true, true, true, true, true, true, true, false, false, false, false, false, false, false]) 44 [2] rfl (Gd.at 35 false 153 (decide (S53 > (0 : Int))) rfl rfl rfl (beq_tf H82)) rfl rfl (by kernel_rfl) (by kernel_rfl) (by kernel_rfl) rfl rfl ?_
                                    refine TA.off (listed' := #[true, true, true, true, true, true, true, true, true, true, true, true, true, true, true, true, true, true, true, true, true, true, true, true, true, true, true, true, true, true, true, true, true, true, true, true, true, true, true, true, true, true, true, true, true, true, false, false, false, false, false, false]) 45 [2] rfl (Gd.at 35 false 153 (decide (S53 > (0 : Int))) rfl rfl rfl (beq_tf H82)) rfl rfl (by kernel_rfl) (by kernel_rfl) (by kernel_rfl) rfl rfl ?_
                                    refine TA.off (listed' := #[true, true, true, true, true, true, true, true, true, true, true, true, true, true, true, true, true, true, true, true, true, true, true, true, true, true, true, true, true, true, true, true, true, true, true, true, true, true, true, true, true, true, true, true, true, true, true, false, false, false, false, false]) 46 [2] rfl (Gd.at 35 false 153 (decide (S53 > (0 : Int))) rfl rfl rfl (beq_tf H82)) rfl rfl (by kernel_rfl) (by kernel_rfl) (by kernel_rfl) rfl rfl ?_
                                    refine TA.off (listed' := #[true, true, true, true, true, true, true, true, true, true, true, true, true, true, true, true, true, true, true, true, true, true, true, true, true, true, true, true, true, true, true, true, true, true, true, true, true, true, true, true, true, true, true, true, true, true, true, true, false, false, false, false]) 47 [2] rfl (Gd.at 35 false 153 (decide (S53 > (0 : Int))) rfl rfl rfl (beq_tf H82)) rfl rfl (by kernel_rfl) (by kernel_rfl) (by kernel_rfl) rfl rfl ?_
                                    refine TA.y (listed' := #[true, true, true, true, true, true, true, true, true, true, true, true, true, true, true, true, true, true, true, true, true, true, true, true, true, true, true, true, true, true, true, true, true, true, true, true, true, true, true, true, true, true, true, true, true, true, true, true, true, false, false, false]) 48 [2] rfl (Y.pick_t H82 rfl rfl) (Gd.at 32 true 150 (decide (E74.Seq = E78.Seq)) rfl rfl rfl (beq_tt H81)) rfl rfl (by kernel_rfl) (by kernel_rfl) (by kernel_rfl) rfl rfl ?_
                                    refine TA.y (listed' := #[true, true, true, true, true, true, true, true, true, true, true, true, true, true, true, true, true, true, true, true, true, true, true, true, true, true, true, true, true, true, true, true, true, true, true, true, true, true, true, true, true, true, true, true, true, true, true, true, true, true, false, false]) 49 [2] rfl (Y.pick_t H81 rfl rfl) (Gd.at 1 false 119 S66.1 rfl rfl rfl (beq_ff H73)) rfl rfl (by kernel_rfl) (by kernel_rfl) (by kernel_rfl) rfl rfl ?_
                                    refine TA.y (listed' := #[true, true, true, true, true, true, true, true, true, true, true, true, true, true, true, true, true, true, true, true, true, true, true, true, true, true, true, true, true, true, true, true, true, true, true, true, true, true, true, true, true, true, true, true, true, true, true, true, true, true, true, false]) 50 [2] rfl (Y.pick_f H73 rfl rfl) rfl rfl rfl (by kernel_rfl) (by kernel_rfl) (by kernel_rfl) rfl rfl ?_
                                    refine TA.y (listed' := #[true, true, true, true, true, true, true, true, true, true, true, true, true, true, true, true, true, true, true, true, true, true, true, true, true, true, true, true, true, true, true, true, true, true, true, true, true, true, true, true, true, true, true, true, true, true, true, true, true, true, true, true]) 51 [2] rfl (Y.assign rfl) rfl rfl rfl (by kernel_rfl) (by kernel_rfl) (by kernel_rfl) rfl rfl ?_
                                    refine TA.nil (by kernel_rfl) ?_
                                    refine TE.ghost (is' := fun _ => [.own Y7 (lc R5), .own Y10 (lc R8)]) (Gh.close_same (js := [.own X77 (lc E62)]) (r := [.own Y10 (lc R8)]) [0, 0, 0] rfl (idx_get H63).2.2 (Cls.fill Cls.nil) rfl) (fun _ => ?_)
                                    exact TE.jb_go () [0, 0] ⟨rfl, rfl, rfl, rfl, rfl, rfl, rfl, trivial⟩ rfl
                                  · refine TA.y (listed' := #[true, true, true, true, true, true, true, true, true, true, true, true, true, true, true, true, true, true, true, true, true, true, true, true, true, true, true, true, true, true, true, true, true, true, true, true, true, false, false, false, false, false, false, false, false, false, false, false, false, false, false, false]) 36 [2] rfl (Y.move rfl) (Gd.at 35 false 153 (decide (S53 > (0 : Int))) rfl rfl rfl (beq_ff H82)) rfl rfl (by kernel_rfl) (by kernel_rfl) (by kernel_rfl) rfl rfl ?_
                                    refine TA.y (listed' := #[true, true, true, true, true, true, true, true, true, true, true, true, true, true, true, true, true, true, true, true, true, true, true, true, true, true, true, true, true, true, true, true, true, true, true, true, true, true, false, false, false, false, false, false, false, false, false, false, false, false, false, false]) 37 [2] rfl (Y.move rfl) (Gd.at 35 false 153 (decide (S53 > (0 : Int))) rfl rfl rfl (beq_ff H82)) rfl rfl (by kernel_rfl) (by kernel_rfl) (by kernel_rfl) rfl rfl ?_
                                    refine TA.y (listed' := #[true, true, true, true, true, true, true, true, true, true, true, true, true, true, true, true, true, true, true, true, true, true, true, true, true, true, true, true, true, true, true, true, true, true, true, true, true, true, true, false, false, false, false, false, false, false, false, false, false, false, false, false]) 38 [2] rfl (Y.index ke26 (Can.own 0 rfl) H75 rfl rfl) (Gd.at 35 false 153 (decide (S53 > (0 : Int))) rfl rfl rfl (beq_ff H82)) rfl rfl (by kernel_rfl) (by kernel_rfl) (by kernel_rfl) rfl rfl ?_
                                    refine TA.y (listed' := #[true, true, true, true, true, true, true, true, true, true, true, true, true, true, true, true, true, true, true, true, true, true, true, true, true, true, true, true, true, true, true, true, true, true, true, true, true, true, true, true, false, false, false, false, false, false, false, false, false, false, false, false]) 39 [2] rfl (Y.load_el (us := [strV E74.Key, .int .i64 E74.Seq, .bool E74.Del, strV E74.Val]) (u := .agg #[strV E74.Key, .int .i64 E74.Seq, .bool E74.Del, strV E74.Val]) kk31 rfl (Can.own 0 rfl) (idx_get H75).2.2 rfl rfl rfl rfl rfl) (Gd.at 35 false 153 (decide (S53 > (0 : Int))) rfl rfl rfl (beq_ff H82)) rfl rfl (by kernel_rfl) (by kernel_rfl) (by kernel_rfl) rfl rfl ?_
                                    refine TA.y (listed' := #[true, true, true, true, true, true, true, true, true, true, true, true, true, true, true, true, true, true, true, true, true, true, true, true, true, true, true, true, true, true, true, true, true, true, true, true, true, true, true, true, true, false, false, false, false, false, false, false, false, false, false, false]) 40 [2] rfl (Y.move rfl) (Gd.at 35 false 153 (decide (S53 > (0 : Int))) rfl rfl rfl (beq_ff H82)) rfl rfl (by kernel_rfl) (by kernel_rfl) (by kernel_rfl) rfl rfl ?_
                                    refine TA.y (listed' := #[true, true, true, true, true, true, true, true, true, true, true, true, true, true, true, true, true, true, true, true, true, true, true, true, true, true, true, true, true, true, true, true, true, true, true, true, true, true, true, true, true, true, false, false, false, false, false, false, false, false, false, false]) 41 [2] rfl (Y.move rfl) (Gd.at 35 false 153 (decide (S53 > (0 : Int))) rfl rfl rfl (beq_ff H82)) rfl rfl (by kernel_rfl) (by kernel_rfl) (by kernel_rfl) rfl rfl ?_
                                    refine TA.y (listed' := #[true, true, true, true, true, true, true, true, true, true, true, true, true, true, true, true, true, true, true, true, true, true, true, true, true, true, true, true, true, true, true, true, true, true, true, true, true, true, true, true, true, true, false, false, true, false, false, false, false, false, false, false]) 44 [2] rfl (Y.move rfl) (Gd.at 35 false 153 (decide (S53 > (0 : Int))) rfl rfl rfl (beq_ff H82)) rfl rfl (by kernel_rfl) (by kernel_rfl) (by kernel_rfl) rfl rfl ?_
                                    refine TA.one 42 (by kernel_rfl) ?_
                                    refine TX.y (listed' := #[true, true, true, true, true, true, true, true, true, true, true, true, true, true, true, true, true, true, true, true, true, true, true, true, true, true, true, true, true, true, true, true, true, true, true, true, true, true, true, true, true, true, true, false, true, false, false, false, false, false, false, false]) [2] rfl (Y.index ke24 (Can.own 0 rfl) H63 rfl rfl) (Gd.at 35 false 153 (decide (S53 > (0 : Int))) rfl rfl rfl (beq_ff H82)) rfl rfl rfl rfl ?_
                                    refine TA.one 43 (by kernel_rfl) ?_
                                    refine TX.y (listed' := #[true, true, true, true, true, true, true, true, true, true, true, true, true, true, true, true, true, true, true, true, true, true, true, true, true, true, true, true, true, true, true, true, true, true, true, true, true, true, true, true, true, true, true, true, true, false, false, false, false, false, false, false]) [2] rfl (Y.load_hole (α := List Ent) (us := [X77]) (u := X77) kk26 rfl (i := 0) rfl (idx_get H63).2.2 rfl rfl rfl rfl rfl rfl) (Gd.at 35 false 153 (decide (S53 > (0 : Int))) rfl rfl rfl (beq_ff H82)) rfl rfl rfl rfl ?_
                                    refine TA.one 45 (by kernel_rfl) ?_
                                    refine TX.y (listed' := #[true, true, true, true, true, true, true, true, true, true, true, true, true, true, true, true, true, true, true, true, true, true, true, true, true, true, true, true, true, true, true, true, true, true, true, true, true, true, true, true, true, true, true, true, true, true, false, false, false, false, false, false]) [2] rfl (Y.index ke26 (Can.own 1 rfl) H79 rfl rfl) (Gd.at 35 false 153 (decide (S53 > (0 : Int))) rfl rfl rfl (beq_ff H82)) rfl rfl rfl rfl ?_
                                    refine TA.one 46 (by kernel_rfl) ?_
                                    refine TX.y (listed' := #[true, true, true, true, true, true, true, true, true, true, true, true, true, true, true, true, true, true, true, true, true, true, true, true, true, true, true, true, true, true, true, true, true, true, true, true, true, true, true, true, true, true, true, true, true, true, true, false, false, false, false, false]) [2] rfl (Y.load_el (us := [strV E78.Key, .int .i64 E78.Seq, .bool E78.Del, strV E78.Val]) (u := .agg #[strV E78.Key, .int .i64 E78.Seq, .bool E78.Del, strV E78.Val]) kk31 rfl (Can.own 1 rfl) (idx_get H79).2.2 rfl rfl rfl rfl rfl) (Gd.at 35 false 153 (decide (S53 > (0 : Int))) rfl rfl rfl (beq_ff H82)) rfl rfl rfl rfl ?_
                                    refine TA.y (listed' := #[true, true, true, true, true, true, true, true, true, true, true, true, true, true, true, true, true, true, true, true, true, true, true, true, true, true, true, true, true, true, true, true, true, true, true, true, true, true, true, true, true, true, true, true, true, true, true, true, false, false, false, false]) 47 [2] rfl (Y.eqlA keq31 (EqA.str (EqA.int (EqA.bool (EqA.str EqA.nil)))) rfl rfl) (Gd.at 35 false 153 (decide (S53 > (0 : Int))) rfl rfl rfl (beq_ff H82)) rfl rfl (by kernel_rfl) (by kernel_rfl) (by kernel_rfl) rfl rfl ?_
                                    refine TA.y (listed' := #[true, true, true, true, true, true, true, true, true, true, true, true, true, true, true, true, true, true, true, true, true, true, true, true, true, true, true, true, true, true, true, true, true, true, true, true, true, true, true, true, true, true, true, true, true, true, true, true, true, false, false, false]) 48 [2] rfl (Y.pick_f H82 rfl rfl) (Gd.at 32 true 150 (decide (E74.Seq = E78.Seq)) rfl rfl rfl (beq_tt H81)) rfl rfl (by kernel_rfl) (by kernel_rfl) (by kernel_rfl) rfl rfl ?_
                                    refine TA.y (listed' := #[true, true, true, true, true, true, true, true, true, true, true, true, true, true, true, true, true, true, true, true, true, true, true, true, true, true, true, true, true, true, true, true, true, true, true, true, true, true, true, true, true, true, true, true, true, true, true, true, true, true, false, false]) 49 [2] rfl (Y.pick_t H81 rfl rfl) (Gd.at 1 false 119 S66.1 rfl rfl rfl (beq_ff H73)) rfl rfl (by kernel_rfl) (by kernel_rfl) (by kernel_rfl) rfl rfl ?_
                                    refine TA.y (listed' := #[true, true, true, true, true, true, true, true, true, true, true, true, true, true, true, true, true, true, true, true, true, true, true, true, true, true, true, true, true, true, true, true, true, true, true, true, true, true, true, true, true, true, true, true, true, true, true, true, true, true, true, false]) 50 [2] rfl (Y.pick_f H73 rfl rfl) rfl rfl rfl (by kernel_rfl) (by kernel_rfl) (by kernel_rfl) rfl rfl ?_
                                    refine TA.y (listed' := #[true, true, true, true, true, true, true, true, true, true, true, true, true, true, true, true, true, true, true, true, true, true, true, true, true, true, true, true, true, true, true, true, true, true, true, true, true, true, true, true, true, true, true, true, true, true, true, true, true, true, true, true]) 51 [2] rfl (Y.assign rfl) rfl rfl rfl (by kernel_rfl) (by kernel_rfl) (by kernel_rfl) rfl rfl ?_
                                    refine TA.nil (by kernel_rfl) ?_
                                    refine TE.ghost (is' := fun _ => [.own Y7 (lc R5), .own Y10 (lc R8)]) (Gh.close_same (js := [.own X77 (lc E62)]) (r := [.own Y10 (lc R8)]) [0, 0, 0] rfl (idx_get H63).2.2 (Cls.fill Cls.nil) rfl) (fun _ => ?_)
                                    exact TE.jb_go () [0, 0] ⟨rfl, rfl, rfl, rfl, rfl, rfl, rfl, trivial⟩ rfl
                                · refine TA.off (listed' := #[true, true, true, true, true, true, true, true, true, true, true, true, true, true, true, true, true, true, true, true, true, true, true, true, true, true, true, true, true, true, true, true, true, true, false, false, false, false, false, false, false, false, false, false, false, false, false, false, false, false, false, false]) 33 [2] rfl (Gd.at 32 true 150 (decide (E74.Seq = E78.Seq)) rfl rfl rfl (beq_ft H81)) rfl rfl (by kernel_rfl) (by kernel_rfl) (by kernel_rfl) rfl rfl ?_
                                  refine TA.off (listed' := #[true, true, true, true, true, true, true, true, true, true, true, true, true, true, true, true, true, true, true, true, true, true, true, true, true, true, true, true, true, true, true, true, true, true, true, false, false, false, false, false, false, false, false, false, false, false, false, false, false, false, false, false]) 34 [2] rfl (Gd.at 32 true 150 (decide (E74.Seq = E78.Seq)) rfl rfl rfl (beq_ft H81)) rfl rfl (by kernel_rfl) (by kernel_rfl) (by kernel_rfl) rfl rfl ?_
                                  refine TA.off (listed' := #[true, true, true, true, true, true, true, true, true, true, true, true, true, true, true, true, true, true, true, true, true, true, true, true, true, true, true, true, true, true, true, true, true, true, true, true, false, false, false, false, false, false, false, false, false, false, false, false, false, false, false, false]) 35 [2] rfl (Gd.at 32 true 150 (decide (E74.Seq = E78.Seq)) rfl rfl rfl (beq_ft H81)) rfl rfl (by kernel_rfl) (by kernel_rfl) (by kernel_rfl) rfl rfl ?_
                                  refine TA.off (listed' := #[true, true, true, true, true, true, true, true, true, true, true, true, true, true, true, true, true, true, true, true, true, true, true, true, true, true, true, true, true, true, true, true, true, true, true, true, true, false, false, false, false, false, false, false, false, false, false, false, false, false, false, false]) 36 [2] rfl (Gd.un 35 false 153 rfl rfl rfl) rfl rfl (by kernel_rfl) (by kernel_rfl) (by kernel_rfl) rfl rfl ?_
                                  refine TA.off (listed' := #[true, true, true, true, true, true, true, true, true, true, true, true, true, true, true, true, true, true, true, true, true, true, true, true, true, true, true, true, true, true, true, true, true, true, true, true, true, true, false, false, false, false, false, false, false, false, false, false, false, false, false, false]) 37 [2] rfl (Gd.un 35 false 153 rfl rfl rfl) rfl rfl (by kernel_rfl) (by kernel_rfl) (by kernel_rfl) rfl rfl ?_
                                  refine TA.off (listed' := #[true, true, true, true, true, true, true, true, true, true, true, true, true, true, true, true, true, true, true, true, true, true, true, true, true, true, true, true, true, true, true, true, true, true, true, true, true, true, true, false, false, false, false, false, false, false, false, false, false, false, false, false]) 38 [2] rfl (Gd.un 35 false 153 rfl rfl rfl) rfl rfl (by kernel_rfl) (by kernel_rfl) (by kernel_rfl) rfl rfl ?_
                                  refine TA.off (listed' := #[true, true, true, true, true, true, true, true, true, true, true, true, true, true, true, true, true, true, true, true, true, true, true, true, true, true, true, true, true, true, true, true, true, true, true, true, true, true, true, true, false, false, false, false, false, false, false, false, false, false, false, false]) 39 [2] rfl (Gd.un 35 false 153 rfl rfl rfl) rfl rfl (by kernel_rfl) (by kernel_rfl) (by kernel_rfl) rfl rfl ?_
                                  refine TA.off (listed' := #[true, true, true, true, true, true, true, true, true, true, true, true, true, true, true, true, true, true, true, true, true, true, true, true, true, true, true, true, true, true, true, true, true, true, true, true, true, true, true, true, true, false, false, false, false, false, false, false, false, false, false, false]) 40 [2] rfl (Gd.un 35 false 153 rfl rfl rfl) rfl rfl (by kernel_rfl) (by kernel_rfl) (by kernel_rfl) rfl rfl ?_
                                  refine TA.off (listed' := #[true, true, true, true, true, true, true, true, true, true, true, true, true, true, true, true, true, true, true, true, true, true, true, true, true, true, true, true, true, true, true, true, true, true, true, true, true, true, true, true, true, true, false, false, false, false, false, false, false, false, false, false]) 41 [2] rfl (Gd.un 35 false 153 rfl rfl rfl) rfl rfl (by kernel_rfl) (by kernel_rfl) (by kernel_rfl) rfl rfl ?_
                                  refine TA.off (listed' := #[true, true, true, true, true, true, true, true, true, true, true, true, true, true, true, true, true, true, true, true, true, true, true, true, true, true, true, true, true, true, true, true, true, true, true, true, true, true, true, true, true, true, true, false, false, false, false, false, false, false, false, false]) 42 [2] rfl (Gd.un 35 false 153 rfl rfl rfl) rfl rfl (by kernel_rfl) (by kernel_rfl) (by kernel_rfl) rfl rfl ?_
                                  refine TA.off (listed' := #[true, true, true, true, true, true, true, true, true, true, true, true, true, true, true, true, true, true, true, true, true, true, true, true, true, true, true, true, true, true, true, true, true, true, true, true, true, true, true, true, true, true, true, true, false, false, false, false, false, false, false, false]) 43 [2] rfl (Gd.un 35 false 153 rfl rfl rfl) rfl rfl (by kernel_rfl) (by kernel_rfl) (by kernel_rfl) rfl rfl ?_
                                  refine TA.off (listed' := #[true, true, true, true, true, true, true, true, true, true, true, true, true, true, true, true, true, true, true, true, true, true, true, true, true, true, true, true, true, true, true, true, true, true, true, true, true, true, true, true, true, true, true, true, true, false, false, false, false, false, false, false]) 44 [2] rfl (Gd.un 35 false 153 rfl rfl rfl) rfl rfl (by kernel_rfl) (by kernel_rfl) (by kernel_rfl) rfl rfl ?_
                                  refine TA.off (listed' := #[true, true, true, true, true, true, true, true, true, true, true, true, true, true, true, true, true, true, true, true, true, true, true, true, true, true, true, true, true, true, true, true, true, true, true, true, true, true, true, true, true, true, true, true, true, true, false, false, false, false, false, false]) 45 [2] rfl (Gd.un 35 false 153 rfl rfl rfl) rfl rfl (by kernel_rfl) (by kernel_rfl) (by kernel_rfl) rfl rfl ?_
                                  refine TA.off (listed' := #[true, true, true, true, true, true, true, true, true, true, true, true, true, true, true, true, true, true, true, true, true, true, true, true, true, true, true, true, true, true, true, true, true, true, true, true, true, true, true, true, true, true, true, true, true, true, true, false, false, false, false, false]) 46 [2] rfl (Gd.un 35 false 153 rfl rfl rfl) rfl rfl (by kernel_rfl) (by kernel_rfl) (by kernel_rfl) rfl rfl ?_
                                  refine TA.off (listed' := #[true, true, true, true, true, true, true, true, true, true, true, true, true, true, true, true, true, true, true, true, true, true, true, true, true, true, true, true, true, true, true, true, true, true, true, true, true, true, true, true, true, true, true, true, true, true, true, true, false, false, false, false]) 47 [2] rfl (Gd.un 35 false 153 rfl rfl rfl) rfl rfl (by kernel_rfl) (by kernel_rfl) (by kernel_rfl) rfl rfl ?_
                                  refine TA.off (listed' := #[true, true, true, true, true, true, true, true, true, true, true, true, true, true, true, true, true, true, true, true, true, true, true, true, true, true, true, true, true, true, true, true, true, true, true, true, true, true, true, true, true, true, true, true, true, true, true, true, true, false, false, false]) 48 [2] rfl (Gd.at 32 true 150 (decide (E74.Seq = E78.Seq)) rfl rfl rfl (beq_ft H81)) rfl rfl (by kernel_rfl) (by kernel_rfl) (by kernel_rfl) rfl rfl ?_
                                  refine TA.y (listed' := #[true, true, true, true, true, true, true, true, true, true, true, true, true, true, true, true, true, true, true, true, true, true, true, true, true, true, true, true, true, true, true, true, true, true, true, true, true, true, true, true, true, true, true, true, true, true, true, true, true, true, false, false]) 49 [2] rfl (Y.pick_f H81 rfl rfl) (Gd.at 1 false 119 S66.1 rfl rfl rfl (beq_ff H73)) rfl rfl (by kernel_rfl) (by kernel_rfl) (by kernel_rfl) rfl rfl ?_
                                  refine TA.y (listed' := #[true, true, true, true, true, true, true, true, true, true, true, true, true, true, true, true, true, true, true, true, true, true, true, true, true, true, true, true, true, true, true, true, true, true, true, true, true, true, true, true, true, true, true, true, true, true, true, true, true, true, true, false]) 50 [2] rfl (Y.pick_f H73 rfl rfl) rfl rfl rfl (by kernel_rfl) (by kernel_rfl) (by kernel_rfl) rfl rfl ?_
                                  refine TA.y (listed' := #[true, true, true, true, true, true, true, true, true, true, true, true, true, true, true, true, true, true, true, true, true, true, true, true, true, true, true, true, true, true, true, true, true, true, true, true, true, true, true, true, true, true, true, true, true, true, true, true, true, true, true, true]) 51 [2] rfl (Y.assign rfl) rfl rfl rfl (by kernel_rfl) (by kernel_rfl) (by kernel_rfl) rfl rfl ?_
                                  refine TA.nil (by kernel_rfl) ?_
                                  refine TE.ghost (is' := fun _ => [.own Y7 (lc R5), .own Y10 (lc R8)]) (Gh.close_same (js := [.own X77 (lc E62)]) (r := [.own Y10 (lc R8)]) [0, 0, 0] rfl (idx_get H63).2.2 (Cls.fill Cls.nil) rfl) (fun _ => ?_)
                                  exact TE.jb_go () [0, 0] ⟨rfl, rfl, rfl, rfl, rfl, rfl, rfl, trivial⟩ rfl
                              · refine TA.off (listed' := #[true, true, true, true, true, true, true, true, true, true, true, true, true, true, true, true, true, true, false, false, false, false, false, false, false, false, false, false, false, false, false, false, false, false, false, false, false, false, false, false, false, false, false, false, false, false, false, false, false, false, false, false]) 17 [2] rfl (Gd.at 16 true 134 (decide (E74.Key = E78.Key)) rfl rfl rfl (beq_ft H80)) rfl rfl (by kernel_rfl) (by kernel_rfl) (by kernel_rfl) rfl rfl ?_
                                refine TA.off (listed' := #[true, true, true, true, true, true, true, true, true, true, true, true, true, true, true, true, true, true, true, false, false, false, false, false, false, false, false, false, false, false, false, false, false, false, false, false, false, false, false, false, false, false, false, false, false, false, false, false, false, false, false, false]) 18 [2] rfl (Gd.at 16 true 134 (decide (E74.Key = E78.Key)) rfl rfl rfl (beq_ft H80)) rfl rfl (by kernel_rfl) (by kernel_rfl) (by kernel_rfl) rfl rfl ?_
                                refine TA.off (listed' := #[true, true, true, true, true, true, true, true, true, true, true, true, true, true, true, true, true, true, true, true, false, false, false, false, false, false, false, false, false, false, false, false, false, false, false, false, false, false, false, false, false, false, false, false, false, false, false, false, false, false, false, false]) 19 [2] rfl (Gd.at 16 true 134 (decide (E74.Key = E78.Key)) rfl rfl rfl (beq_ft H80)) rfl rfl (by kernel_rfl) (by kernel_rfl) (by kernel_rfl) rfl rfl ?_
                                refine TA.off (listed' := #[true, true, true, true, true, true, true, true, true, true, true, true, true, true, true, true, true, true, true, true, true, false, false, false, false, false, false, false, false, false, false, false, false, false, false, false, false, false, false, false, false, false, false, false, false, false, false, false, false, false, false, false]) 20 [2] rfl (Gd.at 16 true 134 (decide (E74.Key = E78.Key)) rfl rfl rfl (beq_ft H80)) rfl rfl (by kernel_rfl) (by kernel_rfl) (by kernel_rfl) rfl rfl ?_
                                refine TA.off (listed' := #[true, true, true, true, true, true, true, true, true, true, true, true, true, true, true, true, true, true, true, true, true, true, false, false, false, false, false, false, false, false, false, false, false, false, false, false, false, false, false, false, false, false, false, false, false, false, false, false, false, false, false, false]) 21 [2] rfl (Gd.at 16 true 134 (decide (E74.Key = E78.Key)) rfl rfl rfl (beq_ft H80)) rfl rfl (by kernel_rfl) (by kernel_rfl) (by kernel_rfl) rfl rfl ?_
                                refine TA.off (listed' := #[true, true, true, true, true, true, true, true, true, true, true, true, true, true, true, true, true, true, true, true, true, true, true, false, false, false, false, false, false, false, false, false, false, false, false, false, false, false, false, false, false, false, false, false, false, false, false, false, false, false, false, false]) 22 [2] rfl (Gd.at 16 true 134 (decide (E74.Key = E78.Key)) rfl rfl rfl (beq_ft H80)) rfl rfl (by kernel_rfl) (by kernel_rfl) (by kernel_rfl) rfl rfl ?_
                                refine TA.off (listed' := #[true, true, true, true, true, true, true, true, true, true, true, true, true, true, true, true, true, true, true, true, true, true, true, true, false, false, false, false, false, false, false, false, false, false, false, false, false, false, false, false, false, false, false, false, false, false, false, false, false, false, false, false]) 23 [2] rfl (Gd.at 16 true 134 (decide (E74.Key = E78.Key)) rfl rfl rfl (beq_ft H80)) rfl rfl (by kernel_rfl) (by kernel_rfl) (by kernel_rfl) rfl rfl ?_
                                refine TA.off (listed' := #[true, true, true, true, true, true, true, true, true, true, true, true, true, true, true, true, true, true, true, true, true, true, true, true, true, false, false, false, false, false, false, false, false, false, false, false, false, false, false, false, false, false, false, false, false, false, false, false, false, false, false, false]) 24 [2] rfl (Gd.at 16 true 134 (decide (E74.Key = E78.Key)) rfl rfl rfl (beq_ft H80)) rfl rfl (by kernel_rfl) (by kernel_rfl) (by kernel_rfl) rfl rfl ?_
                                refine TA.off (listed' := #[true, true, true, true, true, true, true, true, true, true, true, true, true, true, true, true, true, true, true, true, true, true, true, true, true, true, false, false, false, false, false, false, false, false, false, false, false, false, false, false, false, false, false, false, false, false, false, false, false, false, false, false]) 25 [2] rfl (Gd.at 16 true 134 (decide (E74.Key = E78.Key)) rfl rfl rfl (beq_ft H80)) rfl rfl (by kernel_rfl) (by kernel_rfl) (by kernel_rfl) rfl rfl ?_
                                refine TA.off (listed' := #[true, true, true, true, true, true, true, true, true, true, true, true, true, true, true, true, true, true, true, true, true, true, true, true, true, true, true, false, false, false, false, false, false, false, false, false, false, false, false, false, false, false, false, false, false, false, false, false, false, false, false, false]) 26 [2] rfl (Gd.at 16 true 134 (decide (E74.Key = E78.Key)) rfl rfl rfl (beq_ft H80)) rfl rfl (by kernel_rfl) (by kernel_rfl) (by kernel_rfl) rfl rfl ?_
                                refine TA.off (listed' := #[true, true, true, true, true, true, true, true, true, true, true, true, true, true, true, true, true, true, true, true, true, true, true, true, true, true, true, true, false, false, false, false, false, false, false, false, false, false, false, false, false, false, false, false, false, false, false, false, false, false, false, false]) 27 [2] rfl (Gd.at 16 true 134 (decide (E74.Key = E78.Key)) rfl rfl rfl (beq_ft H80)) rfl rfl (by kernel_rfl) (by kernel_rfl) (by kernel_rfl) rfl rfl ?_
                                refine TA.off (listed' := #[true, true, true, true, true, true, true, true, true, true, true, true, true, true, true, true, true, true, true, true, true, true, true, true, true, true, true, true, true, false, false, false, false, false, false, false, false, false, false, false, false, false, false, false, false, false, false, false, false, false, false, false]) 28 [2] rfl (Gd.at 16 true 134 (decide (E74.Key = E78.Key)) rfl rfl rfl (beq_ft H80)) rfl rfl (by kernel_rfl) (by kernel_rfl) (by kernel_rfl) rfl rfl ?_
                                refine TA.off (listed' := #[true, true, true, true, true, true, true, true, true, true, true, true, true, true, true, true, true, true, true, true, true, true, true, true, true, true, true, true, true, true, false, false, false, false, false, false, false, false, false, false, false, false, false, false, false, false, false, false, false, false, false, false]) 29 [2] rfl (Gd.at 16 true 134 (decide (E74.Key = E78.Key)) rfl rfl rfl (beq_ft H80)) rfl rfl (by kernel_rfl) (by kernel_rfl) (by kernel_rfl) rfl rfl ?_
                                refine TA.off (listed' := #[true, true, true, true, true, true, true, true, true, true, true, true, true, true, true, true, true, true, true, true, true, true, true, true, true, true, true, true, true, true, true, false, false, false, false, false, false, false, false, false, false, false, false, false, false, false, false, false, false, false, false, false]) 30 [2] rfl (Gd.at 16 true 134 (decide (E74.Key = E78.Key)) rfl rfl rfl (beq_ft H80)) rfl rfl (by kernel_rfl) (by kernel_rfl) (by kernel_rfl) rfl rfl ?_
                                refine TA.y (listed' := #[true, true, true, true, true, true, true, true, true, true, true, true, true, true, true, true, true, true, true, true, true, true, true, true, true, true, true, true, true, true, true, true, false, false, false, false, false, false, false, false, false, false, false, false, false, false, false, false, false, false, false, false]) 31 [2] rfl (Y.pick_f H80 rfl rfl) (Gd.at 1 false 119 S66.1 rfl rfl rfl (beq_ff H73)) rfl rfl (by kernel_rfl) (by kernel_rfl) (by kernel_rfl) rfl rfl ?_
                                refine TA.y (listed' := #[true, true, true, true, true, true, true, true, true, true, true, true, true, true, true, true, true, true, true, true, true, true, true, true, true, true, true, true, true, true, true, true, true, false, false, false, false, false, false, false, false, false, false, false, false, false, false, false, false, false, false, false]) 32 [2] rfl (Y.move rfl) (Gd.at 1 false 119 S66.1 rfl rfl rfl (beq_ff H73)) rfl rfl (by kernel_rfl) (by kernel_rfl) (by kernel_rfl) rfl rfl ?_
                                refine TA.off (listed' := #[true, true, true, true, true, true, true, true, true, true, true, true, true, true, true, true, true, true, true, true, true, true, true, true, true, true, true, true, true, true, true, true, true, true, false, false, false, false, false, false, false, false, false, false, false, false, false, false, false, false, false, false]) 33 [2] rfl (Gd.at 32 true 150 false rfl rfl rfl rfl) rfl rfl (by kernel_rfl) (by kernel_rfl) (by kernel_rfl) rfl rfl ?_
                                refine TA.off (listed' := #[true, true, true, true, true, true, true, true, true, true, true, true, true, true, true, true, true, true, true, true, true, true, true, true, true, true, true, true, true, true, true, true, true, true, true, false, false, false, false, false, false, false, false, false, false, false, false, false, false, false, false, false]) 34 [2] rfl (Gd.at 32 true 150 false rfl rfl rfl rfl) rfl rfl (by kernel_rfl) (by kernel_rfl) (by kernel_rfl) rfl rfl ?_
                                refine TA.off (listed' := #[true, true, true, true, true, true, true, true, true, true, true, true, true, true, true, true, true, true, true, true, true, true, true, true, true, true, true, true, true, true, true, true, true, true, true, true, false, false, false, false, false, false, false, false, false, false, false, false, false, false, false, false]) 35 [2] rfl (Gd.at 32 true 150 false rfl rfl rfl rfl) rfl rfl (by kernel_rfl) (by kernel_rfl) (by kernel_rfl) rfl rfl ?_
                                refine TA.off (listed' := #[true, true, true, true, true, true, true, true, true, true, true, true, true, true, true, true, true, true, true, true, true, true, true, true, true, true, true, true, true, true, true, true, true, true, true, true, true, false, false, false, false, false, false, false, false, false, false, false, false, false, false, false]) 36 [2] rfl (Gd.un 35 false 153 rfl rfl rfl) rfl rfl (by kernel_rfl) (by kernel_rfl) (by kernel_rfl) rfl rfl ?_
                                refine TA.off (listed' := #[true, true, true, true, true, true, true, true, true, true, true, true, true, true, true, true, true, true, true, true, true, true, true, true, true, true, true, true, true, true, true, true, true, true, true, true, true, true, false, false, false, false, false, false, false, false, false, false, false, false, false, false]) 37 [2] rfl (Gd.un 35 false 153 rfl rfl rfl) rfl rfl (by kernel_rfl) (by kernel_rfl) (by kernel_rfl) rfl rfl ?_
                                refine TA.off (listed' := #[true, true, true, true, true, true, true, true, true, true, true, true, true, true, true, true, true, true, true, true, true, true, true, true, true, true, true, true, true, true, true, true, true, true, true, true, true, true, true, false, false, false, false, false, false, false, false, false, false, false, false, false]) 38 [2] rfl (Gd.un 35 false 153 rfl rfl rfl) rfl rfl (by kernel_rfl) (by kernel_rfl) (by kernel_rfl) rfl rfl ?_
                                refine TA.off (listed' := #[true, true, true, true, true, true, true, true, true, true, true, true, true, true, true, true, true, true, true, true, true, true, true, true, true, true, true, true, true, true, true, true, true, true, true, true, true, true, true, true, false, false, false, false, false, false, false, false, false, false, false, false]) 39 [2] rfl (Gd.un 35 false 153 rfl rfl rfl) rfl rfl (by kernel_rfl) (by kernel_rfl) (by kernel_rfl) rfl rfl ?_
                                refine TA.off (listed' := #[true, true, true, true, true, true, true, true, true, true, true, true, true, true, true, true, true, true, true, true, true, true, true, true, true, true, true, true, true, true, true, true, true, true, true, true, true, true, true, true, true, false, false, false, false, false, false, false, false, false, false, false]) 40 [2] rfl (Gd.un 35 false 153 rfl rfl rfl) rfl rfl (by kernel_rfl) (by kernel_rfl) (by kernel_rfl) rfl rfl ?_
                                refine TA.off (listed' := #[true, true, true, true, true, true, true, true, true, true, true, true, true, true, true, true, true, true, true, true, true, true, true, true, true, true, true, true, true, true, true, true, true, true, true, true, true, true, true, true, true, true, false, false, false, false, false, false, false, false, false, false]) 41 [2] rfl (Gd.un 35 false 153 rfl rfl rfl) rfl rfl (by kernel_rfl) (by kernel_rfl) (by kernel_rfl) rfl rfl ?_
                                refine TA.off (listed' := #[true, true, true, true, true, true, true, true, true, true, true, true, true, true, true, true, true, true, true, true, true, true, true, true, true, true, true, true, true, true, true, true, true, true, true, true, true, true, true, true, true, true, true, false, false, false, false, false, false, false, false, false]) 42 [2] rfl (Gd.un 35 false 153 rfl rfl rfl) rfl rfl (by kernel_rfl) (by kernel_rfl) (by kernel_rfl) rfl rfl ?_
                                refine TA.off (listed' := #[true, true, true, true, true, true, true, true, true, true, true, true, true, true, true, true, true, true, true, true, true, true, true, true, true, true, true, true, true, true, true, true, true, true, true, true, true, true, true, true, true, true, true, true, false, false, false, false, false, false, false, false]) 43 [2] rfl (Gd.un 35 false 153 rfl rfl rfl) rfl rfl (by kernel_rfl) (by kernel_rfl) (by kernel_rfl) rfl rfl ?_
                                refine TA.off (listed' := #[true, true, true, true, true, true, true, true, true, true, true, true, true, true, true, true, true, true, true, true, true, true, true, true, true, true, true, true, true, true, true, true, true, true, true, true, true, true, true, true, true, true, true, true, true, false, false, false, false, false, false, false]) 44 [2] rfl (Gd.un 35 false 153 rfl rfl rfl) rfl rfl (by kernel_rfl) (by kernel_rfl) (by kernel_rfl) rfl rfl ?_
                                refine TA.off (listed' := #[true, true, true, true, true, true, true, true, true, true, true, true, true, true, true, true, true, true, true, true, true, true, true, true, true, true, true, true, true, true, true, true, true, true, true, true, true, true, true, true, true, true, true, true, true, true, false, false, false, false, false, false]) 45 [2] rfl (Gd.un 35 false 153 rfl rfl rfl) rfl rfl (by kernel_rfl) (by kernel_rfl) (by kernel_rfl) rfl rfl ?_
                                refine TA.off (listed' := #[true, true, true, true, true, true, true, true, true, true, true, true, true, true, true, true, true, true, true, true, true, true, true, true, true, true, true, true, true, true, true, true, true, true, true, true, true, true, true, true, true, true, true, true, true, true, true, false, false, false, false, false]) 46 [2] rfl (Gd.un 35 false 153 rfl rfl rfl) rfl rfl (by kernel_rfl) (by kernel_rfl) (by kernel_rfl) rfl rfl ?_
                                refine TA.off (listed' := #[true, true, true, true, true, true, true, true, true, true, true, true, true, true, true, true, true, true, true, true, true, true, true, true, true, true, true, true, true, true, true, true, true, true, true, true, true, true, true, true, true, true, true, true, true, true, true, true, false, false, false, false]) 47 [2] rfl (Gd.un 35 false 153 rfl rfl rfl) rfl rfl (by kernel_rfl) (by kernel_rfl) (by kernel_rfl) rfl rfl ?_
                                refine TA.off (listed' := #[true, true, true, true, true, true, true, true, true, true, true, true, true, true, true, true, true, true, true, true, true, true, true, true, true, true, true, true, true, true, true, true, true, true, true, true, true, true, true, true, true, true, true, true, true, true, true, true, true, false, false, false]) 48 [2] rfl (Gd.at 32 true 150 false rfl rfl rfl rfl) rfl rfl (by kernel_rfl) (by kernel_rfl) (by kernel_rfl) rfl rfl ?_
                                refine TA.y (listed' := #[true, true, true, true, true, true, true, true, true, true, true, true, true, true, true, true, true, true, true, true, true, true, true, true, true, true, true, true, true, true, true, true, true, true, true, true, true, true, true, true, true, true, true, true, true, true, true, true, true, true, false, false]) 49 [2] rfl (Y.pick_f rfl rfl rfl) (Gd.at 1 false 119 S66.1 rfl rfl rfl (beq_ff H73)) rfl rfl (by kernel_rfl) (by kernel_rfl) (by kernel_rfl) rfl rfl ?_
                                refine TA.y (listed' := #[true, true, true, true, true, true, true, true, true, true, true, true, true, true, true, true, true, true, true, true, true, true, true, true, true, true, true, true, true, true, true, true, true, true, true, true, true, true, true, true, true, true, true, true, true, true, true, true, true, true, true, false]) 50 [2] rfl (Y.pick_f H73 rfl rfl) rfl rfl rfl (by kernel_rfl) (by kernel_rfl) (by kernel_rfl) rfl rfl ?_
                                refine TA.y (listed' := #[true, true, true, true, true, true, true, true, true, true, true, true, true, true, true, true, true, true, true, true, true, true, true, true, true, true, true, true, true, true, true, true, true, true, true, true, true, true, true, true, true, true, true, true, true, true, true, true, true, true, true, true]) 51 [2] rfl (Y.assign rfl) rfl rfl rfl (by kernel_rfl) (by kernel_rfl) (by kernel_rfl) rfl rfl ?_
                                refine TA.nil (by kernel_rfl) ?_
                                refine TE.ghost (is' := fun _ => [.own Y7 (lc R5), .own Y10 (lc R8)]) (Gh.close_same (js := [.own X77 (lc E62)]) (r := [.own Y10 (lc R8)]) [0, 0, 0] rfl (idx_get H63).2.2 (Cls.fill Cls.nil) rfl) (fun _ => ?_)
                                exact TE.jb_go () [0, 0] ⟨rfl, rfl, rfl, rfl, rfl, rfl, rfl, trivial⟩ rfl
                          · refine TE.block_normal ?_
                            refine TE.next ?_
                            refine TW.region ?_
                            refine TO.y (Y.move rfl) rfl rfl rfl ?_
                            refine TO.y (Y.add rfl rfl) rfl rfl rfl ?_
                            refine TO.y (Y.assign rfl) rfl rfl rfl ?_
                            refine TO.nil ?_
                            exact TE.lp_go () [0, 0] ⟨rfl, rfl, rfl, rfl, rfl, rfl, rfl, trivial⟩ rfl
                        · refine TW.exit ?_
                          refine TE.then_exit ?_
                          refine TE.lp_exit ?_
                          refine TE.block_exit ?_
                          exact TE.jn_go () [0, 0] ⟨rfl, rfl, rfl, rfl, rfl, rfl, trivial⟩ rfl
                      · refine TE.next ?_
                        refine TW.seq ?_
                        refine TW.region ?_
                        refine TO.y (Y.move rfl) rfl rfl rfl ?_
                        refine TO.y (Y.not rfl) rfl rfl rfl ?_
                        refine TO.nil ?_
                        refine TE.next ?_
                        refine TW.cond rfl (fun H83 => ?_) (fun H83 => ?_)
                        · refine TW.seq ?_
                          refine TW.region ?_
                          refine TO.y (Y.assign rfl) rfl rfl rfl ?_
                          refine TO.nil ?_
                          refine TE.next ?_
                          refine TW.ret ?_
                          refine TE.block_ret ?_
                          refine TE.then_ret ?_
                          refine TE.lp_ret ?_
                          refine TE.block_ret ?_
                          refine TE.jn_done ?_
                          refine TE.block_ret ?_
                          refine TE.then_ret ?_
                          refine TE.lp_ret ?_
                          refine TE.block_ret ?_
                          refine TE.jn_done ?_
                          refine TE.then_ret ?_
                          exact TE.leaf fun _ _ hf_ hs_ => ret_any (rs := [.tmp 2]) (vs := [.bool false]) (.inl rfl) rfl ⟨rfl, trivial⟩ hf_ hs_ ⟨(), rfl, hs_.pulls [] rfl⟩
                        · refine TW.skip ?_
                          refine TE.block_normal ?_
                          refine TE.next ?_
                          refine TW.region ?_
                          refine TO.y (Y.move rfl) rfl rfl rfl ?_
                          refine TO.y (Y.add rfl rfl) rfl rfl rfl ?_
                          refine TO.y (Y.assign rfl) rfl rfl rfl ?_
                          refine TO.nil ?_
                          exact TE.lp_go () [0, 0] ⟨rfl, rfl, rfl, rfl, rfl, trivial⟩ rfl
                    · refine TW.exit ?_
                      refine TE.then_exit ?_
                      refine TE.lp_exit ?_
                      refine TE.block_exit ?_
                      refine TE.ghost (is' := fun _ => [.own Y7 (lc R5), .own Y10 (lc R8)]) (Gh.close_same (js := [.own X64 (lc E62)]) (r := [.own Y10 (lc R8)]) [0, 0, 0] rfl (idx_get H63).2.2 (Cls.fill Cls.nil) rfl) (fun _ => ?_)
                      exact TE.jn_go () [0, 0] ⟨rfl, rfl, rfl, rfl, trivial⟩ rfl
                  · refine TE.block_normal ?_
                    refine TE.next ?_
                    refine TW.region ?_
                    refine TO.y (Y.move rfl) rfl rfl rfl ?_
                    refine TO.y (Y.add rfl rfl) rfl rfl rfl ?_
                    refine TO.y (Y.assign rfl) rfl rfl rfl ?_
                    refine TO.nil ?_
                    exact TE.lp_go () [0, 0] ⟨rfl, rfl, rfl, rfl, trivial⟩ rfl
                · refine TW.exit ?_
                  refine TE.then_exit ?_
                  refine TE.lp_exit ?_
                  refine TE.block_exit ?_
                  exact TE.jn_go () [1] ⟨rfl, rfl, trivial⟩ rfl
              · refine TE.next ?_
                refine TW.seq ?_
                refine TW.region ?_
                refine TO.y (Y.move rfl) rfl rfl rfl ?_
                refine TO.y (Y.len (l := R8) ke26 (Can.own 0 rfl) rfl) rfl rfl rfl ?_
                refine TO.y (Y.move rfl) rfl rfl rfl ?_
                refine TO.y (Y.leq rfl rfl) rfl rfl rfl ?_
                refine TO.y (Y.assign rfl) rfl rfl rfl ?_
                refine TO.nil ?_
                refine TE.next ?_
                refine TW.ret ?_
                exact TE.leaf fun _ _ hf_ hs_ => ret_any (rs := [.tmp 2]) (vs := [.bool (decide (((R8.length : Nat) : Int) ≤ T20.2))]) (.inl rfl) rfl ⟨rfl, trivial⟩ hf_ hs_ ⟨(), rfl, hs_.pulls [] rfl⟩

/-- loop.example/g00950/laws.szEnt -/
noncomputable def laws_szEnt (a : Ent) (left : Int) : Option Int :=
  if (decide (IntKind.i64.wrap (left - ((a.Key.length : Nat) : Int)) < (0 : Int))) = true then (some (-1 : Int))
  else (if (decide (IntKind.i64.wrap (IntKind.i64.wrap (left - ((a.Key.length : Nat) : Int)) - ((a.Val.length : Nat) : Int)) < (0 : Int))) = true then (some (-1 : Int))
  else (some (IntKind.i64.wrap (IntKind.i64.wrap (left - ((a.Key.length : Nat) : Int)) - ((a.Val.length : Nat) : Int)))))

theorem laws_szEnt_con (a : Ent) (left : Int)  (r : Int) (hm : laws_szEnt a left = some r) :
    Con Try.prog 68 [.agg #[strV a.Key, .int .i64 a.Seq, .bool a.Del, strV a.Val], .int .i64 left] [] [] (fun _ : Unit => .int .i64 r) (fun _ => []) := by
  refine Con.intro (args := [.agg #[strV a.Key, .int .i64 a.Seq, .bool a.Del, strV a.Val], .int .i64 left]) (n := 20) (val := fun r (_ : Unit) => .int .i64 r) (post := fun _ _ => []) (m := laws_szEnt a left) Try.func68 rfl rfl rfl hm ?_
  intro w S _
  unfold laws_szEnt
  refine TW.seq ?_
  refine TW.region ?_
  refine TO.ef (Ef.box rfl (Cel.plain rfl rfl)) rfl rfl rfl (fun B1 => ?_)
  refine TO.y (Y.assign rfl) rfl rfl rfl ?_
  refine TO.nil ?_
  refine TE.next ?_
  refine TW.seq ?_
  refine TW.region ?_
  refine TO.y (Y.move rfl) rfl rfl rfl ?_
  refine TO.y (Y.field_box kf83_0 rfl rfl) rfl rfl rfl ?_
  refine TO.y (Y.load_box (v := strV a.Key) 0 kk9 rfl rfl rfl) rfl rfl rfl ?_
  refine TO.y (Y.slen ks9 rfl) rfl rfl rfl ?_
  refine TO.y (Y.sub rfl rfl) rfl rfl rfl ?_
  refine TO.y (Y.assign rfl) rfl rfl rfl ?_
  refine TO.nil ?_
  refine TE.next ?_
  refine TW.seq ?_
  refine TW.seq ?_
  refine TW.region ?_
  refine TO.y (Y.move rfl) rfl rfl rfl ?_
  refine TO.y (Y.lss rfl rfl) rfl rfl rfl ?_
  refine TO.nil ?_
  refine TE.next ?_
  refine TW.cond rfl (fun H2 => ?_) (fun H2 => ?_)
  · refine TW.seq ?_
    refine TW.region ?_
    refine TO.y (Y.assign rfl) rfl rfl rfl ?_
    refine TO.nil ?_
    refine TE.next ?_
    refine TW.ret ?_
    refine TE.then_ret ?_
    exact TE.leaf fun _ _ hf_ hs_ => ret_any (rs := [.tmp 4]) (vs := [.int .i64 (-1 : Int)]) (.inl rfl) rfl ⟨rfl, trivial⟩ hf_ hs_ ⟨(), rfl, hs_.pulls [] rfl⟩
  · refine TW.skip ?_
    refine TE.next ?_
    refine TW.seq ?_
    refine TW.region ?_
    refine TO.y (Y.move rfl) rfl rfl rfl ?_
    refine TO.y (Y.field_box kf83_3 rfl rfl) rfl rfl rfl ?_
    refine TO.y (Y.load_box (v := strV a.Val) 0 kk9 rfl rfl rfl) rfl rfl rfl ?_
    refine TO.y (Y.slen ks9 rfl) rfl rfl rfl ?_
    refine TO.y (Y.sub rfl rfl) rfl rfl rfl ?_
    refine TO.y (Y.assign rfl) rfl rfl rfl ?_
    refine TO.nil ?_
    refine TE.next ?_
    refine TW.seq ?_
    refine TW.seq ?_
    refine TW.region ?_
    refine TO.y (Y.move rfl) rfl rfl rfl ?_
    refine TO.y (Y.lss rfl rfl) rfl rfl rfl ?_
    refine TO.nil ?_
    refine TE.next ?_
    refine TW.cond rfl (fun H3 => ?_) (fun H3 => ?_)
    · refine TW.seq ?_
      refine TW.region ?_
      refine TO.y (Y.assign rfl) rfl rfl rfl ?_
      refine TO.nil ?_
      refine TE.next ?_
      refine TW.ret ?_
      refine TE.then_ret ?_
      exact TE.leaf fun _ _ hf_ hs_ => ret_any (rs := [.tmp 4]) (vs := [.int .i64 (-1 : Int)]) (.inl rfl) rfl ⟨rfl, trivial⟩ hf_ hs_ ⟨(), rfl, hs_.pulls [] rfl⟩
    · refine TW.skip ?_
      refine TE.next ?_
      refine TW.seq ?_
      refine TW.region ?_
      refine TO.y (Y.move rfl) rfl rfl rfl ?_
      refine TO.y (Y.assign rfl) rfl rfl rfl ?_
      refine TO.nil ?_
      refine TE.next ?_
      refine TW.ret ?_
      exact TE.leaf fun _ _ hf_ hs_ => ret_any (rs := [.tmp 4]) (vs := [.int .i64 (IntKind.i64.wrap (IntKind.i64.wrap (left - ((a.Key.length : Nat) : Int)) - ((a.Val.length : Nat) : Int)))]) (.inl rfl) rfl ⟨rfl, trivial⟩ hf_ hs_ ⟨(), rfl, hs_.pulls [] rfl⟩

/-- loop.example/g00950/laws.szEntS -/
noncomputable def laws_szEntS (a : List Ent) (left : Int) : Option Int :=
  if (decide (IntKind.i64.wrap (left - ((a.length : Nat) : Int)) < (0 : Int))) = true then (some (-1 : Int))
  else (bindC (loopO (fun (S2 : Int × Int) => if (decide (S2.2 < ((a.length : Nat) : Int))) = true then ((idx a S2.2).bind fun E7 =>
  (laws_szEnt E7 S2.1).bind fun R9 =>
  if (decide (R9 < (0 : Int))) = true then (some (.done (.done (-1 : Int))))
  else (some (.go (R9, IntKind.i64.wrap (S2.2 + (1 : Int))))))
  else (some (.done (.go S2.1))))
  (IntKind.i64.wrap (left - ((a.length : Nat) : Int)), (0 : Int)))
  (fun (T4 : Int) => some T4))

theorem laws_szEntS_con (a : List Ent) (left : Int) (V_a0 : Value) (r : Int) (hm : laws_szEntS a left = some r) :
    Con Try.prog 37 [V_a0, .int .i64 left] [] [(V_a0, lc a)] (fun _ : Unit => .int .i64 r) (fun _ => []) := by
  refine Con.intro (args := [V_a0, .int .i64 left]) (n := 27) (val := fun r (_ : Unit) => .int .i64 r) (post := fun _ _ => []) (m := laws_szEntS a left) Try.func37 rfl rfl rfl hm ?_
  intro w S hrd
  have HB_V_a0 := hrd _ (.head _)
  clear hrd
  unfold laws_szEntS
  refine TW.seq ?_
  refine TW.region ?_
  refine TO.y (Y.assign rfl) rfl rfl rfl ?_
  refine TO.nil ?_
  refine TE.next ?_
  refine TW.seq ?_
  refine TW.region ?_
  refine TO.y (Y.move rfl) rfl rfl rfl ?_
  refine TO.y (Y.move rfl) rfl rfl rfl ?_
  refine TO.y (Y.len (l := a) ke39 (Base.can HB_V_a0) rfl) rfl rfl rfl ?_
  refine TO.y (Y.sub rfl rfl) rfl rfl rfl ?_
  refine TO.y (Y.assign rfl) rfl rfl rfl ?_
  refine TO.nil ?_
  refine TE.next ?_
  refine TW.seq ?_
  refine TW.seq ?_
  refine TW.region ?_
  refine TO.y (Y.move rfl) rfl rfl rfl ?_
  refine TO.y (Y.lss rfl rfl) rfl rfl rfl ?_
  refine TO.nil ?_
  refine TE.next ?_
  refine TW.cond rfl (fun H1 => ?_) (fun H1 => ?_)
  · refine TW.seq ?_
    refine TW.region ?_
    refine TO.y (Y.assign rfl) rfl rfl rfl ?_
    refine TO.nil ?_
    refine TE.next ?_
    refine TW.ret ?_
    refine TE.then_ret ?_
    exact TE.leaf fun _ _ hf_ hs_ => ret_any (rs := [.tmp 4]) (vs := [.int .i64 (-1 : Int)]) (.inl rfl) rfl ⟨rfl, trivial⟩ hf_ hs_ ⟨(), rfl, hs_.pulls [] rfl⟩
  · refine TW.skip ?_
    refine TE.next ?_
    refine TW.seq ?_
    refine TW.seq ?_
    refine TW.region ?_
    refine TO.y (Y.assign rfl) rfl rfl rfl ?_
    refine TO.nil ?_
    refine TE.next ?_
    refine TW.joinX (τ := Int) (X := Unit) (fun T _ => [(1, .int .i64 T)]) (fun _ _ => []) ?_ (fun T4 X5 => ?_)
    · refine TW.block ?_
      refine TW.loopX (σ := Int × Int) (X := Unit) (fun T _ => [(0, V_a0), (1, .int .i64 T.1), (5, .int .i64 T.2)]) (fun _ _ => []) () [] ⟨rfl, rfl, rfl, trivial⟩ rfl (fun S2 X3 => ?_)
      refine TW.seq ?_
      refine TW.seq ?_
      refine TW.region ?_
      refine TO.y (Y.move rfl) rfl rfl rfl ?_
      refine TO.y (Y.move rfl) rfl rfl rfl ?_
      refine TO.y (Y.len (l := a) ke39 (Base.can HB_V_a0) rfl) rfl rfl rfl ?_
      refine TO.y (Y.lss rfl rfl) rfl rfl rfl ?_
      refine TO.nil ?_
      refine TE.next ?_
      refine TW.cond rfl (fun H6 => ?_) (fun H6 => ?_)
      · refine TW.skip ?_
        refine TE.next ?_
        refine TW.seq ?_
        refine TW.block ?_
        refine TW.seq ?_
        refine TW.region ?_
        refine TO.y (Y.move rfl) rfl rfl rfl ?_
        refine TO.y (Y.move rfl) rfl rfl rfl ?_
        refine TO.bind fun E7 H8 => ?_
        refine TO.y (Y.index ke39 (Base.can HB_V_a0) H8 rfl rfl) rfl rfl rfl ?_
        refine TO.y (Y.load_el (us := [strV E7.Key, .int .i64 E7.Seq, .bool E7.Del, strV E7.Val]) (u := .agg #[strV E7.Key, .int .i64 E7.Seq, .bool E7.Del, strV E7.Val]) kk83 rfl (Base.can HB_V_a0) (idx_get H8).2.2 rfl rfl rfl rfl rfl) rfl rfl rfl ?_
        refine TO.y (Y.move rfl) rfl rfl rfl ?_
        refine TO.bind fun R9 H10 => ?_
        refine TO.ef (Ef.call (rest := []) [] (laws_szEnt_con E7 S2.1  R9 H10) kc68 rfl rfl trivial) rfl rfl rfl (fun _ => ?_)
        refine TO.y (Y.assign rfl) rfl rfl rfl ?_
        refine TO.nil ?_
        refine TE.next ?_
        refine TW.seq ?_
        refine TW.region ?_
        refine TO.y (Y.move rfl) rfl rfl rfl ?_
        refine TO.y (Y.lss rfl rfl) rfl rfl rfl ?_
        refine TO.nil ?_
        refine TE.next ?_
        refine TW.cond rfl (fun H12 => ?_) (fun H12 => ?_)
        · refine TW.seq ?_
          refine TW.region ?_
          refine TO.y (Y.assign rfl) rfl rfl rfl ?_
          refine TO.nil ?_
          refine TE.next ?_
          refine TW.ret ?_
          refine TE.block_ret ?_
          refine TE.then_ret ?_
          refine TE.lp_ret ?_
          refine TE.block_ret ?_
          refine TE.jn_done ?_
          refine TE.then_ret ?_
          exact TE.leaf fun _ _ hf_ hs_ => ret_any (rs := [.tmp 4]) (vs := [.int .i64 (-1 : Int)]) (.inl rfl) rfl ⟨rfl, trivial⟩ hf_ hs_ ⟨(), rfl, hs_.pulls [] rfl⟩
        · refine TW.skip ?_
          refine TE.block_normal ?_
          refine TE.next ?_
          refine TW.region ?_
          refine TO.y (Y.move rfl) rfl rfl rfl ?_
          refine TO.y (Y.add rfl rfl) rfl rfl rfl ?_
          refine TO.y (Y.assign rfl) rfl rfl rfl ?_
          refine TO.nil ?_
          exact TE.lp_go () [] ⟨rfl, rfl, rfl, trivial⟩ rfl
      · refine TW.exit ?_
        refine TE.then_exit ?_
        refine TE.lp_exit ?_
        refine TE.block_exit ?_
        exact TE.jn_go () [] ⟨rfl, trivial⟩ rfl
    · refine TE.next ?_
      refine TW.seq ?_
      refine TW.region ?_
      refine TO.y (Y.move rfl) rfl rfl rfl ?_
      refine TO.y (Y.assign rfl) rfl rfl rfl ?_
      refine TO.nil ?_
      refine TE.next ?_
      refine TW.ret ?_
      exact TE.leaf fun _ _ hf_ hs_ => ret_any (rs := [.tmp 4]) (vs := [.int .i64 T4]) (.inl rfl) rfl ⟨rfl, trivial⟩ hf_ hs_ ⟨(), rfl, hs_.pulls [] rfl⟩

/-- loop.example/g00950/laws.szEntSS -/
noncomputable def laws_szEntSS (a : List (List Ent)) (left : Int) : Option Int :=
  if (decide (IntKind.i64.wrap (left - ((a.length : Nat) : Int)) < (0 : Int))) = true then (some (-1 : Int))
  else (bindC (loopO (fun (S2 : Int × Int) => if (decide (S2.2 < ((a.length : Nat) : Int))) = true then ((idx a S2.2).bind fun E7 =>
  (laws_szEntS E7 S2.1).bind fun R10 =>
  if (decide (R10 < (0 : Int))) = true then (some (.done (.done (-1 : Int))))
  else (some (.go (R10, IntKind.i64.wrap (S2.2 + (1 : Int))))))
  else (some (.done (.go S2.1))))
  (IntKind.i64.wrap (left - ((a.length : Nat) : Int)), (0 : Int)))
  (fun (T4 : Int) => some T4))

theorem laws_szEntSS_con (a : List (List Ent)) (left : Int) (V_a0 : Value) (r : Int) (hm : laws_szEntSS a left = some r) :
    Con Try.prog 13 [V_a0, .int .i64 left] [] [(V_a0, lc a)] (fun _ : Unit => .int .i64 r) (fun _ => []) := by
  refine Con.intro (args := [V_a0, .int .i64 left]) (n := 27) (val := fun r (_ : Unit) => .int .i64 r) (post := fun _ _ => []) (m := laws_szEntSS a left) Try.func13 rfl rfl rfl hm ?_
  intro w S hrd
  have HB_V_a0 := hrd _ (.head _)
  clear hrd
  unfold laws_szEntSS
  refine TW.seq ?_
  refine TW.region ?_
  refine TO.y (Y.assign rfl) rfl rfl rfl ?_
  refine TO.nil ?_
  refine TE.next ?_
  refine TW.seq ?_
  refine TW.region ?_
  refine TO.y (Y.move rfl) rfl rfl rfl ?_
  refine TO.y (Y.move rfl) rfl rfl rfl ?_
  refine TO.y (Y.len (l := a) ke32 (Base.can HB_V_a0) rfl) rfl rfl rfl ?_
  refine TO.y (Y.sub rfl rfl) rfl rfl rfl ?_
  refine TO.y (Y.assign rfl) rfl rfl rfl ?_
  refine TO.nil ?_
  refine TE.next ?_
  refine TW.seq ?_
  refine TW.seq ?_
  refine TW.region ?_
  refine TO.y (Y.move rfl) rfl rfl rfl ?_
  refine TO.y (Y.lss rfl rfl) rfl rfl rfl ?_
  refine TO.nil ?_
  refine TE.next ?_
  refine TW.cond rfl (fun H1 => ?_) (fun H1 => ?_)
  · refine TW.seq ?_
    refine TW.region ?_
    refine TO.y (Y.assign rfl) rfl rfl rfl ?_
    refine TO.nil ?_
    refine TE.next ?_
    refine TW.ret ?_
    refine TE.then_ret ?_
    exact TE.leaf fun _ _ hf_ hs_ => ret_any (rs := [.tmp 4]) (vs := [.int .i64 (-1 : Int)]) (.inl rfl) rfl ⟨rfl, trivial⟩ hf_ hs_ ⟨(), rfl, hs_.pulls [] rfl⟩
  · refine TW.skip ?_
    refine TE.next ?_
    refine TW.seq ?_
    refine TW.seq ?_
    refine TW.region ?_
    refine TO.y (Y.assign rfl) rfl rfl rfl ?_
    refine TO.nil ?_
    refine TE.next ?_
    refine TW.joinX (τ := Int) (X := Unit) (fun T _ => [(1, .int .i64 T)]) (fun _ _ => []) ?_ (fun T4 X5 => ?_)
    · refine TW.block ?_
      refine TW.loopX (σ := Int × Int) (X := Unit) (fun T _ => [(0, V_a0), (1, .int .i64 T.1), (5, .int .i64 T.2)]) (fun _ _ => []) () [] ⟨rfl, rfl, rfl, trivial⟩ rfl (fun S2 X3 => ?_)
      refine TW.seq ?_
      refine TW.seq ?_
      refine TW.region ?_
      refine TO.y (Y.move rfl) rfl rfl rfl ?_
      refine TO.y (Y.move rfl) rfl rfl rfl ?_
      refine TO.y (Y.len (l := a) ke32 (Base.can HB_V_a0) rfl) rfl rfl rfl ?_
      refine TO.y (Y.lss rfl rfl) rfl rfl rfl ?_
      refine TO.nil ?_
      refine TE.next ?_
      refine TW.cond rfl (fun H6 => ?_) (fun H6 => ?_)
      · refine TW.skip ?_
        refine TE.next ?_
        refine TW.seq ?_
        refine TW.block ?_
        refine TW.seq ?_
        refine TW.region ?_
        refine TO.y (Y.move rfl) rfl rfl rfl ?_
        refine TO.y (Y.move rfl) rfl rfl rfl ?_
        refine TO.bind fun E7 H8 => ?_
        refine TO.y (Y.index ke32 (Base.can HB_V_a0) H8 rfl rfl) rfl rfl rfl ?_
        have Q9 : Base w S (elv w V_a0 (S2.2.toNat * 1 + 0)) (lc E7) := Base.el HB_V_a0 (idx_get H8).2.2 rfl rfl
        refine TO.y (Y.load_base (α := List Ent) (u := (elv w V_a0 (S2.2.toNat * 1 + 0))) kk39 rfl HB_V_a0 (idx_get H8).2.2 rfl rfl rfl rfl rfl) rfl rfl rfl ?_
        refine TO.y (Y.move rfl) rfl rfl rfl ?_
        refine TO.bind fun R10 H11 => ?_
        refine TO.ef (Ef.call (rest := []) [] (laws_szEntS_con E7 S2.1 (elv w V_a0 (S2.2.toNat * 1 + 0)) R10 H11) kc37 rfl rfl ⟨(Base.can Q9), trivial⟩) rfl rfl rfl (fun _ => ?_)
        refine TO.y (Y.assign rfl) rfl rfl rfl ?_
        refine TO.nil ?_
        refine TE.next ?_
        refine TW.seq ?_
        refine TW.region ?_
        refine TO.y (Y.move rfl) rfl rfl rfl ?_
        refine TO.y (Y.lss rfl rfl) rfl rfl rfl ?_
        refine TO.nil ?_
        refine TE.next ?_
        refine TW.cond rfl (fun H13 => ?_) (fun H13 => ?_)
        · refine TW.seq ?_
          refine TW.region ?_
          refine TO.y (Y.assign rfl) rfl rfl rfl ?_
          refine TO.nil ?_
          refine TE.next ?_
          refine TW.ret ?_
          refine TE.block_ret ?_
          refine TE.then_ret ?_
          refine TE.lp_ret ?_
          refine TE.block_ret ?_
          refine TE.jn_done ?_
          refine TE.then_ret ?_
          exact TE.leaf fun _ _ hf_ hs_ => ret_any (rs := [.tmp 4]) (vs := [.int .i64 (-1 : Int)]) (.inl rfl) rfl ⟨rfl, trivial⟩ hf_ hs_ ⟨(), rfl, hs_.pulls [] rfl⟩
        · refine TW.skip ?_
          refine TE.block_normal ?_
          refine TE.next ?_
          refine TW.region ?_
          refine TO.y (Y.move rfl) rfl rfl rfl ?_
          refine TO.y (Y.add rfl rfl) rfl rfl rfl ?_
          refine TO.y (Y.assign rfl) rfl rfl rfl ?_
          refine TO.nil ?_
          exact TE.lp_go () [] ⟨rfl, rfl, rfl, trivial⟩ rfl
      · refine TW.exit ?_
        refine TE.then_exit ?_
        refine TE.lp_exit ?_
        refine TE.block_exit ?_
        exact TE.jn_go () [] ⟨rfl, trivial⟩ rfl
    · refine TE.next ?_
      refine TW.seq ?_
      refine TW.region ?_
      refine TO.y (Y.move rfl) rfl rfl rfl ?_
      refine TO.y (Y.assign rfl) rfl rfl rfl ?_
      refine TO.nil ?_
      refine TE.next ?_
      refine TW.ret ?_
      exact TE.leaf fun _ _ hf_ hs_ => ret_any (rs := [.tmp 4]) (vs := [.int .i64 T4]) (.inl rfl) rfl ⟨rfl, trivial⟩ hf_ hs_ ⟨(), rfl, hs_.pulls [] rfl⟩

/-- loop.example/g00950/laws.toEnt -/
noncomputable def laws_toEnt (a : Ent) : Option Ent :=
  some a

theorem laws_toEnt_con (a : Ent)  (r : Ent) (hm : laws_toEnt a = some r) :
    Con Try.prog 69 [.agg #[strV a.Key, .int .i64 a.Seq, .bool a.Del, strV a.Val]] [] [] (fun _ : Unit => .agg #[strV r.Key, .int .i64 r.Seq, .bool r.Del, strV r.Val]) (fun _ => []) := by
  refine Con.intro (args := [.agg #[strV a.Key, .int .i64 a.Seq, .bool a.Del, strV a.Val]]) (n := 17) (val := fun r (_ : Unit) => .agg #[strV r.Key, .int .i64 r.Seq, .bool r.Del, strV r.Val]) (post := fun _ _ => []) (m := laws_toEnt a) Try.func69 rfl rfl rfl hm ?_
  intro w S _
  unfold laws_toEnt
  refine TW.seq ?_
  refine TW.region ?_
  refine TO.ef (Ef.box rfl (Cel.plain rfl rfl)) rfl rfl rfl (fun B1 => ?_)
  refine TO.ef (Ef.alloc kz31 rfl) rfl rfl rfl (fun B2 => ?_)
  refine TO.nil ?_
  refine TE.next ?_
  refine TW.seq ?_
  refine TW.region ?_
  refine TO.ef (Ef.alloc kz31 rfl) rfl rfl rfl (fun B3 => ?_)
  refine TO.nil ?_
  refine TE.next ?_
  refine TW.seq ?_
  refine TW.region ?_
  refine TO.y (Y.field_box kf83_0 rfl rfl) rfl rfl rfl ?_
  refine TO.y (Y.load_box (v := strV a.Key) 2 kk9 rfl rfl rfl) rfl rfl rfl ?_
  refine TO.y (Y.field_box kf31_0 rfl rfl) rfl rfl rfl ?_
  refine TO.ef0 (Ef.store_box (us := [strV a.Key]) (vs' := [strV a.Key, .int .i64 (0 : Int), .bool false, strV ([])]) (is' := [.box B3 31 [strV a.Key, .int .i64 (0 : Int), .bool false, strV ([])], .box B2 31 [strV ([]), .int .i64 (0 : Int), .bool false, strV ([])], .box B1 83 [strV a.Key, .int .i64 a.Seq, .bool a.Del, strV a.Val]]) 0 kk9 rfl rfl rfl (Cel.plain rfl rfl) rfl rfl rfl rfl) rfl rfl (fun _ => ?_)
  refine TO.nil ?_
  refine TE.next ?_
  refine TW.seq ?_
  refine TW.region ?_
  refine TO.y (Y.field_box kf83_1 rfl rfl) rfl rfl rfl ?_
  refine TO.y (Y.load_box (v := .int .i64 a.Seq) 2 kk3 rfl rfl rfl) rfl rfl rfl ?_
  refine TO.y (Y.field_box kf31_1 rfl rfl) rfl rfl rfl ?_
  refine TO.ef0 (Ef.store_box (us := [.int .i64 a.Seq]) (vs' := [strV a.Key, .int .i64 a.Seq, .bool false, strV ([])]) (is' := [.box B3 31 [strV a.Key, .int .i64 a.Seq, .bool false, strV ([])], .box B2 31 [strV ([]), .int .i64 (0 : Int), .bool false, strV ([])], .box B1 83 [strV a.Key, .int .i64 a.Seq, .bool a.Del, strV a.Val]]) 0 kk3 rfl rfl rfl (Cel.plain rfl rfl) rfl rfl rfl rfl) rfl rfl (fun _ => ?_)
  refine TO.nil ?_
  refine TE.next ?_
  refine TW.seq ?_
  refine TW.region ?_
  refine TO.y (Y.field_box kf83_2 rfl rfl) rfl rfl rfl ?_
  refine TO.y (Y.load_box (v := .bool a.Del) 2 kk4 rfl rfl rfl) rfl rfl rfl ?_
  refine TO.y (Y.field_box kf31_2 rfl rfl) rfl rfl rfl ?_
  refine TO.ef0 (Ef.store_box (us := [.bool a.Del]) (vs' := [strV a.Key, .int .i64 a.Seq, .bool a.Del, strV ([])]) (is' := [.box B3 31 [strV a.Key, .int .i64 a.Seq, .bool a.Del, strV ([])], .box B2 31 [strV ([]), .int .i64 (0 : Int), .bool false, strV ([])], .box B1 83 [strV a.Key, .int .i64 a.Seq, .bool a.Del, strV a.Val]]) 0 kk4 rfl rfl rfl (Cel.plain rfl rfl) rfl rfl rfl rfl) rfl rfl (fun _ => ?_)
  refine TO.nil ?_
  refine TE.next ?_
  refine TW.seq ?_
  refine TW.region ?_
  refine TO.y (Y.field_box kf83_3 rfl rfl) rfl rfl rfl ?_
  refine TO.y (Y.load_box (v := strV a.Val) 2 kk9 rfl rfl rfl) rfl rfl rfl ?_
  refine TO.y (Y.field_box kf31_3 rfl rfl) rfl rfl rfl ?_
  refine TO.ef0 (Ef.store_box (us := [strV a.Val]) (vs' := [strV a.Key, .int .i64 a.Seq, .bool a.Del, strV a.Val]) (is' := [.box B3 31 [strV a.Key, .int .i64 a.Seq, .bool a.Del, strV a.Val], .box B2 31 [strV ([]), .int .i64 (0 : Int), .bool false, strV ([])], .box B1 83 [strV a.Key, .int .i64 a.Seq, .bool a.Del, strV a.Val]]) 0 kk9 rfl rfl rfl (Cel.plain rfl rfl) rfl rfl rfl rfl) rfl rfl (fun _ => ?_)
  refine TO.nil ?_
  refine TE.next ?_
  refine TW.seq ?_
  refine TW.region ?_
  refine TO.y (Y.load_box (v := .agg #[strV a.Key, .int .i64 a.Seq, .bool a.Del, strV a.Val]) 0 kk31 rfl rfl rfl) rfl rfl rfl ?_
  refine TO.ef0 (Ef.store_box (us := [strV a.Key, .int .i64 a.Seq, .bool a.Del, strV a.Val]) (vs' := [strV a.Key, .int .i64 a.Seq, .bool a.Del, strV a.Val]) (is' := [.box B3 31 [strV a.Key, .int .i64 a.Seq, .bool a.Del, strV a.Val], .box B2 31 [strV a.Key, .int .i64 a.Seq, .bool a.Del, strV a.Val], .box B1 83 [strV a.Key, .int .i64 a.Seq, .bool a.Del, strV a.Val]]) 1 kk31 rfl rfl rfl (Cel.plain rfl rfl) rfl rfl rfl rfl) rfl rfl (fun _ => ?_)
  refine TO.nil ?_
  refine TE.next ?_
  refine TW.ret ?_
  exact TE.leaf fun _ _ hf_ hs_ => ret_any (rs := [.cell 2 31]) (vs := [.agg #[strV a.Key, .int .i64 a.Seq, .bool a.Del, strV a.Val]]) (.inl rfl) rfl (RV.cell 1 rfl rfl kk31 rfl trivial) hf_ hs_ ⟨(), rfl, hs_.pulls [] rfl⟩

/-- loop.example/g00950/laws.toEntS -/
noncomputable def laws_toEntS (a : List Ent) : Option (List Ent) :=
  (mkLen 48 ((a.length : Nat) : Int)).bind fun E2 =>
  bindC (loopO (fun (S4 : Int × List Ent) => if (decide (S4.1 < ((a.length : Nat) : Int))) = true then ((idx a S4.1).bind fun E9 =>
  (laws_toEnt E9).bind fun R11 =>
  (idx S4.2 S4.1).bind fun E14 =>
  some (.go (IntKind.i64.wrap (S4.1 + (1 : Int)), (S4.2.set S4.1.toNat R11))))
  else (some (.done (.go S4.2))))
  ((0 : Int), (List.replicate E2 ({ Key := [], Seq := (0 : Int), Del := false, Val := [] : Ent } : Ent))))
  (fun (T6 : List Ent) => some T6)

theorem laws_toEntS_con (a : List Ent) (V_a0 : Value) (r : List Ent) (hm : laws_toEntS a = some r) :
    Con Try.prog 38 [V_a0] [] [(V_a0, lc a)] (fun X : Value => X) (fun X => [.own X (lc r)]) := by
  refine Con.intro (args := [V_a0]) (n := 23) (val := fun _ (X : Value) => X) (post := fun r X => [.own X (lc r)]) (m := laws_toEntS a) Try.func38 rfl rfl rfl hm ?_
  intro w S hrd
  have HB_V_a0 := hrd _ (.head _)
  clear hrd
  unfold laws_toEntS
  refine TW.seq ?_
  refine TW.region ?_
  refine TO.y (Y.assign rfl) rfl rfl rfl ?_
  refine TO.nil ?_
  refine TE.next ?_
  refine TW.seq ?_
  refine TW.region ?_
  refine TO.y (Y.move rfl) rfl rfl rfl ?_
  refine TO.y (Y.len (l := a) ke39 (Base.can HB_V_a0) rfl) rfl rfl rfl ?_
  refine TO.bind fun E2 H3 => ?_
  refine TO.ef (Ef.make (α := Ent) (z := ({ Key := [], Seq := (0 : Int), Del := false, Val := [] : Ent } : Ent)) H3 ke26 kz31 rfl rfl rfl rfl) rfl rfl rfl (fun V1 => ?_)
  refine TO.y (Y.assign rfl) rfl rfl rfl ?_
  refine TO.nil ?_
  refine TE.next ?_
  refine TW.seq ?_
  refine TW.seq ?_
  refine TW.region ?_
  refine TO.y (Y.assign rfl) rfl rfl rfl ?_
  refine TO.nil ?_
  refine TE.next ?_
  refine TW.joinX (τ := List Ent) (X := Unit) (fun _ _ => [(3, V1)]) (fun T _ => [.own V1 (lc T)]) ?_ (fun T6 X7 => ?_)
  · refine TW.block ?_
    refine TW.loopX (σ := Int × List Ent) (X := Unit) (fun T _ => [(0, V_a0), (3, V1), (4, .int .i64 T.1)]) (fun T _ => [.own V1 (lc T.2)]) () [0] ⟨rfl, rfl, rfl, trivial⟩ rfl (fun S4 X5 => ?_)
    refine TW.seq ?_
    refine TW.seq ?_
    refine TW.region ?_
    refine TO.y (Y.move rfl) rfl rfl rfl ?_
    refine TO.y (Y.move rfl) rfl rfl rfl ?_
    refine TO.y (Y.len (l := a) ke39 (Base.can HB_V_a0) rfl) rfl rfl rfl ?_
    refine TO.y (Y.lss rfl rfl) rfl rfl rfl ?_
    refine TO.nil ?_
    refine TE.next ?_
    refine TW.cond rfl (fun H8 => ?_) (fun H8 => ?_)
    · refine TW.skip ?_
      refine TE.next ?_
      refine TW.seq ?_
      refine TW.block ?_
      refine TW.region ?_
      refine TO.y (Y.move rfl) rfl rfl rfl ?_
      refine TO.y (Y.move rfl) rfl rfl rfl ?_
      refine TO.y (Y.move rfl) rfl rfl rfl ?_
      refine TO.y (Y.move rfl) rfl rfl rfl ?_
      refine TO.bind fun E9 H10 => ?_
      refine TO.y (Y.index ke39 (Base.can HB_V_a0) H10 rfl rfl) rfl rfl rfl ?_
      refine TO.y (Y.load_el (us := [strV E9.Key, .int .i64 E9.Seq, .bool E9.Del, strV E9.Val]) (u := .agg #[strV E9.Key, .int .i64 E9.Seq, .bool E9.Del, strV E9.Val]) kk83 rfl (Base.can HB_V_a0) (idx_get H10).2.2 rfl rfl rfl rfl rfl) rfl rfl rfl ?_
      refine TO.bind fun R11 H12 => ?_
      refine TO.ef (Ef.call (rest := [.own V1 (lc S4.2)]) [0] (laws_toEnt_con E9  R11 H12) kc69 rfl rfl trivial) rfl rfl rfl (fun _ => ?_)
      refine TO.bind fun E14 H15 => ?_
      refine TO.y (Y.index ke26 (Can.own 0 rfl) H15 rfl rfl) rfl rfl rfl ?_
      refine TO.ef0 (Ef.store_el (us := [strV R11.Key, .int .i64 R11.Seq, .bool R11.Del, strV R11.Val]) (is' := [.own V1 (lc (S4.2.set S4.1.toNat R11))]) R11 0 kk31 rfl rfl (idx_get H15).2.2 rfl rfl (Cel.plain rfl rfl) rfl rfl rfl rfl) rfl rfl (fun _ => ?_)
      refine TO.nil ?_
      refine TE.block_normal ?_
      refine TE.next ?_
      refine TW.region ?_
      refine TO.y (Y.move rfl) rfl rfl rfl ?_
      refine TO.y (Y.add rfl rfl) rfl rfl rfl ?_
      refine TO.y (Y.assign rfl) rfl rfl rfl ?_
      refine TO.nil ?_
      exact TE.lp_go () [0] ⟨rfl, rfl, rfl, trivial⟩ rfl
    · refine TW.exit ?_
      refine TE.then_exit ?_
      refine TE.lp_exit ?_
      refine TE.block_exit ?_
      exact TE.jn_go () [0] ⟨rfl, trivial⟩ rfl
  · refine TE.next ?_
    refine TW.seq ?_
    refine TW.region ?_
    refine TO.y (Y.move rfl) rfl rfl rfl ?_
    refine TO.y (Y.assign rfl) rfl rfl rfl ?_
    refine TO.nil ?_
    refine TE.next ?_
    refine TW.ret ?_
    exact TE.leaf fun _ _ hf_ hs_ => ret_any (rs := [.tmp 2]) (vs := [V1]) (.inl rfl) rfl ⟨rfl, trivial⟩ hf_ hs_ ⟨V1, rfl, hs_.pulls [0] rfl⟩

/-- loop.example/g00950/laws.toEntSS -/
noncomputable def laws_toEntSS (a : List (List Ent)) : Option (List (List Ent)) :=
  (mkLen 24 ((a.length : Nat) : Int)).bind fun E2 =>
  bindC (loopO (fun (S4 : Int × List (List Ent)) => if (decide (S4.1 < ((a.length : Nat) : Int))) = true then ((idx a S4.1).bind fun E9 =>
  (laws_toEntS E9).bind fun R12 =>
  (idx S4.2 S4.1).bind fun E15 =>
  some (.go (IntKind.i64.wrap (S4.1 + (1 : Int)), (S4.2.set S4.1.toNat R12))))
  else (some (.done (.go S4.2))))
  ((0 : Int), (List.replicate E2 ([] : List Ent))))
  (fun (T6 : List (List Ent)) => some T6)

theorem laws_toEntSS_con (a : List (List Ent)) (V_a0 : Value) (r : List (List Ent)) (hm : laws_toEntSS a = some r) :
    Con Try.prog 14 [V_a0] [] [(V_a0, lc a)] (fun X : Value => X) (fun X => [.own X (lc r)]) := by
  refine Con.intro (args := [V_a0]) (n := 23) (val := fun _ (X : Value) => X) (post := fun r X => [.own X (lc r)]) (m := laws_toEntSS a) Try.func14 rfl rfl rfl hm ?_
  intro w S hrd
  have HB_V_a0 := hrd _ (.head _)
  clear hrd
  unfold laws_toEntSS
  refine TW.seq ?_
  refine TW.region ?_
  refine TO.y (Y.assign rfl) rfl rfl rfl ?_
  refine TO.nil ?_
  refine TE.next ?_
  refine TW.seq ?_
  refine TW.region ?_
  refine TO.y (Y.move rfl) rfl rfl rfl ?_
  refine TO.y (Y.len (l := a) ke32 (Base.can HB_V_a0) rfl) rfl rfl rfl ?_
  refine TO.bind fun E2 H3 => ?_
  refine TO.ef (Ef.makeN (α := List Ent) (z := ([] : List Ent)) (zs := [.slice none 0 0]) H3 ke24 kz26 rfl rfl rfl rfl rfl) rfl rfl rfl (fun V1 => ?_)
  refine TO.y (Y.assign rfl) rfl rfl rfl ?_
  refine TO.nil ?_
  refine TE.next ?_
  refine TW.seq ?_
  refine TW.seq ?_
  refine TW.region ?_
  refine TO.y (Y.assign rfl) rfl rfl rfl ?_
  refine TO.nil ?_
  refine TE.next ?_
  refine TW.joinX (τ := List (List Ent)) (X := Unit) (fun _ _ => [(3, V1)]) (fun T _ => [.own V1 (lc T)]) ?_ (fun T6 X7 => ?_)
  · refine TW.block ?_
    refine TW.loopX (σ := Int × List (List Ent)) (X := Unit) (fun T _ => [(0, V_a0), (3, V1), (4, .int .i64 T.1)]) (fun T _ => [.own V1 (lc T.2)]) () [0] ⟨rfl, rfl, rfl, trivial⟩ rfl (fun S4 X5 => ?_)
    refine TW.seq ?_
    refine TW.seq ?_
    refine TW.region ?_
    refine TO.y (Y.move rfl) rfl rfl rfl ?_
    refine TO.y (Y.move rfl) rfl rfl rfl ?_
    refine TO.y (Y.len (l := a) ke32 (Base.can HB_V_a0) rfl) rfl rfl rfl ?_
    refine TO.y (Y.lss rfl rfl) rfl rfl rfl ?_
    refine TO.nil ?_
    refine TE.next ?_
    refine TW.cond rfl (fun H8 => ?_) (fun H8 => ?_)
    · refine TW.skip ?_
      refine TE.next ?_
      refine TW.seq ?_
      refine TW.block ?_
      refine TW.region ?_
      refine TO.y (Y.move rfl) rfl rfl rfl ?_
      refine TO.y (Y.move rfl) rfl rfl rfl ?_
      refine TO.y (Y.move rfl) rfl rfl rfl ?_
      refine TO.y (Y.move rfl) rfl rfl rfl ?_
      refine TO.bind fun E9 H10 => ?_
      refine TO.y (Y.index ke32 (Base.can HB_V_a0) H10 rfl rfl) rfl rfl rfl ?_
      have Q11 : Base w S (elv w V_a0 (S4.1.toNat * 1 + 0)) (lc E9) := Base.el HB_V_a0 (idx_get H10).2.2 rfl rfl
      refine TO.y (Y.load_base (α := List Ent) (u := (elv w V_a0 (S4.1.toNat * 1 + 0))) kk39 rfl HB_V_a0 (idx_get H10).2.2 rfl rfl rfl rfl rfl) rfl rfl rfl ?_
      refine TO.bind fun R12 H13 => ?_
      refine TO.ef (Ef.call (rest := [.own V1 (lc S4.2)]) [0] (laws_toEntS_con E9 (elv w V_a0 (S4.1.toNat * 1 + 0)) R12 H13) kc38 rfl rfl ⟨(Base.can Q11), trivial⟩) rfl rfl rfl (fun Y14 => ?_)
      refine TO.bind fun E15 H16 => ?_
      refine TO.y (Y.index ke24 (Can.own 1 rfl) H16 rfl rfl) rfl rfl rfl ?_
      refine TO.ghost (X := Value) (is' := fun X17 => [.own V1 (hl S4.2 S4.1.toNat [.raw X17]), .own X17 (lc E15), .own Y14 (lc R12)]) (Gh.open 1 S4.1.toNat [1, 0] rfl (idx_get H16).2.2 rfl) (fun X17 => ?_)
      refine TO.ef0 (Ef.store_hole (α := List Ent) (us := [Y14]) (zs' := [.raw Y14]) (is' := [.own V1 (hl S4.2 S4.1.toNat [.raw Y14]), .own X17 (lc E15), .own Y14 (lc R12)]) 0 kk26 rfl rfl (idx_get H16).2.2 rfl rfl (Cel.one (One.can (Can.own 2 rfl))) rfl rfl rfl rfl rfl rfl) rfl rfl (fun _ => ?_)
      refine TO.nil ?_
      refine TE.block_normal ?_
      refine TE.next ?_
      refine TW.region ?_
      refine TO.y (Y.move rfl) rfl rfl rfl ?_
      refine TO.y (Y.add rfl rfl) rfl rfl rfl ?_
      refine TO.y (Y.assign rfl) rfl rfl rfl ?_
      refine TO.nil ?_
      refine TE.ghost (is' := fun _ => [.own V1 (lc (S4.2.set S4.1.toNat R12)), .own X17 (lc E15)]) (Gh.close (y := R12) (js := [.own Y14 (lc R12)]) (r := [.own X17 (lc E15)]) [0, 1, 0] rfl (idx_get H16).2.2 (Cls.fill Cls.nil) rfl) (fun _ => ?_)
      exact TE.lp_go () [0] ⟨rfl, rfl, rfl, trivial⟩ rfl
    · refine TW.exit ?_
      refine TE.then_exit ?_
      refine TE.lp_exit ?_
      refine TE.block_exit ?_
      exact TE.jn_go () [0] ⟨rfl, trivial⟩ rfl
  · refine TE.next ?_
    refine TW.seq ?_
    refine TW.region ?_
    refine TO.y (Y.move rfl) rfl rfl rfl ?_
    refine TO.y (Y.assign rfl) rfl rfl rfl ?_
    refine TO.nil ?_
    refine TE.next ?_
    refine TW.ret ?_
    exact TE.leaf fun _ _ hf_ hs_ => ret_any (rs := [.tmp 2]) (vs := [V1]) (.inl rfl) rfl ⟨rfl, trivial⟩ hf_ hs_ ⟨V1, rfl, hs_.pulls [0] rfl⟩

/-- loop.example/g00950/laws.eqEnt -/
noncomputable def laws_eqEnt (a : Ent) (b : Ent) : Option Bool :=
  if (!(decide (a.Key = b.Key))) = true then (some false)
  else (if (!(decide (a.Seq = b.Seq))) = true then (some false)
  else (if (!(decide (a.Del = b.Del))) = true then (some false)
  else (if (!(decide (a.Val = b.Val))) = true then (some false)
  else (some true))))

theorem laws_eqEnt_con (a : Ent) (b : Ent)  (r : Bool) (hm : laws_eqEnt a b = some r) :
    Con Try.prog 39 [.agg #[strV a.Key, .int .i64 a.Seq, .bool a.Del, strV a.Val], .agg #[strV b.Key, .int .i64 b.Seq, .bool b.Del, strV b.Val]] [] [] (fun _ : Unit => .bool r) (fun _ => []) := by
  refine Con.intro (args := [.agg #[strV a.Key, .int .i64 a.Seq, .bool a.Del, strV a.Val], .agg #[strV b.Key, .int .i64 b.Seq, .bool b.Del, strV b.Val]]) (n := 25) (val := fun r (_ : Unit) => .bool r) (post := fun _ _ => []) (m := laws_eqEnt a b) Try.func39 rfl rfl rfl hm ?_
  intro w S _
  unfold laws_eqEnt
  refine TW.seq ?_
  refine TW.region ?_
  refine TO.ef (Ef.box rfl (Cel.plain rfl rfl)) rfl rfl rfl (fun B1 => ?_)
  refine TO.ef (Ef.box rfl (Cel.plain rfl rfl)) rfl rfl rfl (fun B2 => ?_)
  refine TO.y (Y.assign rfl) rfl rfl rfl ?_
  refine TO.nil ?_
  refine TE.next ?_
  refine TW.seq ?_
  refine TW.seq ?_
  refine TW.region ?_
  refine TO.y (Y.field_box kf31_0 rfl rfl) rfl rfl rfl ?_
  refine TO.y (Y.load_box (v := strV a.Key) 1 kk9 rfl rfl rfl) rfl rfl rfl ?_
  refine TO.y (Y.field_box kf31_0 rfl rfl) rfl rfl rfl ?_
  refine TO.y (Y.load_box (v := strV b.Key) 0 kk9 rfl rfl rfl) rfl rfl rfl ?_
  refine TO.y (Y.sneq rfl rfl) rfl rfl rfl ?_
  refine TO.nil ?_
  refine TE.next ?_
  refine TW.cond rfl (fun H3 => ?_) (fun H3 => ?_)
  · refine TW.seq ?_
    refine TW.region ?_
    refine TO.y (Y.assign rfl) rfl rfl rfl ?_
    refine TO.nil ?_
    refine TE.next ?_
    refine TW.ret ?_
    refine TE.then_ret ?_
    exact TE.leaf fun _ _ hf_ hs_ => ret_any (rs := [.tmp 4]) (vs := [.bool false]) (.inl rfl) rfl ⟨rfl, trivial⟩ hf_ hs_ ⟨(), rfl, hs_.pulls [] rfl⟩
  · refine TW.skip ?_
    refine TE.next ?_
    refine TW.seq ?_
    refine TW.seq ?_
    refine TW.region ?_
    refine TO.y (Y.field_box kf31_1 rfl rfl) rfl rfl rfl ?_
    refine TO.y (Y.load_box (v := .int .i64 a.Seq) 1 kk3 rfl rfl rfl) rfl rfl rfl ?_
    refine TO.y (Y.field_box kf31_1 rfl rfl) rfl rfl rfl ?_
    refine TO.y (Y.load_box (v := .int .i64 b.Seq) 0 kk3 rfl rfl rfl) rfl rfl rfl ?_
    refine TO.y (Y.neq rfl rfl) rfl rfl rfl ?_
    refine TO.nil ?_
    refine TE.next ?_
    refine TW.cond rfl (fun H4 => ?_) (fun H4 => ?_)
    · refine TW.seq ?_
      refine TW.region ?_
      refine TO.y (Y.assign rfl) rfl rfl rfl ?_
      refine TO.nil ?_
      refine TE.next ?_
      refine TW.ret ?_
      refine TE.then_ret ?_
      exact TE.leaf fun _ _ hf_ hs_ => ret_any (rs := [.tmp 4]) (vs := [.bool false]) (.inl rfl) rfl ⟨rfl, trivial⟩ hf_ hs_ ⟨(), rfl, hs_.pulls [] rfl⟩
    · refine TW.skip ?_
      refine TE.next ?_
      refine TW.seq ?_
      refine TW.seq ?_
      refine TW.region ?_
      refine TO.y (Y.field_box kf31_2 rfl rfl) rfl rfl rfl ?_
      refine TO.y (Y.load_box (v := .bool a.Del) 1 kk4 rfl rfl rfl) rfl rfl rfl ?_
      refine TO.y (Y.field_box kf31_2 rfl rfl) rfl rfl rfl ?_
      refine TO.y (Y.load_box (v := .bool b.Del) 0 kk4 rfl rfl rfl) rfl rfl rfl ?_
      refine TO.y (Y.neb kb4 rfl rfl) rfl rfl rfl ?_
      refine TO.nil ?_
      refine TE.next ?_
      refine TW.cond rfl (fun H5 => ?_) (fun H5 => ?_)
      · refine TW.seq ?_
        refine TW.region ?_
        refine TO.y (Y.assign rfl) rfl rfl rfl ?_
        refine TO.nil ?_
        refine TE.next ?_
        refine TW.ret ?_
        refine TE.then_ret ?_
        exact TE.leaf fun _ _ hf_ hs_ => ret_any (rs := [.tmp 4]) (vs := [.bool false]) (.inl rfl) rfl ⟨rfl, trivial⟩ hf_ hs_ ⟨(), rfl, hs_.pulls [] rfl⟩
      · refine TW.skip ?_
        refine TE.next ?_
        refine TW.seq ?_
        refine TW.seq ?_
        refine TW.region ?_
        refine TO.y (Y.field_box kf31_3 rfl rfl) rfl rfl rfl ?_
        refine TO.y (Y.load_box (v := strV a.Val) 1 kk9 rfl rfl rfl) rfl rfl rfl ?_
        refine TO.y (Y.field_box kf31_3 rfl rfl) rfl rfl rfl ?_
        refine TO.y (Y.load_box (v := strV b.Val) 0 kk9 rfl rfl rfl) rfl rfl rfl ?_
        refine TO.y (Y.sneq rfl rfl) rfl rfl rfl ?_
        refine TO.nil ?_
        refine TE.next ?_
        refine TW.cond rfl (fun H6 => ?_) (fun H6 => ?_)
        · refine TW.seq ?_
          refine TW.region ?_
          refine TO.y (Y.assign rfl) rfl rfl rfl ?_
          refine TO.nil ?_
          refine TE.next ?_
          refine TW.ret ?_
          refine TE.then_ret ?_
          exact TE.leaf fun _ _ hf_ hs_ => ret_any (rs := [.tmp 4]) (vs := [.bool false]) (.inl rfl) rfl ⟨rfl, trivial⟩ hf_ hs_ ⟨(), rfl, hs_.pulls [] rfl⟩
        · refine TW.skip ?_
          refine TE.next ?_
          refine TW.seq ?_
          refine TW.region ?_
          refine TO.y (Y.assign rfl) rfl rfl rfl ?_
          refine TO.nil ?_
          refine TE.next ?_
          refine TW.ret ?_
          exact TE.leaf fun _ _ hf_ hs_ => ret_any (rs := [.tmp 4]) (vs := [.bool true]) (.inl rfl) rfl ⟨rfl, trivial⟩ hf_ hs_ ⟨(), rfl, hs_.pulls [] rfl⟩

end Go.Proofs.Ytfnhaaafggdllaa
