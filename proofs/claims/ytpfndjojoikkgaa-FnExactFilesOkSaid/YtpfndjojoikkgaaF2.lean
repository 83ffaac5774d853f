/-
  The functions that a law reaches, each as a pure function, with the proof that the program computes it, and the step from a pure law to the given statement. Conditions: none.
-/
import Derived.Test.YtpfndjojoikkgaaF1
set_option linter.unusedVariables false
set_option maxRecDepth 100000
namespace Go.Proofs.Ytpfndjojoikkgaa
open Go Sl

/-- loop.example/g00950/impl.FilesOk -/
noncomputable def impl_FilesOk (l : List File) : Option Bool :=
  if (decide (((l.length : Nat) : Int) > (12 : Int))) = true then (some false)
  else (bindC (loopO (fun (S2 : Int) => if (decide (S2 < ((l.length : Nat) : Int))) = true then ((idx l S2).bind fun E7 =>
  ((impl_fileOk E7).bind fun R12 =>
  if (!R12) = true then (some true)
  else ((impl_fileAt l E7.No).bind fun R16 =>
  if (!(decide (R16 = S2))) = true then (some true)
  else (if (decide (S2 > (0 : Int))) = true then ((idx l (IntKind.i64.wrap (S2 - (1 : Int)))).bind fun E21 =>
  (impl_compareFiles E21 E7).bind fun R23 =>
  some (decide (R23 ≥ (0 : Int))))
  else (some false)))).bind (fun (T10 : Bool) =>
  if T10 = true then (some (.done (.done false)))
  else ((if (decide (S2 > (0 : Int))) = true then (if (decide (E7.Level > (0 : Int))) = true then ((idx l (IntKind.i64.wrap (S2 - (1 : Int)))).bind fun E31 =>
  if (decide (E31.Level = E7.Level)) = true then (some (sLt E7.Lo E31.Hi || decide (E7.Lo = E31.Hi)))
  else (some false))
  else (some false))
  else (some false)).bind (fun (T27 : Bool) =>
  if T27 = true then (some (.done (.done false)))
  else (some (.go (IntKind.i64.wrap (S2 + (1 : Int)))))))))
  else (some (.done (.go ()))))
  (0 : Int))
  (fun (T4 : Unit) => some true))

theorem impl_FilesOk_con (l : List File) (V_l0 : Value) (r : Bool) (hm : impl_FilesOk l = some r) :
    Con Try.prog 34 [V_l0] [] [(V_l0, lc 91 l)] (fun _ : Unit => .bool r) (fun _ => []) := by
  refine Con.intro (args := [V_l0]) (n := 70) (val := fun r (_ : Unit) => .bool r) (post := fun _ _ => []) (m := impl_FilesOk l) Try.func34 rfl rfl rfl hm ?_
  intro w S hrd
  have HB_V_l0 := hrd _ (.head _)
  clear hrd
  unfold impl_FilesOk
  refine TW.seq ?_
  refine TW.region ?_
  refine TO.y (Y.assign rfl) rfl rfl rfl ?_
  refine TO.nil ?_
  refine TE.next ?_
  refine TW.seq ?_
  refine TW.seq ?_
  refine TW.region ?_
  refine TO.y (Y.move rfl) rfl rfl rfl ?_
  refine TO.y (Y.len (l := l) ke59 (Base.can HB_V_l0) rfl) rfl rfl rfl ?_
  refine TO.y (Y.gtr rfl rfl) rfl rfl rfl ?_
  refine TO.nil ?_
  refine TE.next ?_
  refine TW.cond rfl (fun H1 => ?_) (fun H1 => ?_)
  · refine TW.seq ?_
    refine TW.region ?_
    refine TO.y (Y.assign rfl) rfl rfl rfl ?_
    refine TO.nil ?_
    refine TE.next ?_
    refine TW.ret ?_
    refine TE.then_ret ?_
    exact TE.leaf fun _ _ hf_ hs_ => ret_any (rs := [.tmp 2]) (vs := [.bool false]) (.inl rfl) rfl ⟨rfl, trivial⟩ hf_ hs_ ⟨(), rfl, hs_.pulls [] rfl⟩
  · refine TW.skip ?_
    refine TE.next ?_
    refine TW.seq ?_
    refine TW.seq ?_
    refine TW.region ?_
    refine TO.y (Y.move rfl) rfl rfl rfl ?_
    refine TO.y (Y.len (l := l) ke59 (Base.can HB_V_l0) rfl) rfl rfl rfl ?_
    refine TO.y (Y.move rfl) rfl rfl rfl ?_
    refine TO.nil ?_
    refine TE.next ?_
    refine TW.joinX (τ := Unit) (X := Unit) (fun _ _ => []) (fun _ _ => []) ?_ (fun T4 X5 => ?_)
    · refine TW.block ?_
      refine TW.loopX (σ := Int) (X := Unit) (fun T _ => [(0, V_l0), (8, V_l0), (9, .int .i64 ((l.length : Nat) : Int)), (10, .int .i64 T)]) (fun _ _ => []) () [] ⟨rfl, rfl, rfl, rfl, trivial⟩ rfl (fun S2 X3 => ?_)
      refine TW.seq ?_
      refine TW.region ?_
      refine TO.y (Y.lss rfl rfl) rfl rfl rfl ?_
      refine TO.nil ?_
      refine TE.next ?_
      refine TW.seq ?_
      refine TW.cond rfl (fun H6 => ?_) (fun H6 => ?_)
      · refine TW.skip ?_
        refine TE.next ?_
        refine TW.seq ?_
        refine TW.block ?_
        refine TW.seq ?_
        refine TW.region ?_
        refine TO.y (Y.move rfl) rfl rfl rfl ?_
        refine TO.bind fun E7 H8 => ?_
        refine TO.y (Y.index ke59 (Base.can HB_V_l0) H8 rfl rfl) rfl rfl rfl ?_
        refine TO.y (Y.load_el (us := [.int .i64 E7.No, .int .i64 E7.Level, strV E7.Lo, strV E7.Hi]) (u := .agg #[.int .i64 E7.No, .int .i64 E7.Level, strV E7.Lo, strV E7.Hi]) kk91 rfl (Base.can HB_V_l0) (idx_get H8).2.2 rfl rfl rfl rfl rfl) rfl rfl rfl ?_
        refine TO.ef (Ef.alloc kz91 rfl) rfl rfl rfl (fun B9 => ?_)
        refine TO.y (Y.assign rfl) rfl rfl rfl ?_
        refine TO.ef0 (Ef.store_box (us := [.int .i64 E7.No, .int .i64 E7.Level, strV E7.Lo, strV E7.Hi]) (vs' := [.int .i64 E7.No, .int .i64 E7.Level, strV E7.Lo, strV E7.Hi]) (is' := [.box B9 91 [.int .i64 E7.No, .int .i64 E7.Level, strV E7.Lo, strV E7.Hi]]) 0 kk91 rfl rfl rfl (Cel.plain rfl rfl) rfl rfl rfl rfl) rfl rfl (fun _ => ?_)
        refine TO.nil ?_
        refine TE.next ?_
        refine TW.seq ?_
        refine TW.seq ?_
        refine TW.joinBX (τ := Bool) (X := Unit) (fun T _ => [(0, V_l0), (3, .int .i64 S2), (4, .pointer (some ⟨B9, 0, none⟩)), (8, V_l0), (9, .int .i64 ((l.length : Nat) : Int)), (10, .int .i64 S2), (39, .bool T)]) (fun _ _ => [.box B9 91 [.int .i64 E7.No, .int .i64 E7.Level, strV E7.Lo, strV E7.Hi]]) ?_ (fun T10 X11 => ?_)
        · refine TW.draw (isH := [.box B9 91 [.int .i64 E7.No, .int .i64 E7.Level, strV E7.Lo, strV E7.Hi]]) hMix ?_
          refine TA.y (listed' := #[true, false, false, false, false, false, false, false, false, false, false, false, false, false, false, false, false, false, false, false, false, false, false, false, false]) 0 [0] rfl (Y.load_box (v := .agg #[.int .i64 E7.No, .int .i64 E7.Level, strV E7.Lo, strV E7.Hi]) 0 kk91 rfl rfl rfl) rfl rfl rfl (by kernel_rfl) (by kernel_rfl) (by kernel_rfl) rfl rfl ?_
          refine TA.bind fun R12 H13 => ?_
          refine TA.one 1 (by kernel_rfl) ?_
          refine TX.ef (listed' := #[true, true, false, false, false, false, false, false, false, false, false, false, false, false, false, false, false, false, false, false, false, false, false, false, false]) [0] rfl (Ef.call (rest := [.box B9 91 [.int .i64 E7.No, .int .i64 E7.Level, strV E7.Lo, strV E7.Hi]]) [0] (impl_fileOk_con E7  R12 H13) kc63 rfl rfl trivial) rfl rfl rfl rfl (fun _ => rfl) (fun _ => ?_)
          refine TA.y (listed' := #[true, true, true, false, false, false, false, false, false, false, false, false, false, false, false, false, false, false, false, false, false, false, false, false, false]) 2 [0] rfl (Y.not rfl) rfl rfl rfl (by kernel_rfl) (by kernel_rfl) (by kernel_rfl) rfl rfl ?_
          refine TA.y (listed' := #[true, true, true, true, false, false, false, false, false, false, false, false, false, false, false, false, false, false, false, false, false, false, false, false, false]) 3 [0] rfl (Y.move rfl) rfl rfl rfl (by kernel_rfl) (by kernel_rfl) (by kernel_rfl) rfl rfl ?_
          refine TA.ite (b := !R12) (fun H15 => ?_) (fun H15 => ?_)
          · refine TA.off (listed' := #[true, true, true, true, true, false, false, false, false, false, false, false, false, false, false, false, false, false, false, false, false, false, false, false, false]) 4 [0] rfl (Gd.at 3 false 18 (!R12) rfl rfl rfl (beq_tf H15)) rfl rfl (by kernel_rfl) (by kernel_rfl) (by kernel_rfl) rfl rfl ?_
            refine TA.off (listed' := #[true, true, true, true, true, true, false, false, false, false, false, false, false, false, false, false, false, false, false, false, false, false, false, false, false]) 5 [0] rfl (Gd.at 3 false 18 (!R12) rfl rfl rfl (beq_tf H15)) rfl rfl (by kernel_rfl) (by kernel_rfl) (by kernel_rfl) rfl rfl ?_
            refine TA.off (listed' := #[true, true, true, true, true, true, true, false, false, false, false, false, false, false, false, false, false, false, false, false, false, false, false, false, false]) 6 [0] rfl (Gd.at 3 false 18 (!R12) rfl rfl rfl (beq_tf H15)) rfl rfl (by kernel_rfl) (by kernel_rfl) (by kernel_rfl) rfl rfl ?_
            refine TA.off (listed' := #[true, true, true, true, true, true, true, true, false, false, false, false, false, false, false, false, false, false, false, false, false, false, false, false, false]) 7 [0] rfl (Gd.at 3 false 18 (!R12) rfl rfl rfl (beq_tf H15)) rfl rfl (by kernel_rfl) (by kernel_rfl) (by kernel_rfl) rfl rfl ?_
            refine TA.off (listed' := #[true, true, true, true, true, true, true, true, true, false, false, false, false, false, false, false, false, false, false, false, false, false, false, false, false]) 8 [0] rfl (Gd.at 3 false 18 (!R12) rfl rfl rfl (beq_tf H15)) rfl rfl (by kernel_rfl) (by kernel_rfl) (by kernel_rfl) rfl rfl ?_
            refine TA.off (listed' := #[true, true, true, true, true, true, true, true, true, true, false, false, false, false, false, false, false, false, false, false, false, false, false, false, false]) 9 [0] rfl (Gd.at 3 false 18 (!R12) rfl rfl rfl (beq_tf H15)) rfl rfl (by kernel_rfl) (by kernel_rfl) (by kernel_rfl) rfl rfl ?_
            refine TA.y (listed' := #[true, true, true, true, true, true, true, true, true, true, true, false, false, false, false, false, false, false, false, false, false, false, false, false, false]) 10 [0] rfl (Y.pick_t H15 rfl rfl) rfl rfl rfl (by kernel_rfl) (by kernel_rfl) (by kernel_rfl) rfl rfl ?_
            refine TA.y (listed' := #[true, true, true, true, true, true, true, true, true, true, true, true, false, false, false, false, false, false, false, false, false, false, false, false, false]) 11 [0] rfl (Y.move rfl) rfl rfl rfl (by kernel_rfl) (by kernel_rfl) (by kernel_rfl) rfl rfl ?_
            refine TA.off (listed' := #[true, true, true, true, true, true, true, true, true, true, true, true, true, false, false, false, false, false, false, false, false, false, false, false, false]) 12 [0] rfl (Gd.at 11 false 26 true rfl rfl rfl rfl) rfl rfl (by kernel_rfl) (by kernel_rfl) (by kernel_rfl) rfl rfl ?_
            refine TA.off (listed' := #[true, true, true, true, true, true, true, true, true, true, true, true, true, true, false, false, false, false, false, false, false, false, false, false, false]) 13 [0] rfl (Gd.at 11 false 26 true rfl rfl rfl rfl) rfl rfl (by kernel_rfl) (by kernel_rfl) (by kernel_rfl) rfl rfl ?_
            refine TA.off (listed' := #[true, true, true, true, true, true, true, true, true, true, true, true, true, true, true, false, false, false, false, false, false, false, false, false, false]) 14 [0] rfl (Gd.at 11 false 26 true rfl rfl rfl rfl) rfl rfl (by kernel_rfl) (by kernel_rfl) (by kernel_rfl) rfl rfl ?_
            refine TA.off (listed' := #[true, true, true, true, true, true, true, true, true, true, true, true, true, true, true, true, false, false, false, false, false, false, false, false, false]) 15 [0] rfl (Gd.un 14 true 29 rfl rfl rfl) rfl rfl (by kernel_rfl) (by kernel_rfl) (by kernel_rfl) rfl rfl ?_
            refine TA.off (listed' := #[true, true, true, true, true, true, true, true, true, true, true, true, true, true, true, true, true, false, false, false, false, false, false, false, false]) 16 [0] rfl (Gd.un 14 true 29 rfl rfl rfl) rfl rfl (by kernel_rfl) (by kernel_rfl) (by kernel_rfl) rfl rfl ?_
            refine TA.off (listed' := #[true, true, true, true, true, true, true, true, true, true, true, true, true, true, true, true, true, true, false, false, false, false, false, false, false]) 17 [0] rfl (Gd.un 14 true 29 rfl rfl rfl) rfl rfl (by kernel_rfl) (by kernel_rfl) (by kernel_rfl) rfl rfl ?_
            refine TA.off (listed' := #[true, true, true, true, true, true, true, true, true, true, true, true, true, true, true, true, true, true, true, false, false, false, false, false, false]) 18 [0] rfl (Gd.un 14 true 29 rfl rfl rfl) rfl rfl (by kernel_rfl) (by kernel_rfl) (by kernel_rfl) rfl rfl ?_
            refine TA.off (listed' := #[true, true, true, true, true, true, true, true, true, true, true, true, true, true, true, true, true, true, true, true, false, false, false, false, false]) 19 [0] rfl (Gd.un 14 true 29 rfl rfl rfl) rfl rfl (by kernel_rfl) (by kernel_rfl) (by kernel_rfl) rfl rfl ?_
            refine TA.off (listed' := #[true, true, true, true, true, true, true, true, true, true, true, true, true, true, true, true, true, true, true, true, true, false, false, false, false]) 20 [0] rfl (Gd.un 14 true 29 rfl rfl rfl) rfl rfl (by kernel_rfl) (by kernel_rfl) (by kernel_rfl) rfl rfl ?_
            refine TA.off (listed' := #[true, true, true, true, true, true, true, true, true, true, true, true, true, true, true, true, true, true, true, true, true, true, false, false, false]) 21 [0] rfl (Gd.un 14 true 29 rfl rfl rfl) rfl rfl (by kernel_rfl) (by kernel_rfl) (by kernel_rfl) rfl rfl ?_
            refine TA.off (listed' := #[true, true, true, true, true, true, true, true, true, true, true, true, true, true, true, true, true, true, true, true, true, true, true, false, false]) 22 [0] rfl (Gd.un 14 true 29 rfl rfl rfl) rfl rfl (by kernel_rfl) (by kernel_rfl) (by kernel_rfl) rfl rfl ?_
            refine TA.off (listed' := #[true, true, true, true, true, true, true, true, true, true, true, true, true, true, true, true, true, true, true, true, true, true, true, true, false]) 23 [0] rfl (Gd.at 11 false 26 true rfl rfl rfl rfl) rfl rfl (by kernel_rfl) (by kernel_rfl) (by kernel_rfl) rfl rfl ?_
            refine TA.y (listed' := #[true, true, true, true, true, true, true, true, true, true, true, true, true, true, true, true, true, true, true, true, true, true, true, true, true]) 24 [0] rfl (Y.pick_t rfl rfl rfl) rfl rfl rfl (by kernel_rfl) (by kernel_rfl) (by kernel_rfl) rfl rfl ?_
            refine TA.nil (by kernel_rfl) ?_
            exact TE.jb_go () [0] ⟨rfl, rfl, rfl, rfl, rfl, rfl, rfl, trivial⟩ rfl
          · refine TA.y (listed' := #[true, true, true, true, true, false, false, false, false, false, false, false, false, false, false, false, false, false, false, false, false, false, false, false, false]) 4 [0] rfl (Y.move rfl) (Gd.at 3 false 18 (!R12) rfl rfl rfl (beq_ff H15)) rfl rfl (by kernel_rfl) (by kernel_rfl) (by kernel_rfl) rfl rfl ?_
            refine TA.y (listed' := #[true, true, true, true, true, true, false, false, false, false, false, false, false, false, false, false, false, false, false, false, false, false, false, false, false]) 5 [0] rfl (Y.field_box kf91_0 rfl rfl) (Gd.at 3 false 18 (!R12) rfl rfl rfl (beq_ff H15)) rfl rfl (by kernel_rfl) (by kernel_rfl) (by kernel_rfl) rfl rfl ?_
            refine TA.y (listed' := #[true, true, true, true, true, true, true, false, false, false, false, false, false, false, false, false, false, false, false, false, false, false, false, false, false]) 6 [0] rfl (Y.load_box (v := .int .i64 E7.No) 0 kk3 rfl rfl rfl) (Gd.at 3 false 18 (!R12) rfl rfl rfl (beq_ff H15)) rfl rfl (by kernel_rfl) (by kernel_rfl) (by kernel_rfl) rfl rfl ?_
            refine TA.y (listed' := #[true, true, true, true, true, true, true, false, true, false, false, false, false, false, false, false, false, false, false, false, false, false, false, false, false]) 8 [0] rfl (Y.move rfl) (Gd.at 3 false 18 (!R12) rfl rfl rfl (beq_ff H15)) rfl rfl (by kernel_rfl) (by kernel_rfl) (by kernel_rfl) rfl rfl ?_
            refine TA.bind fun R16 H17 => ?_
            refine TA.one 7 (by kernel_rfl) ?_
            refine TX.ef (listed' := #[true, true, true, true, true, true, true, true, true, false, false, false, false, false, false, false, false, false, false, false, false, false, false, false, false]) [0] rfl (Ef.call (rest := [.box B9 91 [.int .i64 E7.No, .int .i64 E7.Level, strV E7.Lo, strV E7.Hi]]) [0] (impl_fileAt_con l E7.No V_l0 R16 H17) kc64 rfl rfl ⟨(Base.can HB_V_l0), trivial⟩) (Gd.at 3 false 18 (!R12) rfl rfl rfl (beq_ff H15)) rfl rfl rfl (fun _ => rfl) (fun _ => ?_)
            refine TA.y (listed' := #[true, true, true, true, true, true, true, true, true, true, false, false, false, false, false, false, false, false, false, false, false, false, false, false, false]) 9 [0] rfl (Y.neq rfl rfl) (Gd.at 3 false 18 (!R12) rfl rfl rfl (beq_ff H15)) rfl rfl (by kernel_rfl) (by kernel_rfl) (by kernel_rfl) rfl rfl ?_
            refine TA.y (listed' := #[true, true, true, true, true, true, true, true, true, true, true, false, false, false, false, false, false, false, false, false, false, false, false, false, false]) 10 [0] rfl (Y.pick_f H15 rfl rfl) rfl rfl rfl (by kernel_rfl) (by kernel_rfl) (by kernel_rfl) rfl rfl ?_
            refine TA.y (listed' := #[true, true, true, true, true, true, true, true, true, true, true, true, false, false, false, false, false, false, false, false, false, false, false, false, false]) 11 [0] rfl (Y.move rfl) rfl rfl rfl (by kernel_rfl) (by kernel_rfl) (by kernel_rfl) rfl rfl ?_
            refine TA.ite (b := !(decide (R16 = S2))) (fun H19 => ?_) (fun H19 => ?_)
            · refine TA.off (listed' := #[true, true, true, true, true, true, true, true, true, true, true, true, true, false, false, false, false, false, false, false, false, false, false, false, false]) 12 [0] rfl (Gd.at 11 false 26 (!(decide (R16 = S2))) rfl rfl rfl (beq_tf H19)) rfl rfl (by kernel_rfl) (by kernel_rfl) (by kernel_rfl) rfl rfl ?_
              refine TA.off (listed' := #[true, true, true, true, true, true, true, true, true, true, true, true, true, true, false, false, false, false, false, false, false, false, false, false, false]) 13 [0] rfl (Gd.at 11 false 26 (!(decide (R16 = S2))) rfl rfl rfl (beq_tf H19)) rfl rfl (by kernel_rfl) (by kernel_rfl) (by kernel_rfl) rfl rfl ?_
              refine TA.off (listed' := #[true, true, true, true, true, true, true, true, true, true, true, true, true, true, true, false, false, false, false, false, false, false, false, false, false]) 14 [0] rfl (Gd.at 11 false 26 (!(decide (R16 = S2))) rfl rfl rfl (beq_tf H19)) rfl rfl (by kernel_rfl) (by kernel_rfl) (by kernel_rfl) rfl rfl ?_
              refine TA.off (listed' := #[true, true, true, true, true, true, true, true, true, true, true, true, true, true, true, true, false, false, false, false, false, false, false, false, false]) 15 [0] rfl (Gd.un 14 true 29 rfl rfl rfl) rfl rfl (by kernel_rfl) (by kernel_rfl) (by kernel_rfl) rfl rfl ?_
              refine TA.off (listed' := #[true, true, true, true, true, true, true, true, true, true, true, true, true, true, true, true, true, false, false, false, false, false, false, false, false]) 16 [0] rfl (Gd.un 14 true 29 rfl rfl rfl) rfl rfl (by kernel_rfl) (by kernel_rfl) (by kernel_rfl) rfl rfl ?_
              refine TA.off (listed' := #[true, true, true, true, true, true, true, true, true, true, true, true, true, true, true, true, true, true, false, false, false, false, false, false, false]) 17 [0] rfl (Gd.un 14 true 29 rfl rfl rfl) rfl rfl (by kernel_rfl) (by kernel_rfl) (by kernel_rfl) rfl rfl ?_
              refine TA.off (listed' := #[true, true, true, true, true, true, true, true, true, true, true, true, true, true, true, true, true, true, true, false, false, false, false, false, false]) 18 [0] rfl (Gd.un 14 true 29 rfl rfl rfl) rfl rfl (by kernel_rfl) (by kernel_rfl) (by kernel_rfl) rfl rfl ?_
              refine TA.off (listed' := #[true, true, true, true, true, true, true, true, true, true, true, true, true, true, true, true, true, true, true, true, false, false, false, false, false]) 19 [0] rfl (Gd.un 14 true 29 rfl rfl rfl) rfl rfl (by kernel_rfl) (by kernel_rfl) (by kernel_rfl) rfl rfl ?_
              refine TA.off (listed' := #[true, true, true, true, true, true, true, true, true, true, true, true, true, true, true, true, true, true, true, true, true, false, false, false, false]) 20 [0] rfl (Gd.un 14 true 29 rfl rfl rfl) rfl rfl (by kernel_rfl) (by kernel_rfl) (by kernel_rfl) rfl rfl ?_
              refine TA.off (listed' := #[true, true, true, true, true, true, true, true, true, true, true, true, true, true, true, true, true, true, true, true, true, true, false, false, false]) 21 [0] rfl (Gd.un 14 true 29 rfl rfl rfl) rfl rfl (by kernel_rfl) (by kernel_rfl) (by kernel_rfl) rfl rfl ?_
              refine TA.off (listed' := #[true, true, true, true, true, true, true, true, true, true, true, true, true, true, true, true, true, true, true, true, true, true, true, false, false]) 22 [0] rfl (Gd.un 14 true 29 rfl rfl rfl) rfl rfl (by kernel_rfl) (by kernel_rfl) (by kernel_rfl) rfl rfl ?_
              refine TA.off (listed' := #[true, true, true, true, true, true, true, true, true, true, true, true, true, true, true, true, true, true, true, true, true, true, true, true, false]) 23 [0] rfl (Gd.at 11 false 26 (!(decide (R16 = S2))) rfl rfl rfl (beq_tf H19)) rfl rfl (by kernel_rfl) (by kernel_rfl) (by kernel_rfl) rfl rfl ?_
              refine TA.y (listed' := #[true, true, true, true, true, true, true, true, true, true, true, true, true, true, true, true, true, true, true, true, true, true, true, true, true]) 24 [0] rfl (Y.pick_t H19 rfl rfl) rfl rfl rfl (by kernel_rfl) (by kernel_rfl) (by kernel_rfl) rfl rfl ?_
              refine TA.nil (by kernel_rfl) ?_
              exact TE.jb_go () [0] ⟨rfl, rfl, rfl, rfl, rfl, rfl, rfl, trivial⟩ rfl
            · refine TA.y (listed' := #[true, true, true, true, true, true, true, true, true, true, true, true, true, false, false, false, false, false, false, false, false, false, false, false, false]) 12 [0] rfl (Y.move rfl) (Gd.at 11 false 26 (!(decide (R16 = S2))) rfl rfl rfl (beq_ff H19)) rfl rfl (by kernel_rfl) (by kernel_rfl) (by kernel_rfl) rfl rfl ?_
              refine TA.y (listed' := #[true, true, true, true, true, true, true, true, true, true, true, true, true, true, false, false, false, false, false, false, false, false, false, false, false]) 13 [0] rfl (Y.gtr rfl rfl) (Gd.at 11 false 26 (!(decide (R16 = S2))) rfl rfl rfl (beq_ff H19)) rfl rfl (by kernel_rfl) (by kernel_rfl) (by kernel_rfl) rfl rfl ?_
              refine TA.y (listed' := #[true, true, true, true, true, true, true, true, true, true, true, true, true, true, true, false, false, false, false, false, false, false, false, false, false]) 14 [0] rfl (Y.move rfl) (Gd.at 11 false 26 (!(decide (R16 = S2))) rfl rfl rfl (beq_ff H19)) rfl rfl (by kernel_rfl) (by kernel_rfl) (by kernel_rfl) rfl rfl ?_
              refine TA.ite (b := decide (S2 > (0 : Int))) (fun H20 => ?_) (fun H20 => ?_)
              · refine TA.y (listed' := #[true, true, true, true, true, true, true, true, true, true, true, true, true, true, true, true, false, false, false, false, false, false, false, false, false]) 15 [0] rfl (Y.move rfl) (Gd.at 14 true 29 (decide (S2 > (0 : Int))) rfl rfl rfl (beq_tt H20)) rfl rfl (by kernel_rfl) (by kernel_rfl) (by kernel_rfl) rfl rfl ?_
                refine TA.y (listed' := #[true, true, true, true, true, true, true, true, true, true, true, true, true, true, true, true, true, false, false, false, false, false, false, false, false]) 16 [0] rfl (Y.move rfl) (Gd.at 14 true 29 (decide (S2 > (0 : Int))) rfl rfl rfl (beq_tt H20)) rfl rfl (by kernel_rfl) (by kernel_rfl) (by kernel_rfl) rfl rfl ?_
                refine TA.y (listed' := #[true, true, true, true, true, true, true, true, true, true, true, true, true, true, true, true, true, true, false, false, false, false, false, false, false]) 17 [0] rfl (Y.sub rfl rfl) (Gd.at 14 true 29 (decide (S2 > (0 : Int))) rfl rfl rfl (beq_tt H20)) rfl rfl (by kernel_rfl) (by kernel_rfl) (by kernel_rfl) rfl rfl ?_
                refine TA.bind fun E21 H22 => ?_
                refine TA.y (listed' := #[true, true, true, true, true, true, true, true, true, true, true, true, true, true, true, true, true, true, true, false, false, false, false, false, false]) 18 [0] rfl (Y.index ke59 (Base.can HB_V_l0) H22 rfl rfl) (Gd.at 14 true 29 (decide (S2 > (0 : Int))) rfl rfl rfl (beq_tt H20)) rfl rfl (by kernel_rfl) (by kernel_rfl) (by kernel_rfl) rfl rfl ?_
                refine TA.y (listed' := #[true, true, true, true, true, true, true, true, true, true, true, true, true, true, true, true, true, true, true, true, false, false, false, false, false]) 19 [0] rfl (Y.load_el (us := [.int .i64 E21.No, .int .i64 E21.Level, strV E21.Lo, strV E21.Hi]) (u := .agg #[.int .i64 E21.No, .int .i64 E21.Level, strV E21.Lo, strV E21.Hi]) kk91 rfl (Base.can HB_V_l0) (idx_get H22).2.2 rfl rfl rfl rfl rfl) (Gd.at 14 true 29 (decide (S2 > (0 : Int))) rfl rfl rfl (beq_tt H20)) rfl rfl (by kernel_rfl) (by kernel_rfl) (by kernel_rfl) rfl rfl ?_
                refine TA.y (listed' := #[true, true, true, true, true, true, true, true, true, true, true, true, true, true, true, true, true, true, true, true, true, false, false, false, false]) 20 [0] rfl (Y.load_box (v := .agg #[.int .i64 E7.No, .int .i64 E7.Level, strV E7.Lo, strV E7.Hi]) 0 kk91 rfl rfl rfl) (Gd.at 14 true 29 (decide (S2 > (0 : Int))) rfl rfl rfl (beq_tt H20)) rfl rfl (by kernel_rfl) (by kernel_rfl) (by kernel_rfl) rfl rfl ?_
                refine TA.bind fun R23 H24 => ?_
                refine TA.one 21 (by kernel_rfl) ?_
                refine TX.ef (listed' := #[true, true, true, true, true, true, true, true, true, true, true, true, true, true, true, true, true, true, true, true, true, true, false, false, false]) [0] rfl (Ef.call (rest := [.box B9 91 [.int .i64 E7.No, .int .i64 E7.Level, strV E7.Lo, strV E7.Hi]]) [0] (impl_compareFiles_con E21 E7  R23 H24) kc65 rfl rfl trivial) (Gd.at 14 true 29 (decide (S2 > (0 : Int))) rfl rfl rfl (beq_tt H20)) rfl rfl rfl (fun _ => rfl) (fun _ => ?_)
                refine TA.y (listed' := #[true, true, true, true, true, true, true, true, true, true, true, true, true, true, true, true, true, true, true, true, true, true, true, false, false]) 22 [0] rfl (Y.geq rfl rfl) (Gd.at 14 true 29 (decide (S2 > (0 : Int))) rfl rfl rfl (beq_tt H20)) rfl rfl (by kernel_rfl) (by kernel_rfl) (by kernel_rfl) rfl rfl ?_
                refine TA.y (listed' := #[true, true, true, true, true, true, true, true, true, true, true, true, true, true, true, true, true, true, true, true, true, true, true, true, false]) 23 [0] rfl (Y.pick_t H20 rfl rfl) (Gd.at 11 false 26 (!(decide (R16 = S2))) rfl rfl rfl (beq_ff H19)) rfl rfl (by kernel_rfl) (by kernel_rfl) (by kernel_rfl) rfl rfl ?_
                refine TA.y (listed' := #[true, true, true, true, true, true, true, true, true, true, true, true, true, true, true, true, true, true, true, true, true, true, true, true, true]) 24 [0] rfl (Y.pick_f H19 rfl rfl) rfl rfl rfl (by kernel_rfl) (by kernel_rfl) (by kernel_rfl) rfl rfl ?_
                refine TA.nil (by kernel_rfl) ?_
                exact TE.jb_go () [0] ⟨rfl, rfl, rfl, rfl, rfl, rfl, rfl, trivial⟩ rfl
              · refine TA.off (listed' := #[true, true, true, true, true, true, true, true, true, true, true, true, true, true, true, true, false, false, false, false, false, false, false, false, false]) 15 [0] rfl (Gd.at 14 true 29 (decide (S2 > (0 : Int))) rfl rfl rfl (beq_ft H20)) rfl rfl (by kernel_rfl) (by kernel_rfl) (by kernel_rfl) rfl rfl ?_
                refine TA.off (listed' := #[true, true, true, true, true, true, true, true, true, true, true, true, true, true, true, true, true, false, false, false, false, false, false, false, false]) 16 [0] rfl (Gd.at 14 true 29 (decide (S2 > (0 : Int))) rfl rfl rfl (beq_ft H20)) rfl rfl (by kernel_rfl) (by kernel_rfl) (by kernel_rfl) rfl rfl ?_
                refine TA.off (listed' := #[true, true, true, true, true, true, true, true, true, true, true, true, true, true, true, true, true, true, false, false, false, false, false, false, false]) 17 [0] rfl (Gd.at 14 true 29 (decide (S2 > (0 : Int))) rfl rfl rfl (beq_ft H20)) rfl rfl (by kernel_rfl) (by kernel_rfl) (by kernel_rfl) rfl rfl ?_
                refine TA.off (listed' := #[true, true, true, true, true, true, true, true, true, true, true, true, true, true, true, true, true, true, true, false, false, false, false, false, false]) 18 [0] rfl (Gd.at 14 true 29 (decide (S2 > (0 : Int))) rfl rfl rfl (beq_ft H20)) rfl rfl (by kernel_rfl) (by kernel_rfl) (by kernel_rfl) rfl rfl ?_
                refine TA.off (listed' := #[true, true, true, true, true, true, true, true, true, true, true, true, true, true, true, true, true, true, true, true, false, false, false, false, false]) 19 [0] rfl (Gd.at 14 true 29 (decide (S2 > (0 : Int))) rfl rfl rfl (beq_ft H20)) rfl rfl (by kernel_rfl) (by kernel_rfl) (by kernel_rfl) rfl rfl ?_
                refine TA.off (listed' := #[true, true, true, true, true, true, true, true, true, true, true, true, true, true, true, true, true, true, true, true, true, false, false, false, false]) 20 [0] rfl (Gd.at 14 true 29 (decide (S2 > (0 : Int))) rfl rfl rfl (beq_ft H20)) rfl rfl (by kernel_rfl) (by kernel_rfl) (by kernel_rfl) rfl rfl ?_
                refine TA.off (listed' := #[true, true, true, true, true, true, true, true, true, true, true, true, true, true, true, true, true, true, true, true, true, true, false, false, false]) 21 [0] rfl (Gd.at 14 true 29 (decide (S2 > (0 : Int))) rfl rfl rfl (beq_ft H20)) rfl rfl (by kernel_rfl) (by kernel_rfl) (by kernel_rfl) rfl rfl ?_
                refine TA.off (listed' := #[true, true, true, true, true, true, true, true, true, true, true, true, true, true, true, true, true, true, true, true, true, true, true, false, false]) 22 [0] rfl (Gd.at 14 true 29 (decide (S2 > (0 : Int))) rfl rfl rfl (beq_ft H20)) rfl rfl (by kernel_rfl) (by kernel_rfl) (by kernel_rfl) rfl rfl ?_
                refine TA.y (listed' := #[true, true, true, true, true, true, true, true, true, true, true, true, true, true, true, true, true, true, true, true, true, true, true, true, false]) 23 [0] rfl (Y.pick_f H20 rfl rfl) (Gd.at 11 false 26 (!(decide (R16 = S2))) rfl rfl rfl (beq_ff H19)) rfl rfl (by kernel_rfl) (by kernel_rfl) (by kernel_rfl) rfl rfl ?_
                refine TA.y (listed' := #[true, true, true, true, true, true, true, true, true, true, true, true, true, true, true, true, true, true, true, true, true, true, true, true, true]) 24 [0] rfl (Y.pick_f H19 rfl rfl) rfl rfl rfl (by kernel_rfl) (by kernel_rfl) (by kernel_rfl) rfl rfl ?_
                refine TA.nil (by kernel_rfl) ?_
                exact TE.jb_go () [0] ⟨rfl, rfl, rfl, rfl, rfl, rfl, rfl, trivial⟩ rfl
        · refine TE.next ?_
          refine TW.cond rfl (fun H26 => ?_) (fun H26 => ?_)
          · refine TW.seq ?_
            refine TW.region ?_
            refine TO.y (Y.assign rfl) rfl rfl rfl ?_
            refine TO.nil ?_
            refine TE.next ?_
            refine TW.ret ?_
            refine TE.then_ret ?_
            refine TE.block_ret ?_
            refine TE.then_ret ?_
            refine TE.lp_ret ?_
            refine TE.block_ret ?_
            refine TE.jn_done ?_
            refine TE.then_ret ?_
            exact TE.leaf fun _ _ hf_ hs_ => ret_any (rs := [.tmp 2]) (vs := [.bool false]) (.inl rfl) rfl ⟨rfl, trivial⟩ hf_ hs_ ⟨(), rfl, hs_.pulls [] rfl⟩
          · refine TW.skip ?_
            refine TE.next ?_
            refine TW.seq ?_
            refine TW.joinBX (τ := Bool) (X := Unit) (fun T _ => [(0, V_l0), (8, V_l0), (9, .int .i64 ((l.length : Nat) : Int)), (10, .int .i64 S2), (68, .bool T)]) (fun _ _ => []) ?_ (fun T27 X28 => ?_)
            · refine TW.draw (isH := [.box B9 91 [.int .i64 E7.No, .int .i64 E7.Level, strV E7.Lo, strV E7.Hi]]) hMix ?_
              refine TA.y (listed' := #[true, false, false, false, false, false, false, false, false, false, false, false, false, false, false, false, false, false, false, false, false, false, false, false, false, false, false, false, false]) 0 [0] rfl (Y.move rfl) rfl rfl rfl (by kernel_rfl) (by kernel_rfl) (by kernel_rfl) rfl rfl ?_
              refine TA.y (listed' := #[true, true, false, false, false, false, false, false, false, false, false, false, false, false, false, false, false, false, false, false, false, false, false, false, false, false, false, false, false]) 1 [0] rfl (Y.gtr rfl rfl) rfl rfl rfl (by kernel_rfl) (by kernel_rfl) (by kernel_rfl) rfl rfl ?_
              refine TA.y (listed' := #[true, true, true, false, false, false, false, false, false, false, false, false, false, false, false, false, false, false, false, false, false, false, false, false, false, false, false, false, false]) 2 [0] rfl (Y.move rfl) rfl rfl rfl (by kernel_rfl) (by kernel_rfl) (by kernel_rfl) rfl rfl ?_
              refine TA.ite (b := decide (S2 > (0 : Int))) (fun H29 => ?_) (fun H29 => ?_)
              · refine TA.y (listed' := #[true, true, true, true, false, false, false, false, false, false, false, false, false, false, false, false, false, false, false, false, false, false, false, false, false, false, false, false, false]) 3 [0] rfl (Y.field_box kf91_1 rfl rfl) (Gd.at 2 true 42 (decide (S2 > (0 : Int))) rfl rfl rfl (beq_tt H29)) rfl rfl (by kernel_rfl) (by kernel_rfl) (by kernel_rfl) rfl rfl ?_
                refine TA.y (listed' := #[true, true, true, true, true, false, false, false, false, false, false, false, false, false, false, false, false, false, false, false, false, false, false, false, false, false, false, false, false]) 4 [0] rfl (Y.load_box (v := .int .i64 E7.Level) 0 kk3 rfl rfl rfl) (Gd.at 2 true 42 (decide (S2 > (0 : Int))) rfl rfl rfl (beq_tt H29)) rfl rfl (by kernel_rfl) (by kernel_rfl) (by kernel_rfl) rfl rfl ?_
                refine TA.y (listed' := #[true, true, true, true, true, true, false, false, false, false, false, false, false, false, false, false, false, false, false, false, false, false, false, false, false, false, false, false, false]) 5 [0] rfl (Y.gtr rfl rfl) (Gd.at 2 true 42 (decide (S2 > (0 : Int))) rfl rfl rfl (beq_tt H29)) rfl rfl (by kernel_rfl) (by kernel_rfl) (by kernel_rfl) rfl rfl ?_
                refine TA.y (listed' := #[true, true, true, true, true, true, true, false, false, false, false, false, false, false, false, false, false, false, false, false, false, false, false, false, false, false, false, false, false]) 6 [0] rfl (Y.pick_t H29 rfl rfl) rfl rfl rfl (by kernel_rfl) (by kernel_rfl) (by kernel_rfl) rfl rfl ?_
                refine TA.y (listed' := #[true, true, true, true, true, true, true, true, false, false, false, false, false, false, false, false, false, false, false, false, false, false, false, false, false, false, false, false, false]) 7 [0] rfl (Y.move rfl) rfl rfl rfl (by kernel_rfl) (by kernel_rfl) (by kernel_rfl) rfl rfl ?_
                refine TA.ite (b := decide (E7.Level > (0 : Int))) (fun H30 => ?_) (fun H30 => ?_)
                · refine TA.y (listed' := #[true, true, true, true, true, true, true, true, true, false, false, false, false, false, false, false, false, false, false, false, false, false, false, false, false, false, false, false, false]) 8 [0] rfl (Y.move rfl) (Gd.at 7 true 47 (decide (E7.Level > (0 : Int))) rfl rfl rfl (beq_tt H30)) rfl rfl (by kernel_rfl) (by kernel_rfl) (by kernel_rfl) rfl rfl ?_
                  refine TA.y (listed' := #[true, true, true, true, true, true, true, true, true, true, false, false, false, false, false, false, false, false, false, false, false, false, false, false, false, false, false, false, false]) 9 [0] rfl (Y.move rfl) (Gd.at 7 true 47 (decide (E7.Level > (0 : Int))) rfl rfl rfl (beq_tt H30)) rfl rfl (by kernel_rfl) (by kernel_rfl) (by kernel_rfl) rfl rfl ?_
                  refine TA.y (listed' := #[true, true, true, true, true, true, true, true, true, true, true, false, false, false, false, false, false, false, false, false, false, false, false, false, false, false, false, false, false]) 10 [0] rfl (Y.sub rfl rfl) (Gd.at 7 true 47 (decide (E7.Level > (0 : Int))) rfl rfl rfl (beq_tt H30)) rfl rfl (by kernel_rfl) (by kernel_rfl) (by kernel_rfl) rfl rfl ?_
                  refine TA.bind fun E31 H32 => ?_
                  refine TA.y (listed' := #[true, true, true, true, true, true, true, true, true, true, true, true, false, false, false, false, false, false, false, false, false, false, false, false, false, false, false, false, false]) 11 [0] rfl (Y.index ke59 (Base.can HB_V_l0) H32 rfl rfl) (Gd.at 7 true 47 (decide (E7.Level > (0 : Int))) rfl rfl rfl (beq_tt H30)) rfl rfl (by kernel_rfl) (by kernel_rfl) (by kernel_rfl) rfl rfl ?_
                  refine TA.y (listed' := #[true, true, true, true, true, true, true, true, true, true, true, true, true, false, false, false, false, false, false, false, false, false, false, false, false, false, false, false, false]) 12 [0] rfl (Y.field_el kf91_1 (Base.can HB_V_l0) (idx_get H32).2.2 rfl rfl) (Gd.at 7 true 47 (decide (E7.Level > (0 : Int))) rfl rfl rfl (beq_tt H30)) rfl rfl (by kernel_rfl) (by kernel_rfl) (by kernel_rfl) rfl rfl ?_
                  refine TA.y (listed' := #[true, true, true, true, true, true, true, true, true, true, true, true, true, true, false, false, false, false, false, false, false, false, false, false, false, false, false, false, false]) 13 [0] rfl (Y.load_el (us := [.int .i64 E31.Level]) (u := .int .i64 E31.Level) kk3 rfl (Base.can HB_V_l0) (idx_get H32).2.2 rfl rfl rfl rfl rfl) (Gd.at 7 true 47 (decide (E7.Level > (0 : Int))) rfl rfl rfl (beq_tt H30)) rfl rfl (by kernel_rfl) (by kernel_rfl) (by kernel_rfl) rfl rfl ?_
                  refine TA.y (listed' := #[true, true, true, true, true, true, true, true, true, true, true, true, true, true, true, false, false, false, false, false, false, false, false, false, false, false, false, false, false]) 14 [0] rfl (Y.field_box kf91_1 rfl rfl) (Gd.at 7 true 47 (decide (E7.Level > (0 : Int))) rfl rfl rfl (beq_tt H30)) rfl rfl (by kernel_rfl) (by kernel_rfl) (by kernel_rfl) rfl rfl ?_
                  refine TA.y (listed' := #[true, true, true, true, true, true, true, true, true, true, true, true, true, true, true, true, false, false, false, false, false, false, false, false, false, false, false, false, false]) 15 [0] rfl (Y.load_box (v := .int .i64 E7.Level) 0 kk3 rfl rfl rfl) (Gd.at 7 true 47 (decide (E7.Level > (0 : Int))) rfl rfl rfl (beq_tt H30)) rfl rfl (by kernel_rfl) (by kernel_rfl) (by kernel_rfl) rfl rfl ?_
                  refine TA.y (listed' := #[true, true, true, true, true, true, true, true, true, true, true, true, true, true, true, true, true, false, false, false, false, false, false, false, false, false, false, false, false]) 16 [0] rfl (Y.eql rfl rfl) (Gd.at 7 true 47 (decide (E7.Level > (0 : Int))) rfl rfl rfl (beq_tt H30)) rfl rfl (by kernel_rfl) (by kernel_rfl) (by kernel_rfl) rfl rfl ?_
                  refine TA.y (listed' := #[true, true, true, true, true, true, true, true, true, true, true, true, true, true, true, true, true, true, false, false, false, false, false, false, false, false, false, false, false]) 17 [0] rfl (Y.pick_t H30 rfl rfl) rfl rfl rfl (by kernel_rfl) (by kernel_rfl) (by kernel_rfl) rfl rfl ?_
                  refine TA.y (listed' := #[true, true, true, true, true, true, true, true, true, true, true, true, true, true, true, true, true, true, true, false, false, false, false, false, false, false, false, false, false]) 18 [0] rfl (Y.move rfl) rfl rfl rfl (by kernel_rfl) (by kernel_rfl) (by kernel_rfl) rfl rfl ?_
                  refine TA.ite (b := decide (E31.Level = E7.Level)) (fun H33 => ?_) (fun H33 => ?_)
                  · refine TA.y (listed' := #[true, true, true, true, true, true, true, true, true, true, true, true, true, true, true, true, true, true, true, true, false, false, false, false, false, false, false, false, false]) 19 [0] rfl (Y.field_box kf91_2 rfl rfl) (Gd.at 18 true 58 (decide (E31.Level = E7.Level)) rfl rfl rfl (beq_tt H33)) rfl rfl (by kernel_rfl) (by kernel_rfl) (by kernel_rfl) rfl rfl ?_
                    refine TA.y (listed' := #[true, true, true, true, true, true, true, true, true, true, true, true, true, true, true, true, true, true, true, true, true, false, false, false, false, false, false, false, false]) 20 [0] rfl (Y.load_box (v := strV E7.Lo) 0 kk9 rfl rfl rfl) (Gd.at 18 true 58 (decide (E31.Level = E7.Level)) rfl rfl rfl (beq_tt H33)) rfl rfl (by kernel_rfl) (by kernel_rfl) (by kernel_rfl) rfl rfl ?_
                    refine TA.y (listed' := #[true, true, true, true, true, true, true, true, true, true, true, true, true, true, true, true, true, true, true, true, true, true, false, false, false, false, false, false, false]) 21 [0] rfl (Y.move rfl) (Gd.at 18 true 58 (decide (E31.Level = E7.Level)) rfl rfl rfl (beq_tt H33)) rfl rfl (by kernel_rfl) (by kernel_rfl) (by kernel_rfl) rfl rfl ?_
                    refine TA.y (listed' := #[true, true, true, true, true, true, true, true, true, true, true, true, true, true, true, true, true, true, true, true, true, true, true, false, false, false, false, false, false]) 22 [0] rfl (Y.move rfl) (Gd.at 18 true 58 (decide (E31.Level = E7.Level)) rfl rfl rfl (beq_tt H33)) rfl rfl (by kernel_rfl) (by kernel_rfl) (by kernel_rfl) rfl rfl ?_
                    refine TA.y (listed' := #[true, true, true, true, true, true, true, true, true, true, true, true, true, true, true, true, true, true, true, true, true, true, true, true, false, false, false, false, false]) 23 [0] rfl (Y.sub rfl rfl) (Gd.at 18 true 58 (decide (E31.Level = E7.Level)) rfl rfl rfl (beq_tt H33)) rfl rfl (by kernel_rfl) (by kernel_rfl) (by kernel_rfl) rfl rfl ?_
                    refine TA.y (listed' := #[true, true, true, true, true, true, true, true, true, true, true, true, true, true, true, true, true, true, true, true, true, true, true, true, true, false, false, false, false]) 24 [0] rfl (Y.index ke59 (Base.can HB_V_l0) H32 rfl rfl) (Gd.at 18 true 58 (decide (E31.Level = E7.Level)) rfl rfl rfl (beq_tt H33)) rfl rfl (by kernel_rfl) (by kernel_rfl) (by kernel_rfl) rfl rfl ?_
                    refine TA.y (listed' := #[true, true, true, true, true, true, true, true, true, true, true, true, true, true, true, true, true, true, true, true, true, true, true, true, true, true, false, false, false]) 25 [0] rfl (Y.field_el kf91_3 (Base.can HB_V_l0) (idx_get H32).2.2 rfl rfl) (Gd.at 18 true 58 (decide (E31.Level = E7.Level)) rfl rfl rfl (beq_tt H33)) rfl rfl (by kernel_rfl) (by kernel_rfl) (by kernel_rfl) rfl rfl ?_
                    refine TA.y (listed' := #[true, true, true, true, true, true, true, true, true, true, true, true, true, true, true, true, true, true, true, true, true, true, true, true, true, true, true, false, false]) 26 [0] rfl (Y.load_el (us := [strV E31.Hi]) (u := strV E31.Hi) kk9 rfl (Base.can HB_V_l0) (idx_get H32).2.2 rfl rfl rfl rfl rfl) (Gd.at 18 true 58 (decide (E31.Level = E7.Level)) rfl rfl rfl (beq_tt H33)) rfl rfl (by kernel_rfl) (by kernel_rfl) (by kernel_rfl) rfl rfl ?_
                    refine TA.y (listed' := #[true, true, true, true, true, true, true, true, true, true, true, true, true, true, true, true, true, true, true, true, true, true, true, true, true, true, true, true, false]) 27 [0] rfl (Y.sleq rfl rfl) (Gd.at 18 true 58 (decide (E31.Level = E7.Level)) rfl rfl rfl (beq_tt H33)) rfl rfl (by kernel_rfl) (by kernel_rfl) (by kernel_rfl) rfl rfl ?_
                    refine TA.y (listed' := #[true, true, true, true, true, true, true, true, true, true, true, true, true, true, true, true, true, true, true, true, true, true, true, true, true, true, true, true, true]) 28 [0] rfl (Y.pick_t H33 rfl rfl) rfl rfl rfl (by kernel_rfl) (by kernel_rfl) (by kernel_rfl) rfl rfl ?_
                    refine TA.nil (by kernel_rfl) ?_
                    exact TE.jb_go () [] ⟨rfl, rfl, rfl, rfl, rfl, trivial⟩ rfl
                  · refine TA.off (listed' := #[true, true, true, true, true, true, true, true, true, true, true, true, true, true, true, true, true, true, true, true, false, false, false, false, false, false, false, false, false]) 19 [0] rfl (Gd.at 18 true 58 (decide (E31.Level = E7.Level)) rfl rfl rfl (beq_ft H33)) rfl rfl (by kernel_rfl) (by kernel_rfl) (by kernel_rfl) rfl rfl ?_
                    refine TA.off (listed' := #[true, true, true, true, true, true, true, true, true, true, true, true, true, true, true, true, true, true, true, true, true, false, false, false, false, false, false, false, false]) 20 [0] rfl (Gd.at 18 true 58 (decide (E31.Level = E7.Level)) rfl rfl rfl (beq_ft H33)) rfl rfl (by kernel_rfl) (by kernel_rfl) (by kernel_rfl) rfl rfl ?_
                    refine TA.off (listed' := #[true, true, true, true, true, true, true, true, true, true, true, true, true, true, true, true, true, true, true, true, true, true, false, false, false, false, false, false, false]) 21 [0] rfl (Gd.at 18 true 58 (decide (E31.Level = E7.Level)) rfl rfl rfl (beq_ft H33)) rfl rfl (by kernel_rfl) (by kernel_rfl) (by kernel_rfl) rfl rfl ?_
                    refine TA.off (listed' := #[true, true, true, true, true, true, true, true, true, true, true, true, true, true, true, true, true, true, true, true, true, true, true, false, false, false, false, false, false]) 22 [0] rfl (Gd.at 18 true 58 (decide (E31.Level = E7.Level)) rfl rfl rfl (beq_ft H33)) rfl rfl (by kernel_rfl) (by kernel_rfl) (by kernel_rfl) rfl rfl ?_
                    refine TA.off (listed' := #[true, true, true, true, true, true, true, true, true, true, true, true, true, true, true, true, true, true, true, true, true, true, true, true, false, false, false, false, false]) 23 [0] rfl (Gd.at 18 true 58 (decide (E31.Level = E7.Level)) rfl rfl rfl (beq_ft H33)) rfl rfl (by kernel_rfl) (by kernel_rfl) (by kernel_rfl) rfl rfl ?_
                    refine TA.off (listed' := #[true, true, true, true, true, true, true, true, true, true, true, true, true, true, true, true, true, true, true, true, true, true, true, true, true, false, false, false, false]) 24 [0] rfl (Gd.at 18 true 58 (decide (E31.Level = E7.Level)) rfl rfl rfl (beq_ft H33)) rfl rfl (by kernel_rfl) (by kernel_rfl) (by kernel_rfl) rfl rfl ?_
                    refine TA.off (listed' := #[true, true, true, true, true, true, true, true, true, true, true, true, true, true, true, true, true, true, true, true, true, true, true, true, true, true, false, false, false]) 25 [0] rfl (Gd.at 18 true 58 (decide (E31.Level = E7.Level)) rfl rfl rfl (beq_ft H33)) rfl rfl (by kernel_rfl) (by kernel_rfl) (by kernel_rfl) rfl rfl ?_
                    refine TA.off (listed' := #[true, true, true, true, true, true, true, true, true, true, true, true, true, true, true, true, true, true, true, true, true, true, true, true, true, true, true, false, false]) 26 [0] rfl (Gd.at 18 true 58 (decide (E31.Level = E7.Level)) rfl rfl rfl (beq_ft H33)) rfl rfl (by kernel_rfl) (by kernel_rfl) (by kernel_rfl) rfl rfl ?_
                    refine TA.off (listed' := #[true, true, true, true, true, true, true, true, true, true, true, true, true, true, true, true, true, true, true, true, true, true, true, true, true, true, true, true, false]) 27 [0] rfl (Gd.at 18 true 58 (decide (E31.Level = E7.Level)) rfl rfl rfl (beq_ft H33)) rfl rfl (by kernel_rfl) (by kernel_rfl) (by kernel_rfl) rfl rfl ?_
                    refine TA.y (listed' := #[true, true, true, true, true, true, true, true, true, true, true, true, true, true, true, true, true, true, true, true, true, true, true, true, true, true, true, true, true]) 28 [0] rfl (Y.pick_f H33 rfl rfl) rfl rfl rfl (by kernel_rfl) (by kernel_rfl) (by kernel_rfl) rfl rfl ?_
                    refine TA.nil (by kernel_rfl) ?_
                    exact TE.jb_go () [] ⟨rfl, rfl, rfl, rfl, rfl, trivial⟩ rfl
                · refine TA.off (listed' := #[true, true, true, true, true, true, true, true, true, false, false, false, false, false, false, false, false, false, false, false, false, false, false, false, false, false, false, false, false]) 8 [0] rfl (Gd.at 7 true 47 (decide (E7.Level > (0 : Int))) rfl rfl rfl (beq_ft H30)) rfl rfl (by kernel_rfl) (by kernel_rfl) (by kernel_rfl) rfl rfl ?_
                  refine TA.off (listed' := #[true, true, true, true, true, true, true, true, true, true, false, false, false, false, false, false, false, false, false, false, false, false, false, false, false, false, false, false, false]) 9 [0] rfl (Gd.at 7 true 47 (decide (E7.Level > (0 : Int))) rfl rfl rfl (beq_ft H30)) rfl rfl (by kernel_rfl) (by kernel_rfl) (by kernel_rfl) rfl rfl ?_
                  refine TA.off (listed' := #[true, true, true, true, true, true, true, true, true, true, true, false, false, false, false, false, false, false, false, false, false, false, false, false, false, false, false, false, false]) 10 [0] rfl (Gd.at 7 true 47 (decide (E7.Level > (0 : Int))) rfl rfl rfl (beq_ft H30)) rfl rfl (by kernel_rfl) (by kernel_rfl) (by kernel_rfl) rfl rfl ?_
                  refine TA.off (listed' := #[true, true, true, true, true, true, true, true, true, true, true, true, false, false, false, false, false, false, false, false, false, false, false, false, false, false, false, false, false]) 11 [0] rfl (Gd.at 7 true 47 (decide (E7.Level > (0 : Int))) rfl rfl rfl (beq_ft H30)) rfl rfl (by kernel_rfl) (by kernel_rfl) (by kernel_rfl) rfl rfl ?_
                  refine TA.off (listed' := #[true, true, true, true, true, true, true, true, true, true, true, true, true, false, false, false, false, false, false, false, false, false, false, false, false, false, false, false, false]) 12 [0] rfl (Gd.at 7 true 47 (decide (E7.Level > (0 : Int))) rfl rfl rfl (beq_ft H30)) rfl rfl (by kernel_rfl) (by kernel_rfl) (by kernel_rfl) rfl rfl ?_
                  refine TA.off (listed' := #[true, true, true, true, true, true, true, true, true, true, true, true, true, true, false, false, false, false, false, false, false, false, false, false, false, false, false, false, false]) 13 [0] rfl (Gd.at 7 true 47 (decide (E7.Level > (0 : Int))) rfl rfl rfl (beq_ft H30)) rfl rfl (by kernel_rfl) (by kernel_rfl) (by kernel_rfl) rfl rfl ?_
                  refine TA.off (listed' := #[true, true, true, true, true, true, true, true, true, true, true, true, true, true, true, false, false, false, false, false, false, false, false, false, false, false, false, false, false]) 14 [0] rfl (Gd.at 7 true 47 (decide (E7.Level > (0 : Int))) rfl rfl rfl (beq_ft H30)) rfl rfl (by kernel_rfl) (by kernel_rfl) (by kernel_rfl) rfl rfl ?_
                  refine TA.off (listed' := #[true, true, true, true, true, true, true, true, true, true, true, true, true, true, true, true, false, false, false, false, false, false, false, false, false, false, false, false, false]) 15 [0] rfl (Gd.at 7 true 47 (decide (E7.Level > (0 : Int))) rfl rfl rfl (beq_ft H30)) rfl rfl (by kernel_rfl) (by kernel_rfl) (by kernel_rfl) rfl rfl ?_
                  refine TA.off (listed' := #[true, true, true, true, true, true, true, true, true, true, true, true, true, true, true, true, true, false, false, false, false, false, false, false, false, false, false, false, false]) 16 [0] rfl (Gd.at 7 true 47 (decide (E7.Level > (0 : Int))) rfl rfl rfl (beq_ft H30)) rfl rfl (by kernel_rfl) (by kernel_rfl) (by kernel_rfl) rfl rfl ?_
                  refine TA.y (listed' := #[true, true, true, true, true, true, true, true, true, true, true, true, true, true, true, true, true, true, false, false, false, false, false, false, false, false, false, false, false]) 17 [0] rfl (Y.pick_f H30 rfl rfl) rfl rfl rfl (by kernel_rfl) (by kernel_rfl) (by kernel_rfl) rfl rfl ?_
                  refine TA.y (listed' := #[true, true, true, true, true, true, true, true, true, true, true, true, true, true, true, true, true, true, true, false, false, false, false, false, false, false, false, false, false]) 18 [0] rfl (Y.move rfl) rfl rfl rfl (by kernel_rfl) (by kernel_rfl) (by kernel_rfl) rfl rfl ?_
                  refine TA.off (listed' := #[true, true, true, true, true, true, true, true, true, true, true, true, true, true, true, true, true, true, true, true, false, false, false, false, false, false, false, false, false]) 19 [0] rfl (Gd.at 18 true 58 false rfl rfl rfl rfl) rfl rfl (by kernel_rfl) (by kernel_rfl) (by kernel_rfl) rfl rfl ?_
                  refine TA.off (listed' := #[true, true, true, true, true, true, true, true, true, true, true, true, true, true, true, true, true, true, true, true, true, false, false, false, false, false, false, false, false]) 20 [0] rfl (Gd.at 18 true 58 false rfl rfl rfl rfl) rfl rfl (by kernel_rfl) (by kernel_rfl) (by kernel_rfl) rfl rfl ?_
                  refine TA.off (listed' := #[true, true, true, true, true, true, true, true, true, true, true, true, true, true, true, true, true, true, true, true, true, true, false, false, false, false, false, false, false]) 21 [0] rfl (Gd.at 18 true 58 false rfl rfl rfl rfl) rfl rfl (by kernel_rfl) (by kernel_rfl) (by kernel_rfl) rfl rfl ?_
                  refine TA.off (listed' := #[true, true, true, true, true, true, true, true, true, true, true, true, true, true, true, true, true, true, true, true, true, true, true, false, false, false, false, false, false]) 22 [0] rfl (Gd.at 18 true 58 false rfl rfl rfl rfl) rfl rfl (by kernel_rfl) (by kernel_rfl) (by kernel_rfl) rfl rfl ?_
                  refine TA.off (listed' := #[true, true, true, true, true, true, true, true, true, true, true, true, true, true, true, true, true, true, true, true, true, true, true, true, false, false, false, false, false]) 23 [0] rfl (Gd.at 18 true 58 false rfl rfl rfl rfl) rfl rfl (by kernel_rfl) (by kernel_rfl) (by kernel_rfl) rfl rfl ?_
                  refine TA.off (listed' := #[true, true, true, true, true, true, true, true, true, true, true, true, true, true, true, true, true, true, true, true, true, true, true, true, true, false, false, false, false]) 24 [0] rfl (Gd.at 18 true 58 false rfl rfl rfl rfl) rfl rfl (by kernel_rfl) (by kernel_rfl) (by kernel_rfl) rfl rfl ?_
                  refine TA.off (listed' := #[true, true, true, true, true, true, true, true, true, true, true, true, true, true, true, true, true, true, true, true, true, true, true, true, true, true, false, false, false]) 25 [0] rfl (Gd.at 18 true 58 false rfl rfl rfl rfl) rfl rfl (by kernel_rfl) (by kernel_rfl) (by kernel_rfl) rfl rfl ?_
                  refine TA.off (listed' := #[true, true, true, true, true, true, true, true, true, true, true, true, true, true, true, true, true, true, true, true, true, true, true, true, true, true, true, false, false]) 26 [0] rfl (Gd.at 18 true 58 false rfl rfl rfl rfl) rfl rfl (by kernel_rfl) (by kernel_rfl) (by kernel_rfl) rfl rfl ?_
                  refine TA.off (listed' := #[true, true, true, true, true, true, true, true, true, true, true, true, true, true, true, true, true, true, true, true, true, true, true, true, true, true, true, true, false]) 27 [0] rfl (Gd.at 18 true 58 false rfl rfl rfl rfl) rfl rfl (by kernel_rfl) (by kernel_rfl) (by kernel_rfl) rfl rfl ?_
                  refine TA.y (listed' := #[true, true, true, true, true, true, true, true, true, true, true, true, true, true, true, true, true, true, true, true, true, true, true, true, true, true, true, true, true]) 28 [0] rfl (Y.pick_f rfl rfl rfl) rfl rfl rfl (by kernel_rfl) (by kernel_rfl) (by kernel_rfl) rfl rfl ?_
                  refine TA.nil (by kernel_rfl) ?_
                  exact TE.jb_go () [] ⟨rfl, rfl, rfl, rfl, rfl, trivial⟩ rfl
              · refine TA.off (listed' := #[true, true, true, true, false, false, false, false, false, false, false, false, false, false, false, false, false, false, false, false, false, false, false, false, false, false, false, false, false]) 3 [0] rfl (Gd.at 2 true 42 (decide (S2 > (0 : Int))) rfl rfl rfl (beq_ft H29)) rfl rfl (by kernel_rfl) (by kernel_rfl) (by kernel_rfl) rfl rfl ?_
                refine TA.off (listed' := #[true, true, true, true, true, false, false, false, false, false, false, false, false, false, false, false, false, false, false, false, false, false, false, false, false, false, false, false, false]) 4 [0] rfl (Gd.at 2 true 42 (decide (S2 > (0 : Int))) rfl rfl rfl (beq_ft H29)) rfl rfl (by kernel_rfl) (by kernel_rfl) (by kernel_rfl) rfl rfl ?_
                refine TA.off (listed' := #[true, true, true, true, true, true, false, false, false, false, false, false, false, false, false, false, false, false, false, false, false, false, false, false, false, false, false, false, false]) 5 [0] rfl (Gd.at 2 true 42 (decide (S2 > (0 : Int))) rfl rfl rfl (beq_ft H29)) rfl rfl (by kernel_rfl) (by kernel_rfl) (by kernel_rfl) rfl rfl ?_
                refine TA.y (listed' := #[true, true, true, true, true, true, true, false, false, false, false, false, false, false, false, false, false, false, false, false, false, false, false, false, false, false, false, false, false]) 6 [0] rfl (Y.pick_f H29 rfl rfl) rfl rfl rfl (by kernel_rfl) (by kernel_rfl) (by kernel_rfl) rfl rfl ?_
                refine TA.y (listed' := #[true, true, true, true, true, true, true, true, false, false, false, false, false, false, false, false, false, false, false, false, false, false, false, false, false, false, false, false, false]) 7 [0] rfl (Y.move rfl) rfl rfl rfl (by kernel_rfl) (by kernel_rfl) (by kernel_rfl) rfl rfl ?_
                refine TA.off (listed' := #[true, true, true, true, true, true, true, true, true, false, false, false, false, false, false, false, false, false, false, false, false, false, false, false, false, false, false, false, false]) 8 [0] rfl (Gd.at 7 true 47 false rfl rfl rfl rfl) rfl rfl (by kernel_rfl) (by kernel_rfl) (by kernel_rfl) rfl rfl ?_
                refine TA.off (listed' := #[true, true, true, true, true, true, true, true, true, true, false, false, false, false, false, false, false, false, false, false, false, false, false, false, false, false, false, false, false]) 9 [0] rfl (Gd.at 7 true 47 false rfl rfl rfl rfl) rfl rfl (by kernel_rfl) (by kernel_rfl) (by kernel_rfl) rfl rfl ?_
                refine TA.off (listed' := #[true, true, true, true, true, true, true, true, true, true, true, false, false, false, false, false, false, false, false, false, false, false, false, false, false, false, false, false, false]) 10 [0] rfl (Gd.at 7 true 47 false rfl rfl rfl rfl) rfl rfl (by kernel_rfl) (by kernel_rfl) (by kernel_rfl) rfl rfl ?_
                refine TA.off (listed' := #[true, true, true, true, true, true, true, true, true, true, true, true, false, false, false, false, false, false, false, false, false, false, false, false, false, false, false, false, false]) 11 [0] rfl (Gd.at 7 true 47 false rfl rfl rfl rfl) rfl rfl (by kernel_rfl) (by kernel_rfl) (by kernel_rfl) rfl rfl ?_
                refine TA.off (listed' := #[true, true, true, true, true, true, true, true, true, true, true, true, true, false, false, false, false, false, false, false, false, false, false, false, false, false, false, false, false]) 12 [0] rfl (Gd.at 7 true 47 false rfl rfl rfl rfl) rfl rfl (by kernel_rfl) (by kernel_rfl) (by kernel_rfl) rfl rfl ?_
                refine TA.off (listed' := #[true, true, true, true, true, true, true, true, true, true, true, true, true, true, false, false, false, false, false, false, false, false, false, false, false, false, false, false, false]) 13 [0] rfl (Gd.at 7 true 47 false rfl rfl rfl rfl) rfl rfl (by kernel_rfl) (by kernel_rfl) (by kernel_rfl) rfl rfl ?_
                refine TA.off (listed' := #[true, true, true, true, true, true, true, true, true, true, true, true, true, true, true, false, false, false, false, false, false, false, false, false, false, false, false, false, false]) 14 [0] rfl (Gd.at 7 true 47 false rfl rfl rfl rfl) rfl rfl (by kernel_rfl) (by kernel_rfl) (by kernel_rfl) rfl rfl ?_
                refine TA.off (listed' := #[true, true, true, true, true, true, true, true, true, true, true, true, true, true, true, true, false, false, false, false, false, false, false, false, false, false, false, false, false]) 15 [0] rfl (Gd.at 7 true 47 false rfl rfl rfl rfl) rfl rfl (by kernel_rfl) (by kernel_rfl) (by kernel_rfl) rfl rfl ?_
                refine TA.off (listed' := #[true, true, true, true, true, true, true, true, true, true, true, true, true, true, true, true, true, false, false, false, false, false, false, false, false, false, false, false, false]) 16 [0] rfl (Gd.at 7 true 47 false rfl rfl rfl rfl) rfl rfl (by kernel_rfl) (by kernel_rfl) (by kernel_rfl) rfl rfl ?_
                refine TA.y (listed' := #[true, true, true, true, true, true, true, true, true, true, true, true, true, true, true, true, true, true, false, false, false, false, false, false, false, false, false, false, false]) 17 [0] rfl (Y.pick_f rfl rfl rfl) rfl rfl rfl (by kernel_rfl) (by kernel_rfl) (by kernel_rfl) rfl rfl ?_
                refine TA.y (listed' := #[true, true, true, true, true, true, true, true, true, true, true, true, true, true, true, true, true, true, true, false, false, false, false, false, false, false, false, false, false]) 18 [0] rfl (Y.move rfl) rfl rfl rfl (by kernel_rfl) (by kernel_rfl) (by kernel_rfl) rfl rfl ?_
                refine TA.off (listed' := #[true, true, true, true, true, true, true, true, true, true, true, true, true, true, true, true, true, true, true, true, false, false, false, false, false, false, false, false, false]) 19 [0] rfl (Gd.at 18 true 58 false rfl rfl rfl rfl) rfl rfl (by kernel_rfl) (by kernel_rfl) (by kernel_rfl) rfl rfl ?_
                refine TA.off (listed' := #[true, true, true, true, true, true, true, true, true, true, true, true, true, true, true, true, true, true, true, true, true, false, false, false, false, false, false, false, false]) 20 [0] rfl (Gd.at 18 true 58 false rfl rfl rfl rfl) rfl rfl (by kernel_rfl) (by kernel_rfl) (by kernel_rfl) rfl rfl ?_
                refine TA.off (listed' := #[true, true, true, true, true, true, true, true, true, true, true, true, true, true, true, true, true, true, true, true, true, true, false, false, false, false, false, false, false]) 21 [0] rfl (Gd.at 18 true 58 false rfl rfl rfl rfl) rfl rfl (by kernel_rfl) (by kernel_rfl) (by kernel_rfl) rfl rfl ?_
                refine TA.off (listed' := #[true, true, true, true, true, true, true, true, true, true, true, true, true, true, true, true, true, true, true, true, true, true, true, false, false, false, false, false, false]) 22 [0] rfl (Gd.at 18 true 58 false rfl rfl rfl rfl) rfl rfl (by kernel_rfl) (by kernel_rfl) (by kernel_rfl) rfl rfl ?_
                refine TA.off (listed' := #[true, true, true, true, true, true, true, true, true, true, true, true, true, true, true, true, true, true, true, true, true, true, true, true, false, false, false, false, false]) 23 [0] rfl (Gd.at 18 true 58 false rfl rfl rfl rfl) rfl rfl (by kernel_rfl) (by kernel_rfl) (by kernel_rfl) rfl rfl ?_
                refine TA.off (listed' := #[true, true, true, true, true, true, true, true, true, true, true, true, true, true, true, true, true, true, true, true, true, true, true, true, true, false, false, false, false]) 24 [0] rfl (Gd.at 18 true 58 false rfl rfl rfl rfl) rfl rfl (by kernel_rfl) (by kernel_rfl) (by kernel_rfl) rfl rfl ?_
                refine TA.off (listed' := #[true, true, true, true, true, true, true, true, true, true, true, true, true, true, true, true, true, true, true, true, true, true, true, true, true, true, false, false, false]) 25 [0] rfl (Gd.at 18 true 58 false rfl rfl rfl rfl) rfl rfl (by kernel_rfl) (by kernel_rfl) (by kernel_rfl) rfl rfl ?_
                refine TA.off (listed' := #[true, true, true, true, true, true, true, true, true, true, true, true, true, true, true, true, true, true, true, true, true, true, true, true, true, true, true, false, false]) 26 [0] rfl (Gd.at 18 true 58 false rfl rfl rfl rfl) rfl rfl (by kernel_rfl) (by kernel_rfl) (by kernel_rfl) rfl rfl ?_
                refine TA.off (listed' := #[true, true, true, true, true, true, true, true, true, true, true, true, true, true, true, true, true, true, true, true, true, true, true, true, true, true, true, true, false]) 27 [0] rfl (Gd.at 18 true 58 false rfl rfl rfl rfl) rfl rfl (by kernel_rfl) (by kernel_rfl) (by kernel_rfl) rfl rfl ?_
                refine TA.y (listed' := #[true, true, true, true, true, true, true, true, true, true, true, true, true, true, true, true, true, true, true, true, true, true, true, true, true, true, true, true, true]) 28 [0] rfl (Y.pick_f rfl rfl rfl) rfl rfl rfl (by kernel_rfl) (by kernel_rfl) (by kernel_rfl) rfl rfl ?_
                refine TA.nil (by kernel_rfl) ?_
                exact TE.jb_go () [] ⟨rfl, rfl, rfl, rfl, rfl, trivial⟩ rfl
            · refine TE.next ?_
              refine TW.cond rfl (fun H34 => ?_) (fun H34 => ?_)
              · refine TW.seq ?_
                refine TW.region ?_
                refine TO.y (Y.assign rfl) rfl rfl rfl ?_
                refine TO.nil ?_
                refine TE.next ?_
                refine TW.ret ?_
                refine TE.block_ret ?_
                refine TE.then_ret ?_
                refine TE.lp_ret ?_
                refine TE.block_ret ?_
                refine TE.jn_done ?_
                refine TE.then_ret ?_
                exact TE.leaf fun _ _ hf_ hs_ => ret_any (rs := [.tmp 2]) (vs := [.bool false]) (.inl rfl) rfl ⟨rfl, trivial⟩ hf_ hs_ ⟨(), rfl, hs_.pulls [] rfl⟩
              · refine TW.skip ?_
                refine TE.block_normal ?_
                refine TE.next ?_
                refine TW.region ?_
                refine TO.y (Y.add rfl rfl) rfl rfl rfl ?_
                refine TO.y (Y.move rfl) rfl rfl rfl ?_
                refine TO.nil ?_
                exact TE.lp_go () [] ⟨rfl, rfl, rfl, rfl, trivial⟩ rfl
      · refine TW.exit ?_
        refine TE.then_exit ?_
        refine TE.lp_exit ?_
        refine TE.block_exit ?_
        exact TE.jn_go () [] trivial rfl
    · refine TE.next ?_
      refine TW.seq ?_
      refine TW.region ?_
      refine TO.y (Y.assign rfl) rfl rfl rfl ?_
      refine TO.nil ?_
      refine TE.next ?_
      refine TW.ret ?_
      exact TE.leaf fun _ _ hf_ hs_ => ret_any (rs := [.tmp 2]) (vs := [.bool true]) (.inl rfl) rfl ⟨rfl, trivial⟩ hf_ hs_ ⟨(), rfl, hs_.pulls [] rfl⟩

/-- loop.example/g00950/laws.eqFile -/
noncomputable def laws_eqFile (a : File) (b : File) : Option Bool :=
  if (!(decide (a.No = b.No))) = true then (some false)
  else (if (!(decide (a.Level = b.Level))) = true then (some false)
  else (if (!(decide (a.Lo = b.Lo))) = true then (some false)
  else (if (!(decide (a.Hi = b.Hi))) = true then (some false)
  else (some true))))

theorem laws_eqFile_con (a : File) (b : File)  (r : Bool) (hm : laws_eqFile a b = some r) :
    Con Try.prog 66 [.agg #[.int .i64 a.No, .int .i64 a.Level, strV a.Lo, strV a.Hi], .agg #[.int .i64 b.No, .int .i64 b.Level, strV b.Lo, strV b.Hi]] [] [] (fun _ : Unit => .bool r) (fun _ => []) := by
  refine Con.intro (args := [.agg #[.int .i64 a.No, .int .i64 a.Level, strV a.Lo, strV a.Hi], .agg #[.int .i64 b.No, .int .i64 b.Level, strV b.Lo, strV b.Hi]]) (n := 25) (val := fun r (_ : Unit) => .bool r) (post := fun _ _ => []) (m := laws_eqFile a b) Try.func66 rfl rfl rfl hm ?_
  intro w S _
  unfold laws_eqFile
  refine TW.seq ?_
  refine TW.region ?_
  refine TO.ef (Ef.box rfl (Cel.plain rfl rfl)) rfl rfl rfl (fun B1 => ?_)
  refine TO.ef (Ef.box rfl (Cel.plain rfl rfl)) rfl rfl rfl (fun B2 => ?_)
  refine TO.y (Y.assign rfl) rfl rfl rfl ?_
  refine TO.nil ?_
  refine TE.next ?_
  refine TW.seq ?_
  refine TW.seq ?_
  refine TW.region ?_
  refine TO.y (Y.field_box kf91_0 rfl rfl) rfl rfl rfl ?_
  refine TO.y (Y.load_box (v := .int .i64 a.No) 1 kk3 rfl rfl rfl) rfl rfl rfl ?_
  refine TO.y (Y.field_box kf91_0 rfl rfl) rfl rfl rfl ?_
  refine TO.y (Y.load_box (v := .int .i64 b.No) 0 kk3 rfl rfl rfl) rfl rfl rfl ?_
  refine TO.y (Y.neq rfl rfl) rfl rfl rfl ?_
  refine TO.nil ?_
  refine TE.next ?_
  refine TW.cond rfl (fun H3 => ?_) (fun H3 => ?_)
  · refine TW.seq ?_
    refine TW.region ?_
    refine TO.y (Y.assign rfl) rfl rfl rfl ?_
    refine TO.nil ?_
    refine TE.next ?_
    refine TW.ret ?_
    refine TE.then_ret ?_
    exact TE.leaf fun _ _ hf_ hs_ => ret_any (rs := [.tmp 4]) (vs := [.bool false]) (.inl rfl) rfl ⟨rfl, trivial⟩ hf_ hs_ ⟨(), rfl, hs_.pulls [] rfl⟩
  · refine TW.skip ?_
    refine TE.next ?_
    refine TW.seq ?_
    refine TW.seq ?_
    refine TW.region ?_
    refine TO.y (Y.field_box kf91_1 rfl rfl) rfl rfl rfl ?_
    refine TO.y (Y.load_box (v := .int .i64 a.Level) 1 kk3 rfl rfl rfl) rfl rfl rfl ?_
    refine TO.y (Y.field_box kf91_1 rfl rfl) rfl rfl rfl ?_
    refine TO.y (Y.load_box (v := .int .i64 b.Level) 0 kk3 rfl rfl rfl) rfl rfl rfl ?_
    refine TO.y (Y.neq rfl rfl) rfl rfl rfl ?_
    refine TO.nil ?_
    refine TE.next ?_
    refine TW.cond rfl (fun H4 => ?_) (fun H4 => ?_)
    · refine TW.seq ?_
      refine TW.region ?_
      refine TO.y (Y.assign rfl) rfl rfl rfl ?_
      refine TO.nil ?_
      refine TE.next ?_
      refine TW.ret ?_
      refine TE.then_ret ?_
      exact TE.leaf fun _ _ hf_ hs_ => ret_any (rs := [.tmp 4]) (vs := [.bool false]) (.inl rfl) rfl ⟨rfl, trivial⟩ hf_ hs_ ⟨(), rfl, hs_.pulls [] rfl⟩
    · refine TW.skip ?_
      refine TE.next ?_
      refine TW.seq ?_
      refine TW.seq ?_
      refine TW.region ?_
      refine TO.y (Y.field_box kf91_2 rfl rfl) rfl rfl rfl ?_
      refine TO.y (Y.load_box (v := strV a.Lo) 1 kk9 rfl rfl rfl) rfl rfl rfl ?_
      refine TO.y (Y.field_box kf91_2 rfl rfl) rfl rfl rfl ?_
      refine TO.y (Y.load_box (v := strV b.Lo) 0 kk9 rfl rfl rfl) rfl rfl rfl ?_
      refine TO.y (Y.sneq rfl rfl) rfl rfl rfl ?_
      refine TO.nil ?_
      refine TE.next ?_
      refine TW.cond rfl (fun H5 => ?_) (fun H5 => ?_)
      · refine TW.seq ?_
        refine TW.region ?_
        refine TO.y (Y.assign rfl) rfl rfl rfl ?_
        refine TO.nil ?_
        refine TE.next ?_
        refine TW.ret ?_
        refine TE.then_ret ?_
        exact TE.leaf fun _ _ hf_ hs_ => ret_any (rs := [.tmp 4]) (vs := [.bool false]) (.inl rfl) rfl ⟨rfl, trivial⟩ hf_ hs_ ⟨(), rfl, hs_.pulls [] rfl⟩
      · refine TW.skip ?_
        refine TE.next ?_
        refine TW.seq ?_
        refine TW.seq ?_
        refine TW.region ?_
        refine TO.y (Y.field_box kf91_3 rfl rfl) rfl rfl rfl ?_
        refine TO.y (Y.load_box (v := strV a.Hi) 1 kk9 rfl rfl rfl) rfl rfl rfl ?_
        refine TO.y (Y.field_box kf91_3 rfl rfl) rfl rfl rfl ?_
        refine TO.y (Y.load_box (v := strV b.Hi) 0 kk9 rfl rfl rfl) rfl rfl rfl ?_
        refine TO.y (Y.sneq rfl rfl) rfl rfl rfl ?_
        refine TO.nil ?_
        refine TE.next ?_
        refine TW.cond rfl (fun H6 => ?_) (fun H6 => ?_)
        · refine TW.seq ?_
          refine TW.region ?_
          refine TO.y (Y.assign rfl) rfl rfl rfl ?_
          refine TO.nil ?_
          refine TE.next ?_
          refine TW.ret ?_
          refine TE.then_ret ?_
          exact TE.leaf fun _ _ hf_ hs_ => ret_any (rs := [.tmp 4]) (vs := [.bool false]) (.inl rfl) rfl ⟨rfl, trivial⟩ hf_ hs_ ⟨(), rfl, hs_.pulls [] rfl⟩
        · refine TW.skip ?_
          refine TE.next ?_
          refine TW.seq ?_
          refine TW.region ?_
          refine TO.y (Y.assign rfl) rfl rfl rfl ?_
          refine TO.nil ?_
          refine TE.next ?_
          refine TW.ret ?_
          exact TE.leaf fun _ _ hf_ hs_ => ret_any (rs := [.tmp 4]) (vs := [.bool true]) (.inl rfl) rfl ⟨rfl, trivial⟩ hf_ hs_ ⟨(), rfl, hs_.pulls [] rfl⟩

/-- loop.example/g00950/laws.eqFileS -/
noncomputable def laws_eqFileS (a : List File) (b : List File) : Option Bool :=
  if (!(decide (((a.length : Nat) : Int) = ((b.length : Nat) : Int)))) = true then (some false)
  else (bindC (loopO (fun (S2 : Int) => if (decide (S2 < ((a.length : Nat) : Int))) = true then ((idx a S2).bind fun E7 =>
  (idx b S2).bind fun E9 =>
  (laws_eqFile E7 E9).bind fun R11 =>
  if (!R11) = true then (some (.done (.done false)))
  else (some (.go (IntKind.i64.wrap (S2 + (1 : Int))))))
  else (some (.done (.go ()))))
  (0 : Int))
  (fun (T4 : Unit) => some true))

theorem laws_eqFileS_con (a : List File) (b : List File) (V_a0 : Value) (V_b0 : Value) (r : Bool) (hm : laws_eqFileS a b = some r) :
    Con Try.prog 35 [V_a0, V_b0] [] [(V_a0, lc 91 a), (V_b0, lc 91 b)] (fun _ : Unit => .bool r) (fun _ => []) := by
  refine Con.intro (args := [V_a0, V_b0]) (n := 27) (val := fun r (_ : Unit) => .bool r) (post := fun _ _ => []) (m := laws_eqFileS a b) Try.func35 rfl rfl rfl hm ?_
  intro w S hrd
  have HB_V_a0 := hrd _ (.head _)
  have HB_V_b0 := hrd _ (.tail _ (.head _))
  clear hrd
  unfold laws_eqFileS
  refine TW.seq ?_
  refine TW.region ?_
  refine TO.y (Y.assign rfl) rfl rfl rfl ?_
  refine TO.nil ?_
  refine TE.next ?_
  refine TW.seq ?_
  refine TW.seq ?_
  refine TW.region ?_
  refine TO.y (Y.move rfl) rfl rfl rfl ?_
  refine TO.y (Y.len (l := a) ke59 (Base.can HB_V_a0) rfl) rfl rfl rfl ?_
  refine TO.y (Y.move rfl) rfl rfl rfl ?_
  refine TO.y (Y.len (l := b) ke59 (Base.can HB_V_b0) rfl) rfl rfl rfl ?_
  refine TO.y (Y.neq rfl rfl) rfl rfl rfl ?_
  refine TO.nil ?_
  refine TE.next ?_
  refine TW.cond rfl (fun H1 => ?_) (fun H1 => ?_)
  · refine TW.seq ?_
    refine TW.region ?_
    refine TO.y (Y.assign rfl) rfl rfl rfl ?_
    refine TO.nil ?_
    refine TE.next ?_
    refine TW.ret ?_
    refine TE.then_ret ?_
    exact TE.leaf fun _ _ hf_ hs_ => ret_any (rs := [.tmp 4]) (vs := [.bool false]) (.inl rfl) rfl ⟨rfl, trivial⟩ hf_ hs_ ⟨(), rfl, hs_.pulls [] rfl⟩
  · refine TW.skip ?_
    refine TE.next ?_
    refine TW.seq ?_
    refine TW.seq ?_
    refine TW.region ?_
    refine TO.y (Y.assign rfl) rfl rfl rfl ?_
    refine TO.nil ?_
    refine TE.next ?_
    refine TW.joinX (τ := Unit) (X := Unit) (fun _ _ => []) (fun _ _ => []) ?_ (fun T4 X5 => ?_)
    · refine TW.block ?_
      refine TW.loopX (σ := Int) (X := Unit) (fun T _ => [(0, V_a0), (1, V_b0), (5, .int .i64 T)]) (fun _ _ => []) () [] ⟨rfl, rfl, rfl, trivial⟩ rfl (fun S2 X3 => ?_)
      refine TW.seq ?_
      refine TW.seq ?_
      refine TW.region ?_
      refine TO.y (Y.move rfl) rfl rfl rfl ?_
      refine TO.y (Y.move rfl) rfl rfl rfl ?_
      refine TO.y (Y.len (l := a) ke59 (Base.can HB_V_a0) rfl) rfl rfl rfl ?_
      refine TO.y (Y.lss rfl rfl) rfl rfl rfl ?_
      refine TO.nil ?_
      refine TE.next ?_
      refine TW.cond rfl (fun H6 => ?_) (fun H6 => ?_)
      · refine TW.skip ?_
        refine TE.next ?_
        refine TW.seq ?_
        refine TW.block ?_
        refine TW.seq ?_
        refine TW.draw (isH := []) hMix ?_
        refine TA.y (listed' := #[true, false, false, false, false, false, false, false, false, false]) 0 [] rfl (Y.move rfl) rfl rfl rfl (by kernel_rfl) (by kernel_rfl) (by kernel_rfl) rfl rfl ?_
        refine TA.y (listed' := #[true, true, false, false, false, false, false, false, false, false]) 1 [] rfl (Y.move rfl) rfl rfl rfl (by kernel_rfl) (by kernel_rfl) (by kernel_rfl) rfl rfl ?_
        refine TA.bind fun E7 H8 => ?_
        refine TA.y (listed' := #[true, true, true, false, false, false, false, false, false, false]) 2 [] rfl (Y.index ke59 (Base.can HB_V_a0) H8 rfl rfl) rfl rfl rfl (by kernel_rfl) (by kernel_rfl) (by kernel_rfl) rfl rfl ?_
        refine TA.y (listed' := #[true, true, true, true, false, false, false, false, false, false]) 3 [] rfl (Y.load_el (us := [.int .i64 E7.No, .int .i64 E7.Level, strV E7.Lo, strV E7.Hi]) (u := .agg #[.int .i64 E7.No, .int .i64 E7.Level, strV E7.Lo, strV E7.Hi]) kk91 rfl (Base.can HB_V_a0) (idx_get H8).2.2 rfl rfl rfl rfl rfl) rfl rfl rfl (by kernel_rfl) (by kernel_rfl) (by kernel_rfl) rfl rfl ?_
        refine TA.y (listed' := #[true, true, true, true, true, false, false, false, false, false]) 4 [] rfl (Y.move rfl) rfl rfl rfl (by kernel_rfl) (by kernel_rfl) (by kernel_rfl) rfl rfl ?_
        refine TA.y (listed' := #[true, true, true, true, true, true, false, false, false, false]) 5 [] rfl (Y.move rfl) rfl rfl rfl (by kernel_rfl) (by kernel_rfl) (by kernel_rfl) rfl rfl ?_
        refine TA.bind fun E9 H10 => ?_
        refine TA.y (listed' := #[true, true, true, true, true, true, true, false, false, false]) 6 [] rfl (Y.index ke59 (Base.can HB_V_b0) H10 rfl rfl) rfl rfl rfl (by kernel_rfl) (by kernel_rfl) (by kernel_rfl) rfl rfl ?_
        refine TA.y (listed' := #[true, true, true, true, true, true, true, true, false, false]) 7 [] rfl (Y.load_el (us := [.int .i64 E9.No, .int .i64 E9.Level, strV E9.Lo, strV E9.Hi]) (u := .agg #[.int .i64 E9.No, .int .i64 E9.Level, strV E9.Lo, strV E9.Hi]) kk91 rfl (Base.can HB_V_b0) (idx_get H10).2.2 rfl rfl rfl rfl rfl) rfl rfl rfl (by kernel_rfl) (by kernel_rfl) (by kernel_rfl) rfl rfl ?_
        refine TA.bind fun R11 H12 => ?_
        refine TA.one 8 (by kernel_rfl) ?_
        refine TX.ef (listed' := #[true, true, true, true, true, true, true, true, true, false]) [] rfl (Ef.call (rest := []) [] (laws_eqFile_con E7 E9  R11 H12) kc66 rfl rfl trivial) rfl rfl rfl rfl (fun _ => rfl) (fun _ => ?_)
        refine TA.y (listed' := #[true, true, true, true, true, true, true, true, true, true]) 9 [] rfl (Y.not rfl) rfl rfl rfl (by kernel_rfl) (by kernel_rfl) (by kernel_rfl) rfl rfl ?_
        refine TA.nil (by kernel_rfl) ?_
        refine TE.next ?_
        refine TW.cond rfl (fun H14 => ?_) (fun H14 => ?_)
        · refine TW.seq ?_
          refine TW.region ?_
          refine TO.y (Y.assign rfl) rfl rfl rfl ?_
          refine TO.nil ?_
          refine TE.next ?_
          refine TW.ret ?_
          refine TE.block_ret ?_
          refine TE.then_ret ?_
          refine TE.lp_ret ?_
          refine TE.block_ret ?_
          refine TE.jn_done ?_
          refine TE.then_ret ?_
          exact TE.leaf fun _ _ hf_ hs_ => ret_any (rs := [.tmp 4]) (vs := [.bool false]) (.inl rfl) rfl ⟨rfl, trivial⟩ hf_ hs_ ⟨(), rfl, hs_.pulls [] rfl⟩
        · refine TW.skip ?_
          refine TE.block_normal ?_
          refine TE.next ?_
          refine TW.region ?_
          refine TO.y (Y.move rfl) rfl rfl rfl ?_
          refine TO.y (Y.add rfl rfl) rfl rfl rfl ?_
          refine TO.y (Y.assign rfl) rfl rfl rfl ?_
          refine TO.nil ?_
          exact TE.lp_go () [] ⟨rfl, rfl, rfl, trivial⟩ rfl
      · refine TW.exit ?_
        refine TE.then_exit ?_
        refine TE.lp_exit ?_
        refine TE.block_exit ?_
        exact TE.jn_go () [] trivial rfl
    · refine TE.next ?_
      refine TW.seq ?_
      refine TW.region ?_
      refine TO.y (Y.assign rfl) rfl rfl rfl ?_
      refine TO.nil ?_
      refine TE.next ?_
      refine TW.ret ?_
      exact TE.leaf fun _ _ hf_ hs_ => ret_any (rs := [.tmp 4]) (vs := [.bool true]) (.inl rfl) rfl ⟨rfl, trivial⟩ hf_ hs_ ⟨(), rfl, hs_.pulls [] rfl⟩

/-- loop.example/g00950/laws.FnExactFilesOk -/
noncomputable def laws_FnExactFilesOk (aL : List File) : Option Bool :=
  (laws_szFileS aL (1048576 : Int)).bind fun R1 =>
  if (decide (R1 < (0 : Int))) = true then (some true)
  else ((laws_toFileS aL).bind fun R5 =>
  (spec_FilesOk R5).bind fun R8 =>
  (impl_FilesOk R5).bind fun R12 =>
  if (!(decide (R12 = R8))) = true then (some false)
  else ((laws_eqFileS R5 R5).bind fun R17 =>
  if (!R17) = true then (some false)
  else (some true)))

theorem laws_FnExactFilesOk_con (aL : List File) (V_aL0 : Value) (r : Bool) (hm : laws_FnExactFilesOk aL = some r) :
    Con Try.prog 7 [V_aL0] [] [(V_aL0, lc 90 aL)] (fun _ : Unit => .bool r) (fun _ => []) := by
  refine Con.intro (args := [V_aL0]) (n := 27) (val := fun r (_ : Unit) => .bool r) (post := fun _ _ => []) (m := laws_FnExactFilesOk aL) Try.func7 rfl rfl rfl hm ?_
  intro w S hrd
  have HB_V_aL0 := hrd _ (.head _)
  clear hrd
  unfold laws_FnExactFilesOk
  refine TW.seq ?_
  refine TW.region ?_
  refine TO.y (Y.assign rfl) rfl rfl rfl ?_
  refine TO.nil ?_
  refine TE.next ?_
  refine TW.seq ?_
  refine TW.region ?_
  refine TO.y (Y.assign rfl) rfl rfl rfl ?_
  refine TO.nil ?_
  refine TE.next ?_
  refine TW.seq ?_
  refine TW.region ?_
  refine TO.y (Y.move rfl) rfl rfl rfl ?_
  refine TO.y (Y.move rfl) rfl rfl rfl ?_
  refine TO.bind fun R1 H2 => ?_
  refine TO.ef (Ef.call (rest := []) [] (laws_szFileS_con aL (1048576 : Int) V_aL0 R1 H2) kc31 rfl rfl ⟨(Base.can HB_V_aL0), trivial⟩) rfl rfl rfl (fun _ => ?_)
  refine TO.y (Y.assign rfl) rfl rfl rfl ?_
  refine TO.nil ?_
  refine TE.next ?_
  refine TW.seq ?_
  refine TW.seq ?_
  refine TW.region ?_
  refine TO.y (Y.move rfl) rfl rfl rfl ?_
  refine TO.y (Y.lss rfl rfl) rfl rfl rfl ?_
  refine TO.nil ?_
  refine TE.next ?_
  refine TW.cond rfl (fun H4 => ?_) (fun H4 => ?_)
  · refine TW.seq ?_
    refine TW.region ?_
    refine TO.y (Y.assign rfl) rfl rfl rfl ?_
    refine TO.nil ?_
    refine TE.next ?_
    refine TW.ret ?_
    refine TE.then_ret ?_
    exact TE.leaf fun _ _ hf_ hs_ => ret_any (rs := [.tmp 2]) (vs := [.bool true]) (.inl rfl) rfl ⟨rfl, trivial⟩ hf_ hs_ ⟨(), rfl, hs_.pulls [] rfl⟩
  · refine TW.skip ?_
    refine TE.next ?_
    refine TW.seq ?_
    refine TW.region ?_
    refine TO.y (Y.move rfl) rfl rfl rfl ?_
    refine TO.bind fun R5 H6 => ?_
    refine TO.ef (Ef.call (rest := []) [] (laws_toFileS_con aL V_aL0 R5 H6) kc33 rfl rfl ⟨(Base.can HB_V_aL0), trivial⟩) rfl rfl rfl (fun Y7 => ?_)
    refine TO.bind fun R8 H9 => ?_
    refine TO.ef (Ef.call (rest := [.own Y7 (lc 91 R5)]) [0] (spec_FilesOk_con R5 Y7 R8 H9) kc32 rfl rfl ⟨(Can.own 0 rfl), trivial⟩) rfl rfl rfl (fun _ => ?_)
    refine TO.y (Y.assign rfl) rfl rfl rfl ?_
    refine TO.nil ?_
    refine TE.next ?_
    refine TW.seq ?_
    refine TW.region ?_
    refine TO.y (Y.move rfl) rfl rfl rfl ?_
    refine TO.ef (Ef.call (rest := [.own Y7 (lc 91 R5)]) [0] (laws_toFileS_con aL V_aL0 R5 H6) kc33 rfl rfl ⟨(Base.can HB_V_aL0), trivial⟩) rfl rfl rfl (fun Y11 => ?_)
    refine TO.y (Y.assign rfl) rfl rfl rfl ?_
    refine TO.nil ?_
    refine TE.next ?_
    refine TW.seq ?_
    refine TW.region ?_
    refine TO.y (Y.move rfl) rfl rfl rfl ?_
    refine TO.bind fun R12 H13 => ?_
    refine TO.ef (Ef.call (rest := [.own Y11 (lc 91 R5), .own Y7 (lc 91 R5)]) [0, 0] (impl_FilesOk_con R5 Y11 R12 H13) kc34 rfl rfl ⟨(Can.own 0 rfl), trivial⟩) rfl rfl rfl (fun _ => ?_)
    refine TO.y (Y.assign rfl) rfl rfl rfl ?_
    refine TO.nil ?_
    refine TE.next ?_
    refine TW.seq ?_
    refine TW.seq ?_
    refine TW.region ?_
    refine TO.y (Y.move rfl) rfl rfl rfl ?_
    refine TO.y (Y.move rfl) rfl rfl rfl ?_
    refine TO.y (Y.neb kb4 rfl rfl) rfl rfl rfl ?_
    refine TO.nil ?_
    refine TE.next ?_
    refine TW.cond rfl (fun H15 => ?_) (fun H15 => ?_)
    · refine TW.seq ?_
      refine TW.region ?_
      refine TO.y (Y.assign rfl) rfl rfl rfl ?_
      refine TO.nil ?_
      refine TE.next ?_
      refine TW.ret ?_
      refine TE.then_ret ?_
      exact TE.leaf fun _ _ hf_ hs_ => ret_any (rs := [.tmp 2]) (vs := [.bool false]) (.inl rfl) rfl ⟨rfl, trivial⟩ hf_ hs_ ⟨(), rfl, hs_.pulls [] rfl⟩
    · refine TW.skip ?_
      refine TE.next ?_
      refine TW.seq ?_
      refine TW.seq ?_
      refine TW.region ?_
      refine TO.y (Y.move rfl) rfl rfl rfl ?_
      refine TO.y (Y.move rfl) rfl rfl rfl ?_
      refine TO.ef (Ef.call (rest := [.own Y11 (lc 91 R5), .own Y7 (lc 91 R5)]) [0, 0] (laws_toFileS_con aL V_aL0 R5 H6) kc33 rfl rfl ⟨(Base.can HB_V_aL0), trivial⟩) rfl rfl rfl (fun Y16 => ?_)
      refine TO.bind fun R17 H18 => ?_
      refine TO.ef (Ef.call (rest := [.own Y16 (lc 91 R5), .own Y11 (lc 91 R5), .own Y7 (lc 91 R5)]) [0, 0, 0] (laws_eqFileS_con R5 R5 Y11 Y16 R17 H18) kc35 rfl rfl ⟨(Can.own 1 rfl), (Can.own 0 rfl), trivial⟩) rfl rfl rfl (fun _ => ?_)
      refine TO.y (Y.not rfl) rfl rfl rfl ?_
      refine TO.nil ?_
      refine TE.next ?_
      refine TW.cond rfl (fun H20 => ?_) (fun H20 => ?_)
      · refine TW.seq ?_
        refine TW.region ?_
        refine TO.y (Y.assign rfl) rfl rfl rfl ?_
        refine TO.nil ?_
        refine TE.next ?_
        refine TW.ret ?_
        refine TE.then_ret ?_
        exact TE.leaf fun _ _ hf_ hs_ => ret_any (rs := [.tmp 2]) (vs := [.bool false]) (.inl rfl) rfl ⟨rfl, trivial⟩ hf_ hs_ ⟨(), rfl, hs_.pulls [] rfl⟩
      · refine TW.skip ?_
        refine TE.next ?_
        refine TW.seq ?_
        refine TW.region ?_
        refine TO.y (Y.assign rfl) rfl rfl rfl ?_
        refine TO.nil ?_
        refine TE.next ?_
        refine TW.ret ?_
        exact TE.leaf fun _ _ hf_ hs_ => ret_any (rs := [.tmp 2]) (vs := [.bool true]) (.inl rfl) rfl ⟨rfl, trivial⟩ hf_ hs_ ⟨(), rfl, hs_.pulls [] rfl⟩

end Go.Proofs.Ytpfndjojoikkgaa
