/-
  The functions that a law reaches, each as a pure function, with the proof that the program computes it, and the step from a pure law to the given statement. Conditions: none.
-/
import Derived.Test.YtpnnbeiojpphhaaF1
set_option linter.unusedVariables false
set_option maxRecDepth 100000
namespace Go.Proofs.Ytpnnbeiojpphhaa
open Go Sl

/-- loop.example/g00950/impl.FilesOk -/
noncomputable def impl_FilesOk (l : List File) : Option Bool :=
  if (decide (((l.length : Nat) : Int) > (12 : Int))) = true then (some false)
  else (bindC (loopO (fun (S2 : Int) => if (decide (S2 < ((l.length : Nat) : Int))) = true then ((idx l S2).bind fun E7 =>
  ((impl_fileOk E7).bind fun R12 =>
  if (!R12) = true then (some true)
  else ((impl_fileAt l E7.No).bind fun R16 =>
  if (!(decide (R16 = S2))) = true then (some true)
  else (if (decide (S2 > (0 : Int))) = true then ((idx l (IntKind.i64.wrap (S2 - (1 : Int)))).bind fun E21 =>
  (impl_compareFiles E21 E7).bind fun R23 =>
  some (decide (R23 ≥ (0 : Int))))
  else (some false)))).bind (fun (T10 : Bool) =>
  if T10 = true then (some (.done (.done false)))
  else ((if (decide (S2 > (0 : Int))) = true then (if (decide (E7.Level > (0 : Int))) = true then ((idx l (IntKind.i64.wrap (S2 - (1 : Int)))).bind fun E31 =>
  if (decide (E31.Level = E7.Level)) = true then (some (sLt E7.Lo E31.Hi || decide (E7.Lo = E31.Hi)))
  else (some false))
  else (some false))
  else (some false)).bind (fun (T27 : Bool) =>
  if T27 = true then (some (.done (.done false)))
  else (some (.go (IntKind.i64.wrap (S2 + (1 : Int)))))))))
  else (some (.done (.go ()))))
  (0 : Int))
  (fun (T4 : Unit) => some true))

theorem impl_FilesOk_con (l : List File) (V_l0 : Value) (r : Bool) (hm : impl_FilesOk l = some r) :
    Con Try.prog 50 [V_l0] [] [(V_l0, lc 77 l)] (fun _ : Unit => .bool r) (fun _ => []) := by
  refine Con.intro (args := [V_l0]) (n := 70) (val := fun r (_ : Unit) => .bool r) (post := fun _ _ => []) (m := impl_FilesOk l) Try.func50 rfl rfl rfl hm ?_
  intro w S hrd
  have HB_V_l0 := hrd _ (.head _)
  clear hrd
  unfold impl_FilesOk
  refine TW.seq ?_
  refine TW.region ?_
  refine TO.y (Y.assign rfl) rfl rfl rfl ?_
  refine TO.nil ?_
  refine TE.next ?_
  refine TW.seq ?_
  refine TW.seq ?_
  refine TW.region ?_
  refine TO.y (Y.move rfl) rfl rfl rfl ?_
  refine TO.y (Y.len (l := l) ke26 (Base.can HB_V_l0) rfl) rfl rfl rfl ?_
  refine TO.y (Y.gtr rfl rfl) rfl rfl rfl ?_
  refine TO.nil ?_
  refine TE.next ?_
  refine TW.cond rfl (fun H1 => ?_) (fun H1 => ?_)
  · refine TW.seq ?_
    refine TW.region ?_
    refine TO.y (Y.assign rfl) rfl rfl rfl ?_
    refine TO.nil ?_
    refine TE.next ?_
    refine TW.ret ?_
    refine TE.then_ret ?_
    exact TE.leaf fun _ _ hf_ hs_ => ret_any (rs := [.tmp 2]) (vs := [.bool false]) (.inl rfl) rfl ⟨rfl, trivial⟩ hf_ hs_ ⟨(), rfl, hs_.pulls [] rfl⟩
  · refine TW.skip ?_
    refine TE.next ?_
    refine TW.seq ?_
    refine TW.seq ?_
    refine TW.region ?_
    refine TO.y (Y.move rfl) rfl rfl rfl ?_
    refine TO.y (Y.len (l := l) ke26 (Base.can HB_V_l0) rfl) rfl rfl rfl ?_
    refine TO.y (Y.move rfl) rfl rfl rfl ?_
    refine TO.nil ?_
    refine TE.next ?_
    refine TW.joinX (τ := Unit) (X := Unit) (fun _ _ => []) (fun _ _ => []) ?_ (fun T4 X5 => ?_)
    · refine TW.block ?_
      refine TW.loopX (σ := Int) (X := Unit) (fun T _ => [(0, V_l0), (8, V_l0), (9, .int .i64 ((l.length : Nat) : Int)), (10, .int .i64 T)]) (fun _ _ => []) () [] ⟨rfl, rfl, rfl, rfl, trivial⟩ rfl (fun S2 X3 => ?_)
      refine TW.seq ?_
      refine TW.region ?_
      refine TO.y (Y.lss rfl rfl) rfl rfl rfl ?_
      refine TO.nil ?_
      refine TE.next ?_
      refine TW.seq ?_
      refine TW.cond rfl (fun H6 => ?_) (fun H6 => ?_)
      · refine TW.skip ?_
        refine TE.next ?_
        refine TW.seq ?_
        refine TW.block ?_
        refine TW.seq ?_
        refine TW.region ?_
        refine TO.y (Y.move rfl) rfl rfl rfl ?_
        refine TO.bind fun E7 H8 => ?_
        refine TO.y (Y.index ke26 (Base.can HB_V_l0) H8 rfl rfl) rfl rfl rfl ?_
        refine TO.y (Y.load_el (us := [.int .i64 E7.No, .int .i64 E7.Level, strV E7.Lo, strV E7.Hi]) (u := .agg #[.int .i64 E7.No, .int .i64 E7.Level, strV E7.Lo, strV E7.Hi]) kk77 rfl (Base.can HB_V_l0) (idx_get H8).2.2 rfl rfl rfl rfl rfl) rfl rfl rfl ?_
        refine TO.ef (Ef.alloc kz77 rfl) rfl rfl rfl (fun B9 => ?_)
        refine TO.y (Y.assign rfl) rfl rfl rfl ?_
        refine TO.ef0 (Ef.store_box (us := [.int .i64 E7.No, .int .i64 E7.Level, strV E7.Lo, strV E7.Hi]) (vs' := [.int .i64 E7.No, .int .i64 E7.Level, strV E7.Lo, strV E7.Hi]) (is' := [.box B9 77 [.int .i64 E7.No, .int .i64 E7.Level, strV E7.Lo, strV E7.Hi]]) 0 kk77 rfl rfl rfl (Cel.plain rfl rfl) rfl rfl rfl rfl) rfl rfl (fun _ => ?_)
        refine TO.nil ?_
        refine TE.next ?_
        refine TW.seq ?_
        refine TW.seq ?_
        refine TW.joinBX (τ := Bool) (X := Unit) (fun T _ => [(0, V_l0), (3, .int .i64 S2), (4, .pointer (some ⟨B9, 0, none⟩)), (8, V_l0), (9, .int .i64 ((l.length : Nat) : Int)), (10, .int .i64 S2), (39, .bool T)]) (fun _ _ => [.box B9 77 [.int .i64 E7.No, .int .i64 E7.Level, strV E7.Lo, strV E7.Hi]]) ?_ (fun T10 X11 => ?_)
        · refine TW.draw (isH := [.box B9 77 [.int .i64 E7.No, .int .i64 E7.Level, strV E7.Lo, strV E7.Hi]]) hMix ?_
          refine TA.y (listed' := #[true, false, false, false, false, false, false, false, false, false, false, false, false, false, false, false, false, false, false, false, false, false, false, false, false]) 0 [0] rfl (Y.load_box (v := .agg #[.int .i64 E7.No, .int .i64 E7.Level, strV E7.Lo, strV E7.Hi]) 0 kk77 rfl rfl rfl) rfl rfl rfl (by kernel_rfl) (by kernel_rfl) (by kernel_rfl) rfl rfl ?_
          refine TA.bind fun R12 H13 => ?_
          refine TA.one 1 (by kernel_rfl) ?_
          refine TX.ef (listed' := #[true, true, false, false, false, false, false, false, false, false, false, false, false, false, false, false, false, false, false, false, false, false, false, false, false]) [0] rfl (Ef.call (rest := [.box B9 77 [.int .i64 E7.No, .int .i64 E7.Level, strV E7.Lo, strV E7.Hi]]) [0] (impl_fileOk_con E7  R12 H13) kc83 rfl rfl trivial) rfl rfl rfl rfl (fun _ => rfl) (fun _ => ?_)
          refine TA.y (listed' := #[true, true, true, false, false, false, false, false, false, false, false, false, false, false, false, false, false, false, false, false, false, false, false, false, false]) 2 [0] rfl (Y.not rfl) rfl rfl rfl (by kernel_rfl) (by kernel_rfl) (by kernel_rfl) rfl rfl ?_
          refine TA.y (listed' := #[true, true, true, true, false, false, false, false, false, false, false, false, false, false, false, false, false, false, false, false, false, false, false, false, false]) 3 [0] rfl (Y.move rfl) rfl rfl rfl (by kernel_rfl) (by kernel_rfl) (by kernel_rfl) rfl rfl ?_
          refine TA.ite (b := !R12) (fun H15 => ?_) (fun H15 => ?_)
          · refine TA.off (listed' := #[true, true, true, true, true, false, false, false, false, false, false, false, false, false, false, false, false, false, false, false, false, false, false, false, false]) 4 [0] rfl (Gd.at 3 false 18 (!R12) rfl rfl rfl (beq_tf H15)) rfl rfl (by kernel_rfl) (by kernel_rfl) (by kernel_rfl) rfl rfl ?_
            refine TA.off (listed' := #[true, true, true, true, true, true, false, false, false, false, false, false, false, false, false, false, false, false, false, false, false, false, false, false, false]) 5 [0] rfl (Gd.at 3 false 18 (!R12) rfl rfl rfl (beq_tf H15)) rfl rfl (by kernel_rfl) (by kernel_rfl) (by kernel_rfl) rfl rfl ?_
            refine TA.off (listed' := #[true, true, true, true, true, true, true, false, false, false, false, false, false, false, false, false, false, false, false, false, false, false, false, false, false]) 6 [0] rfl (Gd.at 3 false 18 (!R12) rfl rfl rfl (beq_tf H15)) rfl rfl (by kernel_rfl) (by kernel_rfl) (by kernel_rfl) rfl rfl ?_
            refine TA.off (listed' := #[true, true, true, true, true, true, true, true, false, false, false, false, false, false, false, false, false, false, false, false, false, false, false, false, false]) 7 [0] rfl (Gd.at 3 false 18 (!R12) rfl rfl rfl (beq_tf H15)) rfl rfl (by kernel_rfl) (by kernel_rfl) (by kernel_rfl) rfl rfl ?_
            refine TA.off (listed' := #[true, true, true, true, true, true, true, true, true, false, false, false, false, false, false, false, false, false, false, false, false, false, false, false, false]) 8 [0] rfl (Gd.at 3 false 18 (!R12) rfl rfl rfl (beq_tf H15)) rfl rfl (by kernel_rfl) (by kernel_rfl) (by kernel_rfl) rfl rfl ?_
            refine TA.off (listed' := #[true, true, true, true, true, true, true, true, true, true, false, false, false, false, false, false, false, false, false, false, false, false, false, false, false]) 9 [0] rfl (Gd.at 3 false 18 (!R12) rfl rfl rfl (beq_tf H15)) rfl rfl (by kernel_rfl) (by kernel_rfl) (by kernel_rfl) rfl rfl ?_
            refine TA.y (listed' := #[true, true, true, true, true, true, true, true, true, true, true, false, false, false, false, false, false, false, false, false, false, false, false, false, false]) 10 [0] rfl (Y.pick_t H15 rfl rfl) rfl rfl rfl (by kernel_rfl) (by kernel_rfl) (by kernel_rfl) rfl rfl ?_
            refine TA.y (listed' := #[true, true, true, true, true, true, true, true, true, true, true, true, false, false, false, false, false, false, false, false, false, false, false, false, false]) 11 [0] rfl (Y.move rfl) rfl rfl rfl (by kernel_rfl) (by kernel_rfl) (by kernel_rfl) rfl rfl ?_
            refine TA.off (listed' := #[true, true, true, true, true, true, true, true, true, true, true, true, true, false, false, false, false, false, false, false, false, false, false, false, false]) 12 [0] rfl (Gd.at 11 false 26 true rfl rfl rfl rfl) rfl rfl (by kernel_rfl) (by kernel_rfl) (by kernel_rfl) rfl rfl ?_
            refine TA.off (listed' := #[true, true, true, true, true, true, true, true, true, true, true, true, true, true, false, false, false, false, false, false, false, false, false, false, false]) 13 [0] rfl (Gd.at 11 false 26 true rfl rfl rfl rfl) rfl rfl (by kernel_rfl) (by kernel_rfl) (by kernel_rfl) rfl rfl ?_
            refine TA.off (listed' := #[true, true, true, true, true, true, true, true, true, true, true, true, true, true, true, false, false, false, false, false, false, false, false, false, false]) 14 [0] rfl (Gd.at 11 false 26 true rfl rfl rfl rfl) rfl rfl (by kernel_rfl) (by kernel_rfl) (by kernel_rfl) rfl rfl ?_
            refine TA.off (listed' := #[true, true, true, true, true, true, true, true, true, true, true, true, true, true, true, true, false, false, false, false, false, false, false, false, false]) 15 [0] rfl (Gd.un 14 true 29 rfl rfl rfl) rfl rfl (by kernel_rfl) (by kernel_rfl) (by kernel_rfl) rfl rfl ?_
            refine TA.off (listed' := #[true, true, true, true, true, true, true, true, true, true, true, true, true, true, true, true, true, false, false, false, false, false, false, false, false]) 16 [0] rfl (Gd.un 14 true 29 rfl rfl rfl) rfl rfl (by kernel_rfl) (by kernel_rfl) (by kernel_rfl) rfl rfl ?_
            refine TA.off (listed' := #[true, true, true, true, true, true, true, true, true, true, true, true, true, true, true, true, true, true, false, false, false, false, false, false, false]) 17 [0] rfl (Gd.un 14 true 29 rfl rfl rfl) rfl rfl (by kernel_rfl) (by kernel_rfl) (by kernel_rfl) rfl rfl ?_
            refine TA.off (listed' := #[true, true, true, true, true, true, true, true, true, true, true, true, true, true, true, true, true, true, true, false, false, false, false, false, false]) 18 [0] rfl (Gd.un 14 true 29 rfl rfl rfl) rfl rfl (by kernel_rfl) (by kernel_rfl) (by kernel_rfl) rfl rfl ?_
            refine TA.off (listed' := #[true, true, true, true, true, true, true, true, true, true, true, true, true, true, true, true, true, true, true, true, false, false, false, false, false]) 19 [0] rfl (Gd.un 14 true 29 rfl rfl rfl) rfl rfl (by kernel_rfl) (by kernel_rfl) (by kernel_rfl) rfl rfl ?_
            refine TA.off (listed' := #[true, true, true, true, true, true, true, true, true, true, true, true, true, true, true, true, true, true, true, true, true, false, false, false, false]) 20 [0] rfl (Gd.un 14 true 29 rfl rfl rfl) rfl rfl (by kernel_rfl) (by kernel_rfl) (by kernel_rfl) rfl rfl ?_
            refine TA.off (listed' := #[true, true, true, true, true, true, true, true, true, true, true, true, true, true, true, true, true, true, true, true, true, true, false, false, false]) 21 [0] rfl (Gd.un 14 true 29 rfl rfl rfl) rfl rfl (by kernel_rfl) (by kernel_rfl) (by kernel_rfl) rfl rfl ?_
            refine TA.off (listed' := #[true, true, true, true, true, true, true, true, true, true, true, true, true, true, true, true, true, true, true, true, true, true, true, false, false]) 22 [0] rfl (Gd.un 14 true 29 rfl rfl rfl) rfl rfl (by kernel_rfl) (by kernel_rfl) (by kernel_rfl) rfl rfl ?_
            refine TA.off (listed' := #[true, true, true, true, true, true, true, true, true, true, true, true, true, true, true, true, true, true, true, true, true, true, true, true, false]) 23 [0] rfl (Gd.at 11 false 26 true rfl rfl rfl rfl) rfl rfl (by kernel_rfl) (by kernel_rfl) (by kernel_rfl) rfl rfl ?_
            refine TA.y (listed' := #[true, true, true, true, true, true, true, true, true, true, true, true, true, true, true, true, true, true, true, true, true, true, true, true, true]) 24 [0] rfl (Y.pick_t rfl rfl rfl) rfl rfl rfl (by kernel_rfl) (by kernel_rfl) (by kernel_rfl) rfl rfl ?_
            refine TA.nil (by kernel_rfl) ?_
            exact TE.jb_go () [0] ⟨rfl, rfl, rfl, rfl, rfl, rfl, rfl, trivial⟩ rfl
          · refine TA.y (listed' := #[true, true, true, true, true, false, false, false, false, false, false, false, false, false, false, false, false, false, false, false, false, false, false, false, false]) 4 [0] rfl (Y.move rfl) (Gd.at 3 false 18 (!R12) rfl rfl rfl (beq_ff H15)) rfl rfl (by kernel_rfl) (by kernel_rfl) (by kernel_rfl) rfl rfl ?_
            refine TA.y (listed' := #[true, true, true, true, true, true, false, false, false, false, false, false, false, false, false, false, false, false, false, false, false, false, false, false, false]) 5 [0] rfl (Y.field_box kf77_0 rfl rfl) (Gd.at 3 false 18 (!R12) rfl rfl rfl (beq_ff H15)) rfl rfl (by kernel_rfl) (by kernel_rfl) (by kernel_rfl) rfl rfl ?_
            refine TA.y (listed' := #[true, true, true, true, true, true, true, false, false, false, false, false, false, false, false, false, false, false, false, false, false, false, false, false, false]) 6 [0] rfl (Y.load_box (v := .int .i64 E7.No) 0 kk3 rfl rfl rfl) (Gd.at 3 false 18 (!R12) rfl rfl rfl (beq_ff H15)) rfl rfl (by kernel_rfl) (by kernel_rfl) (by kernel_rfl) rfl rfl ?_
            refine TA.y (listed' := #[true, true, true, true, true, true, true, false, true, false, false, false, false, false, false, false, false, false, false, false, false, false, false, false, false]) 8 [0] rfl (Y.move rfl) (Gd.at 3 false 18 (!R12) rfl rfl rfl (beq_ff H15)) rfl rfl (by kernel_rfl) (by kernel_rfl) (by kernel_rfl) rfl rfl ?_
            refine TA.bind fun R16 H17 => ?_
            refine TA.one 7 (by kernel_rfl) ?_
            refine TX.ef (listed' := #[true, true, true, true, true, true, true, true, true, false, false, false, false, false, false, false, false, false, false, false, false, false, false, false, false]) [0] rfl (Ef.call (rest := [.box B9 77 [.int .i64 E7.No, .int .i64 E7.Level, strV E7.Lo, strV E7.Hi]]) [0] (impl_fileAt_con l E7.No V_l0 R16 H17) kc67 rfl rfl ⟨(Base.can HB_V_l0), trivial⟩) (Gd.at 3 false 18 (!R12) rfl rfl rfl (beq_ff H15)) rfl rfl rfl (fun _ => rfl) (fun _ => ?_)
            refine TA.y (listed' := #[true, true, true, true, true, true, true, true, true, true, false, false, false, false, false, false, false, false, false, false, false, false, false, false, false]) 9 [0] rfl (Y.neq rfl rfl) (Gd.at 3 false 18 (!R12) rfl rfl rfl (beq_ff H15)) rfl rfl (by kernel_rfl) (by kernel_rfl) (by kernel_rfl) rfl rfl ?_
            refine TA.y (listed' := #[true, true, true, true, true, true, true, true, true, true, true, false, false, false, false, false, false, false, false, false, false, false, false, false, false]) 10 [0] rfl (Y.pick_f H15 rfl rfl) rfl rfl rfl (by kernel_rfl) (by kernel_rfl) (by kernel_rfl) rfl rfl ?_
            refine TA.y (listed' := #[true, true, true, true, true, true, true, true, true, true, true, true, false, false, false, false, false, false, false, false, false, false, false, false, false]) 11 [0] rfl (Y.move rfl) rfl rfl rfl (by kernel_rfl) (by kernel_rfl) (by kernel_rfl) rfl rfl ?_
            refine TA.ite (b := !(decide (R16 = S2))) (fun H19 => ?_) (fun H19 => ?_)
            · refine TA.off (listed' := #[true, true, true, true, true, true, true, true, true, true, true, true, true, false, false, false, false, false, false, false, false, false, false, false, false]) 12 [0] rfl (Gd.at 11 false 26 (!(decide (R16 = S2))) rfl rfl rfl (beq_tf H19)) rfl rfl (by kernel_rfl) (by kernel_rfl) (by kernel_rfl) rfl rfl ?_
              refine TA.off (listed' := #[true, true, true, true, true, true, true, true, true, true, true, true, true, true, false, false, false, false, false, false, false, false, false, false, false]) 13 [0] rfl (Gd.at 11 false 26 (!(decide (R16 = S2))) rfl rfl rfl (beq_tf H19)) rfl rfl (by kernel_rfl) (by kernel_rfl) (by kernel_rfl) rfl rfl ?_
              refine TA.off (listed' := #[true, true, true, true, true, true, true, true, true, true, true, true, true, true, true, false, false, false, false, false, false, false, false, false, false]) 14 [0] rfl (Gd.at 11 false 26 (!(decide (R16 = S2))) rfl rfl rfl (beq_tf H19)) rfl rfl (by kernel_rfl) (by kernel_rfl) (by kernel_rfl) rfl rfl ?_
              refine TA.off (listed' := #[true, true, true, true, true, true, true, true, true, true, true, true, true, true, true, true, false, false, false, false, false, false, false, false, false]) 15 [0] rfl (Gd.un 14 true 29 rfl rfl rfl) rfl rfl (by kernel_rfl) (by kernel_rfl) (by kernel_rfl) rfl rfl ?_
              refine TA.off (listed' := #[true, true, true, true, true, true, true, true, true, true, true, true, true, true, true, true, true, false, false, false, false, false, false, false, false]) 16 [0] rfl (Gd.un 14 true 29 rfl rfl rfl) rfl rfl (by kernel_rfl) (by kernel_rfl) (by kernel_rfl) rfl rfl ?_
              refine TA.off (listed' := #[true, true, true, true, true, true, true, true, true, true, true, true, true, true, true, true, true, true, false, false, false, false, false, false, false]) 17 [0] rfl (Gd.un 14 true 29 rfl rfl rfl) rfl rfl (by kernel_rfl) (by kernel_rfl) (by kernel_rfl) rfl rfl ?_
              refine TA.off (listed' := #[true, true, true, true, true, true, true, true, true, true, true, true, true, true, true, true, true, true, true, false, false, false, false, false, false]) 18 [0] rfl (Gd.un 14 true 29 rfl rfl rfl) rfl rfl (by kernel_rfl) (by kernel_rfl) (by kernel_rfl) rfl rfl ?_
              refine TA.off (listed' := #[true, true, true, true, true, true, true, true, true, true, true, true, true, true, true, true, true, true, true, true, false, false, false, false, false]) 19 [0] rfl (Gd.un 14 true 29 rfl rfl rfl) rfl rfl (by kernel_rfl) (by kernel_rfl) (by kernel_rfl) rfl rfl ?_
              refine TA.off (listed' := #[true, true, true, true, true, true, true, true, true, true, true, true, true, true, true, true, true, true, true, true, true, false, false, false, false]) 20 [0] rfl (Gd.un 14 true 29 rfl rfl rfl) rfl rfl (by kernel_rfl) (by kernel_rfl) (by kernel_rfl) rfl rfl ?_
              refine TA.off (listed' := #[true, true, true, true, true, true, true, true, true, true, true, true, true, true, true, true, true, true, true, true, true, true, false, false, false]) 21 [0] rfl (Gd.un 14 true 29 rfl rfl rfl) rfl rfl (by kernel_rfl) (by kernel_rfl) (by kernel_rfl) rfl rfl ?_
              refine TA.off (listed' := #[true, true, true, true, true, true, true, true, true, true, true, true, true, true, true, true, true, true, true, true, true, true, true, false, false]) 22 [0] rfl (Gd.un 14 true 29 rfl rfl rfl) rfl rfl (by kernel_rfl) (by kernel_rfl) (by kernel_rfl) rfl rfl ?_
              refine TA.off (listed' := #[true, true, true, true, true, true, true, true, true, true, true, true, true, true, true, true, true, true, true, true, true, true, true, true, false]) 23 [0] rfl (Gd.at 11 false 26 (!(decide (R16 = S2))) rfl rfl rfl (beq_tf H19)) rfl rfl (by kernel_rfl) (by kernel_rfl) (by kernel_rfl) rfl rfl ?_
              refine TA.y (listed' := #[true, true, true, true, true, true, true, true, true, true, true, true, true, true, true, true, true, true, true, true, true, true, true, true, true]) 24 [0] rfl (Y.pick_t H19 rfl rfl) rfl rfl rfl (by kernel_rfl) (by kernel_rfl) (by kernel_rfl) rfl rfl ?_
              refine TA.nil (by kernel_rfl) ?_
              exact TE.jb_go () [0] ⟨rfl, rfl, rfl, rfl, rfl, rfl, rfl, trivial⟩ rfl
            · refine TA.y (listed' := #[true, true, true, true, true, true, true, true, true, true, true, true, true, false, false, false, false, false, false, false, false, false, false, false, false]) 12 [0] rfl (Y.move rfl) (Gd.at 11 false 26 (!(decide (R16 = S2))) rfl rfl rfl (beq_ff H19)) rfl rfl (by kernel_rfl) (by kernel_rfl) (by kernel_rfl) rfl rfl ?_
              refine TA.y (listed' := #[true, true, true, true, true, true, true, true, true, true, true, true, true, true, false, false, false, false, false, false, false, false, false, false, false]) 13 [0] rfl (Y.gtr rfl rfl) (Gd.at 11 false 26 (!(decide (R16 = S2))) rfl rfl rfl (beq_ff H19)) rfl rfl (by kernel_rfl) (by kernel_rfl) (by kernel_rfl) rfl rfl ?_
              refine TA.y (listed' := #[true, true, true, true, true, true, true, true, true, true, true, true, true, true, true, false, false, false, false, false, false, false, false, false, false]) 14 [0] rfl (Y.move rfl) (Gd.at 11 false 26 (!(decide (R16 = S2))) rfl rfl rfl (beq_ff H19)) rfl rfl (by kernel_rfl) (by kernel_rfl) (by kernel_rfl) rfl rfl ?_
              refine TA.ite (b := decide (S2 > (0 : Int))) (fun H20 => ?_) (fun H20 => ?_)
              · refine TA.y (listed' := #[true, true, true, true, true, true, true, true, true, true, true, true, true, true, true, true, false, false, false, false, false, false, false, false, false]) 15 [0] rfl (Y.move rfl) (Gd.at 14 true 29 (decide (S2 > (0 : Int))) rfl rfl rfl (beq_tt H20)) rfl rfl (by kernel_rfl) (by kernel_rfl) (by kernel_rfl) rfl rfl ?_
                refine TA.y (listed' := #[true, true, true, true, true, true, true, true, true, true, true, true, true, true, true, true, true, false, false, false, false, false, false, false, false]) 16 [0] rfl (Y.move rfl) (Gd.at 14 true 29 (decide (S2 > (0 : Int))) rfl rfl rfl (beq_tt H20)) rfl rfl (by kernel_rfl) (by kernel_rfl) (by kernel_rfl) rfl rfl ?_
                refine TA.y (listed' := #[true, true, true, true, true, true, true, true, true, true, true, true, true, true, true, true, true, true, false, false, false, false, false, false, false]) 17 [0] rfl (Y.sub rfl rfl) (Gd.at 14 true 29 (decide (S2 > (0 : Int))) rfl rfl rfl (beq_tt H20)) rfl rfl (by kernel_rfl) (by kernel_rfl) (by kernel_rfl) rfl rfl ?_
                refine TA.bind fun E21 H22 => ?_
                refine TA.y (listed' := #[true, true, true, true, true, true, true, true, true, true, true, true, true, true, true, true, true, true, true, false, false, false, false, false, false]) 18 [0] rfl (Y.index ke26 (Base.can HB_V_l0) H22 rfl rfl) (Gd.at 14 true 29 (decide (S2 > (0 : Int))) rfl rfl rfl (beq_tt H20)) rfl rfl (by kernel_rfl) (by kernel_rfl) (by kernel_rfl) rfl rfl ?_
                refine TA.y (listed' := #[true, true, true, true, true, true, true, true, true, true, true, true, true, true, true, true, true, true, true, true, false, false, false, false, false]) 19 [0] rfl (Y.load_el (us := [.int .i64 E21.No, .int .i64 E21.Level, strV E21.Lo, strV E21.Hi]) (u := .agg #[.int .i64 E21.No, .int .i64 E21.Level, strV E21.Lo, strV E21.Hi]) kk77 rfl (Base.can HB_V_l0) (idx_get H22).2.2 rfl rfl rfl rfl rfl) (Gd.at 14 true 29 (decide (S2 > (0 : Int))) rfl rfl rfl (beq_tt H20)) rfl rfl (by kernel_rfl) (by kernel_rfl) (by kernel_rfl) rfl rfl ?_
                refine TA.y (listed' := #[true, true, true, true, true, true, true, true, true, true, true, true, true, true, true, true, true, true, true, true, true, false, false, false, false]) 20 [0] rfl (Y.load_box (v := .agg #[.int .i64 E7.No, .int .i64 E7.Level, strV E7.Lo, strV E7.Hi]) 0 kk77 rfl rfl rfl) (Gd.at 14 true 29 (decide (S2 > (0 : Int))) rfl rfl rfl (beq_tt H20)) rfl rfl (by kernel_rfl) (by kernel_rfl) (by kernel_rfl) rfl rfl ?_
                refine TA.bind fun R23 H24 => ?_
                refine TA.one 21 (by kernel_rfl) ?_
                refine TX.ef (listed' := #[true, true, true, true, true, true, true, true, true, true, true, true, true, true, true, true, true, true, true, true, true, true, false, false, false]) [0] rfl (Ef.call (rest := [.box B9 77 [.int .i64 E7.No, .int .i64 E7.Level, strV E7.Lo, strV E7.Hi]]) [0] (impl_compareFiles_con E21 E7  R23 H24) kc84 rfl rfl trivial) (Gd.at 14 true 29 (decide (S2 > (0 : Int))) rfl rfl rfl (beq_tt H20)) rfl rfl rfl (fun _ => rfl) (fun _ => ?_)
                refine TA.y (listed' := #[true, true, true, true, true, true, true, true, true, true, true, true, true, true, true, true, true, true, true, true, true, true, true, false, false]) 22 [0] rfl (Y.geq rfl rfl) (Gd.at 14 true 29 (decide (S2 > (0 : Int))) rfl rfl rfl (beq_tt H20)) rfl rfl (by kernel_rfl) (by kernel_rfl) (by kernel_rfl) rfl rfl ?_
                refine TA.y (listed' := #[true, true, true, true, true, true, true, true, true, true, true, true, true, true, true, true, true, true, true, true, true, true, true, true, false]) 23 [0] rfl (Y.pick_t H20 rfl rfl) (Gd.at 11 false 26 (!(decide (R16 = S2))) rfl rfl rfl (beq_ff H19)) rfl rfl (by kernel_rfl) (by kernel_rfl) (by kernel_rfl) rfl rfl ?_
                refine TA.y (listed' := #[true, true, true, true, true, true, true, true, true, true, true, true, true, true, true, true, true, true, true, true, true, true, true, true, true]) 24 [0] rfl (Y.pick_f H19 rfl rfl) rfl rfl rfl (by kernel_rfl) (by kernel_rfl) (by kernel_rfl) rfl rfl ?_
                refine TA.nil (by kernel_rfl) ?_
                exact TE.jb_go () [0] ⟨rfl, rfl, rfl, rfl, rfl, rfl, rfl, trivial⟩ rfl
              · refine TA.off (listed' := #[true, true, true, true, true, true, true, true, true, true, true, true, true, true, true, true, false, false, false, false, false, false, false, false, false]) 15 [0] rfl (Gd.at 14 true 29 (decide (S2 > (0 : Int))) rfl rfl rfl (beq_ft H20)) rfl rfl (by kernel_rfl) (by kernel_rfl) (by kernel_rfl) rfl rfl ?_
                refine TA.off (listed' := #[true, true, true, true, true, true, true, true, true, true, true, true, true, true, true, true, true, false, false, false, false, false, false, false, false]) 16 [0] rfl (Gd.at 14 true 29 (decide (S2 > (0 : Int))) rfl rfl rfl (beq_ft H20)) rfl rfl (by kernel_rfl) (by kernel_rfl) (by kernel_rfl) rfl rfl ?_
                refine TA.off (listed' := #[true, true, true, true, true, true, true, true, true, true, true, true, true, true, true, true, true, true, false, false, false, false, false, false, false]) 17 [0] rfl (Gd.at 14 true 29 (decide (S2 > (0 : Int))) rfl rfl rfl (beq_ft H20)) rfl rfl (by kernel_rfl) (by kernel_rfl) (by kernel_rfl) rfl rfl ?_
                refine TA.off (listed' := #[true, true, true, true, true, true, true, true, true, true, true, true, true, true, true, true, true, true, true, false, false, false, false, false, false]) 18 [0] rfl (Gd.at 14 true 29 (decide (S2 > (0 : Int))) rfl rfl rfl (beq_ft H20)) rfl rfl (by kernel_rfl) (by kernel_rfl) (by kernel_rfl) rfl rfl ?_
                refine TA.off (listed' := #[true, true, true, true, true, true, true, true, true, true, true, true, true, true, true, true, true, true, true, true, false, false, false, false, false]) 19 [0] rfl (Gd.at 14 true 29 (decide (S2 > (0 : Int))) rfl rfl rfl (beq_ft H20)) rfl rfl (by kernel_rfl) (by kernel_rfl) (by kernel_rfl) rfl rfl ?_
                refine TA.off (listed' := #[true, true, true, true, true, true, true, true, true, true, true, true, true, true, true, true, true, true, true, true, true, false, false, false, false]) 20 [0] rfl (Gd.at 14 true 29 (decide (S2 > (0 : Int))) rfl rfl rfl (beq_ft H20)) rfl rfl (by kernel_rfl) (by kernel_rfl) (by kernel_rfl) rfl rfl ?_
                refine TA.off (listed' := #[true, true, true, true, true, true, true, true, true, true, true, true, true, true, true, true, true, true, true, true, true, true, false, false, false]) 21 [0] rfl (Gd.at 14 true 29 (decide (S2 > (0 : Int))) rfl rfl rfl (beq_ft H20)) rfl rfl (by kernel_rfl) (by kernel_rfl) (by kernel_rfl) rfl rfl ?_
                refine TA.off (listed' := #[true, true, true, true, true, true, true, true, true, true, true, true, true, true, true, true, true, true, true, true, true, true, true, false, false]) 22 [0] rfl (Gd.at 14 true 29 (decide (S2 > (0 : Int))) rfl rfl rfl (beq_ft H20)) rfl rfl (by kernel_rfl) (by kernel_rfl) (by kernel_rfl) rfl rfl ?_
                refine TA.y (listed' := #[true, true, true, true, true, true, true, true, true, true, true, true, true, true, true, true, true, true, true, true, true, true, true, true, false]) 23 [0] rfl (Y.pick_f H20 rfl rfl) (Gd.at 11 false 26 (!(decide (R16 = S2))) rfl rfl rfl (beq_ff H19)) rfl rfl (by kernel_rfl) (by kernel_rfl) (by kernel_rfl) rfl rfl ?_
                refine TA.y (listed' := #[true, true, true, true, true, true, true, true, true, true, true, true, true, true, true, true, true, true, true, true, true, true, true, true, true]) 24 [0] rfl (Y.pick_f H19 rfl rfl) rfl rfl rfl (by kernel_rfl) (by kernel_rfl) (by kernel_rfl) rfl rfl ?_
                refine TA.nil (by kernel_rfl) ?_
                exact TE.jb_go () [0] ⟨rfl, rfl, rfl, rfl, rfl, rfl, rfl, trivial⟩ rfl
        · refine TE.next ?_
          refine TW.cond rfl (fun H26 => ?_) (fun H26 => ?_)
          · refine TW.seq ?_
            refine TW.region ?_
            refine TO.y (Y.assign rfl) rfl rfl rfl ?_
            refine TO.nil ?_
            refine TE.next ?_
            refine TW.ret ?_
            refine TE.then_ret ?_
            refine TE.block_ret ?_
            refine TE.then_ret ?_
            refine TE.lp_ret ?_
            refine TE.block_ret ?_
            refine TE.jn_done ?_
            refine TE.then_ret ?_
            exact TE.leaf fun _ _ hf_ hs_ => ret_any (rs := [.tmp 2]) (vs := [.bool false]) (.inl rfl) rfl ⟨rfl, trivial⟩ hf_ hs_ ⟨(), rfl, hs_.pulls [] rfl⟩
          · refine TW.skip ?_
            refine TE.next ?_
            refine TW.seq ?_
            refine TW.joinBX (τ := Bool) (X := Unit) (fun T _ => [(0, V_l0), (8, V_l0), (9, .int .i64 ((l.length : Nat) : Int)), (10, .int .i64 S2), (68, .bool T)]) (fun _ _ => []) ?_ (fun T27 X28 => ?_)
            · refine TW.draw (isH := [.box B9 77 [.int .i64 E7.No, .int .i64 E7.Level, strV E7.Lo, strV E7.Hi]]) hMix ?_
              refine TA.y (listed' := #[true, false, false, false, false, false, false, false, false, false, false, false, false, false, false, false, false, false, false, false, false, false, false, false, false, false, false, false, false]) 0 [0] rfl (Y.move rfl) rfl rfl rfl (by kernel_rfl) (by kernel_rfl) (by kernel_rfl) rfl rfl ?_
              refine TA.y (listed' := #[true, true, false, false, false, false, false, false, false, false, false, false, false, false, false, false, false, false, false, false, false, false, false, false, false, false, false, false, false]) 1 [0] rfl (Y.gtr rfl rfl) rfl rfl rfl (by kernel_rfl) (by kernel_rfl) (by kernel_rfl) rfl rfl ?_
              refine TA.y (listed' := #[true, true, true, false, false, false, false, false, false, false, false, false, false, false, false, false, false, false, false, false, false, false, false, false, false, false, false, false, false]) 2 [0] rfl (Y.move rfl) rfl rfl rfl (by kernel_rfl) (by kernel_rfl) (by kernel_rfl) rfl rfl ?_
              refine TA.ite (b := decide (S2 > (0 : Int))) (fun H29 => ?_) (fun H29 => ?_)
              · refine TA.y (listed' := #[true, true, true, true, false, false, false, false, false, false, false, false, false, false, false, false, false, false, false, false, false, false, false, false, false, false, false, false, false]) 3 [0] rfl (Y.field_box kf77_1 rfl rfl) (Gd.at 2 true 42 (decide (S2 > (0 : Int))) rfl rfl rfl (beq_tt H29)) rfl rfl (by kernel_rfl) (by kernel_rfl) (by kernel_rfl) rfl rfl ?_
                refine TA.y (listed' := #[true, true, true, true, true, false, false, false, false, false, false, false, false, false, false, false, false, false, false, false, false, false, false, false, false, false, false, false, false]) 4 [0] rfl (Y.load_box (v := .int .i64 E7.Level) 0 kk3 rfl rfl rfl) (Gd.at 2 true 42 (decide (S2 > (0 : Int))) rfl rfl rfl (beq_tt H29)) rfl rfl (by kernel_rfl) (by kernel_rfl) (by kernel_rfl) rfl rfl ?_
                refine TA.y (listed' := #[true, true, true, true, true, true, false, false, false, false, false, false, false, false, false, false, false, false, false, false, false, false, false, false, false, false, false, false, false]) 5 [0] rfl (Y.gtr rfl rfl) (Gd.at 2 true 42 (decide (S2 > (0 : Int))) rfl rfl rfl (beq_tt H29)) rfl rfl (by kernel_rfl) (by kernel_rfl) (by kernel_rfl) rfl rfl ?_
                refine TA.y (listed' := #[true, true, true, true, true, true, true, false, false, false, false, false, false, false, false, false, false, false, false, false, false, false, false, false, false, false, false, false, false]) 6 [0] rfl (Y.pick_t H29 rfl rfl) rfl rfl rfl (by kernel_rfl) (by kernel_rfl) (by kernel_rfl) rfl rfl ?_
                refine TA.y (listed' := #[true, true, true, true, true, true, true, true, false, false, false, false, false, false, false, false, false, false, false, false, false, false, false, false, false, false, false, false, false]) 7 [0] rfl (Y.move rfl) rfl rfl rfl (by kernel_rfl) (by kernel_rfl) (by kernel_rfl) rfl rfl ?_
                refine TA.ite (b := decide (E7.Level > (0 : Int))) (fun H30 => ?_) (fun H30 => ?_)
                · refine TA.y (listed' := #[true, true, true, true, true, true, true, true, true, false, false, false, false, false, false, false, false, false, false, false, false, false, false, false, false, false, false, false, false]) 8 [0] rfl (Y.move rfl) (Gd.at 7 true 47 (decide (E7.Level > (0 : Int))) rfl rfl rfl (beq_tt H30)) rfl rfl (by kernel_rfl) (by kernel_rfl) (by kernel_rfl) rfl rfl ?_
                  refine TA.y (listed' := #[true, true, true, true, true, true, true, true, true, true, false, false, false, false, false, false, false, false, false, false, false, false, false, false, false, false, false, false, false]) 9 [0] rfl (Y.move rfl) (Gd.at 7 true 47 (decide (E7.Level > (0 : Int))) rfl rfl rfl (beq_tt H30)) rfl rfl (by kernel_rfl) (by kernel_rfl) (by kernel_rfl) rfl rfl ?_
                  refine TA.y (listed' := #[true, true, true, true, true, true, true, true, true, true, true, false, false, false, false, false, false, false, false, false, false, false, false, false, false, false, false, false, false]) 10 [0] rfl (Y.sub rfl rfl) (Gd.at 7 true 47 (decide (E7.Level > (0 : Int))) rfl rfl rfl (beq_tt H30)) rfl rfl (by kernel_rfl) (by kernel_rfl) (by kernel_rfl) rfl rfl ?_
                  refine TA.bind fun E31 H32 => ?_
                  refine TA.y (listed' := #[true, true, true, true, true, true, true, true, true, true, true, true, false, false, false, false, false, false, false, false, false, false, false, false, false, false, false, false, false]) 11 [0] rfl (Y.index ke26 (Base.can HB_V_l0) H32 rfl rfl) (Gd.at 7 true 47 (decide (E7.Level > (0 : Int))) rfl rfl rfl (beq_tt H30)) rfl rfl (by kernel_rfl) (by kernel_rfl) (by kernel_rfl) rfl rfl ?_
                  refine TA.y (listed' := #[true, true, true, true, true, true, true, true, true, true, true, true, true, false, false, false, false, false, false, false, false, false, false, false, false, false, false, false, false]) 12 [0] rfl (Y.field_el kf77_1 (Base.can HB_V_l0) (idx_get H32).2.2 rfl rfl) (Gd.at 7 true 47 (decide (E7.Level > (0 : Int))) rfl rfl rfl (beq_tt H30)) rfl rfl (by kernel_rfl) (by kernel_rfl) (by kernel_rfl) rfl rfl ?_
                  refine TA.y (listed' := #[true, true, true, true, true, true, true, true, true, true, true, true, true, true, false, false, false, false, false, false, false, false, false, false, false, false, false, false, false]) 13 [0] rfl (Y.load_el (us := [.int .i64 E31.Level]) (u := .int .i64 E31.Level) kk3 rfl (Base.can HB_V_l0) (idx_get H32).2.2 rfl rfl rfl rfl rfl) (Gd.at 7 true 47 (decide (E7.Level > (0 : Int))) rfl rfl rfl (beq_tt H30)) rfl rfl (by kernel_rfl) (by kernel_rfl) (by kernel_rfl) rfl rfl ?_
                  refine TA.y (listed' := #[true, true, true, true, true, true, true, true, true, true, true, true, true, true, true, false, false, false, false, false, false, false, false, false, false, false, false, false, false]) 14 [0] rfl (Y.field_box kf77_1 rfl rfl) (Gd.at 7 true 47 (decide (E7.Level > (0 : Int))) rfl rfl rfl (beq_tt H30)) rfl rfl (by kernel_rfl) (by kernel_rfl) (by kernel_rfl) rfl rfl ?_
                  refine TA.y (listed' := #[true, true, true, true, true, true, true, true, true, true, true, true, true, true, true, true, false, false, false, false, false, false, false, false, false, false, false, false, false]) 15 [0] rfl (Y.load_box (v := .int .i64 E7.Level) 0 kk3 rfl rfl rfl) (Gd.at 7 true 47 (decide (E7.Level > (0 : Int))) rfl rfl rfl (beq_tt H30)) rfl rfl (by kernel_rfl) (by kernel_rfl) (by kernel_rfl) rfl rfl ?_
                  refine TA.y (listed' := #[true, true, true, true, true, true, true, true, true, true, true, true, true, true, true, true, true, false, false, false, false, false, false, false, false, false, false, false, false]) 16 [0] rfl (Y.eql rfl rfl) (Gd.at 7 true 47 (decide (E7.Level > (0 : Int))) rfl rfl rfl (beq_tt H30)) rfl rfl (by kernel_rfl) (by kernel_rfl) (by kernel_rfl) rfl rfl ?_
                  refine TA.y (listed' := #[true, true, true, true, true, true, true, true, true, true, true, true, true, true, true, true, true, true, false, false, false, false, false, false, false, false, false, false, false]) 17 [0] rfl (Y.pick_t H30 rfl rfl) rfl rfl rfl (by kernel_rfl) (by kernel_rfl) (by kernel_rfl) rfl rfl ?_
                  refine TA.y (listed' := #[true, true, true, true, true, true, true, true, true, true, true, true, true, true, true, true, true, true, true, false, false, false, false, false, false, false, false, false, false]) 18 [0] rfl (Y.move rfl) rfl rfl rfl (by kernel_rfl) (by kernel_rfl) (by kernel_rfl) rfl rfl ?_
                  refine TA.ite (b := decide (E31.Level = E7.Level)) (fun H33 => ?_) (fun H33 => ?_)
                  · refine TA.y (listed' := #[true, true, true, true, true, true, true, true, true, true, true, true, true, true, true, true, true, true, true, true, false, false, false, false, false, false, false, false, false]) 19 [0] rfl (Y.field_box kf77_2 rfl rfl) (Gd.at 18 true 58 (decide (E31.Level = E7.Level)) rfl rfl rfl (beq_tt H33)) rfl rfl (by kernel_rfl) (by kernel_rfl) (by kernel_rfl) rfl rfl ?_
                    refine TA.y (listed' := #[true, true, true, true, true, true, true, true, true, true, true, true, true, true, true, true, true, true, true, true, true, false, false, false, false, false, false, false, false]) 20 [0] rfl (Y.load_box (v := strV E7.Lo) 0 kk9 rfl rfl rfl) (Gd.at 18 true 58 (decide (E31.Level = E7.Level)) rfl rfl rfl (beq_tt H33)) rfl rfl (by kernel_rfl) (by kernel_rfl) (by kernel_rfl) rfl rfl ?_
                    refine TA.y (listed' := #[true, true, true, true, true, true, true, true, true, true, true, true, true, true, true, true, true, true, true, true, true, true, false, false, false, false, false, false, false]) 21 [0] rfl (Y.move rfl) (Gd.at 18 true 58 (decide (E31.Level = E7.Level)) rfl rfl rfl (beq_tt H33)) rfl rfl (by kernel_rfl) (by kernel_rfl) (by kernel_rfl) rfl rfl ?_
                    refine TA.y (listed' := #[true, true, true, true, true, true, true, true, true, true, true, true, true, true, true, true, true, true, true, true, true, true, true, false, false, false, false, false, false]) 22 [0] rfl (Y.move rfl) (Gd.at 18 true 58 (decide (E31.Level = E7.Level)) rfl rfl rfl (beq_tt H33)) rfl rfl (by kernel_rfl) (by kernel_rfl) (by kernel_rfl) rfl rfl ?_
                    refine TA.y (listed' := #[true, true, true, true, true, true, true, true, true, true, true, true, true, true, true, true, true, true, true, true, true, true, true, true, false, false, false, false, false]) 23 [0] rfl (Y.sub rfl rfl) (Gd.at 18 true 58 (decide (E31.Level = E7.Level)) rfl rfl rfl (beq_tt H33)) rfl rfl (by kernel_rfl) (by kernel_rfl) (by kernel_rfl) rfl rfl ?_
                    refine TA.y (listed' := #[true, true, true, true, true, true, true, true, true, true, true, true, true, true, true, true, true, true, true, true, true, true, true, true, true, false, false, false, false]) 24 [0] rfl (Y.index ke26 (Base.can HB_V_l0) H32 rfl rfl) (Gd.at 18 true 58 (decide (E31.Level = E7.Level)) rfl rfl rfl (beq_tt H33)) rfl rfl (by kernel_rfl) (by kernel_rfl) (by kernel_rfl) rfl rfl ?_
                    refine TA.y (listed' := #[true, true, true, true, true, true, true, true, true, true, true, true, true, true, true, true, true, true, true, true, true, true, true, true, true, true, false, false, false]) 25 [0] rfl (Y.field_el kf77_3 (Base.can HB_V_l0) (idx_get H32).2.2 rfl rfl) (Gd.at 18 true 58 (decide (E31.Level = E7.Level)) rfl rfl rfl (beq_tt H33)) rfl rfl (by kernel_rfl) (by kernel_rfl) (by kernel_rfl) rfl rfl ?_
                    refine TA.y (listed' := #[true, true, true, true, true, true, true, true, true, true, true, true, true, true, true, true, true, true, true, true, true, true, true, true, true, true, true, false, false]) 26 [0] rfl (Y.load_el (us := [strV E31.Hi]) (u := strV E31.Hi) kk9 rfl (Base.can HB_V_l0) (idx_get H32).2.2 rfl rfl rfl rfl rfl) (Gd.at 18 true 58 (decide (E31.Level = E7.Level)) rfl rfl rfl (beq_tt H33)) rfl rfl (by kernel_rfl) (by kernel_rfl) (by kernel_rfl) rfl rfl ?_
                    refine TA.y (listed' := #[true, true, true, true, true, true, true, true, true, true, true, true, true, true, true, true, true, true, true, true, true, true, true, true, true, true, true, true, false]) 27 [0] rfl (Y.sleq rfl rfl) (Gd.at 18 true 58 (decide (E31.Level = E7.Level)) rfl rfl rfl (beq_tt H33)) rfl rfl (by kernel_rfl) (by kernel_rfl) (by kernel_rfl) rfl rfl ?_
                    refine TA.y (listed' := #[true, true, true, true, true, true, true, true, true, true, true, true, true, true, true, true, true, true, true, true, true, true, true, true, true, true, true, true, true]) 28 [0] rfl (Y.pick_t H33 rfl rfl) rfl rfl rfl (by kernel_rfl) (by kernel_rfl) (by kernel_rfl) rfl rfl ?_
                    refine TA.nil (by kernel_rfl) ?_
                    exact TE.jb_go () [] ⟨rfl, rfl, rfl, rfl, rfl, trivial⟩ rfl
                  · refine TA.off (listed' := #[true, true, true, true, true, true, true, true, true, true, true, true, true, true, true, true, true, true, true, true, false, false, false, false, false, false, false, false, false]) 19 [0] rfl (Gd.at 18 true 58 (decide (E31.Level = E7.Level)) rfl rfl rfl (beq_ft H33)) rfl rfl (by kernel_rfl) (by kernel_rfl) (by kernel_rfl) rfl rfl ?_
                    refine TA.off (listed' := #[true, true, true, true, true, true, true, true, true, true, true, true, true, true, true, true, true, true, true, true, true, false, false, false, false, false, false, false, false]) 20 [0] rfl (Gd.at 18 true 58 (decide (E31.Level = E7.Level)) rfl rfl rfl (beq_ft H33)) rfl rfl (by kernel_rfl) (by kernel_rfl) (by kernel_rfl) rfl rfl ?_
                    refine TA.off (listed' := #[true, true, true, true, true, true, true, true, true, true, true, true, true, true, true, true, true, true, true, true, true, true, false, false, false, false, false, false, false]) 21 [0] rfl (Gd.at 18 true 58 (decide (E31.Level = E7.Level)) rfl rfl rfl (beq_ft H33)) rfl rfl (by kernel_rfl) (by kernel_rfl) (by kernel_rfl) rfl rfl ?_
                    refine TA.off (listed' := #[true, true, true, true, true, true, true, true, true, true, true, true, true, true, true, true, true, true, true, true, true, true, true, false, false, false, false, false, false]) 22 [0] rfl (Gd.at 18 true 58 (decide (E31.Level = E7.Level)) rfl rfl rfl (beq_ft H33)) rfl rfl (by kernel_rfl) (by kernel_rfl) (by kernel_rfl) rfl rfl ?_
                    refine TA.off (listed' := #[true, true, true, true, true, true, true, true, true, true, true, true, true, true, true, true, true, true, true, true, true, true, true, true, false, false, false, false, false]) 23 [0] rfl (Gd.at 18 true 58 (decide (E31.Level = E7.Level)) rfl rfl rfl (beq_ft H33)) rfl rfl (by kernel_rfl) (by kernel_rfl) (by kernel_rfl) rfl rfl ?_
                    refine TA.off (listed' := #[true, true, true, true, true, true, true, true, true, true, true, true, true, true, true, true, true, true, true, true, true, true, true, true, true, false, false, false, false]) 24 [0] rfl (Gd.at 18 true 58 (decide (E31.Level = E7.Level)) rfl rfl rfl (beq_ft H33)) rfl rfl (by kernel_rfl) (by kernel_rfl) (by kernel_rfl) rfl rfl ?_
                    refine TA.off (listed' := #[true, true, true, true, true, true, true, true, true, true, true, true, true, true, true, true, true, true, true, true, true, true, true, true, true, true, false, false, false]) 25 [0] rfl (Gd.at 18 true 58 (decide (E31.Level = E7.Level)) rfl rfl rfl (beq_ft H33)) rfl rfl (by kernel_rfl) (by kernel_rfl) (by kernel_rfl) rfl rfl ?_
                    refine TA.off (listed' := #[true, true, true, true, true, true, true, true, true, true, true, true, true, true, true, true, true, true, true, true, true, true, true, true, true, true, true, false, false]) 26 [0] rfl (Gd.at 18 true 58 (decide (E31.Level = E7.Level)) rfl rfl rfl (beq_ft H33)) rfl rfl (by kernel_rfl) (by kernel_rfl) (by kernel_rfl) rfl rfl ?_
                    refine TA.off (listed' := #[true, true, true, true, true, true, true, true, true, true, true, true, true, true, true, true, true, true, true, true, true, true, true, true, true, true, true, true, false]) 27 [0] rfl (Gd.at 18 true 58 (decide (E31.Level = E7.Level)) rfl rfl rfl (beq_ft H33)) rfl rfl (by kernel_rfl) (by kernel_rfl) (by kernel_rfl) rfl rfl ?_
                    refine TA.y (listed' := #[true, true, true, true, true, true, true, true, true, true, true, true, true, true, true, true, true, true, true, true, true, true, true, true, true, true, true, true, true]) 28 [0] rfl (Y.pick_f H33 rfl rfl) rfl rfl rfl (by kernel_rfl) (by kernel_rfl) (by kernel_rfl) rfl rfl ?_
                    refine TA.nil (by kernel_rfl) ?_
                    exact TE.jb_go () [] ⟨rfl, rfl, rfl, rfl, rfl, trivial⟩ rfl
                · refine TA.off (listed' := #[true, true, true, true, true, true, true, true, true, false, false, false, false, false, false, false, false, false, false, false, false, false, false, false, false, false, false, false, false]) 8 [0] rfl (Gd.at 7 true 47 (decide (E7.Level > (0 : Int))) rfl rfl rfl (beq_ft H30)) rfl rfl (by kernel_rfl) (by kernel_rfl) (by kernel_rfl) rfl rfl ?_
                  refine TA.off (listed' := #[true, true, true, true, true, true, true, true, true, true, false, false, false, false, false, false, false, false, false, false, false, false, false, false, false, false, false, false, false]) 9 [0] rfl (Gd.at 7 true 47 (decide (E7.Level > (0 : Int))) rfl rfl rfl (beq_ft H30)) rfl rfl (by kernel_rfl) (by kernel_rfl) (by kernel_rfl) rfl rfl ?_
                  refine TA.off (listed' := #[true, true, true, true, true, true, true, true, true, true, true, false, false, false, false, false, false, false, false, false, false, false, false, false, false, false, false, false, false]) 10 [0] rfl (Gd.at 7 true 47 (decide (E7.Level > (0 : Int))) rfl rfl rfl (beq_ft H30)) rfl rfl (by kernel_rfl) (by kernel_rfl) (by kernel_rfl) rfl rfl ?_
                  refine TA.off (listed' := #[true, true, true, true, true, true, true, true, true, true, true, true, false, false, false, false, false, false, false, false, false, false, false, false, false, false, false, false, false]) 11 [0] rfl (Gd.at 7 true 47 (decide (E7.Level > (0 : Int))) rfl rfl rfl (beq_ft H30)) rfl rfl (by kernel_rfl) (by kernel_rfl) (by kernel_rfl) rfl rfl ?_
                  refine TA.off (listed' := #[true, true, true, true, true, true, true, true, true, true, true, true, true, false, false, false, false, false, false, false, false, false, false, false, false, false, false, false, false]) 12 [0] rfl (Gd.at 7 true 47 (decide (E7.Level > (0 : Int))) rfl rfl rfl (beq_ft H30)) rfl rfl (by kernel_rfl) (by kernel_rfl) (by kernel_rfl) rfl rfl ?_
                  refine TA.off (listed' := #[true, true, true, true, true, true, true, true, true, true, true, true, true, true, false, false, false, false, false, false, false, false, false, false, false, false, false, false, false]) 13 [0] rfl (Gd.at 7 true 47 (decide (E7.Level > (0 : Int))) rfl rfl rfl (beq_ft H30)) rfl rfl (by kernel_rfl) (by kernel_rfl) (by kernel_rfl) rfl rfl ?_
                  refine TA.off (listed' := #[true, true, true, true, true, true, true, true, true, true, true, true, true, true, true, false, false, false, false, false, false, false, false, false, false, false, false, false, false]) 14 [0] rfl (Gd.at 7 true 47 (decide (E7.Level > (0 : Int))) rfl rfl rfl (beq_ft H30)) rfl rfl (by kernel_rfl) (by kernel_rfl) (by kernel_rfl) rfl rfl ?_
                  refine TA.off (listed' := #[true, true, true, true, true, true, true, true, true, true, true, true, true, true, true, true, false, false, false, false, false, false, false, false, false, false, false, false, false]) 15 [0] rfl (Gd.at 7 true 47 (decide (E7.Level > (0 : Int))) rfl rfl rfl (beq_ft H30)) rfl rfl (by kernel_rfl) (by kernel_rfl) (by kernel_rfl) rfl rfl ?_
                  refine TA.off (listed' := #[true, true, true, true, true, true, true, true, true, true, true, true, true, true, true, true, true, false, false, false, false, false, false, false, false, false, false, false, false]) 16 [0] rfl (Gd.at 7 true 47 (decide (E7.Level > (0 : Int))) rfl rfl rfl (beq_ft H30)) rfl rfl (by kernel_rfl) (by kernel_rfl) (by kernel_rfl) rfl rfl ?_
                  refine TA.y (listed' := #[true, true, true, true, true, true, true, true, true, true, true, true, true, true, true, true, true, true, false, false, false, false, false, false, false, false, false, false, false]) 17 [0] rfl (Y.pick_f H30 rfl rfl) rfl rfl rfl (by kernel_rfl) (by kernel_rfl) (by kernel_rfl) rfl rfl ?_
                  refine TA.y (listed' := #[true, true, true, true, true, true, true, true, true, true, true, true, true, true, true, true, true, true, true, false, false, false, false, false, false, false, false, false, false]) 18 [0] rfl (Y.move rfl) rfl rfl rfl (by kernel_rfl) (by kernel_rfl) (by kernel_rfl) rfl rfl ?_
                  refine TA.off (listed' := #[true, true, true, true, true, true, true, true, true, true, true, true, true, true, true, true, true, true, true, true, false, false, false, false, false, false, false, false, false]) 19 [0] rfl (Gd.at 18 true 58 false rfl rfl rfl rfl) rfl rfl (by kernel_rfl) (by kernel_rfl) (by kernel_rfl) rfl rfl ?_
                  refine TA.off (listed' := #[true, true, true, true, true, true, true, true, true, true, true, true, true, true, true, true, true, true, true, true, true, false, false, false, false, false, false, false, false]) 20 [0] rfl (Gd.at 18 true 58 false rfl rfl rfl rfl) rfl rfl (by kernel_rfl) (by kernel_rfl) (by kernel_rfl) rfl rfl ?_
                  refine TA.off (listed' := #[true, true, true, true, true, true, true, true, true, true, true, true, true, true, true, true, true, true, true, true, true, true, false, false, false, false, false, false, false]) 21 [0] rfl (Gd.at 18 true 58 false rfl rfl rfl rfl) rfl rfl (by kernel_rfl) (by kernel_rfl) (by kernel_rfl) rfl rfl ?_
                  refine TA.off (listed' := #[true, true, true, true, true, true, true, true, true, true, true, true, true, true, true, true, true, true, true, true, true, true, true, false, false, false, false, false, false]) 22 [0] rfl (Gd.at 18 true 58 false rfl rfl rfl rfl) rfl rfl (by kernel_rfl) (by kernel_rfl) (by kernel_rfl) rfl rfl ?_
                  refine TA.off (listed' := #[true, true, true, true, true, true, true, true, true, true, true, true, true, true, true, true, true, true, true, true, true, true, true, true, false, false, false, false, false]) 23 [0] rfl (Gd.at 18 true 58 false rfl rfl rfl rfl) rfl rfl (by kernel_rfl) (by kernel_rfl) (by kernel_rfl) rfl rfl ?_
                  refine TA.off (listed' := #[true, true, true, true, true, true, true, true, true, true, true, true, true, true, true, true, true, true, true, true, true, true, true, true, true, false, false, false, false]) 24 [0] rfl (Gd.at 18 true 58 false rfl rfl rfl rfl) rfl rfl (by kernel_rfl) (by kernel_rfl) (by kernel_rfl) rfl rfl ?_
                  refine TA.off (listed' := #[true, true, true, true, true, true, true, true, true, true, true, true, true, true, true, true, true, true, true, true, true, true, true, true, true, true, false, false, false]) 25 [0] rfl (Gd.at 18 true 58 false rfl rfl rfl rfl) rfl rfl (by kernel_rfl) (by kernel_rfl) (by kernel_rfl) rfl rfl ?_
                  refine TA.off (listed' := #[true, true, true, true, true, true, true, true, true, true, true, true, true, true, true, true, true, true, true, true, true, true, true, true, true, true, true, false, false]) 26 [0] rfl (Gd.at 18 true 58 false rfl rfl rfl rfl) rfl rfl (by kernel_rfl) (by kernel_rfl) (by kernel_rfl) rfl rfl ?_
                  refine TA.off (listed' := #[true, true, true, true, true, true, true, true, true, true, true, true, true, true, true, true, true, true, true, true, true, true, true, true, true, true, true, true, false]) 27 [0] rfl (Gd.at 18 true 58 false rfl rfl rfl rfl) rfl rfl (by kernel_rfl) (by kernel_rfl) (by kernel_rfl) rfl rfl ?_
                  refine TA.y (listed' := #[true, true, true, true, true, true, true, true, true, true, true, true, true, true, true, true, true, true, true, true, true, true, true, true, true, true, true, true, true]) 28 [0] rfl (Y.pick_f rfl rfl rfl) rfl rfl rfl (by kernel_rfl) (by kernel_rfl) (by kernel_rfl) rfl rfl ?_
                  refine TA.nil (by kernel_rfl) ?_
                  exact TE.jb_go () [] ⟨rfl, rfl, rfl, rfl, rfl, trivial⟩ rfl
              · refine TA.off (listed' := #[true, true, true, true, false, false, false, false, false, false, false, false, false, false, false, false, false, false, false, false, false, false, false, false, false, false, false, false, false]) 3 [0] rfl (Gd.at 2 true 42 (decide (S2 > (0 : Int))) rfl rfl rfl (beq_ft H29)) rfl rfl (by kernel_rfl) (by kernel_rfl) (by kernel_rfl) rfl rfl ?_
                refine TA.off (listed' := #[true, true, true, true, true, false, false, false, false, false, false, false, false, false, false, false, false, false, false, false, false, false, false, false, false, false, false, false, false]) 4 [0] rfl (Gd.at 2 true 42 (decide (S2 > (0 : Int))) rfl rfl rfl (beq_ft H29)) rfl rfl (by kernel_rfl) (by kernel_rfl) (by kernel_rfl) rfl rfl ?_
                refine TA.off (listed' := #[true, true, true, true, true, true, false, false, false, false, false, false, false, false, false, false, false, false, false, false, false, false, false, false, false, false, false, false, false]) 5 [0] rfl (Gd.at 2 true 42 (decide (S2 > (0 : Int))) rfl rfl rfl (beq_ft H29)) rfl rfl (by kernel_rfl) (by kernel_rfl) (by kernel_rfl) rfl rfl ?_
                refine TA.y (listed' := #[true, true, true, true, true, true, true, false, false, false, false, false, false, false, false, false, false, false, false, false, false, false, false, false, false, false, false, false, false]) 6 [0] rfl (Y.pick_f H29 rfl rfl) rfl rfl rfl (by kernel_rfl) (by kernel_rfl) (by kernel_rfl) rfl rfl ?_
                refine TA.y (listed' := #[true, true, true, true, true, true, true, true, false, false, false, false, false, false, false, false, false, false, false, false, false, false, false, false, false, false, false, false, false]) 7 [0] rfl (Y.move rfl) rfl rfl rfl (by kernel_rfl) (by kernel_rfl) (by kernel_rfl) rfl rfl ?_
                refine TA.off (listed' := #[true, true, true, true, true, true, true, true, true, false, false, false, false, false, false, false, false, false, false, false, false, false, false, false, false, false, false, false, false]) 8 [0] rfl (Gd.at 7 true 47 false rfl rfl rfl rfl) rfl rfl (by kernel_rfl) (by kernel_rfl) (by kernel_rfl) rfl rfl ?_
                refine TA.off (listed' := #[true, true, true, true, true, true, true, true, true, true, false, false, false, false, false, false, false, false, false, false, false, false, false, false, false, false, false, false, false]) 9 [0] rfl (Gd.at 7 true 47 false rfl rfl rfl rfl) rfl rfl (by kernel_rfl) (by kernel_rfl) (by kernel_rfl) rfl rfl ?_
                refine TA.off (listed' := #[true, true, true, true, true, true, true, true, true, true, true, false, false, false, false, false, false, false, false, false, false, false, false, false, false, false, false, false, false]) 10 [0] rfl (Gd.at 7 true 47 false rfl rfl rfl rfl) rfl rfl (by kernel_rfl) (by kernel_rfl) (by kernel_rfl) rfl rfl ?_
                refine TA.off (listed' := #[true, true, true, true, true, true, true, true, true, true, true, true, false, false, false, false, false, false, false, false, false, false, false, false, false, false, false, false, false]) 11 [0] rfl (Gd.at 7 true 47 false rfl rfl rfl rfl) rfl rfl (by kernel_rfl) (by kernel_rfl) (by kernel_rfl) rfl rfl ?_
                refine TA.off (listed' := #[true, true, true, true, true, true, true, true, true, true, true, true, true, false, false, false, false, false, false, false, false, false, false, false, false, false, false, false, false]) 12 [0] rfl (Gd.at 7 true 47 false rfl rfl rfl rfl) rfl rfl (by kernel_rfl) (by kernel_rfl) (by kernel_rfl) rfl rfl ?_
                refine TA.off (listed' := #[true, true, true, true, true, true, true, true, true, true, true, true, true, true, false, false, false, false, false, false, false, false, false, false, false, false, false, false, false]) 13 [0] rfl (Gd.at 7 true 47 false rfl rfl rfl rfl) rfl rfl (by kernel_rfl) (by kernel_rfl) (by kernel_rfl) rfl rfl ?_
                refine TA.off (listed' := #[true, true, true, true, true, true, true, true, true, true, true, true, true, true, true, false, false, false, false, false, false, false, false, false, false, false, false, false, false]) 14 [0] rfl (Gd.at 7 true 47 false rfl rfl rfl rfl) rfl rfl (by kernel_rfl) (by kernel_rfl) (by kernel_rfl) rfl rfl ?_
                refine TA.off (listed' := #[true, true, true, true, true, true, true, true, true, true, true, true, true, true, true, true, false, false, false, false, false, false, false, false, false, false, false, false, false]) 15 [0] rfl (Gd.at 7 true 47 false rfl rfl rfl rfl) rfl rfl (by kernel_rfl) (by kernel_rfl) (by kernel_rfl) rfl rfl ?_
                refine TA.off (listed' := #[true, true, true, true, true, true, true, true, true, true, true, true, true, true, true, true, true, false, false, false, false, false, false, false, false, false, false, false, false]) 16 [0] rfl (Gd.at 7 true 47 false rfl rfl rfl rfl) rfl rfl (by kernel_rfl) (by kernel_rfl) (by kernel_rfl) rfl rfl ?_
                refine TA.y (listed' := #[true, true, true, true, true, true, true, true, true, true, true, true, true, true, true, true, true, true, false, false, false, false, false, false, false, false, false, false, false]) 17 [0] rfl (Y.pick_f rfl rfl rfl) rfl rfl rfl (by kernel_rfl) (by kernel_rfl) (by kernel_rfl) rfl rfl ?_
                refine TA.y (listed' := #[true, true, true, true, true, true, true, true, true, true, true, true, true, true, true, true, true, true, true, false, false, false, false, false, false, false, false, false, false]) 18 [0] rfl (Y.move rfl) rfl rfl rfl (by kernel_rfl) (by kernel_rfl) (by kernel_rfl) rfl rfl ?_
                refine TA.off (listed' := #[true, true, true, true, true, true, true, true, true, true, true, true, true, true, true, true, true, true, true, true, false, false, false, false, false, false, false, false, false]) 19 [0] rfl (Gd.at 18 true 58 false rfl rfl rfl rfl) rfl rfl (by kernel_rfl) (by kernel_rfl) (by kernel_rfl) rfl rfl ?_
                refine TA.off (listed' := #[true, true, true, true, true, true, true, true, true, true, true, true, true, true, true, true, true, true, true, true, true, false, false, false, false, false, false, false, false]) 20 [0] rfl (Gd.at 18 true 58 false rfl rfl rfl rfl) rfl rfl (by kernel_rfl) (by kernel_rfl) (by kernel_rfl) rfl rfl ?_
                refine TA.off (listed' := #[true, true, true, true, true, true, true, true, true, true, true, true, true, true, true, true, true, true, true, true, true, true, false, false, false, false, false, false, false]) 21 [0] rfl (Gd.at 18 true 58 false rfl rfl rfl rfl) rfl rfl (by kernel_rfl) (by kernel_rfl) (by kernel_rfl) rfl rfl ?_
                refine TA.off (listed' := #[true, true, true, true, true, true, true, true, true, true, true, true, true, true, true, true, true, true, true, true, true, true, true, false, false, false, false, false, false]) 22 [0] rfl (Gd.at 18 true 58 false rfl rfl rfl rfl) rfl rfl (by kernel_rfl) (by kernel_rfl) (by kernel_rfl) rfl rfl ?_
                refine TA.off (listed' := #[true, true, true, true, true, true, true, true, true, true, true, true, true, true, true, true, true, true, true, true, true, true, true, true, false, false, false, false, false]) 23 [0] rfl (Gd.at 18 true 58 false rfl rfl rfl rfl) rfl rfl (by kernel_rfl) (by kernel_rfl) (by kernel_rfl) rfl rfl ?_
                refine TA.off (listed' := #[true, true, true, true, true, true, true, true, true, true, true, true, true, true, true, true, true, true, true, true, true, true, true, true, true, false, false, false, false]) 24 [0] rfl (Gd.at 18 true 58 false rfl rfl rfl rfl) rfl rfl (by kernel_rfl) (by kernel_rfl) (by kernel_rfl) rfl rfl ?_
                refine TA.off (listed' := #[true, true, true, true, true, true, true, true, true, true, true, true, true, true, true, true, true, true, true, true, true, true, true, true, true, true, false, false, false]) 25 [0] rfl (Gd.at 18 true 58 false rfl rfl rfl rfl) rfl rfl (by kernel_rfl) (by kernel_rfl) (by kernel_rfl) rfl rfl ?_
                refine TA.off (listed' := #[true, true, true, true, true, true, true, true, true, true, true, true, true, true, true, true, true, true, true, true, true, true, true, true, true, true, true, false, false]) 26 [0] rfl (Gd.at 18 true 58 false rfl rfl rfl rfl) rfl rfl (by kernel_rfl) (by kernel_rfl) (by kernel_rfl) rfl rfl ?_
                refine TA.off (listed' := #[true, true, true, true, true, true, true, true, true, true, true, true, true, true, true, true, true, true, true, true, true, true, true, true, true, true, true, true, false]) 27 [0] rfl (Gd.at 18 true 58 false rfl rfl rfl rfl) rfl rfl (by kernel_rfl) (by kernel_rfl) (by kernel_rfl) rfl rfl ?_
                refine TA.y (listed' := #[true, true, true, true, true, true, true, true, true, true, true, true, true, true, true, true, true, true, true, true, true, true, true, true, true, true, true, true, true]) 28 [0] rfl (Y.pick_f rfl rfl rfl) rfl rfl rfl (by kernel_rfl) (by kernel_rfl) (by kernel_rfl) rfl rfl ?_
                refine TA.nil (by kernel_rfl) ?_
                exact TE.jb_go () [] ⟨rfl, rfl, rfl, rfl, rfl, trivial⟩ rfl
            · refine TE.next ?_
              refine TW.cond rfl (fun H34 => ?_) (fun H34 => ?_)
              · refine TW.seq ?_
                refine TW.region ?_
                refine TO.y (Y.assign rfl) rfl rfl rfl ?_
                refine TO.nil ?_
                refine TE.next ?_
                refine TW.ret ?_
                refine TE.block_ret ?_
                refine TE.then_ret ?_
                refine TE.lp_ret ?_
                refine TE.block_ret ?_
                refine TE.jn_done ?_
                refine TE.then_ret ?_
                exact TE.leaf fun _ _ hf_ hs_ => ret_any (rs := [.tmp 2]) (vs := [.bool false]) (.inl rfl) rfl ⟨rfl, trivial⟩ hf_ hs_ ⟨(), rfl, hs_.pulls [] rfl⟩
              · refine TW.skip ?_
                refine TE.block_normal ?_
                refine TE.next ?_
                refine TW.region ?_
                refine TO.y (Y.add rfl rfl) rfl rfl rfl ?_
                refine TO.y (Y.move rfl) rfl rfl rfl ?_
                refine TO.nil ?_
                exact TE.lp_go () [] ⟨rfl, rfl, rfl, rfl, trivial⟩ rfl
      · refine TW.exit ?_
        refine TE.then_exit ?_
        refine TE.lp_exit ?_
        refine TE.block_exit ?_
        exact TE.jn_go () [] trivial rfl
    · refine TE.next ?_
      refine TW.seq ?_
      refine TW.region ?_
      refine TO.y (Y.assign rfl) rfl rfl rfl ?_
      refine TO.nil ?_
      refine TE.next ?_
      refine TW.ret ?_
      exact TE.leaf fun _ _ hf_ hs_ => ret_any (rs := [.tmp 2]) (vs := [.bool true]) (.inl rfl) rfl ⟨rfl, trivial⟩ hf_ hs_ ⟨(), rfl, hs_.pulls [] rfl⟩

/-- loop.example/g00950/impl.FilesAt -/
noncomputable def impl_FilesAt (l : List File) (key : List UInt8) : Option (List Int) :=
  (impl_FilesOk l).bind fun R1 =>
  if (!R1) = true then (some ([]))
  else (bindC (loopO (fun (S6 : Int × List Int) => if (decide (S6.1 < ((l.length : Nat) : Int))) = true then ((idx l S6.1).bind fun E11 =>
  (if (sLt E11.Lo key || decide (E11.Lo = key)) = true then (some (!(sLt E11.Hi key)))
  else (some false)).bind (fun (T14 : Bool) =>
  bindC (if T14 = true then ((app 8 S6.2 ([E11.No])).bind fun E22 =>
  some (.go E22))
  else (some (.go S6.2)))
  (fun (T17 : List Int) => some (.go (IntKind.i64.wrap (S6.1 + (1 : Int)), T17)))))
  else (some (.done (.go S6.2))))
  ((0 : Int), ([] : List Int)))
  (fun (T8 : List Int) => some T8))

theorem impl_FilesAt_con (l : List File) (key : List UInt8) (V_l0 : Value) (r : List Int) (hm : impl_FilesAt l key = some r) :
    Con Try.prog 12 [V_l0, strV key] [] [(V_l0, lc 77 l)] (fun X : Value => X) (fun X => [.own X (lc 3 r)]) := by
  refine Con.intro (args := [V_l0, strV key]) (n := 34) (val := fun _ (X : Value) => X) (post := fun r X => [.own X (lc 3 r)]) (m := impl_FilesAt l key) Try.func12 rfl rfl rfl hm ?_
  intro w S hrd
  have HB_V_l0 := hrd _ (.head _)
  clear hrd
  unfold impl_FilesAt
  refine TW.seq ?_
  refine TW.region ?_
  refine TO.y (Y.assign rfl) rfl rfl rfl ?_
  refine TO.nil ?_
  refine TE.next ?_
  refine TW.seq ?_
  refine TW.seq ?_
  refine TW.region ?_
  refine TO.y (Y.move rfl) rfl rfl rfl ?_
  refine TO.bind fun R1 H2 => ?_
  refine TO.ef (Ef.call (rest := []) [] (impl_FilesOk_con l V_l0 R1 H2) kc50 rfl rfl ⟨(Base.can HB_V_l0), trivial⟩) rfl rfl rfl (fun _ => ?_)
  refine TO.y (Y.not rfl) rfl rfl rfl ?_
  refine TO.nil ?_
  refine TE.next ?_
  refine TW.cond rfl (fun H4 => ?_) (fun H4 => ?_)
  · refine TW.seq ?_
    refine TW.region ?_
    refine TO.y (Y.assign rfl) rfl rfl rfl ?_
    refine TO.nil ?_
    refine TE.next ?_
    refine TW.ret ?_
    refine TE.then_ret ?_
    exact TE.leaf fun _ _ hf_ hs_ => ret_any (rs := [.tmp 4]) (vs := [.slice none 0 0]) (.inl rfl) rfl ⟨rfl, trivial⟩ hf_ hs_ ⟨(.slice none 0 0), rfl, (hs_.nilItem 3 1).pulls [0] rfl⟩
  · refine TW.skip ?_
    refine TE.next ?_
    refine TW.seq ?_
    refine TW.region ?_
    refine TO.y (Y.assign rfl) rfl rfl rfl ?_
    refine TO.nil ?_
    refine TE.next ?_
    refine TW.seq ?_
    refine TW.seq ?_
    refine TW.region ?_
    refine TO.y (Y.move rfl) rfl rfl rfl ?_
    refine TO.y (Y.len (l := l) ke26 (Base.can HB_V_l0) rfl) rfl rfl rfl ?_
    refine TO.y (Y.move rfl) rfl rfl rfl ?_
    refine TO.nil ?_
    refine TE.next ?_
    refine TW.joinX (τ := List Int) (X := Value) (fun _ X => [(5, X)]) (fun T X => [.own X (lc 3 T)]) ?_ (fun T8 X9 => ?_)
    · refine TW.block ?_
      refine TW.nilItem 3 1 ?_
      refine TW.loopX (σ := Int × List Int) (X := Value) (fun T X => [(1, strV key), (5, X), (11, V_l0), (12, .int .i64 ((l.length : Nat) : Int)), (13, .int .i64 T.1)]) (fun T X => [.own X (lc 3 T.2)]) (.slice none 0 0) [0] ⟨rfl, rfl, rfl, rfl, rfl, trivial⟩ rfl (fun S6 X7 => ?_)
      refine TW.seq ?_
      refine TW.region ?_
      refine TO.y (Y.lss rfl rfl) rfl rfl rfl ?_
      refine TO.nil ?_
      refine TE.next ?_
      refine TW.seq ?_
      refine TW.cond rfl (fun H10 => ?_) (fun H10 => ?_)
      · refine TW.skip ?_
        refine TE.next ?_
        refine TW.seq ?_
        refine TW.block ?_
        refine TW.seq ?_
        refine TW.region ?_
        refine TO.bind fun E11 H12 => ?_
        refine TO.y (Y.index ke26 (Base.can HB_V_l0) H12 rfl rfl) rfl rfl rfl ?_
        refine TO.y (Y.load_el (us := [.int .i64 E11.No, .int .i64 E11.Level, strV E11.Lo, strV E11.Hi]) (u := .agg #[.int .i64 E11.No, .int .i64 E11.Level, strV E11.Lo, strV E11.Hi]) kk77 rfl (Base.can HB_V_l0) (idx_get H12).2.2 rfl rfl rfl rfl rfl) rfl rfl rfl ?_
        refine TO.ef (Ef.alloc kz77 rfl) rfl rfl rfl (fun B13 => ?_)
        refine TO.ef0 (Ef.store_box (us := [.int .i64 E11.No, .int .i64 E11.Level, strV E11.Lo, strV E11.Hi]) (vs' := [.int .i64 E11.No, .int .i64 E11.Level, strV E11.Lo, strV E11.Hi]) (is' := [.box B13 77 [.int .i64 E11.No, .int .i64 E11.Level, strV E11.Lo, strV E11.Hi], .own X7 (lc 3 S6.2)]) 0 kk77 rfl rfl rfl (Cel.plain rfl rfl) rfl rfl rfl rfl) rfl rfl (fun _ => ?_)
        refine TO.nil ?_
        refine TE.next ?_
        refine TW.seq ?_
        refine TW.joinBX (τ := Bool) (X := Unit) (fun T _ => [(1, strV key), (5, X7), (7, .pointer (some ⟨B13, 0, none⟩)), (11, V_l0), (12, .int .i64 ((l.length : Nat) : Int)), (13, .int .i64 S6.1), (26, .bool T)]) (fun _ _ => [.box B13 77 [.int .i64 E11.No, .int .i64 E11.Level, strV E11.Lo, strV E11.Hi], .own X7 (lc 3 S6.2)]) ?_ (fun T14 X15 => ?_)
        · refine TW.region ?_
          refine TO.y (Y.field_box kf77_2 rfl rfl) rfl rfl rfl ?_
          refine TO.y (Y.load_box (v := strV E11.Lo) 0 kk9 rfl rfl rfl) rfl rfl rfl ?_
          refine TO.y (Y.move rfl) rfl rfl rfl ?_
          refine TO.y (Y.sleq rfl rfl) rfl rfl rfl ?_
          refine TO.y (Y.move rfl) rfl rfl rfl ?_
          refine TO.ite (b := (sLt E11.Lo key || decide (E11.Lo = key))) (fun H16 => ?_) (fun H16 => ?_)
          · refine TO.y (Y.field_box kf77_3 rfl rfl) (Gd.at 4 true 21 (sLt E11.Lo key || decide (E11.Lo = key)) rfl rfl rfl (beq_tt H16)) rfl rfl ?_
            refine TO.y (Y.load_box (v := strV E11.Hi) 0 kk9 rfl rfl rfl) (Gd.at 4 true 21 (sLt E11.Lo key || decide (E11.Lo = key)) rfl rfl rfl (beq_tt H16)) rfl rfl ?_
            refine TO.y (Y.move rfl) (Gd.at 4 true 21 (sLt E11.Lo key || decide (E11.Lo = key)) rfl rfl rfl (beq_tt H16)) rfl rfl ?_
            refine TO.y (Y.sgeq rfl rfl) (Gd.at 4 true 21 (sLt E11.Lo key || decide (E11.Lo = key)) rfl rfl rfl (beq_tt H16)) rfl rfl ?_
            refine TO.y (Y.pick_t H16 rfl rfl) rfl rfl rfl ?_
            refine TO.nil ?_
            exact TE.jb_go () [0, 0] ⟨rfl, rfl, rfl, rfl, rfl, rfl, rfl, trivial⟩ rfl
          · refine TO.off (Gd.at 4 true 21 (sLt E11.Lo key || decide (E11.Lo = key)) rfl rfl rfl (beq_ft H16)) rfl rfl ?_
            refine TO.off (Gd.at 4 true 21 (sLt E11.Lo key || decide (E11.Lo = key)) rfl rfl rfl (beq_ft H16)) rfl rfl ?_
            refine TO.off (Gd.at 4 true 21 (sLt E11.Lo key || decide (E11.Lo = key)) rfl rfl rfl (beq_ft H16)) rfl rfl ?_
            refine TO.off (Gd.at 4 true 21 (sLt E11.Lo key || decide (E11.Lo = key)) rfl rfl rfl (beq_ft H16)) rfl rfl ?_
            refine TO.y (Y.pick_f H16 rfl rfl) rfl rfl rfl ?_
            refine TO.nil ?_
            exact TE.jb_go () [0, 0] ⟨rfl, rfl, rfl, rfl, rfl, rfl, rfl, trivial⟩ rfl
        · refine TE.next ?_
          refine TW.joinX (τ := List Int) (X := Value) (fun _ X => [(1, strV key), (5, X), (11, V_l0), (12, .int .i64 ((l.length : Nat) : Int)), (13, .int .i64 S6.1)]) (fun T X => [.own X (lc 3 T)]) ?_ (fun T17 X18 => ?_)
          · refine TW.cond rfl (fun H19 => ?_) (fun H19 => ?_)
            · refine TW.region ?_
              refine TO.y (Y.move rfl) rfl rfl rfl ?_
              refine TO.y (Y.field_box kf77_0 rfl rfl) rfl rfl rfl ?_
              refine TO.y (Y.load_box (v := .int .i64 E11.No) 0 kk3 rfl rfl rfl) rfl rfl rfl ?_
              refine TO.ef (Ef.buildSlice (α := Int) (Vs := [.int .i64 E11.No]) [E11.No] ke24 kz3 rfl rfl rfl rfl rfl) rfl rfl rfl (fun B20 => ?_)
              refine TO.bind fun E22 H23 => ?_
              refine TO.ef (Ef.append (α := Int) (is' := [.own (.slice (some ⟨B20, 0, none⟩) 1 1) (lc 3 ([E11.No])), .box B13 77 [.int .i64 E11.No, .int .i64 E11.Level, strV E11.Lo, strV E11.Hi]]) [2, 0, 0] H23 ke24 kz3 rfl rfl rfl rfl rfl (Can.own 0 rfl)) rfl rfl rfl (fun V21 => ?_)
              refine TO.y (Y.assign rfl) rfl rfl rfl ?_
              refine TO.nil ?_
              exact TE.jn_go V21 [0] ⟨rfl, rfl, rfl, rfl, rfl, trivial⟩ rfl
            · refine TW.skip ?_
              exact TE.jn_go X7 [1] ⟨rfl, rfl, rfl, rfl, rfl, trivial⟩ rfl
          · refine TE.block_normal ?_
            refine TE.next ?_
            refine TW.region ?_
            refine TO.y (Y.add rfl rfl) rfl rfl rfl ?_
            refine TO.y (Y.move rfl) rfl rfl rfl ?_
            refine TO.nil ?_
            exact TE.lp_go X18 [0] ⟨rfl, rfl, rfl, rfl, rfl, trivial⟩ rfl
      · refine TW.exit ?_
        refine TE.then_exit ?_
        refine TE.lp_exit ?_
        refine TE.block_exit ?_
        exact TE.jn_go X7 [0] ⟨rfl, trivial⟩ rfl
    · refine TE.next ?_
      refine TW.seq ?_
      refine TW.region ?_
      refine TO.y (Y.move rfl) rfl rfl rfl ?_
      refine TO.y (Y.assign rfl) rfl rfl rfl ?_
      refine TO.nil ?_
      refine TE.next ?_
      refine TW.ret ?_
      exact TE.leaf fun _ _ hf_ hs_ => ret_any (rs := [.tmp 4]) (vs := [X9]) (.inl rfl) rfl ⟨rfl, trivial⟩ hf_ hs_ ⟨X9, rfl, hs_.pulls [0] rfl⟩

/-- loop.example/g00950/laws.eqIntS -/
noncomputable def laws_eqIntS (a : List Int) (b : List Int) : Option Bool :=
  if (!(decide (((a.length : Nat) : Int) = ((b.length : Nat) : Int)))) = true then (some false)
  else (bindC (loopO (fun (S2 : Int) => if (decide (S2 < ((a.length : Nat) : Int))) = true then ((idx a S2).bind fun E7 =>
  (idx b S2).bind fun E9 =>
  if (!(decide (E7 = E9))) = true then (some (.done (.done false)))
  else (some (.go (IntKind.i64.wrap (S2 + (1 : Int))))))
  else (some (.done (.go ()))))
  (0 : Int))
  (fun (T4 : Unit) => some true))

theorem laws_eqIntS_con (a : List Int) (b : List Int) (V_a0 : Value) (V_b0 : Value) (r : Bool) (hm : laws_eqIntS a b = some r) :
    Con Try.prog 13 [V_a0, V_b0] [] [(V_a0, lc 3 a), (V_b0, lc 3 b)] (fun _ : Unit => .bool r) (fun _ => []) := by
  refine Con.intro (args := [V_a0, V_b0]) (n := 26) (val := fun r (_ : Unit) => .bool r) (post := fun _ _ => []) (m := laws_eqIntS a b) Try.func13 rfl rfl rfl hm ?_
  intro w S hrd
  have HB_V_a0 := hrd _ (.head _)
  have HB_V_b0 := hrd _ (.tail _ (.head _))
  clear hrd
  unfold laws_eqIntS
  refine TW.seq ?_
  refine TW.region ?_
  refine TO.y (Y.assign rfl) rfl rfl rfl ?_
  refine TO.nil ?_
  refine TE.next ?_
  refine TW.seq ?_
  refine TW.seq ?_
  refine TW.region ?_
  refine TO.y (Y.move rfl) rfl rfl rfl ?_
  refine TO.y (Y.len (l := a) ke24 (Base.can HB_V_a0) rfl) rfl rfl rfl ?_
  refine TO.y (Y.move rfl) rfl rfl rfl ?_
  refine TO.y (Y.len (l := b) ke24 (Base.can HB_V_b0) rfl) rfl rfl rfl ?_
  refine TO.y (Y.neq rfl rfl) rfl rfl rfl ?_
  refine TO.nil ?_
  refine TE.next ?_
  refine TW.cond rfl (fun H1 => ?_) (fun H1 => ?_)
  · refine TW.seq ?_
    refine TW.region ?_
    refine TO.y (Y.assign rfl) rfl rfl rfl ?_
    refine TO.nil ?_
    refine TE.next ?_
    refine TW.ret ?_
    refine TE.then_ret ?_
    exact TE.leaf fun _ _ hf_ hs_ => ret_any (rs := [.tmp 4]) (vs := [.bool false]) (.inl rfl) rfl ⟨rfl, trivial⟩ hf_ hs_ ⟨(), rfl, hs_.pulls [] rfl⟩
  · refine TW.skip ?_
    refine TE.next ?_
    refine TW.seq ?_
    refine TW.seq ?_
    refine TW.region ?_
    refine TO.y (Y.assign rfl) rfl rfl rfl ?_
    refine TO.nil ?_
    refine TE.next ?_
    refine TW.joinX (τ := Unit) (X := Unit) (fun _ _ => []) (fun _ _ => []) ?_ (fun T4 X5 => ?_)
    · refine TW.block ?_
      refine TW.loopX (σ := Int) (X := Unit) (fun T _ => [(0, V_a0), (1, V_b0), (5, .int .i64 T)]) (fun _ _ => []) () [] ⟨rfl, rfl, rfl, trivial⟩ rfl (fun S2 X3 => ?_)
      refine TW.seq ?_
      refine TW.seq ?_
      refine TW.region ?_
      refine TO.y (Y.move rfl) rfl rfl rfl ?_
      refine TO.y (Y.move rfl) rfl rfl rfl ?_
      refine TO.y (Y.len (l := a) ke24 (Base.can HB_V_a0) rfl) rfl rfl rfl ?_
      refine TO.y (Y.lss rfl rfl) rfl rfl rfl ?_
      refine TO.nil ?_
      refine TE.next ?_
      refine TW.cond rfl (fun H6 => ?_) (fun H6 => ?_)
      · refine TW.skip ?_
        refine TE.next ?_
        refine TW.seq ?_
        refine TW.block ?_
        refine TW.seq ?_
        refine TW.draw (isH := []) hMix ?_
        refine TA.y (listed' := #[true, false, false, false, false, false, false, false, false]) 0 [] rfl (Y.move rfl) rfl rfl rfl (by kernel_rfl) (by kernel_rfl) (by kernel_rfl) rfl rfl ?_
        refine TA.y (listed' := #[true, true, false, false, false, false, false, false, false]) 1 [] rfl (Y.move rfl) rfl rfl rfl (by kernel_rfl) (by kernel_rfl) (by kernel_rfl) rfl rfl ?_
        refine TA.bind fun E7 H8 => ?_
        refine TA.y (listed' := #[true, true, true, false, false, false, false, false, false]) 2 [] rfl (Y.index ke24 (Base.can HB_V_a0) H8 rfl rfl) rfl rfl rfl (by kernel_rfl) (by kernel_rfl) (by kernel_rfl) rfl rfl ?_
        refine TA.y (listed' := #[true, true, true, true, false, false, false, false, false]) 3 [] rfl (Y.load_el (us := [.int .i64 E7]) (u := .int .i64 E7) kk3 rfl (Base.can HB_V_a0) (idx_get H8).2.2 rfl rfl rfl rfl rfl) rfl rfl rfl (by kernel_rfl) (by kernel_rfl) (by kernel_rfl) rfl rfl ?_
        refine TA.y (listed' := #[true, true, true, true, true, false, false, false, false]) 4 [] rfl (Y.move rfl) rfl rfl rfl (by kernel_rfl) (by kernel_rfl) (by kernel_rfl) rfl rfl ?_
        refine TA.y (listed' := #[true, true, true, true, true, true, false, false, false]) 5 [] rfl (Y.move rfl) rfl rfl rfl (by kernel_rfl) (by kernel_rfl) (by kernel_rfl) rfl rfl ?_
        refine TA.bind fun E9 H10 => ?_
        refine TA.y (listed' := #[true, true, true, true, true, true, true, false, false]) 6 [] rfl (Y.index ke24 (Base.can HB_V_b0) H10 rfl rfl) rfl rfl rfl (by kernel_rfl) (by kernel_rfl) (by kernel_rfl) rfl rfl ?_
        refine TA.y (listed' := #[true, true, true, true, true, true, true, true, false]) 7 [] rfl (Y.load_el (us := [.int .i64 E9]) (u := .int .i64 E9) kk3 rfl (Base.can HB_V_b0) (idx_get H10).2.2 rfl rfl rfl rfl rfl) rfl rfl rfl (by kernel_rfl) (by kernel_rfl) (by kernel_rfl) rfl rfl ?_
        refine TA.y (listed' := #[true, true, true, true, true, true, true, true, true]) 8 [] rfl (Y.neq rfl rfl) rfl rfl rfl (by kernel_rfl) (by kernel_rfl) (by kernel_rfl) rfl rfl ?_
        refine TA.nil (by kernel_rfl) ?_
        refine TE.next ?_
        refine TW.cond rfl (fun H11 => ?_) (fun H11 => ?_)
        · refine TW.seq ?_
          refine TW.region ?_
          refine TO.y (Y.assign rfl) rfl rfl rfl ?_
          refine TO.nil ?_
          refine TE.next ?_
          refine TW.ret ?_
          refine TE.block_ret ?_
          refine TE.then_ret ?_
          refine TE.lp_ret ?_
          refine TE.block_ret ?_
          refine TE.jn_done ?_
          refine TE.then_ret ?_
          exact TE.leaf fun _ _ hf_ hs_ => ret_any (rs := [.tmp 4]) (vs := [.bool false]) (.inl rfl) rfl ⟨rfl, trivial⟩ hf_ hs_ ⟨(), rfl, hs_.pulls [] rfl⟩
        · refine TW.skip ?_
          refine TE.block_normal ?_
          refine TE.next ?_
          refine TW.region ?_
          refine TO.y (Y.move rfl) rfl rfl rfl ?_
          refine TO.y (Y.add rfl rfl) rfl rfl rfl ?_
          refine TO.y (Y.assign rfl) rfl rfl rfl ?_
          refine TO.nil ?_
          exact TE.lp_go () [] ⟨rfl, rfl, rfl, trivial⟩ rfl
      · refine TW.exit ?_
        refine TE.then_exit ?_
        refine TE.lp_exit ?_
        refine TE.block_exit ?_
        exact TE.jn_go () [] trivial rfl
    · refine TE.next ?_
      refine TW.seq ?_
      refine TW.region ?_
      refine TO.y (Y.assign rfl) rfl rfl rfl ?_
      refine TO.nil ?_
      refine TE.next ?_
      refine TW.ret ?_
      exact TE.leaf fun _ _ hf_ hs_ => ret_any (rs := [.tmp 4]) (vs := [.bool true]) (.inl rfl) rfl ⟨rfl, trivial⟩ hf_ hs_ ⟨(), rfl, hs_.pulls [] rfl⟩

/-- loop.example/g00950/laws.eqFile -/
noncomputable def laws_eqFile (a : File) (b : File) : Option Bool :=
  if (!(decide (a.No = b.No))) = true then (some false)
  else (if (!(decide (a.Level = b.Level))) = true then (some false)
  else (if (!(decide (a.Lo = b.Lo))) = true then (some false)
  else (if (!(decide (a.Hi = b.Hi))) = true then (some false)
  else (some true))))

theorem laws_eqFile_con (a : File) (b : File)  (r : Bool) (hm : laws_eqFile a b = some r) :
    Con Try.prog 51 [.agg #[.int .i64 a.No, .int .i64 a.Level, strV a.Lo, strV a.Hi], .agg #[.int .i64 b.No, .int .i64 b.Level, strV b.Lo, strV b.Hi]] [] [] (fun _ : Unit => .bool r) (fun _ => []) := by
  refine Con.intro (args := [.agg #[.int .i64 a.No, .int .i64 a.Level, strV a.Lo, strV a.Hi], .agg #[.int .i64 b.No, .int .i64 b.Level, strV b.Lo, strV b.Hi]]) (n := 25) (val := fun r (_ : Unit) => .bool r) (post := fun _ _ => []) (m := laws_eqFile a b) Try.func51 rfl rfl rfl hm ?_
  intro w S _
  unfold laws_eqFile
  refine TW.seq ?_
  refine TW.region ?_
  refine TO.ef (Ef.box rfl (Cel.plain rfl rfl)) rfl rfl rfl (fun B1 => ?_)
  refine TO.ef (Ef.box rfl (Cel.plain rfl rfl)) rfl rfl rfl (fun B2 => ?_)
  refine TO.y (Y.assign rfl) rfl rfl rfl ?_
  refine TO.nil ?_
  refine TE.next ?_
  refine TW.seq ?_
  refine TW.seq ?_
  refine TW.region ?_
  refine TO.y (Y.field_box kf77_0 rfl rfl) rfl rfl rfl ?_
  refine TO.y (Y.load_box (v := .int .i64 a.No) 1 kk3 rfl rfl rfl) rfl rfl rfl ?_
  refine TO.y (Y.field_box kf77_0 rfl rfl) rfl rfl rfl ?_
  refine TO.y (Y.load_box (v := .int .i64 b.No) 0 kk3 rfl rfl rfl) rfl rfl rfl ?_
  refine TO.y (Y.neq rfl rfl) rfl rfl rfl ?_
  refine TO.nil ?_
  refine TE.next ?_
  refine TW.cond rfl (fun H3 => ?_) (fun H3 => ?_)
  · refine TW.seq ?_
    refine TW.region ?_
    refine TO.y (Y.assign rfl) rfl rfl rfl ?_
    refine TO.nil ?_
    refine TE.next ?_
    refine TW.ret ?_
    refine TE.then_ret ?_
    exact TE.leaf fun _ _ hf_ hs_ => ret_any (rs := [.tmp 4]) (vs := [.bool false]) (.inl rfl) rfl ⟨rfl, trivial⟩ hf_ hs_ ⟨(), rfl, hs_.pulls [] rfl⟩
  · refine TW.skip ?_
    refine TE.next ?_
    refine TW.seq ?_
    refine TW.seq ?_
    refine TW.region ?_
    refine TO.y (Y.field_box kf77_1 rfl rfl) rfl rfl rfl ?_
    refine TO.y (Y.load_box (v := .int .i64 a.Level) 1 kk3 rfl rfl rfl) rfl rfl rfl ?_
    refine TO.y (Y.field_box kf77_1 rfl rfl) rfl rfl rfl ?_
    refine TO.y (Y.load_box (v := .int .i64 b.Level) 0 kk3 rfl rfl rfl) rfl rfl rfl ?_
    refine TO.y (Y.neq rfl rfl) rfl rfl rfl ?_
    refine TO.nil ?_
    refine TE.next ?_
    refine TW.cond rfl (fun H4 => ?_) (fun H4 => ?_)
    · refine TW.seq ?_
      refine TW.region ?_
      refine TO.y (Y.assign rfl) rfl rfl rfl ?_
      refine TO.nil ?_
      refine TE.next ?_
      refine TW.ret ?_
      refine TE.then_ret ?_
      exact TE.leaf fun _ _ hf_ hs_ => ret_any (rs := [.tmp 4]) (vs := [.bool false]) (.inl rfl) rfl ⟨rfl, trivial⟩ hf_ hs_ ⟨(), rfl, hs_.pulls [] rfl⟩
    · refine TW.skip ?_
      refine TE.next ?_
      refine TW.seq ?_
      refine TW.seq ?_
      refine TW.region ?_
      refine TO.y (Y.field_box kf77_2 rfl rfl) rfl rfl rfl ?_
      refine TO.y (Y.load_box (v := strV a.Lo) 1 kk9 rfl rfl rfl) rfl rfl rfl ?_
      refine TO.y (Y.field_box kf77_2 rfl rfl) rfl rfl rfl ?_
      refine TO.y (Y.load_box (v := strV b.Lo) 0 kk9 rfl rfl rfl) rfl rfl rfl ?_
      refine TO.y (Y.sneq rfl rfl) rfl rfl rfl ?_
      refine TO.nil ?_
      refine TE.next ?_
      refine TW.cond rfl (fun H5 => ?_) (fun H5 => ?_)
      · refine TW.seq ?_
        refine TW.region ?_
        refine TO.y (Y.assign rfl) rfl rfl rfl ?_
        refine TO.nil ?_
        refine TE.next ?_
        refine TW.ret ?_
        refine TE.then_ret ?_
        exact TE.leaf fun _ _ hf_ hs_ => ret_any (rs := [.tmp 4]) (vs := [.bool false]) (.inl rfl) rfl ⟨rfl, trivial⟩ hf_ hs_ ⟨(), rfl, hs_.pulls [] rfl⟩
      · refine TW.skip ?_
        refine TE.next ?_
        refine TW.seq ?_
        refine TW.seq ?_
        refine TW.region ?_
        refine TO.y (Y.field_box kf77_3 rfl rfl) rfl rfl rfl ?_
        refine TO.y (Y.load_box (v := strV a.Hi) 1 kk9 rfl rfl rfl) rfl rfl rfl ?_
        refine TO.y (Y.field_box kf77_3 rfl rfl) rfl rfl rfl ?_
        refine TO.y (Y.load_box (v := strV b.Hi) 0 kk9 rfl rfl rfl) rfl rfl rfl ?_
        refine TO.y (Y.sneq rfl rfl) rfl rfl rfl ?_
        refine TO.nil ?_
        refine TE.next ?_
        refine TW.cond rfl (fun H6 => ?_) (fun H6 => ?_)
        · refine TW.seq ?_
          refine TW.region ?_
          refine TO.y (Y.assign rfl) rfl rfl rfl ?_
          refine TO.nil ?_
          refine TE.next ?_
          refine TW.ret ?_
          refine TE.then_ret ?_
          exact TE.leaf fun _ _ hf_ hs_ => ret_any (rs := [.tmp 4]) (vs := [.bool false]) (.inl rfl) rfl ⟨rfl, trivial⟩ hf_ hs_ ⟨(), rfl, hs_.pulls [] rfl⟩
        · refine TW.skip ?_
          refine TE.next ?_
          refine TW.seq ?_
          refine TW.region ?_
          refine TO.y (Y.assign rfl) rfl rfl rfl ?_
          refine TO.nil ?_
          refine TE.next ?_
          refine TW.ret ?_
          exact TE.leaf fun _ _ hf_ hs_ => ret_any (rs := [.tmp 4]) (vs := [.bool true]) (.inl rfl) rfl ⟨rfl, trivial⟩ hf_ hs_ ⟨(), rfl, hs_.pulls [] rfl⟩

/-- loop.example/g00950/laws.eqFileS -/
noncomputable def laws_eqFileS (a : List File) (b : List File) : Option Bool :=
  if (!(decide (((a.length : Nat) : Int) = ((b.length : Nat) : Int)))) = true then (some false)
  else (bindC (loopO (fun (S2 : Int) => if (decide (S2 < ((a.length : Nat) : Int))) = true then ((idx a S2).bind fun E7 =>
  (idx b S2).bind fun E9 =>
  (laws_eqFile E7 E9).bind fun R11 =>
  if (!R11) = true then (some (.done (.done false)))
  else (some (.go (IntKind.i64.wrap (S2 + (1 : Int))))))
  else (some (.done (.go ()))))
  (0 : Int))
  (fun (T4 : Unit) => some true))

theorem laws_eqFileS_con (a : List File) (b : List File) (V_a0 : Value) (V_b0 : Value) (r : Bool) (hm : laws_eqFileS a b = some r) :
    Con Try.prog 14 [V_a0, V_b0] [] [(V_a0, lc 77 a), (V_b0, lc 77 b)] (fun _ : Unit => .bool r) (fun _ => []) := by
  refine Con.intro (args := [V_a0, V_b0]) (n := 27) (val := fun r (_ : Unit) => .bool r) (post := fun _ _ => []) (m := laws_eqFileS a b) Try.func14 rfl rfl rfl hm ?_
  intro w S hrd
  have HB_V_a0 := hrd _ (.head _)
  have HB_V_b0 := hrd _ (.tail _ (.head _))
  clear hrd
  unfold laws_eqFileS
  refine TW.seq ?_
  refine TW.region ?_
  refine TO.y (Y.assign rfl) rfl rfl rfl ?_
  refine TO.nil ?_
  refine TE.next ?_
  refine TW.seq ?_
  refine TW.seq ?_
  refine TW.region ?_
  refine TO.y (Y.move rfl) rfl rfl rfl ?_
  refine TO.y (Y.len (l := a) ke26 (Base.can HB_V_a0) rfl) rfl rfl rfl ?_
  refine TO.y (Y.move rfl) rfl rfl rfl ?_
  refine TO.y (Y.len (l := b) ke26 (Base.can HB_V_b0) rfl) rfl rfl rfl ?_
  refine TO.y (Y.neq rfl rfl) rfl rfl rfl ?_
  refine TO.nil ?_
  refine TE.next ?_
  refine TW.cond rfl (fun H1 => ?_) (fun H1 => ?_)
  · refine TW.seq ?_
    refine TW.region ?_
    refine TO.y (Y.assign rfl) rfl rfl rfl ?_
    refine TO.nil ?_
    refine TE.next ?_
    refine TW.ret ?_
    refine TE.then_ret ?_
    exact TE.leaf fun _ _ hf_ hs_ => ret_any (rs := [.tmp 4]) (vs := [.bool false]) (.inl rfl) rfl ⟨rfl, trivial⟩ hf_ hs_ ⟨(), rfl, hs_.pulls [] rfl⟩
  · refine TW.skip ?_
    refine TE.next ?_
    refine TW.seq ?_
    refine TW.seq ?_
    refine TW.region ?_
    refine TO.y (Y.assign rfl) rfl rfl rfl ?_
    refine TO.nil ?_
    refine TE.next ?_
    refine TW.joinX (τ := Unit) (X := Unit) (fun _ _ => []) (fun _ _ => []) ?_ (fun T4 X5 => ?_)
    · refine TW.block ?_
      refine TW.loopX (σ := Int) (X := Unit) (fun T _ => [(0, V_a0), (1, V_b0), (5, .int .i64 T)]) (fun _ _ => []) () [] ⟨rfl, rfl, rfl, trivial⟩ rfl (fun S2 X3 => ?_)
      refine TW.seq ?_
      refine TW.seq ?_
      refine TW.region ?_
      refine TO.y (Y.move rfl) rfl rfl rfl ?_
      refine TO.y (Y.move rfl) rfl rfl rfl ?_
      refine TO.y (Y.len (l := a) ke26 (Base.can HB_V_a0) rfl) rfl rfl rfl ?_
      refine TO.y (Y.lss rfl rfl) rfl rfl rfl ?_
      refine TO.nil ?_
      refine TE.next ?_
      refine TW.cond rfl (fun H6 => ?_) (fun H6 => ?_)
      · refine TW.skip ?_
        refine TE.next ?_
        refine TW.seq ?_
        refine TW.block ?_
        refine TW.seq ?_
        refine TW.draw (isH := []) hMix ?_
        refine TA.y (listed' := #[true, false, false, false, false, false, false, false, false, false]) 0 [] rfl (Y.move rfl) rfl rfl rfl (by kernel_rfl) (by kernel_rfl) (by kernel_rfl) rfl rfl ?_
        refine TA.y (listed' := #[true, true, false, false, false, false, false, false, false, false]) 1 [] rfl (Y.move rfl) rfl rfl rfl (by kernel_rfl) (by kernel_rfl) (by kernel_rfl) rfl rfl ?_
        refine TA.bind fun E7 H8 => ?_
        refine TA.y (listed' := #[true, true, true, false, false, false, false, false, false, false]) 2 [] rfl (Y.index ke26 (Base.can HB_V_a0) H8 rfl rfl) rfl rfl rfl (by kernel_rfl) (by kernel_rfl) (by kernel_rfl) rfl rfl ?_
        refine TA.y (listed' := #[true, true, true, true, false, false, false, false, false, false]) 3 [] rfl (Y.load_el (us := [.int .i64 E7.No, .int .i64 E7.Level, strV E7.Lo, strV E7.Hi]) (u := .agg #[.int .i64 E7.No, .int .i64 E7.Level, strV E7.Lo, strV E7.Hi]) kk77 rfl (Base.can HB_V_a0) (idx_get H8).2.2 rfl rfl rfl rfl rfl) rfl rfl rfl (by kernel_rfl) (by kernel_rfl) (by kernel_rfl) rfl rfl ?_
        refine TA.y (listed' := #[true, true, true, true, true, false, false, false, false, false]) 4 [] rfl (Y.move rfl) rfl rfl rfl (by kernel_rfl) (by kernel_rfl) (by kernel_rfl) rfl rfl ?_
        refine TA.y (listed' := #[true, true, true, true, true, true, false, false, false, false]) 5 [] rfl (Y.move rfl) rfl rfl rfl (by kernel_rfl) (by kernel_rfl) (by kernel_rfl) rfl rfl ?_
        refine TA.bind fun E9 H10 => ?_
        refine TA.y (listed' := #[true, true, true, true, true, true, true, false, false, false]) 6 [] rfl (Y.index ke26 (Base.can HB_V_b0) H10 rfl rfl) rfl rfl rfl (by kernel_rfl) (by kernel_rfl) (by kernel_rfl) rfl rfl ?_
        refine TA.y (listed' := #[true, true, true, true, true, true, true, true, false, false]) 7 [] rfl (Y.load_el (us := [.int .i64 E9.No, .int .i64 E9.Level, strV E9.Lo, strV E9.Hi]) (u := .agg #[.int .i64 E9.No, .int .i64 E9.Level, strV E9.Lo, strV E9.Hi]) kk77 rfl (Base.can HB_V_b0) (idx_get H10).2.2 rfl rfl rfl rfl rfl) rfl rfl rfl (by kernel_rfl) (by kernel_rfl) (by kernel_rfl) rfl rfl ?_
        refine TA.bind fun R11 H12 => ?_
        refine TA.one 8 (by kernel_rfl) ?_
        refine TX.ef (listed' := #[true, true, true, true, true, true, true, true, true, false]) [] rfl (Ef.call (rest := []) [] (laws_eqFile_con E7 E9  R11 H12) kc51 rfl rfl trivial) rfl rfl rfl rfl (fun _ => rfl) (fun _ => ?_)
        refine TA.y (listed' := #[true, true, true, true, true, true, true, true, true, true]) 9 [] rfl (Y.not rfl) rfl rfl rfl (by kernel_rfl) (by kernel_rfl) (by kernel_rfl) rfl rfl ?_
        refine TA.nil (by kernel_rfl) ?_
        refine TE.next ?_
        refine TW.cond rfl (fun H14 => ?_) (fun H14 => ?_)
        · refine TW.seq ?_
          refine TW.region ?_
          refine TO.y (Y.assign rfl) rfl rfl rfl ?_
          refine TO.nil ?_
          refine TE.next ?_
          refine TW.ret ?_
          refine TE.block_ret ?_
          refine TE.then_ret ?_
          refine TE.lp_ret ?_
          refine TE.block_ret ?_
          refine TE.jn_done ?_
          refine TE.then_ret ?_
          exact TE.leaf fun _ _ hf_ hs_ => ret_any (rs := [.tmp 4]) (vs := [.bool false]) (.inl rfl) rfl ⟨rfl, trivial⟩ hf_ hs_ ⟨(), rfl, hs_.pulls [] rfl⟩
        · refine TW.skip ?_
          refine TE.block_normal ?_
          refine TE.next ?_
          refine TW.region ?_
          refine TO.y (Y.move rfl) rfl rfl rfl ?_
          refine TO.y (Y.add rfl rfl) rfl rfl rfl ?_
          refine TO.y (Y.assign rfl) rfl rfl rfl ?_
          refine TO.nil ?_
          exact TE.lp_go () [] ⟨rfl, rfl, rfl, trivial⟩ rfl
      · refine TW.exit ?_
        refine TE.then_exit ?_
        refine TE.lp_exit ?_
        refine TE.block_exit ?_
        exact TE.jn_go () [] trivial rfl
    · refine TE.next ?_
      refine TW.seq ?_
      refine TW.region ?_
      refine TO.y (Y.assign rfl) rfl rfl rfl ?_
      refine TO.nil ?_
      refine TE.next ?_
      refine TW.ret ?_
      exact TE.leaf fun _ _ hf_ hs_ => ret_any (rs := [.tmp 4]) (vs := [.bool true]) (.inl rfl) rfl ⟨rfl, trivial⟩ hf_ hs_ ⟨(), rfl, hs_.pulls [] rfl⟩

/-- loop.example/g00950/laws.markText -/
noncomputable def laws_markText (k : Int) : Option (List UInt8) :=
  if (decide (k ≤ (0 : Int))) = true then (some ([109, 48]))
  else (bindC (loopO (fun (S2 : Int × List UInt8) => if (decide (S2.1 > (0 : Int))) = true then ((cat ([toU8 (IntKind.i64.wrap ((48 : Int) + (Int.tmod S2.1 (10 : Int))))]) S2.2).bind fun E8 =>
  some (.go (IntKind.i64.wrap (Int.tdiv S2.1 (10 : Int)), E8)))
  else (some (.done (.go S2.2))))
  (k, []))
  (fun (T4 : List UInt8) => (cat ([109]) T4).bind fun E10 =>
  some E10))

theorem laws_markText_con (k : Int)  (r : List UInt8) (hm : laws_markText k = some r) :
    Con Try.prog 52 [.int .i64 k] [] [] (fun _ : Unit => strV r) (fun _ => []) := by
  refine Con.intro (args := [.int .i64 k]) (n := 20) (val := fun r (_ : Unit) => strV r) (post := fun _ _ => []) (m := laws_markText k) Try.func52 rfl rfl rfl hm ?_
  intro w S _
  unfold laws_markText
  refine TW.seq ?_
  refine TW.region ?_
  refine TO.y (Y.assign rfl) rfl rfl rfl ?_
  refine TO.nil ?_
  refine TE.next ?_
  refine TW.seq ?_
  refine TW.seq ?_
  refine TW.region ?_
  refine TO.y (Y.move rfl) rfl rfl rfl ?_
  refine TO.y (Y.leq rfl rfl) rfl rfl rfl ?_
  refine TO.nil ?_
  refine TE.next ?_
  refine TW.cond rfl (fun H1 => ?_) (fun H1 => ?_)
  · refine TW.seq ?_
    refine TW.region ?_
    refine TO.y (Y.assign rfl) rfl rfl rfl ?_
    refine TO.nil ?_
    refine TE.next ?_
    refine TW.ret ?_
    refine TE.then_ret ?_
    exact TE.leaf fun _ _ hf_ hs_ => ret_any (rs := [.tmp 2]) (vs := [strV ([109, 48])]) (.inl rfl) rfl ⟨rfl, trivial⟩ hf_ hs_ ⟨(), rfl, hs_.pulls [] rfl⟩
  · refine TW.skip ?_
    refine TE.next ?_
    refine TW.seq ?_
    refine TW.region ?_
    refine TO.y (Y.assign rfl) rfl rfl rfl ?_
    refine TO.nil ?_
    refine TE.next ?_
    refine TW.seq ?_
    refine TW.joinX (τ := List UInt8) (X := Unit) (fun T _ => [(3, strV T)]) (fun _ _ => []) ?_ (fun T4 X5 => ?_)
    · refine TW.block ?_
      refine TW.loopX (σ := Int × List UInt8) (X := Unit) (fun T _ => [(0, .int .i64 T.1), (3, strV T.2)]) (fun _ _ => []) () [] ⟨rfl, rfl, trivial⟩ rfl (fun S2 X3 => ?_)
      refine TW.seq ?_
      refine TW.seq ?_
      refine TW.region ?_
      refine TO.y (Y.move rfl) rfl rfl rfl ?_
      refine TO.y (Y.gtr rfl rfl) rfl rfl rfl ?_
      refine TO.nil ?_
      refine TE.next ?_
      refine TW.cond rfl (fun H6 => ?_) (fun H6 => ?_)
      · refine TW.skip ?_
        refine TE.next ?_
        refine TW.block ?_
        refine TW.seq ?_
        refine TW.region ?_
        refine TO.y (Y.move rfl) rfl rfl rfl ?_
        refine TO.y (Y.rem (by decide) rfl rfl) rfl rfl rfl ?_
        refine TO.y (Y.add rfl rfl) rfl rfl rfl ?_
        refine TO.y (Y.conv8 ki3 ki5 rfl) rfl rfl rfl ?_
        refine TO.ef (Ef.buildSlice (α := UInt8) (Vs := [.int .u8 (((toU8 (IntKind.i64.wrap ((48 : Int) + (Int.tmod S2.1 (10 : Int))))).toNat : Nat) : Int)]) [toU8 (IntKind.i64.wrap ((48 : Int) + (Int.tmod S2.1 (10 : Int))))] ke57 kz5 rfl rfl rfl rfl rfl) rfl rfl rfl (fun B7 => ?_)
        refine TO.y (Y.toStr ke57 ki5 ks9 (Can.own 0 rfl) rfl) rfl rfl rfl ?_
        refine TO.y (Y.move rfl) rfl rfl rfl ?_
        refine TO.bind fun E8 H9 => ?_
        refine TO.y (Y.cat H9 rfl rfl) rfl rfl rfl ?_
        refine TO.y (Y.assign rfl) rfl rfl rfl ?_
        refine TO.nil ?_
        refine TE.next ?_
        refine TW.region ?_
        refine TO.y (Y.move rfl) rfl rfl rfl ?_
        refine TO.y (Y.quo (by decide) rfl rfl) rfl rfl rfl ?_
        refine TO.y (Y.assign rfl) rfl rfl rfl ?_
        refine TO.nil ?_
        refine TE.block_normal ?_
        exact TE.lp_go () [] ⟨rfl, rfl, trivial⟩ rfl
      · refine TW.exit ?_
        refine TE.then_exit ?_
        refine TE.lp_exit ?_
        refine TE.block_exit ?_
        exact TE.jn_go () [] ⟨rfl, trivial⟩ rfl
    · refine TE.next ?_
      refine TW.seq ?_
      refine TW.region ?_
      refine TO.y (Y.move rfl) rfl rfl rfl ?_
      refine TO.bind fun E10 H11 => ?_
      refine TO.y (Y.cat H11 rfl rfl) rfl rfl rfl ?_
      refine TO.y (Y.assign rfl) rfl rfl rfl ?_
      refine TO.nil ?_
      refine TE.next ?_
      refine TW.ret ?_
      exact TE.leaf fun _ _ hf_ hs_ => ret_any (rs := [.tmp 2]) (vs := [strV E10]) (.inl rfl) rfl ⟨rfl, trivial⟩ hf_ hs_ ⟨(), rfl, hs_.pulls [] rfl⟩

/-- loop.example/g00950/laws.markFileS -/
noncomputable def laws_markFileS (a : List File) (k : Int) : Option (Int × List File) :=
  bindC (loopO (fun (S1 : Int × Int × List File) => if (decide (S1.2.1 < ((S1.2.2.length : Nat) : Int))) = true then ((idx S1.2.2 S1.2.1).bind fun E6 =>
  (laws_markText (IntKind.i64.wrap (IntKind.i64.wrap (S1.1 + (1 : Int)) + (1 : Int)))).bind fun R8 =>
  (laws_markText (IntKind.i64.wrap (IntKind.i64.wrap (IntKind.i64.wrap (S1.1 + (1 : Int)) + (1 : Int)) + (1 : Int)))).bind fun R11 =>
  some (.go (IntKind.i64.wrap (IntKind.i64.wrap (IntKind.i64.wrap (IntKind.i64.wrap (S1.1 + (1 : Int)) + (1 : Int)) + (1 : Int)) + (1 : Int)), IntKind.i64.wrap (S1.2.1 + (1 : Int)), (S1.2.2.set S1.2.1.toNat ({ No := S1.1, Level := (IntKind.i64.wrap (S1.1 + (1 : Int))), Lo := R8, Hi := R11 : File })))))
  else (some (.done (.go (S1.1, S1.2.2)))))
  (k, (0 : Int), a))
  (fun (T3 : Int × List File) => some (T3.1, T3.2))

theorem laws_markFileS_con (a : List File) (k : Int) (V_a0 : Value) (r : Int × List File) (hm : laws_markFileS a k = some r) :
    Con Try.prog 15 [V_a0, .int .i64 k] [.own V_a0 (lc 77 a)] [] (fun _ : Unit => .int .i64 r.1) (fun _ => [.own V_a0 (lc 77 r.2)]) := by
  refine Con.intro (args := [V_a0, .int .i64 k]) (n := 43) (val := fun r (_ : Unit) => .int .i64 r.1) (post := fun r _ => [.own V_a0 (lc 77 r.2)]) (m := laws_markFileS a k) Try.func15 rfl rfl rfl hm ?_
  intro w S _
  unfold laws_markFileS
  refine TW.seq ?_
  refine TW.region ?_
  refine TO.y (Y.assign rfl) rfl rfl rfl ?_
  refine TO.nil ?_
  refine TE.next ?_
  refine TW.seq ?_
  refine TW.seq ?_
  refine TW.region ?_
  refine TO.y (Y.assign rfl) rfl rfl rfl ?_
  refine TO.nil ?_
  refine TE.next ?_
  refine TW.joinX (τ := Int × List File) (X := Unit) (fun T _ => [(1, .int .i64 T.1)]) (fun T _ => [.own V_a0 (lc 77 T.2)]) ?_ (fun T3 X4 => ?_)
  · refine TW.block ?_
    refine TW.loopX (σ := Int × Int × List File) (X := Unit) (fun T _ => [(0, V_a0), (1, .int .i64 T.1), (5, .int .i64 T.2.1)]) (fun T _ => [.own V_a0 (lc 77 T.2.2)]) () [0] ⟨rfl, rfl, rfl, trivial⟩ rfl (fun S1 X2 => ?_)
    refine TW.seq ?_
    refine TW.seq ?_
    refine TW.region ?_
    refine TO.y (Y.move rfl) rfl rfl rfl ?_
    refine TO.y (Y.move rfl) rfl rfl rfl ?_
    refine TO.y (Y.len (l := S1.2.2) ke26 (Can.own 0 rfl) rfl) rfl rfl rfl ?_
    refine TO.y (Y.lss rfl rfl) rfl rfl rfl ?_
    refine TO.nil ?_
    refine TE.next ?_
    refine TW.cond rfl (fun H5 => ?_) (fun H5 => ?_)
    · refine TW.skip ?_
      refine TE.next ?_
      refine TW.seq ?_
      refine TW.block ?_
      refine TW.seq ?_
      refine TW.region ?_
      refine TO.y (Y.move rfl) rfl rfl rfl ?_
      refine TO.y (Y.move rfl) rfl rfl rfl ?_
      refine TO.y (Y.move rfl) rfl rfl rfl ?_
      refine TO.bind fun E6 H7 => ?_
      refine TO.y (Y.index ke26 (Can.own 0 rfl) H7 rfl rfl) rfl rfl rfl ?_
      refine TO.y (Y.field_el kf77_0 (Can.own 0 rfl) (idx_get H7).2.2 rfl rfl) rfl rfl rfl ?_
      refine TO.ef0 (Ef.store_el (us := [.int .i64 S1.1]) (is' := [.own V_a0 (lc 77 (S1.2.2.set S1.2.1.toNat ({ No := S1.1, Level := E6.Level, Lo := E6.Lo, Hi := E6.Hi : File })))]) ({ No := S1.1, Level := E6.Level, Lo := E6.Lo, Hi := E6.Hi : File }) 0 kk3 rfl rfl (idx_get H7).2.2 rfl rfl (Cel.plain rfl rfl) rfl rfl rfl rfl) rfl rfl (fun _ => ?_)
      refine TO.nil ?_
      refine TE.next ?_
      refine TW.seq ?_
      refine TW.region ?_
      refine TO.y (Y.move rfl) rfl rfl rfl ?_
      refine TO.y (Y.add rfl rfl) rfl rfl rfl ?_
      refine TO.y (Y.assign rfl) rfl rfl rfl ?_
      refine TO.nil ?_
      refine TE.next ?_
      refine TW.seq ?_
      refine TW.region ?_
      refine TO.y (Y.move rfl) rfl rfl rfl ?_
      refine TO.y (Y.move rfl) rfl rfl rfl ?_
      refine TO.y (Y.move rfl) rfl rfl rfl ?_
      refine TO.y (Y.index ke26 (Can.own 0 rfl) (idx_set H7) rfl rfl) rfl rfl rfl ?_
      refine TO.y (Y.field_el kf77_1 (Can.own 0 rfl) (idx_get (idx_set H7)).2.2 rfl rfl) rfl rfl rfl ?_
      refine TO.ef0 (Ef.store_el (us := [.int .i64 (IntKind.i64.wrap (S1.1 + (1 : Int)))]) (is' := [.own V_a0 (lc 77 (S1.2.2.set S1.2.1.toNat ({ No := S1.1, Level := IntKind.i64.wrap (S1.1 + (1 : Int)), Lo := E6.Lo, Hi := E6.Hi : File })))]) ({ No := S1.1, Level := IntKind.i64.wrap (S1.1 + (1 : Int)), Lo := E6.Lo, Hi := E6.Hi : File }) 0 kk3 rfl rfl (idx_get (idx_set H7)).2.2 rfl rfl (Cel.plain rfl rfl) rfl rfl rfl (by rw [List.set_set]; rfl)) rfl rfl (fun _ => ?_)
      refine TO.nil ?_
      refine TE.next ?_
      refine TW.seq ?_
      refine TW.region ?_
      refine TO.y (Y.move rfl) rfl rfl rfl ?_
      refine TO.y (Y.add rfl rfl) rfl rfl rfl ?_
      refine TO.y (Y.assign rfl) rfl rfl rfl ?_
      refine TO.nil ?_
      refine TE.next ?_
      refine TW.seq ?_
      refine TW.region ?_
      refine TO.y (Y.move rfl) rfl rfl rfl ?_
      refine TO.y (Y.move rfl) rfl rfl rfl ?_
      refine TO.y (Y.move rfl) rfl rfl rfl ?_
      refine TO.bind fun R8 H9 => ?_
      refine TO.ef (Ef.call (rest := [.own V_a0 (lc 77 (S1.2.2.set S1.2.1.toNat ({ No := S1.1, Level := IntKind.i64.wrap (S1.1 + (1 : Int)), Lo := E6.Lo, Hi := E6.Hi : File })))]) [0] (laws_markText_con (IntKind.i64.wrap (IntKind.i64.wrap (S1.1 + (1 : Int)) + (1 : Int)))  R8 H9) kc52 rfl rfl trivial) rfl rfl rfl (fun _ => ?_)
      refine TO.y (Y.index ke26 (Can.own 0 rfl) (idx_set H7) rfl rfl) rfl rfl rfl ?_
      refine TO.y (Y.field_el kf77_2 (Can.own 0 rfl) (idx_get (idx_set H7)).2.2 rfl rfl) rfl rfl rfl ?_
      refine TO.ef0 (Ef.store_el (us := [strV R8]) (is' := [.own V_a0 (lc 77 (S1.2.2.set S1.2.1.toNat ({ No := S1.1, Level := (IntKind.i64.wrap (S1.1 + (1 : Int))), Lo := R8, Hi := E6.Hi : File })))]) ({ No := S1.1, Level := (IntKind.i64.wrap (S1.1 + (1 : Int))), Lo := R8, Hi := E6.Hi : File }) 0 kk9 rfl rfl (idx_get (idx_set H7)).2.2 rfl rfl (Cel.plain rfl rfl) rfl rfl rfl (by rw [List.set_set]; rfl)) rfl rfl (fun _ => ?_)
      refine TO.nil ?_
      refine TE.next ?_
      refine TW.seq ?_
      refine TW.region ?_
      refine TO.y (Y.move rfl) rfl rfl rfl ?_
      refine TO.y (Y.add rfl rfl) rfl rfl rfl ?_
      refine TO.y (Y.assign rfl) rfl rfl rfl ?_
      refine TO.nil ?_
      refine TE.next ?_
      refine TW.seq ?_
      refine TW.region ?_
      refine TO.y (Y.move rfl) rfl rfl rfl ?_
      refine TO.y (Y.move rfl) rfl rfl rfl ?_
      refine TO.y (Y.move rfl) rfl rfl rfl ?_
      refine TO.bind fun R11 H12 => ?_
      refine TO.ef (Ef.call (rest := [.own V_a0 (lc 77 (S1.2.2.set S1.2.1.toNat ({ No := S1.1, Level := (IntKind.i64.wrap (S1.1 + (1 : Int))), Lo := R8, Hi := E6.Hi : File })))]) [0] (laws_markText_con (IntKind.i64.wrap (IntKind.i64.wrap (IntKind.i64.wrap (S1.1 + (1 : Int)) + (1 : Int)) + (1 : Int)))  R11 H12) kc52 rfl rfl trivial) rfl rfl rfl (fun _ => ?_)
      refine TO.y (Y.index ke26 (Can.own 0 rfl) (idx_set H7) rfl rfl) rfl rfl rfl ?_
      refine TO.y (Y.field_el kf77_3 (Can.own 0 rfl) (idx_get (idx_set H7)).2.2 rfl rfl) rfl rfl rfl ?_
      refine TO.ef0 (Ef.store_el (us := [strV R11]) (is' := [.own V_a0 (lc 77 (S1.2.2.set S1.2.1.toNat ({ No := S1.1, Level := (IntKind.i64.wrap (S1.1 + (1 : Int))), Lo := R8, Hi := R11 : File })))]) ({ No := S1.1, Level := (IntKind.i64.wrap (S1.1 + (1 : Int))), Lo := R8, Hi := R11 : File }) 0 kk9 rfl rfl (idx_get (idx_set H7)).2.2 rfl rfl (Cel.plain rfl rfl) rfl rfl rfl (by rw [List.set_set]; rfl)) rfl rfl (fun _ => ?_)
      refine TO.nil ?_
      refine TE.next ?_
      refine TW.region ?_
      refine TO.y (Y.move rfl) rfl rfl rfl ?_
      refine TO.y (Y.add rfl rfl) rfl rfl rfl ?_
      refine TO.y (Y.assign rfl) rfl rfl rfl ?_
      refine TO.nil ?_
      refine TE.block_normal ?_
      refine TE.next ?_
      refine TW.region ?_
      refine TO.y (Y.move rfl) rfl rfl rfl ?_
      refine TO.y (Y.add rfl rfl) rfl rfl rfl ?_
      refine TO.y (Y.assign rfl) rfl rfl rfl ?_
      refine TO.nil ?_
      exact TE.lp_go () [0] ⟨rfl, rfl, rfl, trivial⟩ rfl
    · refine TW.exit ?_
      refine TE.then_exit ?_
      refine TE.lp_exit ?_
      refine TE.block_exit ?_
      exact TE.jn_go () [0] ⟨rfl, trivial⟩ rfl
  · refine TE.next ?_
    refine TW.seq ?_
    refine TW.region ?_
    refine TO.y (Y.move rfl) rfl rfl rfl ?_
    refine TO.y (Y.assign rfl) rfl rfl rfl ?_
    refine TO.nil ?_
    refine TE.next ?_
    refine TW.ret ?_
    exact TE.leaf fun _ _ hf_ hs_ => ret_any (rs := [.tmp 4]) (vs := [.int .i64 T3.1]) (.inl rfl) rfl ⟨rfl, trivial⟩ hf_ hs_ ⟨(), rfl, hs_.pulls [0] rfl⟩

/-- loop.example/g00950/laws.markIntS -/
noncomputable def laws_markIntS (a : List Int) (k : Int) : Option (Int × List Int) :=
  bindC (loopO (fun (S1 : Int × Int × List Int) => if (decide (S1.2.1 < ((S1.2.2.length : Nat) : Int))) = true then ((idx S1.2.2 S1.2.1).bind fun E6 =>
  some (.go (IntKind.i64.wrap (S1.1 + (1 : Int)), IntKind.i64.wrap (S1.2.1 + (1 : Int)), (S1.2.2.set S1.2.1.toNat S1.1))))
  else (some (.done (.go (S1.1, S1.2.2)))))
  (k, (0 : Int), a))
  (fun (T3 : Int × List Int) => some (T3.1, T3.2))

theorem laws_markIntS_con (a : List Int) (k : Int) (V_a0 : Value) (r : Int × List Int) (hm : laws_markIntS a k = some r) :
    Con Try.prog 16 [V_a0, .int .i64 k] [.own V_a0 (lc 3 a)] [] (fun _ : Unit => .int .i64 r.1) (fun _ => [.own V_a0 (lc 3 r.2)]) := by
  refine Con.intro (args := [V_a0, .int .i64 k]) (n := 19) (val := fun r (_ : Unit) => .int .i64 r.1) (post := fun r _ => [.own V_a0 (lc 3 r.2)]) (m := laws_markIntS a k) Try.func16 rfl rfl rfl hm ?_
  intro w S _
  unfold laws_markIntS
  refine TW.seq ?_
  refine TW.region ?_
  refine TO.y (Y.assign rfl) rfl rfl rfl ?_
  refine TO.nil ?_
  refine TE.next ?_
  refine TW.seq ?_
  refine TW.seq ?_
  refine TW.region ?_
  refine TO.y (Y.assign rfl) rfl rfl rfl ?_
  refine TO.nil ?_
  refine TE.next ?_
  refine TW.joinX (τ := Int × List Int) (X := Unit) (fun T _ => [(1, .int .i64 T.1)]) (fun T _ => [.own V_a0 (lc 3 T.2)]) ?_ (fun T3 X4 => ?_)
  · refine TW.block ?_
    refine TW.loopX (σ := Int × Int × List Int) (X := Unit) (fun T _ => [(0, V_a0), (1, .int .i64 T.1), (5, .int .i64 T.2.1)]) (fun T _ => [.own V_a0 (lc 3 T.2.2)]) () [0] ⟨rfl, rfl, rfl, trivial⟩ rfl (fun S1 X2 => ?_)
    refine TW.seq ?_
    refine TW.seq ?_
    refine TW.region ?_
    refine TO.y (Y.move rfl) rfl rfl rfl ?_
    refine TO.y (Y.move rfl) rfl rfl rfl ?_
    refine TO.y (Y.len (l := S1.2.2) ke24 (Can.own 0 rfl) rfl) rfl rfl rfl ?_
    refine TO.y (Y.lss rfl rfl) rfl rfl rfl ?_
    refine TO.nil ?_
    refine TE.next ?_
    refine TW.cond rfl (fun H5 => ?_) (fun H5 => ?_)
    · refine TW.skip ?_
      refine TE.next ?_
      refine TW.seq ?_
      refine TW.block ?_
      refine TW.seq ?_
      refine TW.region ?_
      refine TO.y (Y.move rfl) rfl rfl rfl ?_
      refine TO.y (Y.move rfl) rfl rfl rfl ?_
      refine TO.y (Y.move rfl) rfl rfl rfl ?_
      refine TO.bind fun E6 H7 => ?_
      refine TO.y (Y.index ke24 (Can.own 0 rfl) H7 rfl rfl) rfl rfl rfl ?_
      refine TO.ef0 (Ef.store_el (us := [.int .i64 S1.1]) (is' := [.own V_a0 (lc 3 (S1.2.2.set S1.2.1.toNat S1.1))]) S1.1 0 kk3 rfl rfl (idx_get H7).2.2 rfl rfl (Cel.plain rfl rfl) rfl rfl rfl rfl) rfl rfl (fun _ => ?_)
      refine TO.nil ?_
      refine TE.next ?_
      refine TW.region ?_
      refine TO.y (Y.move rfl) rfl rfl rfl ?_
      refine TO.y (Y.add rfl rfl) rfl rfl rfl ?_
      refine TO.y (Y.assign rfl) rfl rfl rfl ?_
      refine TO.nil ?_
      refine TE.block_normal ?_
      refine TE.next ?_
      refine TW.region ?_
      refine TO.y (Y.move rfl) rfl rfl rfl ?_
      refine TO.y (Y.add rfl rfl) rfl rfl rfl ?_
      refine TO.y (Y.assign rfl) rfl rfl rfl ?_
      refine TO.nil ?_
      exact TE.lp_go () [0] ⟨rfl, rfl, rfl, trivial⟩ rfl
    · refine TW.exit ?_
      refine TE.then_exit ?_
      refine TE.lp_exit ?_
      refine TE.block_exit ?_
      exact TE.jn_go () [0] ⟨rfl, trivial⟩ rfl
  · refine TE.next ?_
    refine TW.seq ?_
    refine TW.region ?_
    refine TO.y (Y.move rfl) rfl rfl rfl ?_
    refine TO.y (Y.assign rfl) rfl rfl rfl ?_
    refine TO.nil ?_
    refine TE.next ?_
    refine TW.ret ?_
    exact TE.leaf fun _ _ hf_ hs_ => ret_any (rs := [.tmp 4]) (vs := [.int .i64 T3.1]) (.inl rfl) rfl ⟨rfl, trivial⟩ hf_ hs_ ⟨(), rfl, hs_.pulls [0] rfl⟩

/-- loop.example/g00950/laws.heldIntS -/
noncomputable def laws_heldIntS (a : List Int) (k : Int) : Option Int :=
  bindC (loopO (fun (S1 : Int × Int) => if (decide (S1.2 < ((a.length : Nat) : Int))) = true then ((idx a S1.2).bind fun E6 =>
  if (!(decide (E6 = S1.1))) = true then (some (.done (.done (-1 : Int))))
  else (some (.go (IntKind.i64.wrap (S1.1 + (1 : Int)), IntKind.i64.wrap (S1.2 + (1 : Int))))))
  else (some (.done (.go S1.1))))
  (k, (0 : Int)))
  (fun (T3 : Int) => some T3)

theorem laws_heldIntS_con (a : List Int) (k : Int) (V_a0 : Value) (r : Int) (hm : laws_heldIntS a k = some r) :
    Con Try.prog 17 [V_a0, .int .i64 k] [] [(V_a0, lc 3 a)] (fun _ : Unit => .int .i64 r) (fun _ => []) := by
  refine Con.intro (args := [V_a0, .int .i64 k]) (n := 21) (val := fun r (_ : Unit) => .int .i64 r) (post := fun _ _ => []) (m := laws_heldIntS a k) Try.func17 rfl rfl rfl hm ?_
  intro w S hrd
  have HB_V_a0 := hrd _ (.head _)
  clear hrd
  unfold laws_heldIntS
  refine TW.seq ?_
  refine TW.region ?_
  refine TO.y (Y.assign rfl) rfl rfl rfl ?_
  refine TO.nil ?_
  refine TE.next ?_
  refine TW.seq ?_
  refine TW.seq ?_
  refine TW.region ?_
  refine TO.y (Y.assign rfl) rfl rfl rfl ?_
  refine TO.nil ?_
  refine TE.next ?_
  refine TW.joinX (τ := Int) (X := Unit) (fun T _ => [(1, .int .i64 T)]) (fun _ _ => []) ?_ (fun T3 X4 => ?_)
  · refine TW.block ?_
    refine TW.loopX (σ := Int × Int) (X := Unit) (fun T _ => [(0, V_a0), (1, .int .i64 T.1), (5, .int .i64 T.2)]) (fun _ _ => []) () [] ⟨rfl, rfl, rfl, trivial⟩ rfl (fun S1 X2 => ?_)
    refine TW.seq ?_
    refine TW.seq ?_
    refine TW.region ?_
    refine TO.y (Y.move rfl) rfl rfl rfl ?_
    refine TO.y (Y.move rfl) rfl rfl rfl ?_
    refine TO.y (Y.len (l := a) ke24 (Base.can HB_V_a0) rfl) rfl rfl rfl ?_
    refine TO.y (Y.lss rfl rfl) rfl rfl rfl ?_
    refine TO.nil ?_
    refine TE.next ?_
    refine TW.cond rfl (fun H5 => ?_) (fun H5 => ?_)
    · refine TW.skip ?_
      refine TE.next ?_
      refine TW.seq ?_
      refine TW.block ?_
      refine TW.seq ?_
      refine TW.seq ?_
      refine TW.region ?_
      refine TO.y (Y.move rfl) rfl rfl rfl ?_
      refine TO.y (Y.move rfl) rfl rfl rfl ?_
      refine TO.bind fun E6 H7 => ?_
      refine TO.y (Y.index ke24 (Base.can HB_V_a0) H7 rfl rfl) rfl rfl rfl ?_
      refine TO.y (Y.load_el (us := [.int .i64 E6]) (u := .int .i64 E6) kk3 rfl (Base.can HB_V_a0) (idx_get H7).2.2 rfl rfl rfl rfl rfl) rfl rfl rfl ?_
      refine TO.y (Y.move rfl) rfl rfl rfl ?_
      refine TO.y (Y.neq rfl rfl) rfl rfl rfl ?_
      refine TO.nil ?_
      refine TE.next ?_
      refine TW.cond rfl (fun H8 => ?_) (fun H8 => ?_)
      · refine TW.seq ?_
        refine TW.region ?_
        refine TO.y (Y.assign rfl) rfl rfl rfl ?_
        refine TO.nil ?_
        refine TE.next ?_
        refine TW.ret ?_
        refine TE.then_ret ?_
        refine TE.block_ret ?_
        refine TE.then_ret ?_
        refine TE.lp_ret ?_
        refine TE.block_ret ?_
        refine TE.jn_done ?_
        refine TE.then_ret ?_
        exact TE.leaf fun _ _ hf_ hs_ => ret_any (rs := [.tmp 4]) (vs := [.int .i64 (-1 : Int)]) (.inl rfl) rfl ⟨rfl, trivial⟩ hf_ hs_ ⟨(), rfl, hs_.pulls [] rfl⟩
      · refine TW.skip ?_
        refine TE.next ?_
        refine TW.region ?_
        refine TO.y (Y.move rfl) rfl rfl rfl ?_
        refine TO.y (Y.add rfl rfl) rfl rfl rfl ?_
        refine TO.y (Y.assign rfl) rfl rfl rfl ?_
        refine TO.nil ?_
        refine TE.block_normal ?_
        refine TE.next ?_
        refine TW.region ?_
        refine TO.y (Y.move rfl) rfl rfl rfl ?_
        refine TO.y (Y.add rfl rfl) rfl rfl rfl ?_
        refine TO.y (Y.assign rfl) rfl rfl rfl ?_
        refine TO.nil ?_
        exact TE.lp_go () [] ⟨rfl, rfl, rfl, trivial⟩ rfl
    · refine TW.exit ?_
      refine TE.then_exit ?_
      refine TE.lp_exit ?_
      refine TE.block_exit ?_
      exact TE.jn_go () [] ⟨rfl, trivial⟩ rfl
  · refine TE.next ?_
    refine TW.seq ?_
    refine TW.region ?_
    refine TO.y (Y.move rfl) rfl rfl rfl ?_
    refine TO.y (Y.assign rfl) rfl rfl rfl ?_
    refine TO.nil ?_
    refine TE.next ?_
    refine TW.ret ?_
    exact TE.leaf fun _ _ hf_ hs_ => ret_any (rs := [.tmp 4]) (vs := [.int .i64 T3]) (.inl rfl) rfl ⟨rfl, trivial⟩ hf_ hs_ ⟨(), rfl, hs_.pulls [] rfl⟩

/-- loop.example/g00950/laws.FnExactFilesAt -/
noncomputable def laws_FnExactFilesAt (aL : List File) (aKey : List UInt8) : Option Bool :=
  if (decide (((aKey.length : Nat) : Int) > (1048576 : Int))) = true then (some true)
  else ((laws_szFileS aL (1048576 : Int)).bind fun R2 =>
  if (decide (R2 < (0 : Int))) = true then (some true)
  else ((laws_toFileS aL).bind fun R6 =>
  (spec_FilesAt R6 aKey).bind fun R9 =>
  (impl_FilesAt R6 aKey).bind fun R13 =>
  (laws_eqIntS R13 R9).bind fun R16 =>
  if (!R16) = true then (some false)
  else ((laws_eqFileS R6 R6).bind fun R21 =>
  if (!R21) = true then (some false)
  else ((laws_markFileS R6 (1 : Int)).bind fun R25 =>
  (if (decide (R25.1 < (0 : Int))) = true then (some true)
  else (some (!R16))).bind (fun (T28 : Bool) =>
  if T28 = true then (some false)
  else ((laws_markIntS R13 (1 : Int)).bind fun R33 =>
  (laws_heldIntS R33.2 (1 : Int)).bind fun R36 =>
  if (decide (R36 < (0 : Int))) = true then (some false)
  else (if (!(decide (R36 = R33.1))) = true then (some false)
  else (if (!R16) = true then (some false)
  else (if (decide (R36 < (0 : Int))) = true then (some false)
  else (if (!(decide (R36 = R33.1))) = true then (some false)
  else (some true)))))))))))

theorem laws_FnExactFilesAt_con (aL : List File) (aKey : List UInt8) (V_aL0 : Value) (r : Bool) (hm : laws_FnExactFilesAt aL aKey = some r) :
    Con Try.prog 3 [V_aL0, strV aKey] [] [(V_aL0, lc 75 aL)] (fun _ : Unit => .bool r) (fun _ => []) := by
  refine Con.intro (args := [V_aL0, strV aKey]) (n := 77) (val := fun r (_ : Unit) => .bool r) (post := fun _ _ => []) (m := laws_FnExactFilesAt aL aKey) Try.func3 rfl rfl rfl hm ?_
  intro w S hrd
  have HB_V_aL0 := hrd _ (.head _)
  clear hrd
  unfold laws_FnExactFilesAt
  refine TW.seq ?_
  refine TW.region ?_
  refine TO.y (Y.assign rfl) rfl rfl rfl ?_
  refine TO.nil ?_
  refine TE.next ?_
  refine TW.seq ?_
  refine TW.seq ?_
  refine TW.region ?_
  refine TO.y (Y.move rfl) rfl rfl rfl ?_
  refine TO.y (Y.slen ks9 rfl) rfl rfl rfl ?_
  refine TO.y (Y.gtr rfl rfl) rfl rfl rfl ?_
  refine TO.nil ?_
  refine TE.next ?_
  refine TW.cond rfl (fun H1 => ?_) (fun H1 => ?_)
  · refine TW.seq ?_
    refine TW.region ?_
    refine TO.y (Y.assign rfl) rfl rfl rfl ?_
    refine TO.nil ?_
    refine TE.next ?_
    refine TW.ret ?_
    refine TE.then_ret ?_
    exact TE.leaf fun _ _ hf_ hs_ => ret_any (rs := [.tmp 4]) (vs := [.bool true]) (.inl rfl) rfl ⟨rfl, trivial⟩ hf_ hs_ ⟨(), rfl, hs_.pulls [] rfl⟩
  · refine TW.skip ?_
    refine TE.next ?_
    refine TW.seq ?_
    refine TW.region ?_
    refine TO.y (Y.assign rfl) rfl rfl rfl ?_
    refine TO.nil ?_
    refine TE.next ?_
    refine TW.seq ?_
    refine TW.region ?_
    refine TO.y (Y.move rfl) rfl rfl rfl ?_
    refine TO.y (Y.move rfl) rfl rfl rfl ?_
    refine TO.bind fun R2 H3 => ?_
    refine TO.ef (Ef.call (rest := []) [] (laws_szFileS_con aL (1048576 : Int) V_aL0 R2 H3) kc9 rfl rfl ⟨(Base.can HB_V_aL0), trivial⟩) rfl rfl rfl (fun _ => ?_)
    refine TO.y (Y.assign rfl) rfl rfl rfl ?_
    refine TO.nil ?_
    refine TE.next ?_
    refine TW.seq ?_
    refine TW.seq ?_
    refine TW.region ?_
    refine TO.y (Y.move rfl) rfl rfl rfl ?_
    refine TO.y (Y.lss rfl rfl) rfl rfl rfl ?_
    refine TO.nil ?_
    refine TE.next ?_
    refine TW.cond rfl (fun H5 => ?_) (fun H5 => ?_)
    · refine TW.seq ?_
      refine TW.region ?_
      refine TO.y (Y.assign rfl) rfl rfl rfl ?_
      refine TO.nil ?_
      refine TE.next ?_
      refine TW.ret ?_
      refine TE.then_ret ?_
      exact TE.leaf fun _ _ hf_ hs_ => ret_any (rs := [.tmp 4]) (vs := [.bool true]) (.inl rfl) rfl ⟨rfl, trivial⟩ hf_ hs_ ⟨(), rfl, hs_.pulls [] rfl⟩
    · refine TW.skip ?_
      refine TE.next ?_
      refine TW.seq ?_
      refine TW.region ?_
      refine TO.y (Y.move rfl) rfl rfl rfl ?_
      refine TO.bind fun R6 H7 => ?_
      refine TO.ef (Ef.call (rest := []) [] (laws_toFileS_con aL V_aL0 R6 H7) kc11 rfl rfl ⟨(Base.can HB_V_aL0), trivial⟩) rfl rfl rfl (fun Y8 => ?_)
      refine TO.y (Y.move rfl) rfl rfl rfl ?_
      refine TO.bind fun R9 H10 => ?_
      refine TO.ef (Ef.call (rest := [.own Y8 (lc 77 R6)]) [0] (spec_FilesAt_con R6 aKey Y8 R9 H10) kc10 rfl rfl ⟨(Can.own 0 rfl), trivial⟩) rfl rfl rfl (fun Y11 => ?_)
      refine TO.y (Y.assign rfl) rfl rfl rfl ?_
      refine TO.nil ?_
      refine TE.next ?_
      refine TW.seq ?_
      refine TW.region ?_
      refine TO.y (Y.move rfl) rfl rfl rfl ?_
      refine TO.ef (Ef.call (rest := [.own Y11 (lc 3 R9), .own Y8 (lc 77 R6)]) [0, 0] (laws_toFileS_con aL V_aL0 R6 H7) kc11 rfl rfl ⟨(Base.can HB_V_aL0), trivial⟩) rfl rfl rfl (fun Y12 => ?_)
      refine TO.y (Y.assign rfl) rfl rfl rfl ?_
      refine TO.nil ?_
      refine TE.next ?_
      refine TW.seq ?_
      refine TW.region ?_
      refine TO.y (Y.move rfl) rfl rfl rfl ?_
      refine TO.y (Y.move rfl) rfl rfl rfl ?_
      refine TO.bind fun R13 H14 => ?_
      refine TO.ef (Ef.call (rest := [.own Y12 (lc 77 R6), .own Y11 (lc 3 R9), .own Y8 (lc 77 R6)]) [0, 0, 0] (impl_FilesAt_con R6 aKey Y12 R13 H14) kc12 rfl rfl ⟨(Can.own 0 rfl), trivial⟩) rfl rfl rfl (fun Y15 => ?_)
      refine TO.y (Y.assign rfl) rfl rfl rfl ?_
      refine TO.nil ?_
      refine TE.next ?_
      refine TW.seq ?_
      refine TW.seq ?_
      refine TW.region ?_
      refine TO.y (Y.move rfl) rfl rfl rfl ?_
      refine TO.y (Y.move rfl) rfl rfl rfl ?_
      refine TO.bind fun R16 H17 => ?_
      refine TO.ef (Ef.call (rest := [.own Y15 (lc 3 R13), .own Y12 (lc 77 R6), .own Y11 (lc 3 R9), .own Y8 (lc 77 R6)]) [0, 0, 0, 0] (laws_eqIntS_con R13 R9 Y15 Y11 R16 H17) kc13 rfl rfl ⟨(Can.own 0 rfl), (Can.own 2 rfl), trivial⟩) rfl rfl rfl (fun _ => ?_)
      refine TO.y (Y.not rfl) rfl rfl rfl ?_
      refine TO.nil ?_
      refine TE.next ?_
      refine TW.cond rfl (fun H19 => ?_) (fun H19 => ?_)
      · refine TW.seq ?_
        refine TW.region ?_
        refine TO.y (Y.assign rfl) rfl rfl rfl ?_
        refine TO.nil ?_
        refine TE.next ?_
        refine TW.ret ?_
        refine TE.then_ret ?_
        exact TE.leaf fun _ _ hf_ hs_ => ret_any (rs := [.tmp 4]) (vs := [.bool false]) (.inl rfl) rfl ⟨rfl, trivial⟩ hf_ hs_ ⟨(), rfl, hs_.pulls [] rfl⟩
      · refine TW.skip ?_
        refine TE.next ?_
        refine TW.seq ?_
        refine TW.seq ?_
        refine TW.region ?_
        refine TO.y (Y.move rfl) rfl rfl rfl ?_
        refine TO.y (Y.move rfl) rfl rfl rfl ?_
        refine TO.ef (Ef.call (rest := [.own Y15 (lc 3 R13), .own Y12 (lc 77 R6), .own Y11 (lc 3 R9), .own Y8 (lc 77 R6)]) [0, 0, 0, 0] (laws_toFileS_con aL V_aL0 R6 H7) kc11 rfl rfl ⟨(Base.can HB_V_aL0), trivial⟩) rfl rfl rfl (fun Y20 => ?_)
        refine TO.bind fun R21 H22 => ?_
        refine TO.ef (Ef.call (rest := [.own Y20 (lc 77 R6), .own Y15 (lc 3 R13), .own Y12 (lc 77 R6), .own Y11 (lc 3 R9), .own Y8 (lc 77 R6)]) [0, 0, 0, 0, 0] (laws_eqFileS_con R6 R6 Y12 Y20 R21 H22) kc14 rfl rfl ⟨(Can.own 2 rfl), (Can.own 0 rfl), trivial⟩) rfl rfl rfl (fun _ => ?_)
        refine TO.y (Y.not rfl) rfl rfl rfl ?_
        refine TO.nil ?_
        refine TE.next ?_
        refine TW.cond rfl (fun H24 => ?_) (fun H24 => ?_)
        · refine TW.seq ?_
          refine TW.region ?_
          refine TO.y (Y.assign rfl) rfl rfl rfl ?_
          refine TO.nil ?_
          refine TE.next ?_
          refine TW.ret ?_
          refine TE.then_ret ?_
          exact TE.leaf fun _ _ hf_ hs_ => ret_any (rs := [.tmp 4]) (vs := [.bool false]) (.inl rfl) rfl ⟨rfl, trivial⟩ hf_ hs_ ⟨(), rfl, hs_.pulls [] rfl⟩
        · refine TW.skip ?_
          refine TE.next ?_
          refine TW.seq ?_
          refine TW.region ?_
          refine TO.y (Y.assign rfl) rfl rfl rfl ?_
          refine TO.nil ?_
          refine TE.next ?_
          refine TW.seq ?_
          refine TW.region ?_
          refine TO.y (Y.move rfl) rfl rfl rfl ?_
          refine TO.y (Y.move rfl) rfl rfl rfl ?_
          refine TO.bind fun R25 H26 => ?_
          refine TO.ef (Ef.call (rest := [.own Y20 (lc 77 R6), .own Y15 (lc 3 R13), .own Y11 (lc 3 R9), .own Y8 (lc 77 R6)]) [2, 0, 0, 0, 0] (laws_markFileS_con R6 (1 : Int) Y12 R25 H26) kc15 rfl rfl trivial) rfl rfl rfl (fun _ => ?_)
          refine TO.y (Y.assign rfl) rfl rfl rfl ?_
          refine TO.nil ?_
          refine TE.next ?_
          refine TW.seq ?_
          refine TW.seq ?_
          refine TW.joinBX (τ := Bool) (X := Unit) (fun T _ => [(0, V_aL0), (1, strV aKey), (6, Y11), (8, Y15), (49, .bool T)]) (fun _ _ => [.own Y11 (lc 3 R9), .own Y15 (lc 3 R13)]) ?_ (fun T28 X29 => ?_)
          · refine TW.region ?_
            refine TO.y (Y.move rfl) rfl rfl rfl ?_
            refine TO.y (Y.lss rfl rfl) rfl rfl rfl ?_
            refine TO.y (Y.move rfl) rfl rfl rfl ?_
            refine TO.ite (b := decide (R25.1 < (0 : Int))) (fun H30 => ?_) (fun H30 => ?_)
            · refine TO.off (Gd.at 2 false 44 (decide (R25.1 < (0 : Int))) rfl rfl rfl (beq_tf H30)) rfl rfl ?_
              refine TO.off (Gd.at 2 false 44 (decide (R25.1 < (0 : Int))) rfl rfl rfl (beq_tf H30)) rfl rfl ?_
              refine TO.off (Gd.at 2 false 44 (decide (R25.1 < (0 : Int))) rfl rfl rfl (beq_tf H30)) rfl rfl ?_
              refine TO.off (Gd.at 2 false 44 (decide (R25.1 < (0 : Int))) rfl rfl rfl (beq_tf H30)) rfl rfl ?_
              refine TO.y (Y.pick_t H30 rfl rfl) rfl rfl rfl ?_
              refine TO.nil ?_
              exact TE.jb_go () [3, 2] ⟨rfl, rfl, rfl, rfl, rfl, trivial⟩ rfl
            · refine TO.y (Y.move rfl) (Gd.at 2 false 44 (decide (R25.1 < (0 : Int))) rfl rfl rfl (beq_ff H30)) rfl rfl ?_
              refine TO.y (Y.move rfl) (Gd.at 2 false 44 (decide (R25.1 < (0 : Int))) rfl rfl rfl (beq_ff H30)) rfl rfl ?_
              refine TO.ef (Ef.call (rest := [.own Y12 (lc 77 R25.2), .own Y20 (lc 77 R6), .own Y15 (lc 3 R13), .own Y11 (lc 3 R9), .own Y8 (lc 77 R6)]) [0, 0, 0, 0, 0] (laws_eqIntS_con R13 R9 Y15 Y11 R16 H17) kc13 rfl rfl ⟨(Can.own 2 rfl), (Can.own 3 rfl), trivial⟩) (Gd.at 2 false 44 (decide (R25.1 < (0 : Int))) rfl rfl rfl (beq_ff H30)) rfl rfl (fun _ => ?_)
              refine TO.y (Y.not rfl) (Gd.at 2 false 44 (decide (R25.1 < (0 : Int))) rfl rfl rfl (beq_ff H30)) rfl rfl ?_
              refine TO.y (Y.pick_f H30 rfl rfl) rfl rfl rfl ?_
              refine TO.nil ?_
              exact TE.jb_go () [3, 2] ⟨rfl, rfl, rfl, rfl, rfl, trivial⟩ rfl
          · refine TE.next ?_
            refine TW.cond rfl (fun H32 => ?_) (fun H32 => ?_)
            · refine TW.seq ?_
              refine TW.region ?_
              refine TO.y (Y.assign rfl) rfl rfl rfl ?_
              refine TO.nil ?_
              refine TE.next ?_
              refine TW.ret ?_
              refine TE.then_ret ?_
              exact TE.leaf fun _ _ hf_ hs_ => ret_any (rs := [.tmp 4]) (vs := [.bool false]) (.inl rfl) rfl ⟨rfl, trivial⟩ hf_ hs_ ⟨(), rfl, hs_.pulls [] rfl⟩
            · refine TW.skip ?_
              refine TE.next ?_
              refine TW.seq ?_
              refine TW.region ?_
              refine TO.y (Y.assign rfl) rfl rfl rfl ?_
              refine TO.nil ?_
              refine TE.next ?_
              refine TW.seq ?_
              refine TW.region ?_
              refine TO.y (Y.move rfl) rfl rfl rfl ?_
              refine TO.y (Y.move rfl) rfl rfl rfl ?_
              refine TO.bind fun R33 H34 => ?_
              refine TO.ef (Ef.call (rest := [.own Y11 (lc 3 R9)]) [1, 0] (laws_markIntS_con R13 (1 : Int) Y15 R33 H34) kc16 rfl rfl trivial) rfl rfl rfl (fun _ => ?_)
              refine TO.y (Y.assign rfl) rfl rfl rfl ?_
              refine TO.nil ?_
              refine TE.next ?_
              refine TW.seq ?_
              refine TW.region ?_
              refine TO.y (Y.assign rfl) rfl rfl rfl ?_
              refine TO.nil ?_
              refine TE.next ?_
              refine TW.seq ?_
              refine TW.region ?_
              refine TO.y (Y.move rfl) rfl rfl rfl ?_
              refine TO.y (Y.move rfl) rfl rfl rfl ?_
              refine TO.bind fun R36 H37 => ?_
              refine TO.ef (Ef.call (rest := [.own Y15 (lc 3 R33.2), .own Y11 (lc 3 R9)]) [0, 0] (laws_heldIntS_con R33.2 (1 : Int) Y15 R36 H37) kc17 rfl rfl ⟨(Can.own 0 rfl), trivial⟩) rfl rfl rfl (fun _ => ?_)
              refine TO.y (Y.assign rfl) rfl rfl rfl ?_
              refine TO.nil ?_
              refine TE.next ?_
              refine TW.seq ?_
              refine TW.seq ?_
              refine TW.region ?_
              refine TO.y (Y.move rfl) rfl rfl rfl ?_
              refine TO.y (Y.lss rfl rfl) rfl rfl rfl ?_
              refine TO.nil ?_
              refine TE.next ?_
              refine TW.cond rfl (fun H39 => ?_) (fun H39 => ?_)
              · refine TW.seq ?_
                refine TW.region ?_
                refine TO.y (Y.assign rfl) rfl rfl rfl ?_
                refine TO.nil ?_
                refine TE.next ?_
                refine TW.ret ?_
                refine TE.then_ret ?_
                exact TE.leaf fun _ _ hf_ hs_ => ret_any (rs := [.tmp 4]) (vs := [.bool false]) (.inl rfl) rfl ⟨rfl, trivial⟩ hf_ hs_ ⟨(), rfl, hs_.pulls [] rfl⟩
              · refine TW.skip ?_
                refine TE.next ?_
                refine TW.seq ?_
                refine TW.seq ?_
                refine TW.region ?_
                refine TO.y (Y.move rfl) rfl rfl rfl ?_
                refine TO.y (Y.move rfl) rfl rfl rfl ?_
                refine TO.y (Y.neq rfl rfl) rfl rfl rfl ?_
                refine TO.nil ?_
                refine TE.next ?_
                refine TW.cond rfl (fun H40 => ?_) (fun H40 => ?_)
                · refine TW.seq ?_
                  refine TW.region ?_
                  refine TO.y (Y.assign rfl) rfl rfl rfl ?_
                  refine TO.nil ?_
                  refine TE.next ?_
                  refine TW.ret ?_
                  refine TE.then_ret ?_
                  exact TE.leaf fun _ _ hf_ hs_ => ret_any (rs := [.tmp 4]) (vs := [.bool false]) (.inl rfl) rfl ⟨rfl, trivial⟩ hf_ hs_ ⟨(), rfl, hs_.pulls [] rfl⟩
                · refine TW.skip ?_
                  refine TE.next ?_
                  refine TW.seq ?_
                  refine TW.region ?_
                  refine TO.y (Y.move rfl) rfl rfl rfl ?_
                  refine TO.ef (Ef.call (rest := [.own Y15 (lc 3 R33.2), .own Y11 (lc 3 R9)]) [0, 0] (laws_toFileS_con aL V_aL0 R6 H7) kc11 rfl rfl ⟨(Base.can HB_V_aL0), trivial⟩) rfl rfl rfl (fun Y41 => ?_)
                  refine TO.y (Y.move rfl) rfl rfl rfl ?_
                  refine TO.ef (Ef.call (rest := [.own Y41 (lc 77 R6), .own Y15 (lc 3 R33.2), .own Y11 (lc 3 R9)]) [0, 0, 0] (impl_FilesAt_con R6 aKey Y41 R13 H14) kc12 rfl rfl ⟨(Can.own 0 rfl), trivial⟩) rfl rfl rfl (fun Y42 => ?_)
                  refine TO.y (Y.assign rfl) rfl rfl rfl ?_
                  refine TO.nil ?_
                  refine TE.next ?_
                  refine TW.seq ?_
                  refine TW.seq ?_
                  refine TW.region ?_
                  refine TO.y (Y.move rfl) rfl rfl rfl ?_
                  refine TO.y (Y.move rfl) rfl rfl rfl ?_
                  refine TO.ef (Ef.call (rest := [.own Y42 (lc 3 R13), .own Y41 (lc 77 R6), .own Y15 (lc 3 R33.2), .own Y11 (lc 3 R9)]) [0, 0, 0, 0] (laws_eqIntS_con R13 R9 Y42 Y11 R16 H17) kc13 rfl rfl ⟨(Can.own 0 rfl), (Can.own 3 rfl), trivial⟩) rfl rfl rfl (fun _ => ?_)
                  refine TO.y (Y.not rfl) rfl rfl rfl ?_
                  refine TO.nil ?_
                  refine TE.next ?_
                  refine TW.cond rfl (fun H44 => ?_) (fun H44 => ?_)
                  · refine TW.seq ?_
                    refine TW.region ?_
                    refine TO.y (Y.assign rfl) rfl rfl rfl ?_
                    refine TO.nil ?_
                    refine TE.next ?_
                    refine TW.ret ?_
                    refine TE.then_ret ?_
                    exact TE.leaf fun _ _ hf_ hs_ => ret_any (rs := [.tmp 4]) (vs := [.bool false]) (.inl rfl) rfl ⟨rfl, trivial⟩ hf_ hs_ ⟨(), rfl, hs_.pulls [] rfl⟩
                  · refine TW.skip ?_
                    refine TE.next ?_
                    refine TW.seq ?_
                    refine TW.region ?_
                    refine TO.y (Y.assign rfl) rfl rfl rfl ?_
                    refine TO.nil ?_
                    refine TE.next ?_
                    refine TW.seq ?_
                    refine TW.region ?_
                    refine TO.y (Y.move rfl) rfl rfl rfl ?_
                    refine TO.y (Y.move rfl) rfl rfl rfl ?_
                    refine TO.ef (Ef.call (rest := [.own Y42 (lc 3 R13), .own Y41 (lc 77 R6), .own Y15 (lc 3 R33.2), .own Y11 (lc 3 R9)]) [0, 0, 0, 0] (laws_heldIntS_con R33.2 (1 : Int) Y15 R36 H37) kc17 rfl rfl ⟨(Can.own 2 rfl), trivial⟩) rfl rfl rfl (fun _ => ?_)
                    refine TO.y (Y.assign rfl) rfl rfl rfl ?_
                    refine TO.nil ?_
                    refine TE.next ?_
                    refine TW.seq ?_
                    refine TW.seq ?_
                    refine TW.region ?_
                    refine TO.y (Y.move rfl) rfl rfl rfl ?_
                    refine TO.y (Y.lss rfl rfl) rfl rfl rfl ?_
                    refine TO.nil ?_
                    refine TE.next ?_
                    refine TW.cond rfl (fun H46 => ?_) (fun H46 => ?_)
                    · refine TW.seq ?_
                      refine TW.region ?_
                      refine TO.y (Y.assign rfl) rfl rfl rfl ?_
                      refine TO.nil ?_
                      refine TE.next ?_
                      refine TW.ret ?_
                      refine TE.then_ret ?_
                      exact TE.leaf fun _ _ hf_ hs_ => ret_any (rs := [.tmp 4]) (vs := [.bool false]) (.inl rfl) rfl ⟨rfl, trivial⟩ hf_ hs_ ⟨(), rfl, hs_.pulls [] rfl⟩
                    · refine TW.skip ?_
                      refine TE.next ?_
                      refine TW.seq ?_
                      refine TW.seq ?_
                      refine TW.region ?_
                      refine TO.y (Y.move rfl) rfl rfl rfl ?_
                      refine TO.y (Y.move rfl) rfl rfl rfl ?_
                      refine TO.y (Y.neq rfl rfl) rfl rfl rfl ?_
                      refine TO.nil ?_
                      refine TE.next ?_
                      refine TW.cond rfl (fun H47 => ?_) (fun H47 => ?_)
                      · refine TW.seq ?_
                        refine TW.region ?_
                        refine TO.y (Y.assign rfl) rfl rfl rfl ?_
                        refine TO.nil ?_
                        refine TE.next ?_
                        refine TW.ret ?_
                        refine TE.then_ret ?_
                        exact TE.leaf fun _ _ hf_ hs_ => ret_any (rs := [.tmp 4]) (vs := [.bool false]) (.inl rfl) rfl ⟨rfl, trivial⟩ hf_ hs_ ⟨(), rfl, hs_.pulls [] rfl⟩
                      · refine TW.skip ?_
                        refine TE.next ?_
                        refine TW.seq ?_
                        refine TW.region ?_
                        refine TO.y (Y.assign rfl) rfl rfl rfl ?_
                        refine TO.nil ?_
                        refine TE.next ?_
                        refine TW.ret ?_
                        exact TE.leaf fun _ _ hf_ hs_ => ret_any (rs := [.tmp 4]) (vs := [.bool true]) (.inl rfl) rfl ⟨rfl, trivial⟩ hf_ hs_ ⟨(), rfl, hs_.pulls [] rfl⟩

/-- loop.example/g00950/spec.FilesPick -/
noncomputable def spec_FilesPick (l : List File) (level : Int) : Option (List Int) :=
  bindC (loopO (fun (S2 : List UInt8 × List UInt8 × Int × List Int) => (if (decide (S2.2.2.1 < ((l.length : Nat) : Int))) = true then ((spec_FilesOk l).bind fun R9 =>
  if R9 = true then ((spec_l1In level (0 : Int) (1 : Int)).bind fun R13 =>
  some R13)
  else (some false))
  else (some false)).bind (fun (T6 : Bool) =>
  if T6 = true then (bindC ((idx l S2.2.2.1).bind fun E19 =>
  (if (!(decide (E19.Level = level))) = true then (some true)
  else (if (decide (level = (1 : Int))) = true then (some (decide (((S2.2.2.2.length : Nat) : Int) > (0 : Int))))
  else (some false))).bind (fun (T22 : Bool) =>
  if T22 = true then (some (.go (S2.1, S2.2.1, S2.2.2.2)))
  else ((if (decide (((S2.2.2.2.length : Nat) : Int) = (0 : Int))) = true then (some true)
  else (some (sLt E19.Lo S2.1))).bind (fun (T27 : Bool) =>
  bindC (if T27 = true then (some (.go E19.Lo))
  else (some (.go S2.1)))
  (fun (T30 : List UInt8) => bindC (if (!(sLt E19.Hi S2.2.1 || decide (E19.Hi = S2.2.1))) = true then (some (.go E19.Hi))
  else (some (.go S2.2.1)))
  (fun (T33 : List UInt8) => (app 8 S2.2.2.2 ([E19.No])).bind fun E38 =>
  some (.go (T30, T33, E38))))))))
  (fun (T17 : List UInt8 × List UInt8 × List Int) => some (.go (T17.1, T17.2.1, IntKind.i64.wrap (S2.2.2.1 + (1 : Int)), T17.2.2))))
  else (some (.done (.go (S2.1, S2.2.1, S2.2.2.2))))))
  ([], [], (0 : Int), ([] : List Int)))
  (fun (T4 : List UInt8 × List UInt8 × List Int) => bindC (loopO (fun (S40 : Int × List Int) => (if (decide (S40.1 < ((l.length : Nat) : Int))) = true then (some (!(decide (T4.2.1 = ([])))))
  else (some false)).bind (fun (T44 : Bool) =>
  if T44 = true then (((idx l S40.1).bind fun E50 =>
  if (decide (E50.Level = IntKind.i64.wrap (level + (1 : Int)))) = true then (if (sLt E50.Lo T4.2.1 || decide (E50.Lo = T4.2.1)) = true then (some (!(sLt E50.Hi T4.1)))
  else (some false))
  else (some false)).bind (fun (T48 : Bool) =>
  bindC (if T48 = true then ((idx l S40.1).bind fun E57 =>
  (app 8 S40.2 ([E57.No])).bind fun E61 =>
  some (.go E61))
  else (some (.go S40.2)))
  (fun (T54 : List Int) => some (.go (IntKind.i64.wrap (S40.1 + (1 : Int)), T54)))))
  else (some (.done (.go S40.2)))))
  ((0 : Int), T4.2.2))
  (fun (T42 : List Int) => some T42))

theorem spec_FilesPick_con (l : List File) (level : Int) (V_l0 : Value) (r : List Int) (hm : spec_FilesPick l level = some r) :
    Con Try.prog 18 [V_l0, .int .i64 level] [] [(V_l0, lc 77 l)] (fun X : Value => X) (fun X => [.own X (lc 3 r)]) := by
  refine Con.intro (args := [V_l0, .int .i64 level]) (n := 110) (val := fun _ (X : Value) => X) (post := fun r X => [.own X (lc 3 r)]) (m := spec_FilesPick l level) Try.func18 rfl rfl rfl hm ?_
  intro w S hrd
  have HB_V_l0 := hrd _ (.head _)
  clear hrd
  unfold spec_FilesPick
  refine TW.seq ?_
  refine TW.region ?_
  refine TO.y (Y.assign rfl) rfl rfl rfl ?_
  refine TO.nil ?_
  refine TE.next ?_
  refine TW.seq ?_
  refine TW.region ?_
  refine TO.ef (Ef.buildSlice (α := Int) (Vs := []) ([] : List Int) ke24 kz3 rfl rfl rfl rfl rfl) rfl rfl rfl (fun B1 => ?_)
  refine TO.y (Y.assign rfl) rfl rfl rfl ?_
  refine TO.nil ?_
  refine TE.next ?_
  refine TW.seq ?_
  refine TW.region ?_
  refine TO.y (Y.assign rfl) rfl rfl rfl ?_
  refine TO.nil ?_
  refine TE.next ?_
  refine TW.seq ?_
  refine TW.region ?_
  refine TO.y (Y.assign rfl) rfl rfl rfl ?_
  refine TO.nil ?_
  refine TE.next ?_
  refine TW.seq ?_
  refine TW.seq ?_
  refine TW.region ?_
  refine TO.y (Y.assign rfl) rfl rfl rfl ?_
  refine TO.nil ?_
  refine TE.next ?_
  refine TW.joinX (τ := List UInt8 × List UInt8 × List Int) (X := Value) (fun T X => [(0, V_l0), (1, .int .i64 level), (5, X), (6, strV T.1), (7, strV T.2.1)]) (fun T X => [.own X (lc 3 T.2.2)]) ?_ (fun T4 X5 => ?_)
  · refine TW.block ?_
    refine TW.loopX (σ := List UInt8 × List UInt8 × Int × List Int) (X := Value) (fun T X => [(0, V_l0), (1, .int .i64 level), (5, X), (6, strV T.1), (7, strV T.2.1), (8, .int .i64 T.2.2.1)]) (fun T X => [.own X (lc 3 T.2.2.2)]) (.slice (some ⟨B1, 0, none⟩) 0 0) [0] ⟨rfl, rfl, rfl, rfl, rfl, rfl, trivial⟩ rfl (fun S2 X3 => ?_)
    refine TW.seq ?_
    refine TW.seq ?_
    refine TW.joinBX (τ := Bool) (X := Unit) (fun T _ => [(0, V_l0), (1, .int .i64 level), (5, X3), (6, strV S2.1), (7, strV S2.2.1), (8, .int .i64 S2.2.2.1), (23, .bool T)]) (fun _ _ => [.own X3 (lc 3 S2.2.2.2)]) ?_ (fun T6 X7 => ?_)
    · refine TW.region ?_
      refine TO.y (Y.move rfl) rfl rfl rfl ?_
      refine TO.y (Y.move rfl) rfl rfl rfl ?_
      refine TO.y (Y.len (l := l) ke26 (Base.can HB_V_l0) rfl) rfl rfl rfl ?_
      refine TO.y (Y.lss rfl rfl) rfl rfl rfl ?_
      refine TO.y (Y.move rfl) rfl rfl rfl ?_
      refine TO.ite (b := decide (S2.2.2.1 < ((l.length : Nat) : Int))) (fun H8 => ?_) (fun H8 => ?_)
      · refine TO.y (Y.move rfl) (Gd.at 4 true 16 (decide (S2.2.2.1 < ((l.length : Nat) : Int))) rfl rfl rfl (beq_tt H8)) rfl rfl ?_
        refine TO.bind fun R9 H10 => ?_
        refine TO.ef (Ef.call (rest := [.own X3 (lc 3 S2.2.2.2)]) [0] (spec_FilesOk_con l V_l0 R9 H10) kc48 rfl rfl ⟨(Base.can HB_V_l0), trivial⟩) (Gd.at 4 true 16 (decide (S2.2.2.1 < ((l.length : Nat) : Int))) rfl rfl rfl (beq_tt H8)) rfl rfl (fun _ => ?_)
        refine TO.y (Y.pick_t H8 rfl rfl) rfl rfl rfl ?_
        refine TO.y (Y.move rfl) rfl rfl rfl ?_
        refine TO.ite (b := R9) (fun H12 => ?_) (fun H12 => ?_)
        · refine TO.y (Y.move rfl) (Gd.at 8 true 20 R9 rfl rfl rfl (beq_tt H12)) rfl rfl ?_
          refine TO.bind fun R13 H14 => ?_
          refine TO.ef (Ef.call (rest := [.own X3 (lc 3 S2.2.2.2)]) [0] (spec_l1In_con level (0 : Int) (1 : Int)  R13 H14) kc53 rfl rfl trivial) (Gd.at 8 true 20 R9 rfl rfl rfl (beq_tt H12)) rfl rfl (fun _ => ?_)
          refine TO.y (Y.pick_t H12 rfl rfl) rfl rfl rfl ?_
          refine TO.nil ?_
          exact TE.jb_go () [0] ⟨rfl, rfl, rfl, rfl, rfl, rfl, rfl, trivial⟩ rfl
        · refine TO.off (Gd.at 8 true 20 R9 rfl rfl rfl (beq_ft H12)) rfl rfl ?_
          refine TO.off (Gd.at 8 true 20 R9 rfl rfl rfl (beq_ft H12)) rfl rfl ?_
          refine TO.y (Y.pick_f H12 rfl rfl) rfl rfl rfl ?_
          refine TO.nil ?_
          exact TE.jb_go () [0] ⟨rfl, rfl, rfl, rfl, rfl, rfl, rfl, trivial⟩ rfl
      · refine TO.off (Gd.at 4 true 16 (decide (S2.2.2.1 < ((l.length : Nat) : Int))) rfl rfl rfl (beq_ft H8)) rfl rfl ?_
        refine TO.off (Gd.at 4 true 16 (decide (S2.2.2.1 < ((l.length : Nat) : Int))) rfl rfl rfl (beq_ft H8)) rfl rfl ?_
        refine TO.y (Y.pick_f H8 rfl rfl) rfl rfl rfl ?_
        refine TO.y (Y.move rfl) rfl rfl rfl ?_
        refine TO.off (Gd.at 8 true 20 false rfl rfl rfl rfl) rfl rfl ?_
        refine TO.off (Gd.at 8 true 20 false rfl rfl rfl rfl) rfl rfl ?_
        refine TO.y (Y.pick_f rfl rfl rfl) rfl rfl rfl ?_
        refine TO.nil ?_
        exact TE.jb_go () [0] ⟨rfl, rfl, rfl, rfl, rfl, rfl, rfl, trivial⟩ rfl
    · refine TE.next ?_
      refine TW.cond rfl (fun H16 => ?_) (fun H16 => ?_)
      · refine TW.skip ?_
        refine TE.next ?_
        refine TW.seq ?_
        refine TW.joinX (τ := List UInt8 × List UInt8 × List Int) (X := Value) (fun T X => [(0, V_l0), (1, .int .i64 level), (5, X), (6, strV T.1), (7, strV T.2.1), (8, .int .i64 S2.2.2.1)]) (fun T X => [.own X (lc 3 T.2.2)]) ?_ (fun T17 X18 => ?_)
        · refine TW.block ?_
          refine TW.seq ?_
          refine TW.region ?_
          refine TO.y (Y.move rfl) rfl rfl rfl ?_
          refine TO.y (Y.move rfl) rfl rfl rfl ?_
          refine TO.bind fun E19 H20 => ?_
          refine TO.y (Y.index ke26 (Base.can HB_V_l0) H20 rfl rfl) rfl rfl rfl ?_
          refine TO.y (Y.load_el (us := [.int .i64 E19.No, .int .i64 E19.Level, strV E19.Lo, strV E19.Hi]) (u := .agg #[.int .i64 E19.No, .int .i64 E19.Level, strV E19.Lo, strV E19.Hi]) kk77 rfl (Base.can HB_V_l0) (idx_get H20).2.2 rfl rfl rfl rfl rfl) rfl rfl rfl ?_
          refine TO.ef (Ef.alloc kz77 rfl) rfl rfl rfl (fun B21 => ?_)
          refine TO.ef0 (Ef.store_box (us := [.int .i64 E19.No, .int .i64 E19.Level, strV E19.Lo, strV E19.Hi]) (vs' := [.int .i64 E19.No, .int .i64 E19.Level, strV E19.Lo, strV E19.Hi]) (is' := [.box B21 77 [.int .i64 E19.No, .int .i64 E19.Level, strV E19.Lo, strV E19.Hi], .own X3 (lc 3 S2.2.2.2)]) 0 kk77 rfl rfl rfl (Cel.plain rfl rfl) rfl rfl rfl rfl) rfl rfl (fun _ => ?_)
          refine TO.nil ?_
          refine TE.next ?_
          refine TW.seq ?_
          refine TW.seq ?_
          refine TW.joinBX (τ := Bool) (X := Unit) (fun T _ => [(0, V_l0), (1, .int .i64 level), (5, X3), (6, strV S2.1), (7, strV S2.2.1), (8, .int .i64 S2.2.2.1), (9, .pointer (some ⟨B21, 0, none⟩)), (42, .bool T)]) (fun _ _ => [.box B21 77 [.int .i64 E19.No, .int .i64 E19.Level, strV E19.Lo, strV E19.Hi], .own X3 (lc 3 S2.2.2.2)]) ?_ (fun T22 X23 => ?_)
          · refine TW.region ?_
            refine TO.y (Y.field_box kf77_1 rfl rfl) rfl rfl rfl ?_
            refine TO.y (Y.load_box (v := .int .i64 E19.Level) 0 kk3 rfl rfl rfl) rfl rfl rfl ?_
            refine TO.y (Y.move rfl) rfl rfl rfl ?_
            refine TO.y (Y.neq rfl rfl) rfl rfl rfl ?_
            refine TO.y (Y.move rfl) rfl rfl rfl ?_
            refine TO.ite (b := !(decide (E19.Level = level))) (fun H24 => ?_) (fun H24 => ?_)
            · refine TO.off (Gd.at 4 false 34 (!(decide (E19.Level = level))) rfl rfl rfl (beq_tf H24)) rfl rfl ?_
              refine TO.off (Gd.at 4 false 34 (!(decide (E19.Level = level))) rfl rfl rfl (beq_tf H24)) rfl rfl ?_
              refine TO.off (Gd.at 4 false 34 (!(decide (E19.Level = level))) rfl rfl rfl (beq_tf H24)) rfl rfl ?_
              refine TO.off (Gd.un 7 true 37 rfl rfl rfl) rfl rfl ?_
              refine TO.off (Gd.un 7 true 37 rfl rfl rfl) rfl rfl ?_
              refine TO.off (Gd.un 7 true 37 rfl rfl rfl) rfl rfl ?_
              refine TO.off (Gd.at 4 false 34 (!(decide (E19.Level = level))) rfl rfl rfl (beq_tf H24)) rfl rfl ?_
              refine TO.y (Y.pick_t H24 rfl rfl) rfl rfl rfl ?_
              refine TO.nil ?_
              exact TE.jb_go () [0, 0] ⟨rfl, rfl, rfl, rfl, rfl, rfl, rfl, rfl, trivial⟩ rfl
            · refine TO.y (Y.move rfl) (Gd.at 4 false 34 (!(decide (E19.Level = level))) rfl rfl rfl (beq_ff H24)) rfl rfl ?_
              refine TO.y (Y.eql rfl rfl) (Gd.at 4 false 34 (!(decide (E19.Level = level))) rfl rfl rfl (beq_ff H24)) rfl rfl ?_
              refine TO.y (Y.move rfl) (Gd.at 4 false 34 (!(decide (E19.Level = level))) rfl rfl rfl (beq_ff H24)) rfl rfl ?_
              refine TO.ite (b := decide (level = (1 : Int))) (fun H25 => ?_) (fun H25 => ?_)
              · refine TO.y (Y.move rfl) (Gd.at 7 true 37 (decide (level = (1 : Int))) rfl rfl rfl (beq_tt H25)) rfl rfl ?_
                refine TO.y (Y.len (l := S2.2.2.2) ke24 (Can.own 1 rfl) rfl) (Gd.at 7 true 37 (decide (level = (1 : Int))) rfl rfl rfl (beq_tt H25)) rfl rfl ?_
                refine TO.y (Y.gtr rfl rfl) (Gd.at 7 true 37 (decide (level = (1 : Int))) rfl rfl rfl (beq_tt H25)) rfl rfl ?_
                refine TO.y (Y.pick_t H25 rfl rfl) (Gd.at 4 false 34 (!(decide (E19.Level = level))) rfl rfl rfl (beq_ff H24)) rfl rfl ?_
                refine TO.y (Y.pick_f H24 rfl rfl) rfl rfl rfl ?_
                refine TO.nil ?_
                exact TE.jb_go () [0, 0] ⟨rfl, rfl, rfl, rfl, rfl, rfl, rfl, rfl, trivial⟩ rfl
              · refine TO.off (Gd.at 7 true 37 (decide (level = (1 : Int))) rfl rfl rfl (beq_ft H25)) rfl rfl ?_
                refine TO.off (Gd.at 7 true 37 (decide (level = (1 : Int))) rfl rfl rfl (beq_ft H25)) rfl rfl ?_
                refine TO.off (Gd.at 7 true 37 (decide (level = (1 : Int))) rfl rfl rfl (beq_ft H25)) rfl rfl ?_
                refine TO.y (Y.pick_f H25 rfl rfl) (Gd.at 4 false 34 (!(decide (E19.Level = level))) rfl rfl rfl (beq_ff H24)) rfl rfl ?_
                refine TO.y (Y.pick_f H24 rfl rfl) rfl rfl rfl ?_
                refine TO.nil ?_
                exact TE.jb_go () [0, 0] ⟨rfl, rfl, rfl, rfl, rfl, rfl, rfl, rfl, trivial⟩ rfl
          · refine TE.next ?_
            refine TW.cond rfl (fun H26 => ?_) (fun H26 => ?_)
            · refine TW.exit ?_
              refine TE.then_exit ?_
              refine TE.block_exit ?_
              exact TE.jn_go X3 [1] ⟨rfl, rfl, rfl, rfl, rfl, rfl, trivial⟩ rfl
            · refine TW.skip ?_
              refine TE.next ?_
              refine TW.seq ?_
              refine TW.seq ?_
              refine TW.joinBX (τ := Bool) (X := Unit) (fun T _ => [(0, V_l0), (1, .int .i64 level), (5, X3), (6, strV S2.1), (7, strV S2.2.1), (8, .int .i64 S2.2.2.1), (9, .pointer (some ⟨B21, 0, none⟩)), (51, .bool T)]) (fun _ _ => [.box B21 77 [.int .i64 E19.No, .int .i64 E19.Level, strV E19.Lo, strV E19.Hi], .own X3 (lc 3 S2.2.2.2)]) ?_ (fun T27 X28 => ?_)
              · refine TW.region ?_
                refine TO.y (Y.move rfl) rfl rfl rfl ?_
                refine TO.y (Y.len (l := S2.2.2.2) ke24 (Can.own 1 rfl) rfl) rfl rfl rfl ?_
                refine TO.y (Y.eql rfl rfl) rfl rfl rfl ?_
                refine TO.y (Y.move rfl) rfl rfl rfl ?_
                refine TO.ite (b := decide (((S2.2.2.2.length : Nat) : Int) = (0 : Int))) (fun H29 => ?_) (fun H29 => ?_)
                · refine TO.off (Gd.at 3 false 46 (decide (((S2.2.2.2.length : Nat) : Int) = (0 : Int))) rfl rfl rfl (beq_tf H29)) rfl rfl ?_
                  refine TO.off (Gd.at 3 false 46 (decide (((S2.2.2.2.length : Nat) : Int) = (0 : Int))) rfl rfl rfl (beq_tf H29)) rfl rfl ?_
                  refine TO.off (Gd.at 3 false 46 (decide (((S2.2.2.2.length : Nat) : Int) = (0 : Int))) rfl rfl rfl (beq_tf H29)) rfl rfl ?_
                  refine TO.off (Gd.at 3 false 46 (decide (((S2.2.2.2.length : Nat) : Int) = (0 : Int))) rfl rfl rfl (beq_tf H29)) rfl rfl ?_
                  refine TO.y (Y.pick_t H29 rfl rfl) rfl rfl rfl ?_
                  refine TO.nil ?_
                  exact TE.jb_go () [0, 0] ⟨rfl, rfl, rfl, rfl, rfl, rfl, rfl, rfl, trivial⟩ rfl
                · refine TO.y (Y.field_box kf77_2 rfl rfl) (Gd.at 3 false 46 (decide (((S2.2.2.2.length : Nat) : Int) = (0 : Int))) rfl rfl rfl (beq_ff H29)) rfl rfl ?_
                  refine TO.y (Y.load_box (v := strV E19.Lo) 0 kk9 rfl rfl rfl) (Gd.at 3 false 46 (decide (((S2.2.2.2.length : Nat) : Int) = (0 : Int))) rfl rfl rfl (beq_ff H29)) rfl rfl ?_
                  refine TO.y (Y.move rfl) (Gd.at 3 false 46 (decide (((S2.2.2.2.length : Nat) : Int) = (0 : Int))) rfl rfl rfl (beq_ff H29)) rfl rfl ?_
                  refine TO.y (Y.slss rfl rfl) (Gd.at 3 false 46 (decide (((S2.2.2.2.length : Nat) : Int) = (0 : Int))) rfl rfl rfl (beq_ff H29)) rfl rfl ?_
                  refine TO.y (Y.pick_f H29 rfl rfl) rfl rfl rfl ?_
                  refine TO.nil ?_
                  exact TE.jb_go () [0, 0] ⟨rfl, rfl, rfl, rfl, rfl, rfl, rfl, rfl, trivial⟩ rfl
              · refine TE.next ?_
                refine TW.joinX (τ := List UInt8) (X := Unit) (fun T _ => [(0, V_l0), (1, .int .i64 level), (5, X3), (6, strV T), (7, strV S2.2.1), (8, .int .i64 S2.2.2.1), (9, .pointer (some ⟨B21, 0, none⟩))]) (fun _ _ => [.box B21 77 [.int .i64 E19.No, .int .i64 E19.Level, strV E19.Lo, strV E19.Hi], .own X3 (lc 3 S2.2.2.2)]) ?_ (fun T30 X31 => ?_)
                · refine TW.cond rfl (fun H32 => ?_) (fun H32 => ?_)
                  · refine TW.region ?_
                    refine TO.y (Y.field_box kf77_2 rfl rfl) rfl rfl rfl ?_
                    refine TO.y (Y.load_box (v := strV E19.Lo) 0 kk9 rfl rfl rfl) rfl rfl rfl ?_
                    refine TO.y (Y.assign rfl) rfl rfl rfl ?_
                    refine TO.nil ?_
                    exact TE.jn_go () [0, 0] ⟨rfl, rfl, rfl, rfl, rfl, rfl, rfl, trivial⟩ rfl
                  · refine TW.skip ?_
                    exact TE.jn_go () [0, 0] ⟨rfl, rfl, rfl, rfl, rfl, rfl, rfl, trivial⟩ rfl
                · refine TE.next ?_
                  refine TW.seq ?_
                  refine TW.seq ?_
                  refine TW.region ?_
                  refine TO.y (Y.field_box kf77_3 rfl rfl) rfl rfl rfl ?_
                  refine TO.y (Y.load_box (v := strV E19.Hi) 0 kk9 rfl rfl rfl) rfl rfl rfl ?_
                  refine TO.y (Y.move rfl) rfl rfl rfl ?_
                  refine TO.y (Y.sgtr rfl rfl) rfl rfl rfl ?_
                  refine TO.nil ?_
                  refine TE.next ?_
                  refine TW.joinX (τ := List UInt8) (X := Unit) (fun T _ => [(0, V_l0), (1, .int .i64 level), (5, X3), (6, strV T30), (7, strV T), (8, .int .i64 S2.2.2.1), (9, .pointer (some ⟨B21, 0, none⟩))]) (fun _ _ => [.box B21 77 [.int .i64 E19.No, .int .i64 E19.Level, strV E19.Lo, strV E19.Hi], .own X3 (lc 3 S2.2.2.2)]) ?_ (fun T33 X34 => ?_)
                  · refine TW.cond rfl (fun H35 => ?_) (fun H35 => ?_)
                    · refine TW.region ?_
                      refine TO.y (Y.field_box kf77_3 rfl rfl) rfl rfl rfl ?_
                      refine TO.y (Y.load_box (v := strV E19.Hi) 0 kk9 rfl rfl rfl) rfl rfl rfl ?_
                      refine TO.y (Y.assign rfl) rfl rfl rfl ?_
                      refine TO.nil ?_
                      exact TE.jn_go () [0, 0] ⟨rfl, rfl, rfl, rfl, rfl, rfl, rfl, trivial⟩ rfl
                    · refine TW.skip ?_
                      exact TE.jn_go () [0, 0] ⟨rfl, rfl, rfl, rfl, rfl, rfl, rfl, trivial⟩ rfl
                  · refine TE.next ?_
                    refine TW.region ?_
                    refine TO.y (Y.move rfl) rfl rfl rfl ?_
                    refine TO.y (Y.field_box kf77_0 rfl rfl) rfl rfl rfl ?_
                    refine TO.y (Y.load_box (v := .int .i64 E19.No) 0 kk3 rfl rfl rfl) rfl rfl rfl ?_
                    refine TO.ef (Ef.buildSlice (α := Int) (Vs := [.int .i64 E19.No]) [E19.No] ke24 kz3 rfl rfl rfl rfl rfl) rfl rfl rfl (fun B36 => ?_)
                    refine TO.bind fun E38 H39 => ?_
                    refine TO.ef (Ef.append (α := Int) (is' := [.own (.slice (some ⟨B36, 0, none⟩) 1 1) (lc 3 ([E19.No])), .box B21 77 [.int .i64 E19.No, .int .i64 E19.Level, strV E19.Lo, strV E19.Hi]]) [2, 0, 0] H39 ke24 kz3 rfl rfl rfl rfl rfl (Can.own 0 rfl)) rfl rfl rfl (fun V37 => ?_)
                    refine TO.y (Y.assign rfl) rfl rfl rfl ?_
                    refine TO.nil ?_
                    refine TE.block_normal ?_
                    exact TE.jn_go V37 [0] ⟨rfl, rfl, rfl, rfl, rfl, rfl, trivial⟩ rfl
        · refine TE.next ?_
          refine TW.region ?_
          refine TO.y (Y.move rfl) rfl rfl rfl ?_
          refine TO.y (Y.add rfl rfl) rfl rfl rfl ?_
          refine TO.y (Y.assign rfl) rfl rfl rfl ?_
          refine TO.nil ?_
          exact TE.lp_go X18 [0] ⟨rfl, rfl, rfl, rfl, rfl, rfl, trivial⟩ rfl
      · refine TW.exit ?_
        refine TE.then_exit ?_
        refine TE.lp_exit ?_
        refine TE.block_exit ?_
        exact TE.jn_go X3 [0] ⟨rfl, rfl, rfl, rfl, rfl, trivial⟩ rfl
  · refine TE.next ?_
    refine TW.seq ?_
    refine TW.seq ?_
    refine TW.region ?_
    refine TO.y (Y.assign rfl) rfl rfl rfl ?_
    refine TO.nil ?_
    refine TE.next ?_
    refine TW.joinX (τ := List Int) (X := Value) (fun _ X => [(5, X)]) (fun T X => [.own X (lc 3 T)]) ?_ (fun T42 X43 => ?_)
    · refine TW.block ?_
      refine TW.loopX (σ := Int × List Int) (X := Value) (fun T X => [(0, V_l0), (1, .int .i64 level), (5, X), (6, strV T4.1), (7, strV T4.2.1), (10, .int .i64 T.1)]) (fun T X => [.own X (lc 3 T.2)]) X5 [0] ⟨rfl, rfl, rfl, rfl, rfl, rfl, trivial⟩ rfl (fun S40 X41 => ?_)
      refine TW.seq ?_
      refine TW.seq ?_
      refine TW.joinBX (τ := Bool) (X := Unit) (fun T _ => [(0, V_l0), (1, .int .i64 level), (5, X41), (6, strV T4.1), (7, strV T4.2.1), (10, .int .i64 S40.1), (72, .bool T)]) (fun _ _ => [.own X41 (lc 3 S40.2)]) ?_ (fun T44 X45 => ?_)
      · refine TW.region ?_
        refine TO.y (Y.move rfl) rfl rfl rfl ?_
        refine TO.y (Y.move rfl) rfl rfl rfl ?_
        refine TO.y (Y.len (l := l) ke26 (Base.can HB_V_l0) rfl) rfl rfl rfl ?_
        refine TO.y (Y.lss rfl rfl) rfl rfl rfl ?_
        refine TO.y (Y.move rfl) rfl rfl rfl ?_
        refine TO.ite (b := decide (S40.1 < ((l.length : Nat) : Int))) (fun H46 => ?_) (fun H46 => ?_)
        · refine TO.y (Y.move rfl) (Gd.at 4 true 69 (decide (S40.1 < ((l.length : Nat) : Int))) rfl rfl rfl (beq_tt H46)) rfl rfl ?_
          refine TO.y (Y.sneq rfl rfl) (Gd.at 4 true 69 (decide (S40.1 < ((l.length : Nat) : Int))) rfl rfl rfl (beq_tt H46)) rfl rfl ?_
          refine TO.y (Y.pick_t H46 rfl rfl) rfl rfl rfl ?_
          refine TO.nil ?_
          exact TE.jb_go () [0] ⟨rfl, rfl, rfl, rfl, rfl, rfl, rfl, trivial⟩ rfl
        · refine TO.off (Gd.at 4 true 69 (decide (S40.1 < ((l.length : Nat) : Int))) rfl rfl rfl (beq_ft H46)) rfl rfl ?_
          refine TO.off (Gd.at 4 true 69 (decide (S40.1 < ((l.length : Nat) : Int))) rfl rfl rfl (beq_ft H46)) rfl rfl ?_
          refine TO.y (Y.pick_f H46 rfl rfl) rfl rfl rfl ?_
          refine TO.nil ?_
          exact TE.jb_go () [0] ⟨rfl, rfl, rfl, rfl, rfl, rfl, rfl, trivial⟩ rfl
      · refine TE.next ?_
        refine TW.cond rfl (fun H47 => ?_) (fun H47 => ?_)
        · refine TW.skip ?_
          refine TE.next ?_
          refine TW.seq ?_
          refine TW.block ?_
          refine TW.seq ?_
          refine TW.joinBX (τ := Bool) (X := Unit) (fun T _ => [(0, V_l0), (1, .int .i64 level), (5, X41), (6, strV T4.1), (7, strV T4.2.1), (10, .int .i64 S40.1), (100, .bool T)]) (fun _ _ => [.own X41 (lc 3 S40.2)]) ?_ (fun T48 X49 => ?_)
          · refine TW.region ?_
            refine TO.y (Y.move rfl) rfl rfl rfl ?_
            refine TO.y (Y.move rfl) rfl rfl rfl ?_
            refine TO.bind fun E50 H51 => ?_
            refine TO.y (Y.index ke26 (Base.can HB_V_l0) H51 rfl rfl) rfl rfl rfl ?_
            refine TO.y (Y.field_el kf77_1 (Base.can HB_V_l0) (idx_get H51).2.2 rfl rfl) rfl rfl rfl ?_
            refine TO.y (Y.load_el (us := [.int .i64 E50.Level]) (u := .int .i64 E50.Level) kk3 rfl (Base.can HB_V_l0) (idx_get H51).2.2 rfl rfl rfl rfl rfl) rfl rfl rfl ?_
            refine TO.y (Y.move rfl) rfl rfl rfl ?_
            refine TO.y (Y.add rfl rfl) rfl rfl rfl ?_
            refine TO.y (Y.eql rfl rfl) rfl rfl rfl ?_
            refine TO.y (Y.move rfl) rfl rfl rfl ?_
            refine TO.ite (b := decide (E50.Level = IntKind.i64.wrap (level + (1 : Int)))) (fun H52 => ?_) (fun H52 => ?_)
            · refine TO.y (Y.move rfl) (Gd.at 8 true 83 (decide (E50.Level = IntKind.i64.wrap (level + (1 : Int)))) rfl rfl rfl (beq_tt H52)) rfl rfl ?_
              refine TO.y (Y.move rfl) (Gd.at 8 true 83 (decide (E50.Level = IntKind.i64.wrap (level + (1 : Int)))) rfl rfl rfl (beq_tt H52)) rfl rfl ?_
              refine TO.y (Y.index ke26 (Base.can HB_V_l0) H51 rfl rfl) (Gd.at 8 true 83 (decide (E50.Level = IntKind.i64.wrap (level + (1 : Int)))) rfl rfl rfl (beq_tt H52)) rfl rfl ?_
              refine TO.y (Y.field_el kf77_2 (Base.can HB_V_l0) (idx_get H51).2.2 rfl rfl) (Gd.at 8 true 83 (decide (E50.Level = IntKind.i64.wrap (level + (1 : Int)))) rfl rfl rfl (beq_tt H52)) rfl rfl ?_
              refine TO.y (Y.load_el (us := [strV E50.Lo]) (u := strV E50.Lo) kk9 rfl (Base.can HB_V_l0) (idx_get H51).2.2 rfl rfl rfl rfl rfl) (Gd.at 8 true 83 (decide (E50.Level = IntKind.i64.wrap (level + (1 : Int)))) rfl rfl rfl (beq_tt H52)) rfl rfl ?_
              refine TO.y (Y.move rfl) (Gd.at 8 true 83 (decide (E50.Level = IntKind.i64.wrap (level + (1 : Int)))) rfl rfl rfl (beq_tt H52)) rfl rfl ?_
              refine TO.y (Y.sleq rfl rfl) (Gd.at 8 true 83 (decide (E50.Level = IntKind.i64.wrap (level + (1 : Int)))) rfl rfl rfl (beq_tt H52)) rfl rfl ?_
              refine TO.y (Y.pick_t H52 rfl rfl) rfl rfl rfl ?_
              refine TO.y (Y.move rfl) rfl rfl rfl ?_
              refine TO.ite (b := (sLt E50.Lo T4.2.1 || decide (E50.Lo = T4.2.1))) (fun H53 => ?_) (fun H53 => ?_)
              · refine TO.y (Y.move rfl) (Gd.at 17 true 92 (sLt E50.Lo T4.2.1 || decide (E50.Lo = T4.2.1)) rfl rfl rfl (beq_tt H53)) rfl rfl ?_
                refine TO.y (Y.move rfl) (Gd.at 17 true 92 (sLt E50.Lo T4.2.1 || decide (E50.Lo = T4.2.1)) rfl rfl rfl (beq_tt H53)) rfl rfl ?_
                refine TO.y (Y.index ke26 (Base.can HB_V_l0) H51 rfl rfl) (Gd.at 17 true 92 (sLt E50.Lo T4.2.1 || decide (E50.Lo = T4.2.1)) rfl rfl rfl (beq_tt H53)) rfl rfl ?_
                refine TO.y (Y.field_el kf77_3 (Base.can HB_V_l0) (idx_get H51).2.2 rfl rfl) (Gd.at 17 true 92 (sLt E50.Lo T4.2.1 || decide (E50.Lo = T4.2.1)) rfl rfl rfl (beq_tt H53)) rfl rfl ?_
                refine TO.y (Y.load_el (us := [strV E50.Hi]) (u := strV E50.Hi) kk9 rfl (Base.can HB_V_l0) (idx_get H51).2.2 rfl rfl rfl rfl rfl) (Gd.at 17 true 92 (sLt E50.Lo T4.2.1 || decide (E50.Lo = T4.2.1)) rfl rfl rfl (beq_tt H53)) rfl rfl ?_
                refine TO.y (Y.move rfl) (Gd.at 17 true 92 (sLt E50.Lo T4.2.1 || decide (E50.Lo = T4.2.1)) rfl rfl rfl (beq_tt H53)) rfl rfl ?_
                refine TO.y (Y.sgeq rfl rfl) (Gd.at 17 true 92 (sLt E50.Lo T4.2.1 || decide (E50.Lo = T4.2.1)) rfl rfl rfl (beq_tt H53)) rfl rfl ?_
                refine TO.y (Y.pick_t H53 rfl rfl) rfl rfl rfl ?_
                refine TO.nil ?_
                exact TE.jb_go () [0] ⟨rfl, rfl, rfl, rfl, rfl, rfl, rfl, trivial⟩ rfl
              · refine TO.off (Gd.at 17 true 92 (sLt E50.Lo T4.2.1 || decide (E50.Lo = T4.2.1)) rfl rfl rfl (beq_ft H53)) rfl rfl ?_
                refine TO.off (Gd.at 17 true 92 (sLt E50.Lo T4.2.1 || decide (E50.Lo = T4.2.1)) rfl rfl rfl (beq_ft H53)) rfl rfl ?_
                refine TO.off (Gd.at 17 true 92 (sLt E50.Lo T4.2.1 || decide (E50.Lo = T4.2.1)) rfl rfl rfl (beq_ft H53)) rfl rfl ?_
                refine TO.off (Gd.at 17 true 92 (sLt E50.Lo T4.2.1 || decide (E50.Lo = T4.2.1)) rfl rfl rfl (beq_ft H53)) rfl rfl ?_
                refine TO.off (Gd.at 17 true 92 (sLt E50.Lo T4.2.1 || decide (E50.Lo = T4.2.1)) rfl rfl rfl (beq_ft H53)) rfl rfl ?_
                refine TO.off (Gd.at 17 true 92 (sLt E50.Lo T4.2.1 || decide (E50.Lo = T4.2.1)) rfl rfl rfl (beq_ft H53)) rfl rfl ?_
                refine TO.off (Gd.at 17 true 92 (sLt E50.Lo T4.2.1 || decide (E50.Lo = T4.2.1)) rfl rfl rfl (beq_ft H53)) rfl rfl ?_
                refine TO.y (Y.pick_f H53 rfl rfl) rfl rfl rfl ?_
                refine TO.nil ?_
                exact TE.jb_go () [0] ⟨rfl, rfl, rfl, rfl, rfl, rfl, rfl, trivial⟩ rfl
            · refine TO.off (Gd.at 8 true 83 (decide (E50.Level = IntKind.i64.wrap (level + (1 : Int)))) rfl rfl rfl (beq_ft H52)) rfl rfl ?_
              refine TO.off (Gd.at 8 true 83 (decide (E50.Level = IntKind.i64.wrap (level + (1 : Int)))) rfl rfl rfl (beq_ft H52)) rfl rfl ?_
              refine TO.off (Gd.at 8 true 83 (decide (E50.Level = IntKind.i64.wrap (level + (1 : Int)))) rfl rfl rfl (beq_ft H52)) rfl rfl ?_
              refine TO.off (Gd.at 8 true 83 (decide (E50.Level = IntKind.i64.wrap (level + (1 : Int)))) rfl rfl rfl (beq_ft H52)) rfl rfl ?_
              refine TO.off (Gd.at 8 true 83 (decide (E50.Level = IntKind.i64.wrap (level + (1 : Int)))) rfl rfl rfl (beq_ft H52)) rfl rfl ?_
              refine TO.off (Gd.at 8 true 83 (decide (E50.Level = IntKind.i64.wrap (level + (1 : Int)))) rfl rfl rfl (beq_ft H52)) rfl rfl ?_
              refine TO.off (Gd.at 8 true 83 (decide (E50.Level = IntKind.i64.wrap (level + (1 : Int)))) rfl rfl rfl (beq_ft H52)) rfl rfl ?_
              refine TO.y (Y.pick_f H52 rfl rfl) rfl rfl rfl ?_
              refine TO.y (Y.move rfl) rfl rfl rfl ?_
              refine TO.off (Gd.at 17 true 92 false rfl rfl rfl rfl) rfl rfl ?_
              refine TO.off (Gd.at 17 true 92 false rfl rfl rfl rfl) rfl rfl ?_
              refine TO.off (Gd.at 17 true 92 false rfl rfl rfl rfl) rfl rfl ?_
              refine TO.off (Gd.at 17 true 92 false rfl rfl rfl rfl) rfl rfl ?_
              refine TO.off (Gd.at 17 true 92 false rfl rfl rfl rfl) rfl rfl ?_
              refine TO.off (Gd.at 17 true 92 false rfl rfl rfl rfl) rfl rfl ?_
              refine TO.off (Gd.at 17 true 92 false rfl rfl rfl rfl) rfl rfl ?_
              refine TO.y (Y.pick_f rfl rfl rfl) rfl rfl rfl ?_
              refine TO.nil ?_
              exact TE.jb_go () [0] ⟨rfl, rfl, rfl, rfl, rfl, rfl, rfl, trivial⟩ rfl
          · refine TE.next ?_
            refine TW.joinX (τ := List Int) (X := Value) (fun _ X => [(0, V_l0), (1, .int .i64 level), (5, X), (6, strV T4.1), (7, strV T4.2.1), (10, .int .i64 S40.1)]) (fun T X => [.own X (lc 3 T)]) ?_ (fun T54 X55 => ?_)
            · refine TW.cond rfl (fun H56 => ?_) (fun H56 => ?_)
              · refine TW.region ?_
                refine TO.y (Y.move rfl) rfl rfl rfl ?_
                refine TO.y (Y.move rfl) rfl rfl rfl ?_
                refine TO.y (Y.move rfl) rfl rfl rfl ?_
                refine TO.bind fun E57 H58 => ?_
                refine TO.y (Y.index ke26 (Base.can HB_V_l0) H58 rfl rfl) rfl rfl rfl ?_
                refine TO.y (Y.field_el kf77_0 (Base.can HB_V_l0) (idx_get H58).2.2 rfl rfl) rfl rfl rfl ?_
                refine TO.y (Y.load_el (us := [.int .i64 E57.No]) (u := .int .i64 E57.No) kk3 rfl (Base.can HB_V_l0) (idx_get H58).2.2 rfl rfl rfl rfl rfl) rfl rfl rfl ?_
                refine TO.ef (Ef.buildSlice (α := Int) (Vs := [.int .i64 E57.No]) [E57.No] ke24 kz3 rfl rfl rfl rfl rfl) rfl rfl rfl (fun B59 => ?_)
                refine TO.bind fun E61 H62 => ?_
                refine TO.ef (Ef.append (α := Int) (is' := [.own (.slice (some ⟨B59, 0, none⟩) 1 1) (lc 3 ([E57.No]))]) [1, 0] H62 ke24 kz3 rfl rfl rfl rfl rfl (Can.own 0 rfl)) rfl rfl rfl (fun V60 => ?_)
                refine TO.y (Y.assign rfl) rfl rfl rfl ?_
                refine TO.nil ?_
                exact TE.jn_go V60 [0] ⟨rfl, rfl, rfl, rfl, rfl, rfl, trivial⟩ rfl
              · refine TW.skip ?_
                exact TE.jn_go X41 [0] ⟨rfl, rfl, rfl, rfl, rfl, rfl, trivial⟩ rfl
            · refine TE.block_normal ?_
              refine TE.next ?_
              refine TW.region ?_
              refine TO.y (Y.move rfl) rfl rfl rfl ?_
              refine TO.y (Y.add rfl rfl) rfl rfl rfl ?_
              refine TO.y (Y.assign rfl) rfl rfl rfl ?_
              refine TO.nil ?_
              exact TE.lp_go X55 [0] ⟨rfl, rfl, rfl, rfl, rfl, rfl, trivial⟩ rfl
        · refine TW.exit ?_
          refine TE.then_exit ?_
          refine TE.lp_exit ?_
          refine TE.block_exit ?_
          exact TE.jn_go X41 [0] ⟨rfl, trivial⟩ rfl
    · refine TE.next ?_
      refine TW.seq ?_
      refine TW.region ?_
      refine TO.y (Y.move rfl) rfl rfl rfl ?_
      refine TO.y (Y.assign rfl) rfl rfl rfl ?_
      refine TO.nil ?_
      refine TE.next ?_
      refine TW.ret ?_
      exact TE.leaf fun _ _ hf_ hs_ => ret_any (rs := [.tmp 4]) (vs := [X43]) (.inl rfl) rfl ⟨rfl, trivial⟩ hf_ hs_ ⟨X43, rfl, hs_.pulls [0] rfl⟩

/-- loop.example/g00950/impl.FilesPick -/
noncomputable def impl_FilesPick (l : List File) (level : Int) : Option (List Int) :=
  ((impl_inRange level (0 : Int) (1 : Int)).bind fun R3 =>
  if (!R3) = true then (some true)
  else ((impl_FilesOk l).bind fun R7 =>
  some (!R7))).bind (fun (T1 : Bool) =>
  if T1 = true then (some ([]))
  else (bindC (loopO (fun (S12 : List UInt8 × List UInt8 × Int × List Int) => if (decide (S12.2.2.1 < ((l.length : Nat) : Int))) = true then ((idx l S12.2.2.1).bind fun E17 =>
  (if (decide (E17.Level = level)) = true then (if (decide (level = (0 : Int))) = true then (some true)
  else (some (decide (((S12.2.2.2.length : Nat) : Int) = (0 : Int)))))
  else (some false)).bind (fun (T20 : Bool) =>
  bindC (if T20 = true then (bindC (if (decide (((S12.2.2.2.length : Nat) : Int) = (0 : Int))) = true then (some (.go (E17.Lo, E17.Hi)))
  else (some (.go (S12.1, S12.2.1))))
  (fun (T27 : List UInt8 × List UInt8) => (app 8 S12.2.2.2 ([E17.No])).bind fun E32 =>
  some (.go (sMin T27.1 E17.Lo, sMax T27.2 E17.Hi, E32))))
  else ((if (decide (E17.Level = IntKind.i64.wrap (level + (1 : Int)))) = true then (if (decide (((S12.2.2.2.length : Nat) : Int) > (0 : Int))) = true then (if (sLt E17.Lo S12.2.1 || decide (E17.Lo = S12.2.1)) = true then (some (!(sLt E17.Hi S12.1)))
  else (some false))
  else (some false))
  else (some false)).bind (fun (T34 : Bool) =>
  bindC (if T34 = true then ((app 8 S12.2.2.2 ([E17.No])).bind fun E44 =>
  some (.go E44))
  else (some (.go S12.2.2.2)))
  (fun (T39 : List Int) => some (.go (S12.1, S12.2.1, T39))))))
  (fun (T24 : List UInt8 × List UInt8 × List Int) => some (.go (T24.1, T24.2.1, IntKind.i64.wrap (S12.2.2.1 + (1 : Int)), T24.2.2)))))
  else (some (.done (.go S12.2.2.2))))
  ([], [], (0 : Int), ([] : List Int)))
  (fun (T14 : List Int) => some T14)))

theorem impl_FilesPick_con (l : List File) (level : Int) (V_l0 : Value) (r : List Int) (hm : impl_FilesPick l level = some r) :
    Con Try.prog 19 [V_l0, .int .i64 level] [] [(V_l0, lc 77 l)] (fun X : Value => X) (fun X => [.own X (lc 3 r)]) := by
  refine Con.intro (args := [V_l0, .int .i64 level]) (n := 88) (val := fun _ (X : Value) => X) (post := fun r X => [.own X (lc 3 r)]) (m := impl_FilesPick l level) Try.func19 rfl rfl rfl hm ?_
  intro w S hrd
  have HB_V_l0 := hrd _ (.head _)
  clear hrd
  unfold impl_FilesPick
  refine TW.seq ?_
  refine TW.region ?_
  refine TO.y (Y.assign rfl) rfl rfl rfl ?_
  refine TO.nil ?_
  refine TE.next ?_
  refine TW.seq ?_
  refine TW.seq ?_
  refine TW.joinBX (τ := Bool) (X := Unit) (fun T _ => [(0, V_l0), (1, .int .i64 level), (17, .bool T)]) (fun _ _ => []) ?_ (fun T1 X2 => ?_)
  · refine TW.region ?_
    refine TO.y (Y.move rfl) rfl rfl rfl ?_
    refine TO.bind fun R3 H4 => ?_
    refine TO.ef (Ef.call (rest := []) [] (impl_inRange_con level (0 : Int) (1 : Int)  R3 H4) kc54 rfl rfl trivial) rfl rfl rfl (fun _ => ?_)
    refine TO.y (Y.not rfl) rfl rfl rfl ?_
    refine TO.y (Y.move rfl) rfl rfl rfl ?_
    refine TO.ite (b := !R3) (fun H6 => ?_) (fun H6 => ?_)
    · refine TO.off (Gd.at 3 false 13 (!R3) rfl rfl rfl (beq_tf H6)) rfl rfl ?_
      refine TO.off (Gd.at 3 false 13 (!R3) rfl rfl rfl (beq_tf H6)) rfl rfl ?_
      refine TO.off (Gd.at 3 false 13 (!R3) rfl rfl rfl (beq_tf H6)) rfl rfl ?_
      refine TO.y (Y.pick_t H6 rfl rfl) rfl rfl rfl ?_
      refine TO.nil ?_
      exact TE.jb_go () [] ⟨rfl, rfl, rfl, trivial⟩ rfl
    · refine TO.y (Y.move rfl) (Gd.at 3 false 13 (!R3) rfl rfl rfl (beq_ff H6)) rfl rfl ?_
      refine TO.bind fun R7 H8 => ?_
      refine TO.ef (Ef.call (rest := []) [] (impl_FilesOk_con l V_l0 R7 H8) kc50 rfl rfl ⟨(Base.can HB_V_l0), trivial⟩) (Gd.at 3 false 13 (!R3) rfl rfl rfl (beq_ff H6)) rfl rfl (fun _ => ?_)
      refine TO.y (Y.not rfl) (Gd.at 3 false 13 (!R3) rfl rfl rfl (beq_ff H6)) rfl rfl ?_
      refine TO.y (Y.pick_f H6 rfl rfl) rfl rfl rfl ?_
      refine TO.nil ?_
      exact TE.jb_go () [] ⟨rfl, rfl, rfl, trivial⟩ rfl
  · refine TE.next ?_
    refine TW.cond rfl (fun H10 => ?_) (fun H10 => ?_)
    · refine TW.seq ?_
      refine TW.region ?_
      refine TO.y (Y.assign rfl) rfl rfl rfl ?_
      refine TO.nil ?_
      refine TE.next ?_
      refine TW.ret ?_
      refine TE.then_ret ?_
      exact TE.leaf fun _ _ hf_ hs_ => ret_any (rs := [.tmp 4]) (vs := [.slice none 0 0]) (.inl rfl) rfl ⟨rfl, trivial⟩ hf_ hs_ ⟨(.slice none 0 0), rfl, (hs_.nilItem 3 1).pulls [0] rfl⟩
    · refine TW.skip ?_
      refine TE.next ?_
      refine TW.seq ?_
      refine TW.region ?_
      refine TO.y (Y.assign rfl) rfl rfl rfl ?_
      refine TO.nil ?_
      refine TE.next ?_
      refine TW.seq ?_
      refine TW.region ?_
      refine TO.y (Y.assign rfl) rfl rfl rfl ?_
      refine TO.y (Y.assign rfl) rfl rfl rfl ?_
      refine TO.nil ?_
      refine TE.next ?_
      refine TW.seq ?_
      refine TW.seq ?_
      refine TW.region ?_
      refine TO.y (Y.move rfl) rfl rfl rfl ?_
      refine TO.y (Y.len (l := l) ke26 (Base.can HB_V_l0) rfl) rfl rfl rfl ?_
      refine TO.y (Y.move rfl) rfl rfl rfl ?_
      refine TO.nil ?_
      refine TE.next ?_
      refine TW.joinX (τ := List Int) (X := Value) (fun _ X => [(5, X)]) (fun T X => [.own X (lc 3 T)]) ?_ (fun T14 X15 => ?_)
      · refine TW.block ?_
        refine TW.nilItem 3 1 ?_
        refine TW.loopX (σ := List UInt8 × List UInt8 × Int × List Int) (X := Value) (fun T X => [(1, .int .i64 level), (5, X), (6, strV T.1), (7, strV T.2.1), (18, V_l0), (19, .int .i64 ((l.length : Nat) : Int)), (20, .int .i64 T.2.2.1)]) (fun T X => [.own X (lc 3 T.2.2.2)]) (.slice none 0 0) [0] ⟨rfl, rfl, rfl, rfl, rfl, rfl, rfl, trivial⟩ rfl (fun S12 X13 => ?_)
        refine TW.seq ?_
        refine TW.region ?_
        refine TO.y (Y.lss rfl rfl) rfl rfl rfl ?_
        refine TO.nil ?_
        refine TE.next ?_
        refine TW.seq ?_
        refine TW.cond rfl (fun H16 => ?_) (fun H16 => ?_)
        · refine TW.skip ?_
          refine TE.next ?_
          refine TW.seq ?_
          refine TW.block ?_
          refine TW.seq ?_
          refine TW.region ?_
          refine TO.bind fun E17 H18 => ?_
          refine TO.y (Y.index ke26 (Base.can HB_V_l0) H18 rfl rfl) rfl rfl rfl ?_
          refine TO.y (Y.load_el (us := [.int .i64 E17.No, .int .i64 E17.Level, strV E17.Lo, strV E17.Hi]) (u := .agg #[.int .i64 E17.No, .int .i64 E17.Level, strV E17.Lo, strV E17.Hi]) kk77 rfl (Base.can HB_V_l0) (idx_get H18).2.2 rfl rfl rfl rfl rfl) rfl rfl rfl ?_
          refine TO.ef (Ef.alloc kz77 rfl) rfl rfl rfl (fun B19 => ?_)
          refine TO.ef0 (Ef.store_box (us := [.int .i64 E17.No, .int .i64 E17.Level, strV E17.Lo, strV E17.Hi]) (vs' := [.int .i64 E17.No, .int .i64 E17.Level, strV E17.Lo, strV E17.Hi]) (is' := [.box B19 77 [.int .i64 E17.No, .int .i64 E17.Level, strV E17.Lo, strV E17.Hi], .own X13 (lc 3 S12.2.2.2)]) 0 kk77 rfl rfl rfl (Cel.plain rfl rfl) rfl rfl rfl rfl) rfl rfl (fun _ => ?_)
          refine TO.nil ?_
          refine TE.next ?_
          refine TW.block ?_
          refine TW.seq ?_
          refine TW.joinBX (τ := Bool) (X := Unit) (fun T _ => [(1, .int .i64 level), (5, X13), (6, strV S12.1), (7, strV S12.2.1), (9, .pointer (some ⟨B19, 0, none⟩)), (18, V_l0), (19, .int .i64 ((l.length : Nat) : Int)), (20, .int .i64 S12.2.2.1), (24, .bool T)]) (fun _ _ => [.box B19 77 [.int .i64 E17.No, .int .i64 E17.Level, strV E17.Lo, strV E17.Hi], .own X13 (lc 3 S12.2.2.2)]) ?_ (fun T20 X21 => ?_)
          · refine TW.region ?_
            refine TO.y (Y.field_box kf77_1 rfl rfl) rfl rfl rfl ?_
            refine TO.y (Y.load_box (v := .int .i64 E17.Level) 0 kk3 rfl rfl rfl) rfl rfl rfl ?_
            refine TO.y (Y.move rfl) rfl rfl rfl ?_
            refine TO.y (Y.eql rfl rfl) rfl rfl rfl ?_
            refine TO.y (Y.move rfl) rfl rfl rfl ?_
            refine TO.ite (b := decide (E17.Level = level)) (fun H22 => ?_) (fun H22 => ?_)
            · refine TO.y (Y.move rfl) (Gd.at 4 true 29 (decide (E17.Level = level)) rfl rfl rfl (beq_tt H22)) rfl rfl ?_
              refine TO.y (Y.eql rfl rfl) (Gd.at 4 true 29 (decide (E17.Level = level)) rfl rfl rfl (beq_tt H22)) rfl rfl ?_
              refine TO.y (Y.move rfl) (Gd.at 4 true 29 (decide (E17.Level = level)) rfl rfl rfl (beq_tt H22)) rfl rfl ?_
              refine TO.ite (b := decide (level = (0 : Int))) (fun H23 => ?_) (fun H23 => ?_)
              · refine TO.off (Gd.at 7 false 32 (decide (level = (0 : Int))) rfl rfl rfl (beq_tf H23)) rfl rfl ?_
                refine TO.off (Gd.at 7 false 32 (decide (level = (0 : Int))) rfl rfl rfl (beq_tf H23)) rfl rfl ?_
                refine TO.off (Gd.at 7 false 32 (decide (level = (0 : Int))) rfl rfl rfl (beq_tf H23)) rfl rfl ?_
                refine TO.y (Y.pick_t H23 rfl rfl) (Gd.at 4 true 29 (decide (E17.Level = level)) rfl rfl rfl (beq_tt H22)) rfl rfl ?_
                refine TO.y (Y.pick_t H22 rfl rfl) rfl rfl rfl ?_
                refine TO.y (Y.assign rfl) rfl rfl rfl ?_
                refine TO.nil ?_
                exact TE.jb_go () [0, 0] ⟨rfl, rfl, rfl, rfl, rfl, rfl, rfl, rfl, rfl, trivial⟩ rfl
              · refine TO.y (Y.move rfl) (Gd.at 7 false 32 (decide (level = (0 : Int))) rfl rfl rfl (beq_ff H23)) rfl rfl ?_
                refine TO.y (Y.len (l := S12.2.2.2) ke24 (Can.own 1 rfl) rfl) (Gd.at 7 false 32 (decide (level = (0 : Int))) rfl rfl rfl (beq_ff H23)) rfl rfl ?_
                refine TO.y (Y.eql rfl rfl) (Gd.at 7 false 32 (decide (level = (0 : Int))) rfl rfl rfl (beq_ff H23)) rfl rfl ?_
                refine TO.y (Y.pick_f H23 rfl rfl) (Gd.at 4 true 29 (decide (E17.Level = level)) rfl rfl rfl (beq_tt H22)) rfl rfl ?_
                refine TO.y (Y.pick_t H22 rfl rfl) rfl rfl rfl ?_
                refine TO.y (Y.assign rfl) rfl rfl rfl ?_
                refine TO.nil ?_
                exact TE.jb_go () [0, 0] ⟨rfl, rfl, rfl, rfl, rfl, rfl, rfl, rfl, rfl, trivial⟩ rfl
            · refine TO.off (Gd.at 4 true 29 (decide (E17.Level = level)) rfl rfl rfl (beq_ft H22)) rfl rfl ?_
              refine TO.off (Gd.at 4 true 29 (decide (E17.Level = level)) rfl rfl rfl (beq_ft H22)) rfl rfl ?_
              refine TO.off (Gd.at 4 true 29 (decide (E17.Level = level)) rfl rfl rfl (beq_ft H22)) rfl rfl ?_
              refine TO.off (Gd.un 7 false 32 rfl rfl rfl) rfl rfl ?_
              refine TO.off (Gd.un 7 false 32 rfl rfl rfl) rfl rfl ?_
              refine TO.off (Gd.un 7 false 32 rfl rfl rfl) rfl rfl ?_
              refine TO.off (Gd.at 4 true 29 (decide (E17.Level = level)) rfl rfl rfl (beq_ft H22)) rfl rfl ?_
              refine TO.y (Y.pick_f H22 rfl rfl) rfl rfl rfl ?_
              refine TO.y (Y.assign rfl) rfl rfl rfl ?_
              refine TO.nil ?_
              exact TE.jb_go () [0, 0] ⟨rfl, rfl, rfl, rfl, rfl, rfl, rfl, rfl, rfl, trivial⟩ rfl
          · refine TE.next ?_
            refine TW.joinX (τ := List UInt8 × List UInt8 × List Int) (X := Value) (fun T X => [(1, .int .i64 level), (5, X), (6, strV T.1), (7, strV T.2.1), (18, V_l0), (19, .int .i64 ((l.length : Nat) : Int)), (20, .int .i64 S12.2.2.1)]) (fun T X => [.own X (lc 3 T.2.2)]) ?_ (fun T24 X25 => ?_)
            · refine TW.cond rfl (fun H26 => ?_) (fun H26 => ?_)
              · refine TW.seq ?_
                refine TW.seq ?_
                refine TW.region ?_
                refine TO.y (Y.move rfl) rfl rfl rfl ?_
                refine TO.y (Y.len (l := S12.2.2.2) ke24 (Can.own 1 rfl) rfl) rfl rfl rfl ?_
                refine TO.y (Y.eql rfl rfl) rfl rfl rfl ?_
                refine TO.nil ?_
                refine TE.next ?_
                refine TW.joinX (τ := List UInt8 × List UInt8) (X := Unit) (fun T _ => [(1, .int .i64 level), (5, X13), (6, strV T.1), (7, strV T.2), (9, .pointer (some ⟨B19, 0, none⟩)), (18, V_l0), (19, .int .i64 ((l.length : Nat) : Int)), (20, .int .i64 S12.2.2.1)]) (fun _ _ => [.box B19 77 [.int .i64 E17.No, .int .i64 E17.Level, strV E17.Lo, strV E17.Hi], .own X13 (lc 3 S12.2.2.2)]) ?_ (fun T27 X28 => ?_)
                · refine TW.cond rfl (fun H29 => ?_) (fun H29 => ?_)
                  · refine TW.draw (isH := [.box B19 77 [.int .i64 E17.No, .int .i64 E17.Level, strV E17.Lo, strV E17.Hi], .own X13 (lc 3 S12.2.2.2)]) hMix ?_
                    refine TA.y (listed' := #[true, false, false, false, false, false]) 0 [0, 0] rfl (Y.field_box kf77_2 rfl rfl) rfl rfl rfl (by kernel_rfl) (by kernel_rfl) (by kernel_rfl) rfl rfl ?_
                    refine TA.y (listed' := #[true, true, false, false, false, false]) 1 [0, 0] rfl (Y.load_box (v := strV E17.Lo) 0 kk9 rfl rfl rfl) rfl rfl rfl (by kernel_rfl) (by kernel_rfl) (by kernel_rfl) rfl rfl ?_
                    refine TA.y (listed' := #[true, true, true, false, false, false]) 2 [0, 0] rfl (Y.field_box kf77_3 rfl rfl) rfl rfl rfl (by kernel_rfl) (by kernel_rfl) (by kernel_rfl) rfl rfl ?_
                    refine TA.y (listed' := #[true, true, true, true, false, false]) 3 [0, 0] rfl (Y.load_box (v := strV E17.Hi) 0 kk9 rfl rfl rfl) rfl rfl rfl (by kernel_rfl) (by kernel_rfl) (by kernel_rfl) rfl rfl ?_
                    refine TA.y (listed' := #[true, true, true, true, true, false]) 4 [0, 0] rfl (Y.assign rfl) rfl rfl rfl (by kernel_rfl) (by kernel_rfl) (by kernel_rfl) rfl rfl ?_
                    refine TA.y (listed' := #[true, true, true, true, true, true]) 5 [0, 0] rfl (Y.assign rfl) rfl rfl rfl (by kernel_rfl) (by kernel_rfl) (by kernel_rfl) rfl rfl ?_
                    refine TA.nil (by kernel_rfl) ?_
                    exact TE.jn_go () [0, 0] ⟨rfl, rfl, rfl, rfl, rfl, rfl, rfl, rfl, trivial⟩ rfl
                  · refine TW.skip ?_
                    exact TE.jn_go () [0, 0] ⟨rfl, rfl, rfl, rfl, rfl, rfl, rfl, rfl, trivial⟩ rfl
                · refine TE.next ?_
                  refine TW.seq ?_
                  refine TW.draw (isH := [.box B19 77 [.int .i64 E17.No, .int .i64 E17.Level, strV E17.Lo, strV E17.Hi], .own X13 (lc 3 S12.2.2.2)]) hMix ?_
                  refine TA.y (listed' := #[true, false, false, false, false, false, false, false, false, false]) 0 [0, 0] rfl (Y.move rfl) rfl rfl rfl (by kernel_rfl) (by kernel_rfl) (by kernel_rfl) rfl rfl ?_
                  refine TA.y (listed' := #[true, true, false, false, false, false, false, false, false, false]) 1 [0, 0] rfl (Y.field_box kf77_2 rfl rfl) rfl rfl rfl (by kernel_rfl) (by kernel_rfl) (by kernel_rfl) rfl rfl ?_
                  refine TA.y (listed' := #[true, true, true, false, false, false, false, false, false, false]) 2 [0, 0] rfl (Y.load_box (v := strV E17.Lo) 0 kk9 rfl rfl rfl) rfl rfl rfl (by kernel_rfl) (by kernel_rfl) (by kernel_rfl) rfl rfl ?_
                  refine TA.y (listed' := #[true, true, true, true, false, false, false, false, false, false]) 3 [0, 0] rfl (Y.smin2 rfl rfl) rfl rfl rfl (by kernel_rfl) (by kernel_rfl) (by kernel_rfl) rfl rfl ?_
                  refine TA.y (listed' := #[true, true, true, true, true, false, false, false, false, false]) 4 [0, 0] rfl (Y.move rfl) rfl rfl rfl (by kernel_rfl) (by kernel_rfl) (by kernel_rfl) rfl rfl ?_
                  refine TA.y (listed' := #[true, true, true, true, true, true, false, false, false, false]) 5 [0, 0] rfl (Y.field_box kf77_3 rfl rfl) rfl rfl rfl (by kernel_rfl) (by kernel_rfl) (by kernel_rfl) rfl rfl ?_
                  refine TA.y (listed' := #[true, true, true, true, true, true, true, false, false, false]) 6 [0, 0] rfl (Y.load_box (v := strV E17.Hi) 0 kk9 rfl rfl rfl) rfl rfl rfl (by kernel_rfl) (by kernel_rfl) (by kernel_rfl) rfl rfl ?_
                  refine TA.y (listed' := #[true, true, true, true, true, true, true, true, false, false]) 7 [0, 0] rfl (Y.smax2 rfl rfl) rfl rfl rfl (by kernel_rfl) (by kernel_rfl) (by kernel_rfl) rfl rfl ?_
                  refine TA.y (listed' := #[true, true, true, true, true, true, true, true, true, false]) 8 [0, 0] rfl (Y.assign rfl) rfl rfl rfl (by kernel_rfl) (by kernel_rfl) (by kernel_rfl) rfl rfl ?_
                  refine TA.y (listed' := #[true, true, true, true, true, true, true, true, true, true]) 9 [0, 0] rfl (Y.assign rfl) rfl rfl rfl (by kernel_rfl) (by kernel_rfl) (by kernel_rfl) rfl rfl ?_
                  refine TA.nil (by kernel_rfl) ?_
                  refine TE.next ?_
                  refine TW.region ?_
                  refine TO.y (Y.move rfl) rfl rfl rfl ?_
                  refine TO.y (Y.field_box kf77_0 rfl rfl) rfl rfl rfl ?_
                  refine TO.y (Y.load_box (v := .int .i64 E17.No) 0 kk3 rfl rfl rfl) rfl rfl rfl ?_
                  refine TO.ef (Ef.buildSlice (α := Int) (Vs := [.int .i64 E17.No]) [E17.No] ke24 kz3 rfl rfl rfl rfl rfl) rfl rfl rfl (fun B30 => ?_)
                  refine TO.bind fun E32 H33 => ?_
                  refine TO.ef (Ef.append (α := Int) (is' := [.own (.slice (some ⟨B30, 0, none⟩) 1 1) (lc 3 ([E17.No])), .box B19 77 [.int .i64 E17.No, .int .i64 E17.Level, strV E17.Lo, strV E17.Hi]]) [2, 0, 0] H33 ke24 kz3 rfl rfl rfl rfl rfl (Can.own 0 rfl)) rfl rfl rfl (fun V31 => ?_)
                  refine TO.y (Y.assign rfl) rfl rfl rfl ?_
                  refine TO.nil ?_
                  exact TE.jn_go V31 [0] ⟨rfl, rfl, rfl, rfl, rfl, rfl, rfl, trivial⟩ rfl
              · refine TW.seq ?_
                refine TW.joinBX (τ := Bool) (X := Unit) (fun T _ => [(1, .int .i64 level), (5, X13), (6, strV S12.1), (7, strV S12.2.1), (9, .pointer (some ⟨B19, 0, none⟩)), (18, V_l0), (19, .int .i64 ((l.length : Nat) : Int)), (20, .int .i64 S12.2.2.1), (58, .bool T)]) (fun _ _ => [.box B19 77 [.int .i64 E17.No, .int .i64 E17.Level, strV E17.Lo, strV E17.Hi], .own X13 (lc 3 S12.2.2.2)]) ?_ (fun T34 X35 => ?_)
                · refine TW.region ?_
                  refine TO.y (Y.field_box kf77_1 rfl rfl) rfl rfl rfl ?_
                  refine TO.y (Y.load_box (v := .int .i64 E17.Level) 0 kk3 rfl rfl rfl) rfl rfl rfl ?_
                  refine TO.y (Y.move rfl) rfl rfl rfl ?_
                  refine TO.y (Y.add rfl rfl) rfl rfl rfl ?_
                  refine TO.y (Y.eql rfl rfl) rfl rfl rfl ?_
                  refine TO.y (Y.move rfl) rfl rfl rfl ?_
                  refine TO.ite (b := decide (E17.Level = IntKind.i64.wrap (level + (1 : Int)))) (fun H36 => ?_) (fun H36 => ?_)
                  · refine TO.y (Y.move rfl) (Gd.at 5 true 64 (decide (E17.Level = IntKind.i64.wrap (level + (1 : Int)))) rfl rfl rfl (beq_tt H36)) rfl rfl ?_
                    refine TO.y (Y.len (l := S12.2.2.2) ke24 (Can.own 1 rfl) rfl) (Gd.at 5 true 64 (decide (E17.Level = IntKind.i64.wrap (level + (1 : Int)))) rfl rfl rfl (beq_tt H36)) rfl rfl ?_
                    refine TO.y (Y.gtr rfl rfl) (Gd.at 5 true 64 (decide (E17.Level = IntKind.i64.wrap (level + (1 : Int)))) rfl rfl rfl (beq_tt H36)) rfl rfl ?_
                    refine TO.y (Y.pick_t H36 rfl rfl) rfl rfl rfl ?_
                    refine TO.y (Y.move rfl) rfl rfl rfl ?_
                    refine TO.ite (b := decide (((S12.2.2.2.length : Nat) : Int) > (0 : Int))) (fun H37 => ?_) (fun H37 => ?_)
                    · refine TO.y (Y.field_box kf77_2 rfl rfl) (Gd.at 10 true 69 (decide (((S12.2.2.2.length : Nat) : Int) > (0 : Int))) rfl rfl rfl (beq_tt H37)) rfl rfl ?_
                      refine TO.y (Y.load_box (v := strV E17.Lo) 0 kk9 rfl rfl rfl) (Gd.at 10 true 69 (decide (((S12.2.2.2.length : Nat) : Int) > (0 : Int))) rfl rfl rfl (beq_tt H37)) rfl rfl ?_
                      refine TO.y (Y.move rfl) (Gd.at 10 true 69 (decide (((S12.2.2.2.length : Nat) : Int) > (0 : Int))) rfl rfl rfl (beq_tt H37)) rfl rfl ?_
                      refine TO.y (Y.sleq rfl rfl) (Gd.at 10 true 69 (decide (((S12.2.2.2.length : Nat) : Int) > (0 : Int))) rfl rfl rfl (beq_tt H37)) rfl rfl ?_
                      refine TO.y (Y.pick_t H37 rfl rfl) rfl rfl rfl ?_
                      refine TO.y (Y.move rfl) rfl rfl rfl ?_
                      refine TO.ite (b := (sLt E17.Lo S12.2.1 || decide (E17.Lo = S12.2.1))) (fun H38 => ?_) (fun H38 => ?_)
                      · refine TO.y (Y.field_box kf77_3 rfl rfl) (Gd.at 16 true 75 (sLt E17.Lo S12.2.1 || decide (E17.Lo = S12.2.1)) rfl rfl rfl (beq_tt H38)) rfl rfl ?_
                        refine TO.y (Y.load_box (v := strV E17.Hi) 0 kk9 rfl rfl rfl) (Gd.at 16 true 75 (sLt E17.Lo S12.2.1 || decide (E17.Lo = S12.2.1)) rfl rfl rfl (beq_tt H38)) rfl rfl ?_
                        refine TO.y (Y.move rfl) (Gd.at 16 true 75 (sLt E17.Lo S12.2.1 || decide (E17.Lo = S12.2.1)) rfl rfl rfl (beq_tt H38)) rfl rfl ?_
                        refine TO.y (Y.sgeq rfl rfl) (Gd.at 16 true 75 (sLt E17.Lo S12.2.1 || decide (E17.Lo = S12.2.1)) rfl rfl rfl (beq_tt H38)) rfl rfl ?_
                        refine TO.y (Y.pick_t H38 rfl rfl) rfl rfl rfl ?_
                        refine TO.y (Y.assign rfl) rfl rfl rfl ?_
                        refine TO.nil ?_
                        exact TE.jb_go () [0, 0] ⟨rfl, rfl, rfl, rfl, rfl, rfl, rfl, rfl, rfl, trivial⟩ rfl
                      · refine TO.off (Gd.at 16 true 75 (sLt E17.Lo S12.2.1 || decide (E17.Lo = S12.2.1)) rfl rfl rfl (beq_ft H38)) rfl rfl ?_
                        refine TO.off (Gd.at 16 true 75 (sLt E17.Lo S12.2.1 || decide (E17.Lo = S12.2.1)) rfl rfl rfl (beq_ft H38)) rfl rfl ?_
                        refine TO.off (Gd.at 16 true 75 (sLt E17.Lo S12.2.1 || decide (E17.Lo = S12.2.1)) rfl rfl rfl (beq_ft H38)) rfl rfl ?_
                        refine TO.off (Gd.at 16 true 75 (sLt E17.Lo S12.2.1 || decide (E17.Lo = S12.2.1)) rfl rfl rfl (beq_ft H38)) rfl rfl ?_
                        refine TO.y (Y.pick_f H38 rfl rfl) rfl rfl rfl ?_
                        refine TO.y (Y.assign rfl) rfl rfl rfl ?_
                        refine TO.nil ?_
                        exact TE.jb_go () [0, 0] ⟨rfl, rfl, rfl, rfl, rfl, rfl, rfl, rfl, rfl, trivial⟩ rfl
                    · refine TO.off (Gd.at 10 true 69 (decide (((S12.2.2.2.length : Nat) : Int) > (0 : Int))) rfl rfl rfl (beq_ft H37)) rfl rfl ?_
                      refine TO.off (Gd.at 10 true 69 (decide (((S12.2.2.2.length : Nat) : Int) > (0 : Int))) rfl rfl rfl (beq_ft H37)) rfl rfl ?_
                      refine TO.off (Gd.at 10 true 69 (decide (((S12.2.2.2.length : Nat) : Int) > (0 : Int))) rfl rfl rfl (beq_ft H37)) rfl rfl ?_
                      refine TO.off (Gd.at 10 true 69 (decide (((S12.2.2.2.length : Nat) : Int) > (0 : Int))) rfl rfl rfl (beq_ft H37)) rfl rfl ?_
                      refine TO.y (Y.pick_f H37 rfl rfl) rfl rfl rfl ?_
                      refine TO.y (Y.move rfl) rfl rfl rfl ?_
                      refine TO.off (Gd.at 16 true 75 false rfl rfl rfl rfl) rfl rfl ?_
                      refine TO.off (Gd.at 16 true 75 false rfl rfl rfl rfl) rfl rfl ?_
                      refine TO.off (Gd.at 16 true 75 false rfl rfl rfl rfl) rfl rfl ?_
                      refine TO.off (Gd.at 16 true 75 false rfl rfl rfl rfl) rfl rfl ?_
                      refine TO.y (Y.pick_f rfl rfl rfl) rfl rfl rfl ?_
                      refine TO.y (Y.assign rfl) rfl rfl rfl ?_
                      refine TO.nil ?_
                      exact TE.jb_go () [0, 0] ⟨rfl, rfl, rfl, rfl, rfl, rfl, rfl, rfl, rfl, trivial⟩ rfl
                  · refine TO.off (Gd.at 5 true 64 (decide (E17.Level = IntKind.i64.wrap (level + (1 : Int)))) rfl rfl rfl (beq_ft H36)) rfl rfl ?_
                    refine TO.off (Gd.at 5 true 64 (decide (E17.Level = IntKind.i64.wrap (level + (1 : Int)))) rfl rfl rfl (beq_ft H36)) rfl rfl ?_
                    refine TO.off (Gd.at 5 true 64 (decide (E17.Level = IntKind.i64.wrap (level + (1 : Int)))) rfl rfl rfl (beq_ft H36)) rfl rfl ?_
                    refine TO.y (Y.pick_f H36 rfl rfl) rfl rfl rfl ?_
                    refine TO.y (Y.move rfl) rfl rfl rfl ?_
                    refine TO.off (Gd.at 10 true 69 false rfl rfl rfl rfl) rfl rfl ?_
                    refine TO.off (Gd.at 10 true 69 false rfl rfl rfl rfl) rfl rfl ?_
                    refine TO.off (Gd.at 10 true 69 false rfl rfl rfl rfl) rfl rfl ?_
                    refine TO.off (Gd.at 10 true 69 false rfl rfl rfl rfl) rfl rfl ?_
                    refine TO.y (Y.pick_f rfl rfl rfl) rfl rfl rfl ?_
                    refine TO.y (Y.move rfl) rfl rfl rfl ?_
                    refine TO.off (Gd.at 16 true 75 false rfl rfl rfl rfl) rfl rfl ?_
                    refine TO.off (Gd.at 16 true 75 false rfl rfl rfl rfl) rfl rfl ?_
                    refine TO.off (Gd.at 16 true 75 false rfl rfl rfl rfl) rfl rfl ?_
                    refine TO.off (Gd.at 16 true 75 false rfl rfl rfl rfl) rfl rfl ?_
                    refine TO.y (Y.pick_f rfl rfl rfl) rfl rfl rfl ?_
                    refine TO.y (Y.assign rfl) rfl rfl rfl ?_
                    refine TO.nil ?_
                    exact TE.jb_go () [0, 0] ⟨rfl, rfl, rfl, rfl, rfl, rfl, rfl, rfl, rfl, trivial⟩ rfl
                · refine TE.next ?_
                  refine TW.joinX (τ := List Int) (X := Value) (fun _ X => [(1, .int .i64 level), (5, X), (6, strV S12.1), (7, strV S12.2.1), (18, V_l0), (19, .int .i64 ((l.length : Nat) : Int)), (20, .int .i64 S12.2.2.1)]) (fun T X => [.own X (lc 3 T)]) ?_ (fun T39 X40 => ?_)
                  · refine TW.cond rfl (fun H41 => ?_) (fun H41 => ?_)
                    · refine TW.region ?_
                      refine TO.y (Y.move rfl) rfl rfl rfl ?_
                      refine TO.y (Y.field_box kf77_0 rfl rfl) rfl rfl rfl ?_
                      refine TO.y (Y.load_box (v := .int .i64 E17.No) 0 kk3 rfl rfl rfl) rfl rfl rfl ?_
                      refine TO.ef (Ef.buildSlice (α := Int) (Vs := [.int .i64 E17.No]) [E17.No] ke24 kz3 rfl rfl rfl rfl rfl) rfl rfl rfl (fun B42 => ?_)
                      refine TO.bind fun E44 H45 => ?_
                      refine TO.ef (Ef.append (α := Int) (is' := [.own (.slice (some ⟨B42, 0, none⟩) 1 1) (lc 3 ([E17.No])), .box B19 77 [.int .i64 E17.No, .int .i64 E17.Level, strV E17.Lo, strV E17.Hi]]) [2, 0, 0] H45 ke24 kz3 rfl rfl rfl rfl rfl (Can.own 0 rfl)) rfl rfl rfl (fun V43 => ?_)
                      refine TO.y (Y.assign rfl) rfl rfl rfl ?_
                      refine TO.nil ?_
                      exact TE.jn_go V43 [0] ⟨rfl, rfl, rfl, rfl, rfl, rfl, rfl, trivial⟩ rfl
                    · refine TW.skip ?_
                      exact TE.jn_go X13 [1] ⟨rfl, rfl, rfl, rfl, rfl, rfl, rfl, trivial⟩ rfl
                  · exact TE.jn_go X40 [0] ⟨rfl, rfl, rfl, rfl, rfl, rfl, rfl, trivial⟩ rfl
            · refine TE.block_normal ?_
              refine TE.block_normal ?_
              refine TE.next ?_
              refine TW.region ?_
              refine TO.y (Y.add rfl rfl) rfl rfl rfl ?_
              refine TO.y (Y.move rfl) rfl rfl rfl ?_
              refine TO.nil ?_
              exact TE.lp_go X25 [0] ⟨rfl, rfl, rfl, rfl, rfl, rfl, rfl, trivial⟩ rfl
        · refine TW.exit ?_
          refine TE.then_exit ?_
          refine TE.lp_exit ?_
          refine TE.block_exit ?_
          exact TE.jn_go X13 [0] ⟨rfl, trivial⟩ rfl
      · refine TE.next ?_
        refine TW.seq ?_
        refine TW.region ?_
        refine TO.y (Y.move rfl) rfl rfl rfl ?_
        refine TO.y (Y.assign rfl) rfl rfl rfl ?_
        refine TO.nil ?_
        refine TE.next ?_
        refine TW.ret ?_
        exact TE.leaf fun _ _ hf_ hs_ => ret_any (rs := [.tmp 4]) (vs := [X15]) (.inl rfl) rfl ⟨rfl, trivial⟩ hf_ hs_ ⟨X15, rfl, hs_.pulls [0] rfl⟩

end Go.Proofs.Ytpnnbeiojpphhaa
