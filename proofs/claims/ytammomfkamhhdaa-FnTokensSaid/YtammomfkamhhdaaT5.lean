/-
  The functions that a law reaches, each as a pure function, with the proof that the program computes it, and the step from a pure law to the given statement. Conditions: none.
-/
import Derived.Test.YtammomfkamhhdaaT4
set_option linter.unusedVariables false
set_option maxRecDepth 100000
set_option maxHeartbeats 4000000
namespace Go.Proofs.Ytammomfkamhhdaa
open Go Sl

/-- loop.example/g00950/spec.ReadToken -/
noncomputable def spec_ReadToken (secret : List UInt8) (s : List UInt8) : Option (Int × Int × Bool) :=
  (spec_l6Vars s (0 : Int) (2 : Int)).bind fun R1 =>
  (if (decide (R1.2 < (0 : Int))) = true then (some true)
  else (if (decide (s = ([]))) = true then (some true)
  else ((idx R1.1 (0 : Int)).bind fun E8 =>
  (idx R1.1 (1 : Int)).bind fun E10 =>
  (spec_MintToken secret E8 E10).bind fun R12 =>
  some (!(decide (R12 = s)))))).bind (fun (T4 : Bool) =>
  if T4 = true then (some ((0 : Int), (0 : Int), false))
  else ((idx R1.1 (0 : Int)).bind fun E16 =>
  (idx R1.1 (1 : Int)).bind fun E18 =>
  some (E16, E18, true)))

theorem spec_ReadToken_con (secret : List UInt8) (s : List UInt8)  (r : Int × Int × Bool) (hm : spec_ReadToken secret s = some r) :
    Con Try.prog 19 [strV secret, strV s] [] [] (fun _ : Unit => .tuple #[.int .i64 r.1, .int .i64 r.2.1, .bool r.2.2]) (fun _ => []) := by
  refine Con.intro (args := [strV secret, strV s]) (n := 38) (val := fun r (_ : Unit) => .tuple #[.int .i64 r.1, .int .i64 r.2.1, .bool r.2.2]) (post := fun _ _ => []) (m := spec_ReadToken secret s) Try.func19 rfl rfl rfl hm ?_
  intro w S _
  unfold spec_ReadToken
  refine TW.seq ?_
  refine TW.region ?_
  refine TO.y (Y.assign rfl) rfl rfl rfl ?_
  refine TO.y (Y.assign rfl) rfl rfl rfl ?_
  refine TO.y (Y.assign rfl) rfl rfl rfl ?_
  refine TO.nil ?_
  refine TE.next ?_
  refine TW.seq ?_
  refine TW.region ?_
  refine TO.y (Y.move rfl) rfl rfl rfl ?_
  refine TO.bind fun R1 H2 => ?_
  refine TO.ef (Ef.call (rest := []) [] (spec_l6Vars_con s (0 : Int) (2 : Int)  R1 H2) kc40 rfl rfl trivial) rfl rfl rfl (fun Y3 => ?_)
  refine TO.y (Y.move rfl) rfl rfl rfl ?_
  refine TO.y (Y.extract rfl rfl) rfl rfl rfl ?_
  refine TO.y (Y.extract rfl rfl) rfl rfl rfl ?_
  refine TO.y (Y.assign rfl) rfl rfl rfl ?_
  refine TO.y (Y.assign rfl) rfl rfl rfl ?_
  refine TO.nil ?_
  refine TE.next ?_
  refine TW.seq ?_
  refine TW.seq ?_
  refine TW.joinBX (τ := Bool) (X := Unit) (fun T _ => [(7, Y3), (31, .bool T)]) (fun _ _ => [.own Y3 (lc R1.1)]) ?_ (fun T4 X5 => ?_)
  · refine TW.draw (isH := [.own Y3 (lc R1.1)]) hMix ?_
    refine TA.y (listed' := #[true, false, false, false, false, false, false, false, false, false, false, false, false, false, false, false, false, false]) 0 [0] rfl (Y.move rfl) rfl rfl rfl (by kernel_rfl) (by kernel_rfl) (by kernel_rfl) rfl rfl ?_
    refine TA.y (listed' := #[true, true, false, false, false, false, false, false, false, false, false, false, false, false, false, false, false, false]) 1 [0] rfl (Y.lss rfl rfl) rfl rfl rfl (by kernel_rfl) (by kernel_rfl) (by kernel_rfl) rfl rfl ?_
    refine TA.y (listed' := #[true, true, true, false, false, false, false, false, false, false, false, false, false, false, false, false, false, false]) 2 [0] rfl (Y.move rfl) rfl rfl rfl (by kernel_rfl) (by kernel_rfl) (by kernel_rfl) rfl rfl ?_
    refine TA.ite (b := decide (R1.2 < (0 : Int))) (fun H6 => ?_) (fun H6 => ?_)
    · refine TA.off (listed' := #[true, true, true, true, false, false, false, false, false, false, false, false, false, false, false, false, false, false]) 3 [0] rfl (Gd.at 2 false 16 (decide (R1.2 < (0 : Int))) rfl rfl rfl (beq_tf H6)) rfl rfl (by kernel_rfl) (by kernel_rfl) (by kernel_rfl) rfl rfl ?_
      refine TA.off (listed' := #[true, true, true, true, true, false, false, false, false, false, false, false, false, false, false, false, false, false]) 4 [0] rfl (Gd.at 2 false 16 (decide (R1.2 < (0 : Int))) rfl rfl rfl (beq_tf H6)) rfl rfl (by kernel_rfl) (by kernel_rfl) (by kernel_rfl) rfl rfl ?_
      refine TA.y (listed' := #[true, true, true, true, true, true, false, false, false, false, false, false, false, false, false, false, false, false]) 5 [0] rfl (Y.pick_t H6 rfl rfl) rfl rfl rfl (by kernel_rfl) (by kernel_rfl) (by kernel_rfl) rfl rfl ?_
      refine TA.y (listed' := #[true, true, true, true, true, true, true, false, false, false, false, false, false, false, false, false, false, false]) 6 [0] rfl (Y.move rfl) rfl rfl rfl (by kernel_rfl) (by kernel_rfl) (by kernel_rfl) rfl rfl ?_
      refine TA.off (listed' := #[true, true, true, true, true, true, true, true, false, false, false, false, false, false, false, false, false, false]) 7 [0] rfl (Gd.at 6 false 20 true rfl rfl rfl rfl) rfl rfl (by kernel_rfl) (by kernel_rfl) (by kernel_rfl) rfl rfl ?_
      refine TA.off (listed' := #[true, true, true, true, true, true, true, true, true, false, false, false, false, false, false, false, false, false]) 8 [0] rfl (Gd.at 6 false 20 true rfl rfl rfl rfl) rfl rfl (by kernel_rfl) (by kernel_rfl) (by kernel_rfl) rfl rfl ?_
      refine TA.off (listed' := #[true, true, true, true, true, true, true, true, true, true, false, false, false, false, false, false, false, false]) 9 [0] rfl (Gd.at 6 false 20 true rfl rfl rfl rfl) rfl rfl (by kernel_rfl) (by kernel_rfl) (by kernel_rfl) rfl rfl ?_
      refine TA.off (listed' := #[true, true, true, true, true, true, true, true, true, true, true, false, false, false, false, false, false, false]) 10 [0] rfl (Gd.at 6 false 20 true rfl rfl rfl rfl) rfl rfl (by kernel_rfl) (by kernel_rfl) (by kernel_rfl) rfl rfl ?_
      refine TA.off (listed' := #[true, true, true, true, true, true, true, true, true, true, true, true, false, false, false, false, false, false]) 11 [0] rfl (Gd.at 6 false 20 true rfl rfl rfl rfl) rfl rfl (by kernel_rfl) (by kernel_rfl) (by kernel_rfl) rfl rfl ?_
      refine TA.off (listed' := #[true, true, true, true, true, true, true, true, true, true, true, true, true, false, false, false, false, false]) 12 [0] rfl (Gd.at 6 false 20 true rfl rfl rfl rfl) rfl rfl (by kernel_rfl) (by kernel_rfl) (by kernel_rfl) rfl rfl ?_
      refine TA.off (listed' := #[true, true, true, true, true, true, true, true, true, true, true, true, true, true, false, false, false, false]) 13 [0] rfl (Gd.at 6 false 20 true rfl rfl rfl rfl) rfl rfl (by kernel_rfl) (by kernel_rfl) (by kernel_rfl) rfl rfl ?_
      refine TA.off (listed' := #[true, true, true, true, true, true, true, true, true, true, true, true, true, true, true, false, false, false]) 14 [0] rfl (Gd.at 6 false 20 true rfl rfl rfl rfl) rfl rfl (by kernel_rfl) (by kernel_rfl) (by kernel_rfl) rfl rfl ?_
      refine TA.off (listed' := #[true, true, true, true, true, true, true, true, true, true, true, true, true, true, true, true, false, false]) 15 [0] rfl (Gd.at 6 false 20 true rfl rfl rfl rfl) rfl rfl (by kernel_rfl) (by kernel_rfl) (by kernel_rfl) rfl rfl ?_
      refine TA.off (listed' := #[true, true, true, true, true, true, true, true, true, true, true, true, true, true, true, true, true, false]) 16 [0] rfl (Gd.at 6 false 20 true rfl rfl rfl rfl) rfl rfl (by kernel_rfl) (by kernel_rfl) (by kernel_rfl) rfl rfl ?_
      refine TA.y (listed' := #[true, true, true, true, true, true, true, true, true, true, true, true, true, true, true, true, true, true]) 17 [0] rfl (Y.pick_t rfl rfl rfl) rfl rfl rfl (by kernel_rfl) (by kernel_rfl) (by kernel_rfl) rfl rfl ?_
      refine TA.nil (by kernel_rfl) ?_
      exact TE.jb_go () [0] ⟨rfl, rfl, trivial⟩ rfl
    · refine TA.y (listed' := #[true, true, true, true, false, false, false, false, false, false, false, false, false, false, false, false, false, false]) 3 [0] rfl (Y.move rfl) (Gd.at 2 false 16 (decide (R1.2 < (0 : Int))) rfl rfl rfl (beq_ff H6)) rfl rfl (by kernel_rfl) (by kernel_rfl) (by kernel_rfl) rfl rfl ?_
      refine TA.y (listed' := #[true, true, true, true, true, false, false, false, false, false, false, false, false, false, false, false, false, false]) 4 [0] rfl (Y.seql rfl rfl) (Gd.at 2 false 16 (decide (R1.2 < (0 : Int))) rfl rfl rfl (beq_ff H6)) rfl rfl (by kernel_rfl) (by kernel_rfl) (by kernel_rfl) rfl rfl ?_
      refine TA.y (listed' := #[true, true, true, true, true, true, false, false, false, false, false, false, false, false, false, false, false, false]) 5 [0] rfl (Y.pick_f H6 rfl rfl) rfl rfl rfl (by kernel_rfl) (by kernel_rfl) (by kernel_rfl) rfl rfl ?_
      refine TA.y (listed' := #[true, true, true, true, true, true, true, false, false, false, false, false, false, false, false, false, false, false]) 6 [0] rfl (Y.move rfl) rfl rfl rfl (by kernel_rfl) (by kernel_rfl) (by kernel_rfl) rfl rfl ?_
      refine TA.ite (b := decide (s = ([]))) (fun H7 => ?_) (fun H7 => ?_)
      · refine TA.off (listed' := #[true, true, true, true, true, true, true, true, false, false, false, false, false, false, false, false, false, false]) 7 [0] rfl (Gd.at 6 false 20 (decide (s = ([]))) rfl rfl rfl (beq_tf H7)) rfl rfl (by kernel_rfl) (by kernel_rfl) (by kernel_rfl) rfl rfl ?_
        refine TA.off (listed' := #[true, true, true, true, true, true, true, true, true, false, false, false, false, false, false, false, false, false]) 8 [0] rfl (Gd.at 6 false 20 (decide (s = ([]))) rfl rfl rfl (beq_tf H7)) rfl rfl (by kernel_rfl) (by kernel_rfl) (by kernel_rfl) rfl rfl ?_
        refine TA.off (listed' := #[true, true, true, true, true, true, true, true, true, true, false, false, false, false, false, false, false, false]) 9 [0] rfl (Gd.at 6 false 20 (decide (s = ([]))) rfl rfl rfl (beq_tf H7)) rfl rfl (by kernel_rfl) (by kernel_rfl) (by kernel_rfl) rfl rfl ?_
        refine TA.off (listed' := #[true, true, true, true, true, true, true, true, true, true, true, false, false, false, false, false, false, false]) 10 [0] rfl (Gd.at 6 false 20 (decide (s = ([]))) rfl rfl rfl (beq_tf H7)) rfl rfl (by kernel_rfl) (by kernel_rfl) (by kernel_rfl) rfl rfl ?_
        refine TA.off (listed' := #[true, true, true, true, true, true, true, true, true, true, true, true, false, false, false, false, false, false]) 11 [0] rfl (Gd.at 6 false 20 (decide (s = ([]))) rfl rfl rfl (beq_tf H7)) rfl rfl (by kernel_rfl) (by kernel_rfl) (by kernel_rfl) rfl rfl ?_
        refine TA.off (listed' := #[true, true, true, true, true, true, true, true, true, true, true, true, true, false, false, false, false, false]) 12 [0] rfl (Gd.at 6 false 20 (decide (s = ([]))) rfl rfl rfl (beq_tf H7)) rfl rfl (by kernel_rfl) (by kernel_rfl) (by kernel_rfl) rfl rfl ?_
        refine TA.off (listed' := #[true, true, true, true, true, true, true, true, true, true, true, true, true, true, false, false, false, false]) 13 [0] rfl (Gd.at 6 false 20 (decide (s = ([]))) rfl rfl rfl (beq_tf H7)) rfl rfl (by kernel_rfl) (by kernel_rfl) (by kernel_rfl) rfl rfl ?_
        refine TA.off (listed' := #[true, true, true, true, true, true, true, true, true, true, true, true, true, true, true, false, false, false]) 14 [0] rfl (Gd.at 6 false 20 (decide (s = ([]))) rfl rfl rfl (beq_tf H7)) rfl rfl (by kernel_rfl) (by kernel_rfl) (by kernel_rfl) rfl rfl ?_
        refine TA.off (listed' := #[true, true, true, true, true, true, true, true, true, true, true, true, true, true, true, true, false, false]) 15 [0] rfl (Gd.at 6 false 20 (decide (s = ([]))) rfl rfl rfl (beq_tf H7)) rfl rfl (by kernel_rfl) (by kernel_rfl) (by kernel_rfl) rfl rfl ?_
        refine TA.off (listed' := #[true, true, true, true, true, true, true, true, true, true, true, true, true, true, true, true, true, false]) 16 [0] rfl (Gd.at 6 false 20 (decide (s = ([]))) rfl rfl rfl (beq_tf H7)) rfl rfl (by kernel_rfl) (by kernel_rfl) (by kernel_rfl) rfl rfl ?_
        refine TA.y (listed' := #[true, true, true, true, true, true, true, true, true, true, true, true, true, true, true, true, true, true]) 17 [0] rfl (Y.pick_t H7 rfl rfl) rfl rfl rfl (by kernel_rfl) (by kernel_rfl) (by kernel_rfl) rfl rfl ?_
        refine TA.nil (by kernel_rfl) ?_
        exact TE.jb_go () [0] ⟨rfl, rfl, trivial⟩ rfl
      · refine TA.y (listed' := #[true, true, true, true, true, true, true, true, false, false, false, false, false, false, false, false, false, false]) 7 [0] rfl (Y.move rfl) (Gd.at 6 false 20 (decide (s = ([]))) rfl rfl rfl (beq_ff H7)) rfl rfl (by kernel_rfl) (by kernel_rfl) (by kernel_rfl) rfl rfl ?_
        refine TA.y (listed' := #[true, true, true, true, true, true, true, true, true, false, false, false, false, false, false, false, false, false]) 8 [0] rfl (Y.move rfl) (Gd.at 6 false 20 (decide (s = ([]))) rfl rfl rfl (beq_ff H7)) rfl rfl (by kernel_rfl) (by kernel_rfl) (by kernel_rfl) rfl rfl ?_
        refine TA.bind fun E8 H9 => ?_
        refine TA.y (listed' := #[true, true, true, true, true, true, true, true, true, true, false, false, false, false, false, false, false, false]) 9 [0] rfl (Y.index ke24 (Can.own 0 rfl) H9 rfl rfl) (Gd.at 6 false 20 (decide (s = ([]))) rfl rfl rfl (beq_ff H7)) rfl rfl (by kernel_rfl) (by kernel_rfl) (by kernel_rfl) rfl rfl ?_
        refine TA.y (listed' := #[true, true, true, true, true, true, true, true, true, true, true, false, false, false, false, false, false, false]) 10 [0] rfl (Y.load_el (us := [.int .i64 E8]) (u := .int .i64 E8) kk3 rfl (Can.own 0 rfl) (idx_get H9).2.2 rfl rfl rfl rfl rfl) (Gd.at 6 false 20 (decide (s = ([]))) rfl rfl rfl (beq_ff H7)) rfl rfl (by kernel_rfl) (by kernel_rfl) (by kernel_rfl) rfl rfl ?_
        refine TA.y (listed' := #[true, true, true, true, true, true, true, true, true, true, true, true, false, false, false, false, false, false]) 11 [0] rfl (Y.move rfl) (Gd.at 6 false 20 (decide (s = ([]))) rfl rfl rfl (beq_ff H7)) rfl rfl (by kernel_rfl) (by kernel_rfl) (by kernel_rfl) rfl rfl ?_
        refine TA.bind fun E10 H11 => ?_
        refine TA.y (listed' := #[true, true, true, true, true, true, true, true, true, true, true, true, true, false, false, false, false, false]) 12 [0] rfl (Y.index ke24 (Can.own 0 rfl) H11 rfl rfl) (Gd.at 6 false 20 (decide (s = ([]))) rfl rfl rfl (beq_ff H7)) rfl rfl (by kernel_rfl) (by kernel_rfl) (by kernel_rfl) rfl rfl ?_
        refine TA.y (listed' := #[true, true, true, true, true, true, true, true, true, true, true, true, true, true, false, false, false, false]) 13 [0] rfl (Y.load_el (us := [.int .i64 E10]) (u := .int .i64 E10) kk3 rfl (Can.own 0 rfl) (idx_get H11).2.2 rfl rfl rfl rfl rfl) (Gd.at 6 false 20 (decide (s = ([]))) rfl rfl rfl (beq_ff H7)) rfl rfl (by kernel_rfl) (by kernel_rfl) (by kernel_rfl) rfl rfl ?_
        refine TA.y (listed' := #[true, true, true, true, true, true, true, true, true, true, true, true, true, true, false, true, false, false]) 15 [0] rfl (Y.move rfl) (Gd.at 6 false 20 (decide (s = ([]))) rfl rfl rfl (beq_ff H7)) rfl rfl (by kernel_rfl) (by kernel_rfl) (by kernel_rfl) rfl rfl ?_
        refine TA.bind fun R12 H13 => ?_
        refine TA.one 14 (by kernel_rfl) ?_
        refine TX.ef (listed' := #[true, true, true, true, true, true, true, true, true, true, true, true, true, true, true, true, false, false]) [0] rfl (Ef.call (rest := [.own Y3 (lc R1.1)]) [0] (spec_MintToken_con secret E8 E10  R12 H13) kc22 rfl rfl trivial) (Gd.at 6 false 20 (decide (s = ([]))) rfl rfl rfl (beq_ff H7)) rfl rfl rfl (fun _ => rfl) (fun _ => ?_)
        refine TA.y (listed' := #[true, true, true, true, true, true, true, true, true, true, true, true, true, true, true, true, true, false]) 16 [0] rfl (Y.sneq rfl rfl) (Gd.at 6 false 20 (decide (s = ([]))) rfl rfl rfl (beq_ff H7)) rfl rfl (by kernel_rfl) (by kernel_rfl) (by kernel_rfl) rfl rfl ?_
        refine TA.y (listed' := #[true, true, true, true, true, true, true, true, true, true, true, true, true, true, true, true, true, true]) 17 [0] rfl (Y.pick_f H7 rfl rfl) rfl rfl rfl (by kernel_rfl) (by kernel_rfl) (by kernel_rfl) rfl rfl ?_
        refine TA.nil (by kernel_rfl) ?_
        exact TE.jb_go () [0] ⟨rfl, rfl, trivial⟩ rfl
  · refine TE.next ?_
    refine TW.cond rfl (fun H15 => ?_) (fun H15 => ?_)
    · refine TW.seq ?_
      refine TW.region ?_
      refine TO.y (Y.assign rfl) rfl rfl rfl ?_
      refine TO.y (Y.assign rfl) rfl rfl rfl ?_
      refine TO.y (Y.assign rfl) rfl rfl rfl ?_
      refine TO.nil ?_
      refine TE.next ?_
      refine TW.ret ?_
      refine TE.then_ret ?_
      exact TE.leaf fun _ _ hf_ hs_ => ret_any (rs := [.tmp 4, .tmp 5, .tmp 6]) (vs := [.int .i64 (0 : Int), .int .i64 (0 : Int), .bool false]) (.inl rfl) rfl ⟨rfl, ⟨rfl, ⟨rfl, trivial⟩⟩⟩ hf_ hs_ ⟨(), rfl, hs_.pulls [] rfl⟩
    · refine TW.skip ?_
      refine TE.next ?_
      refine TW.seq ?_
      refine TW.draw (isH := [.own Y3 (lc R1.1)]) hMix ?_
      refine TA.y (listed' := #[true, false, false, false, false, false, false, false, false]) 0 [0] rfl (Y.move rfl) rfl rfl rfl (by kernel_rfl) (by kernel_rfl) (by kernel_rfl) rfl rfl ?_
      refine TA.bind fun E16 H17 => ?_
      refine TA.y (listed' := #[true, true, false, false, false, false, false, false, false]) 1 [0] rfl (Y.index ke24 (Can.own 0 rfl) H17 rfl rfl) rfl rfl rfl (by kernel_rfl) (by kernel_rfl) (by kernel_rfl) rfl rfl ?_
      refine TA.y (listed' := #[true, true, true, false, false, false, false, false, false]) 2 [0] rfl (Y.load_el (us := [.int .i64 E16]) (u := .int .i64 E16) kk3 rfl (Can.own 0 rfl) (idx_get H17).2.2 rfl rfl rfl rfl rfl) rfl rfl rfl (by kernel_rfl) (by kernel_rfl) (by kernel_rfl) rfl rfl ?_
      refine TA.y (listed' := #[true, true, true, true, false, false, false, false, false]) 3 [0] rfl (Y.move rfl) rfl rfl rfl (by kernel_rfl) (by kernel_rfl) (by kernel_rfl) rfl rfl ?_
      refine TA.bind fun E18 H19 => ?_
      refine TA.y (listed' := #[true, true, true, true, true, false, false, false, false]) 4 [0] rfl (Y.index ke24 (Can.own 0 rfl) H19 rfl rfl) rfl rfl rfl (by kernel_rfl) (by kernel_rfl) (by kernel_rfl) rfl rfl ?_
      refine TA.y (listed' := #[true, true, true, true, true, true, false, false, false]) 5 [0] rfl (Y.load_el (us := [.int .i64 E18]) (u := .int .i64 E18) kk3 rfl (Can.own 0 rfl) (idx_get H19).2.2 rfl rfl rfl rfl rfl) rfl rfl rfl (by kernel_rfl) (by kernel_rfl) (by kernel_rfl) rfl rfl ?_
      refine TA.y (listed' := #[true, true, true, true, true, true, true, false, false]) 6 [0] rfl (Y.assign rfl) rfl rfl rfl (by kernel_rfl) (by kernel_rfl) (by kernel_rfl) rfl rfl ?_
      refine TA.y (listed' := #[true, true, true, true, true, true, true, true, false]) 7 [0] rfl (Y.assign rfl) rfl rfl rfl (by kernel_rfl) (by kernel_rfl) (by kernel_rfl) rfl rfl ?_
      refine TA.y (listed' := #[true, true, true, true, true, true, true, true, true]) 8 [0] rfl (Y.assign rfl) rfl rfl rfl (by kernel_rfl) (by kernel_rfl) (by kernel_rfl) rfl rfl ?_
      refine TA.nil (by kernel_rfl) ?_
      refine TE.next ?_
      refine TW.ret ?_
      exact TE.leaf fun _ _ hf_ hs_ => ret_any (rs := [.tmp 4, .tmp 5, .tmp 6]) (vs := [.int .i64 E16, .int .i64 E18, .bool true]) (.inl rfl) rfl ⟨rfl, ⟨rfl, ⟨rfl, trivial⟩⟩⟩ hf_ hs_ ⟨(), rfl, hs_.pulls [] rfl⟩

/-- loop.example/g00950/spec.l1PickInt -/
noncomputable def spec_l1PickInt (c : L1Cur) (list : List Int) : Option (Int × L1Cur) :=
  (spec_l1Below c ((list.length : Nat) : Int)).bind fun R1 =>
  (idx list R1.1).bind fun E4 =>
  some (E4, { b := c.b, i := R1.2.i, h := R1.2.h : L1Cur })

theorem spec_l1PickInt_con (c : L1Cur) (list : List Int) (V_c0 : Value) (B_c : Nat) (V_list0 : Value) (r : Int × L1Cur) (hm : spec_l1PickInt c list = some r) :
    Con Try.prog 26 [.pointer (some ⟨B_c, 0, none⟩), V_list0] [.box B_c 69 [V_c0, .int .i64 c.i, .int .i64 c.h]] [(V_c0, lc c.b), (V_list0, lc list)] (fun _ : Unit => .int .i64 r.1) (fun _ => [.box B_c 69 [V_c0, .int .i64 r.2.i, .int .i64 r.2.h]]) := by
  refine Con.intro (args := [.pointer (some ⟨B_c, 0, none⟩), V_list0]) (n := 12) (val := fun r (_ : Unit) => .int .i64 r.1) (post := fun r _ => [.box B_c 69 [V_c0, .int .i64 r.2.i, .int .i64 r.2.h]]) (m := spec_l1PickInt c list) Try.func26 rfl rfl rfl hm ?_
  intro w S hrd
  have HB_V_c0 := hrd _ (.head _)
  have HB_V_list0 := hrd _ (.tail _ (.head _))
  clear hrd
  unfold spec_l1PickInt
  refine TW.seq ?_
  refine TW.region ?_
  refine TO.y (Y.assign rfl) rfl rfl rfl ?_
  refine TO.nil ?_
  refine TE.next ?_
  refine TW.seq ?_
  refine TW.region ?_
  refine TO.y (Y.move rfl) rfl rfl rfl ?_
  refine TO.y (Y.move rfl) rfl rfl rfl ?_
  refine TO.y (Y.move rfl) rfl rfl rfl ?_
  refine TO.y (Y.len (l := list) ke24 (Base.can HB_V_list0) rfl) rfl rfl rfl ?_
  refine TO.bind fun R1 H2 => ?_
  refine TO.ef (Ef.call (rest := []) [0] (spec_l1Below_con c ((list.length : Nat) : Int) V_c0 B_c R1 H2) kc33 rfl rfl ⟨(Base.can HB_V_c0), trivial⟩) rfl rfl rfl (fun _ => ?_)
  refine TO.bind fun E4 H5 => ?_
  refine TO.y (Y.index ke24 (Base.can HB_V_list0) H5 rfl rfl) rfl rfl rfl ?_
  refine TO.y (Y.load_el (us := [.int .i64 E4]) (u := .int .i64 E4) kk3 rfl (Base.can HB_V_list0) (idx_get H5).2.2 rfl rfl rfl rfl rfl) rfl rfl rfl ?_
  refine TO.y (Y.assign rfl) rfl rfl rfl ?_
  refine TO.nil ?_
  refine TE.next ?_
  refine TW.ret ?_
  exact TE.leaf fun _ _ hf_ hs_ => ret_any (rs := [.tmp 4]) (vs := [.int .i64 E4]) (.inl rfl) rfl ⟨rfl, trivial⟩ hf_ hs_ ⟨(), rfl, hs_.pulls [0] rfl⟩

/-- loop.example/g00950/spec.DrawMintToken -/
noncomputable def spec_DrawMintToken (code : List UInt8) : Option (List UInt8 × Int × Int) :=
  (spec_l1New code).bind fun R1 =>
  (spec_l3Key ({ b := code, i := R1.i, h := R1.h : L1Cur })).bind fun R4 =>
  (spec_l1PickInt ({ b := code, i := R4.2.i, h := R4.2.h : L1Cur }) ([(1 : Int), (2 : Int), (99 : Int), (0 : Int), (100 : Int)])).bind fun R8 =>
  (spec_l1PickInt ({ b := code, i := R8.2.i, h := R8.2.h : L1Cur }) ([(0 : Int), (1 : Int), (300 : Int), (1000000 : Int), (1000001 : Int), (-1 : Int)])).bind fun R12 =>
  some (R4.1, R8.1, R12.1)

theorem spec_DrawMintToken_con (code : List UInt8) (V_code0 : Value) (r : List UInt8 × Int × Int) (hm : spec_DrawMintToken code = some r) :
    Con Try.prog 21 [V_code0] [] [(V_code0, lc code)] (fun _ : Unit => .tuple #[strV r.1, .int .i64 r.2.1, .int .i64 r.2.2]) (fun _ => []) := by
  refine Con.intro (args := [V_code0]) (n := 20) (val := fun r (_ : Unit) => .tuple #[strV r.1, .int .i64 r.2.1, .int .i64 r.2.2]) (post := fun _ _ => []) (m := spec_DrawMintToken code) Try.func21 rfl rfl rfl hm ?_
  intro w S hrd
  have HB_V_code0 := hrd _ (.head _)
  clear hrd
  unfold spec_DrawMintToken
  refine TW.seq ?_
  refine TW.region ?_
  refine TO.y (Y.assign rfl) rfl rfl rfl ?_
  refine TO.y (Y.assign rfl) rfl rfl rfl ?_
  refine TO.y (Y.assign rfl) rfl rfl rfl ?_
  refine TO.nil ?_
  refine TE.next ?_
  refine TW.seq ?_
  refine TW.region ?_
  refine TO.y (Y.move rfl) rfl rfl rfl ?_
  refine TO.bind fun R1 H2 => ?_
  refine TO.ef (Ef.call (rest := []) [] (spec_l1New_con code V_code0 R1 H2) kc24 rfl rfl ⟨(Base.can HB_V_code0), trivial⟩) rfl rfl rfl (fun Y3 => ?_)
  refine TO.y (Y.assign rfl) rfl rfl rfl ?_
  refine TO.nil ?_
  refine TE.next ?_
  refine TW.seq ?_
  refine TW.region ?_
  refine TO.y (Y.move rfl) rfl rfl rfl ?_
  refine TO.bind fun R4 H5 => ?_
  refine TO.ef (Ef.call (rest := []) [0] (spec_l3Key_con ({ b := code, i := R1.i, h := R1.h : L1Cur }) V_code0 Y3 R4 H5) kc35 rfl rfl ⟨(Base.can HB_V_code0), trivial⟩) rfl rfl rfl (fun _ => ?_)
  refine TO.y (Y.assign rfl) rfl rfl rfl ?_
  refine TO.nil ?_
  refine TE.next ?_
  refine TW.seq ?_
  refine TW.region ?_
  refine TO.y (Y.move rfl) rfl rfl rfl ?_
  refine TO.ef (Ef.buildSlice (α := Int) (Vs := [.int .i64 (1 : Int), .int .i64 (2 : Int), .int .i64 (99 : Int), .int .i64 (0 : Int), .int .i64 (100 : Int)]) [(1 : Int), (2 : Int), (99 : Int), (0 : Int), (100 : Int)] ke24 kz3 rfl rfl rfl rfl rfl) rfl rfl rfl (fun B7 => ?_)
  refine TO.bind fun R8 H9 => ?_
  refine TO.ef (Ef.call (rest := [.own (.slice (some ⟨B7, 0, none⟩) 5 5) (lc ([(1 : Int), (2 : Int), (99 : Int), (0 : Int), (100 : Int)]))]) [1, 0] (spec_l1PickInt_con ({ b := code, i := R4.2.i, h := R4.2.h : L1Cur }) ([(1 : Int), (2 : Int), (99 : Int), (0 : Int), (100 : Int)]) V_code0 Y3 (.slice (some ⟨B7, 0, none⟩) 5 5) R8 H9) kc26 rfl rfl ⟨(Base.can HB_V_code0), (Can.own 0 rfl), trivial⟩) rfl rfl rfl (fun _ => ?_)
  refine TO.y (Y.assign rfl) rfl rfl rfl ?_
  refine TO.nil ?_
  refine TE.next ?_
  refine TW.seq ?_
  refine TW.region ?_
  refine TO.y (Y.move rfl) rfl rfl rfl ?_
  refine TO.y (Y.move rfl) rfl rfl rfl ?_
  refine TO.y (Y.move rfl) rfl rfl rfl ?_
  refine TO.ef (Ef.buildSlice (α := Int) (Vs := [.int .i64 (0 : Int), .int .i64 (1 : Int), .int .i64 (300 : Int), .int .i64 (1000000 : Int), .int .i64 (1000001 : Int), .int .i64 (-1 : Int)]) [(0 : Int), (1 : Int), (300 : Int), (1000000 : Int), (1000001 : Int), (-1 : Int)] ke24 kz3 rfl rfl rfl rfl rfl) rfl rfl rfl (fun B11 => ?_)
  refine TO.bind fun R12 H13 => ?_
  refine TO.ef (Ef.call (rest := [.own (.slice (some ⟨B11, 0, none⟩) 6 6) (lc ([(0 : Int), (1 : Int), (300 : Int), (1000000 : Int), (1000001 : Int), (-1 : Int)])), .own (.slice (some ⟨B7, 0, none⟩) 5 5) (lc ([(1 : Int), (2 : Int), (99 : Int), (0 : Int), (100 : Int)]))]) [1, 0, 0] (spec_l1PickInt_con ({ b := code, i := R8.2.i, h := R8.2.h : L1Cur }) ([(0 : Int), (1 : Int), (300 : Int), (1000000 : Int), (1000001 : Int), (-1 : Int)]) V_code0 Y3 (.slice (some ⟨B11, 0, none⟩) 6 6) R12 H13) kc26 rfl rfl ⟨(Base.can HB_V_code0), (Can.own 0 rfl), trivial⟩) rfl rfl rfl (fun _ => ?_)
  refine TO.y (Y.assign rfl) rfl rfl rfl ?_
  refine TO.y (Y.assign rfl) rfl rfl rfl ?_
  refine TO.y (Y.assign rfl) rfl rfl rfl ?_
  refine TO.nil ?_
  refine TE.next ?_
  refine TW.ret ?_
  exact TE.leaf fun _ _ hf_ hs_ => ret_any (rs := [.tmp 2, .tmp 3, .tmp 4]) (vs := [strV R4.1, .int .i64 R8.1, .int .i64 R12.1]) (.inl rfl) rfl ⟨rfl, ⟨rfl, ⟨rfl, trivial⟩⟩⟩ hf_ hs_ ⟨(), rfl, hs_.pulls [] rfl⟩

/-- loop.example/g00950/laws.at -/
noncomputable def laws_at (code : List UInt8) (i : Int) : Option Int :=
  if (decide (i < ((code.length : Nat) : Int))) = true then ((idx code i).bind fun E2 =>
  some (IntKind.i64.wrap ((E2.toNat : Nat) : Int)))
  else (some (Int.tmod (IntKind.i64.wrap (IntKind.i64.wrap (i * (37 : Int)) + (IntKind.i64.wrap (((code.length : Nat) : Int) * (11 : Int))))) (256 : Int)))

theorem laws_at_con (code : List UInt8) (i : Int) (V_code0 : Value) (r : Int) (hm : laws_at code i = some r) :
    Con Try.prog 23 [V_code0, .int .i64 i] [] [(V_code0, lc code)] (fun _ : Unit => .int .i64 r) (fun _ => []) := by
  refine Con.intro (args := [V_code0, .int .i64 i]) (n := 21) (val := fun r (_ : Unit) => .int .i64 r) (post := fun _ _ => []) (m := laws_at code i) Try.func23 rfl rfl rfl hm ?_
  intro w S hrd
  have HB_V_code0 := hrd _ (.head _)
  clear hrd
  unfold laws_at
  refine TW.seq ?_
  refine TW.region ?_
  refine TO.y (Y.assign rfl) rfl rfl rfl ?_
  refine TO.nil ?_
  refine TE.next ?_
  refine TW.seq ?_
  refine TW.seq ?_
  refine TW.region ?_
  refine TO.y (Y.move rfl) rfl rfl rfl ?_
  refine TO.y (Y.move rfl) rfl rfl rfl ?_
  refine TO.y (Y.len (l := code) ke22 (Base.can HB_V_code0) rfl) rfl rfl rfl ?_
  refine TO.y (Y.lss rfl rfl) rfl rfl rfl ?_
  refine TO.nil ?_
  refine TE.next ?_
  refine TW.cond rfl (fun H1 => ?_) (fun H1 => ?_)
  · refine TW.seq ?_
    refine TW.region ?_
    refine TO.y (Y.move rfl) rfl rfl rfl ?_
    refine TO.y (Y.move rfl) rfl rfl rfl ?_
    refine TO.bind fun E2 H3 => ?_
    refine TO.y (Y.index ke22 (Base.can HB_V_code0) H3 rfl rfl) rfl rfl rfl ?_
    refine TO.y (Y.load_el (us := [.int .u8 ((E2.toNat : Nat) : Int)]) (u := .int .u8 ((E2.toNat : Nat) : Int)) kk5 rfl (Base.can HB_V_code0) (idx_get H3).2.2 rfl rfl rfl rfl rfl) rfl rfl rfl ?_
    refine TO.y (Y.conv ki5 ki3 rfl) rfl rfl rfl ?_
    refine TO.y (Y.assign rfl) rfl rfl rfl ?_
    refine TO.nil ?_
    refine TE.next ?_
    refine TW.ret ?_
    refine TE.then_ret ?_
    exact TE.leaf fun _ _ hf_ hs_ => ret_any (rs := [.tmp 4]) (vs := [.int .i64 (IntKind.i64.wrap ((E2.toNat : Nat) : Int))]) (.inl rfl) rfl ⟨rfl, trivial⟩ hf_ hs_ ⟨(), rfl, hs_.pulls [] rfl⟩
  · refine TW.skip ?_
    refine TE.next ?_
    refine TW.seq ?_
    refine TW.region ?_
    refine TO.y (Y.move rfl) rfl rfl rfl ?_
    refine TO.y (Y.mul rfl rfl) rfl rfl rfl ?_
    refine TO.y (Y.move rfl) rfl rfl rfl ?_
    refine TO.y (Y.len (l := code) ke22 (Base.can HB_V_code0) rfl) rfl rfl rfl ?_
    refine TO.y (Y.mul rfl rfl) rfl rfl rfl ?_
    refine TO.y (Y.add rfl rfl) rfl rfl rfl ?_
    refine TO.y (Y.rem (by decide) rfl rfl) rfl rfl rfl ?_
    refine TO.y (Y.assign rfl) rfl rfl rfl ?_
    refine TO.nil ?_
    refine TE.next ?_
    refine TW.ret ?_
    exact TE.leaf fun _ _ hf_ hs_ => ret_any (rs := [.tmp 4]) (vs := [.int .i64 (Int.tmod (IntKind.i64.wrap (IntKind.i64.wrap (i * (37 : Int)) + (IntKind.i64.wrap (((code.length : Nat) : Int) * (11 : Int))))) (256 : Int))]) (.inl rfl) rfl ⟨rfl, trivial⟩ hf_ hs_ ⟨(), rfl, hs_.pulls [] rfl⟩

/-- loop.example/g00950/laws.FnTokens -/
noncomputable def laws_FnTokens (code : List UInt8) : Option Bool :=
  (laws_big code).bind fun R1 =>
  if R1 = true then (some true)
  else ((spec_DrawReadToken code).bind fun R5 =>
  (impl_ReadToken R5.1 R5.2).bind fun R8 =>
  (spec_ReadToken R5.1 R5.2).bind fun R11 =>
  (if (!(decide (R8.2.2 = R11.2.2))) = true then (some true)
  else (if (!(decide (R8.1 = R11.1))) = true then (some true)
  else (if (!(decide (R8.2.1 = R11.2.1))) = true then (some true)
  else (if R8.2.2 = true then ((impl_MintToken R5.1 R8.1 R8.2.1).bind fun R20 =>
  some (!(decide (R20 = R5.2))))
  else (some false))))).bind (fun (T14 : Bool) =>
  if T14 = true then (some false)
  else ((spec_DrawMintToken code).bind fun R24 =>
  (impl_MintToken R24.1 R24.2.1 R24.2.2).bind fun R27 =>
  if (decide (R27 = ([]))) = true then ((spec_MintToken R24.1 R24.2.1 R24.2.2).bind fun R31 =>
  some (decide (R31 = ([]))))
  else ((laws_at code (0 : Int)).bind fun R34 =>
  (ssub R27 0 (IntKind.i64.wrap (IntKind.i64.wrap (((R27.length : Nat) : Int) - (8 : Int)) + (Int.tmod R34 (8 : Int))))).bind fun E37 =>
  (sidx R27 (IntKind.i64.wrap (IntKind.i64.wrap (((R27.length : Nat) : Int) - (8 : Int)) + (Int.tmod R34 (8 : Int))))).bind fun E39 =>
  (ssub R27 (IntKind.i64.wrap (IntKind.i64.wrap (((R27.length : Nat) : Int) - (7 : Int)) + (Int.tmod R34 (8 : Int)))) (R27.length : Int)).bind fun E41 =>
  (laws_at code (1 : Int)).bind fun R43 =>
  (cat E37 ([(E39 ^^^ (toU8 (IntKind.i64.wrap ((1 : Int) + (Int.tmod R43 (255 : Int))))))])).bind fun E47 =>
  (cat E47 E41).bind fun E49 =>
  (impl_ReadToken R24.1 E49).bind fun R51 =>
  (impl_ReadToken R24.1 R27).bind fun R54 =>
  (if (!R51.2.2) = true then (if R54.2.2 = true then (if (decide (R54.1 = R24.2.1)) = true then (some (decide (R54.2.1 = R24.2.2)))
  else (some false))
  else (some false))
  else (some false)).bind (fun (T57 : Bool) =>
  some T57)))))

theorem laws_FnTokens_con (code : List UInt8) (V_code0 : Value) (r : Bool) (hm : laws_FnTokens code = some r) :
    Con Try.prog 4 [V_code0] [] [(V_code0, lc code)] (fun _ : Unit => .bool r) (fun _ => []) := by
  refine Con.intro (args := [V_code0]) (n := 148) (val := fun r (_ : Unit) => .bool r) (post := fun _ _ => []) (m := laws_FnTokens code) Try.func4 rfl rfl rfl hm ?_
  intro w S hrd
  have HB_V_code0 := hrd _ (.head _)
  clear hrd
  unfold laws_FnTokens
  refine TW.seq ?_
  refine TW.region ?_
  refine TO.y (Y.assign rfl) rfl rfl rfl ?_
  refine TO.nil ?_
  refine TE.next ?_
  refine TW.seq ?_
  refine TW.seq ?_
  refine TW.region ?_
  refine TO.y (Y.move rfl) rfl rfl rfl ?_
  refine TO.bind fun R1 H2 => ?_
  refine TO.ef (Ef.call (rest := []) [] (laws_big_con code V_code0 R1 H2) kc5 rfl rfl ⟨(Base.can HB_V_code0), trivial⟩) rfl rfl rfl (fun _ => ?_)
  refine TO.nil ?_
  refine TE.next ?_
  refine TW.cond rfl (fun H4 => ?_) (fun H4 => ?_)
  · refine TW.seq ?_
    refine TW.region ?_
    refine TO.y (Y.assign rfl) rfl rfl rfl ?_
    refine TO.nil ?_
    refine TE.next ?_
    refine TW.ret ?_
    refine TE.then_ret ?_
    exact TE.leaf fun _ _ hf_ hs_ => ret_any (rs := [.tmp 2]) (vs := [.bool true]) (.inl rfl) rfl ⟨rfl, trivial⟩ hf_ hs_ ⟨(), rfl, hs_.pulls [] rfl⟩
  · refine TW.skip ?_
    refine TE.next ?_
    refine TW.seq ?_
    refine TW.region ?_
    refine TO.y (Y.move rfl) rfl rfl rfl ?_
    refine TO.bind fun R5 H6 => ?_
    refine TO.ef (Ef.call (rest := []) [] (spec_DrawReadToken_con code V_code0 R5 H6) kc17 rfl rfl ⟨(Base.can HB_V_code0), trivial⟩) rfl rfl rfl (fun _ => ?_)
    refine TO.y (Y.move rfl) rfl rfl rfl ?_
    refine TO.y (Y.extract rfl rfl) rfl rfl rfl ?_
    refine TO.y (Y.extract rfl rfl) rfl rfl rfl ?_
    refine TO.y (Y.assign rfl) rfl rfl rfl ?_
    refine TO.y (Y.assign rfl) rfl rfl rfl ?_
    refine TO.nil ?_
    refine TE.next ?_
    refine TW.seq ?_
    refine TW.region ?_
    refine TO.y (Y.move rfl) rfl rfl rfl ?_
    refine TO.y (Y.move rfl) rfl rfl rfl ?_
    refine TO.bind fun R8 H9 => ?_
    refine TO.ef (Ef.call (rest := []) [] (impl_ReadToken_con R5.1 R5.2  R8 H9) kc18 rfl rfl trivial) rfl rfl rfl (fun _ => ?_)
    refine TO.y (Y.move rfl) rfl rfl rfl ?_
    refine TO.y (Y.extract rfl rfl) rfl rfl rfl ?_
    refine TO.y (Y.extract rfl rfl) rfl rfl rfl ?_
    refine TO.y (Y.extract rfl rfl) rfl rfl rfl ?_
    refine TO.y (Y.assign rfl) rfl rfl rfl ?_
    refine TO.y (Y.assign rfl) rfl rfl rfl ?_
    refine TO.y (Y.assign rfl) rfl rfl rfl ?_
    refine TO.nil ?_
    refine TE.next ?_
    refine TW.seq ?_
    refine TW.region ?_
    refine TO.y (Y.move rfl) rfl rfl rfl ?_
    refine TO.y (Y.move rfl) rfl rfl rfl ?_
    refine TO.bind fun R11 H12 => ?_
    refine TO.ef (Ef.call (rest := []) [] (spec_ReadToken_con R5.1 R5.2  R11 H12) kc19 rfl rfl trivial) rfl rfl rfl (fun _ => ?_)
    refine TO.y (Y.move rfl) rfl rfl rfl ?_
    refine TO.y (Y.extract rfl rfl) rfl rfl rfl ?_
    refine TO.y (Y.extract rfl rfl) rfl rfl rfl ?_
    refine TO.y (Y.extract rfl rfl) rfl rfl rfl ?_
    refine TO.y (Y.assign rfl) rfl rfl rfl ?_
    refine TO.y (Y.assign rfl) rfl rfl rfl ?_
    refine TO.y (Y.assign rfl) rfl rfl rfl ?_
    refine TO.nil ?_
    refine TE.next ?_
    refine TW.seq ?_
    refine TW.seq ?_
    refine TW.joinBX (τ := Bool) (X := Unit) (fun T _ => [(0, V_code0), (67, .bool T)]) (fun _ _ => []) ?_ (fun T14 X15 => ?_)
    · refine TW.region ?_
      refine TO.y (Y.move rfl) rfl rfl rfl ?_
      refine TO.y (Y.move rfl) rfl rfl rfl ?_
      refine TO.y (Y.neb kb4 rfl rfl) rfl rfl rfl ?_
      refine TO.y (Y.move rfl) rfl rfl rfl ?_
      refine TO.ite (b := !(decide (R8.2.2 = R11.2.2))) (fun H16 => ?_) (fun H16 => ?_)
      · refine TO.off (Gd.at 3 false 47 (!(decide (R8.2.2 = R11.2.2))) rfl rfl rfl (beq_tf H16)) rfl rfl ?_
        refine TO.off (Gd.at 3 false 47 (!(decide (R8.2.2 = R11.2.2))) rfl rfl rfl (beq_tf H16)) rfl rfl ?_
        refine TO.off (Gd.at 3 false 47 (!(decide (R8.2.2 = R11.2.2))) rfl rfl rfl (beq_tf H16)) rfl rfl ?_
        refine TO.y (Y.pick_t H16 rfl rfl) rfl rfl rfl ?_
        refine TO.y (Y.move rfl) rfl rfl rfl ?_
        refine TO.off (Gd.at 8 false 52 true rfl rfl rfl rfl) rfl rfl ?_
        refine TO.off (Gd.at 8 false 52 true rfl rfl rfl rfl) rfl rfl ?_
        refine TO.off (Gd.at 8 false 52 true rfl rfl rfl rfl) rfl rfl ?_
        refine TO.y (Y.pick_t rfl rfl rfl) rfl rfl rfl ?_
        refine TO.y (Y.move rfl) rfl rfl rfl ?_
        refine TO.off (Gd.at 13 false 57 true rfl rfl rfl rfl) rfl rfl ?_
        refine TO.off (Gd.at 13 false 57 true rfl rfl rfl rfl) rfl rfl ?_
        refine TO.off (Gd.un 15 true 59 rfl rfl rfl) rfl rfl ?_
        refine TO.off (Gd.un 15 true 59 rfl rfl rfl) rfl rfl ?_
        refine TO.off (Gd.un 15 true 59 rfl rfl rfl) rfl rfl ?_
        refine TO.off (Gd.un 15 true 59 rfl rfl rfl) rfl rfl ?_
        refine TO.off (Gd.un 15 true 59 rfl rfl rfl) rfl rfl ?_
        refine TO.off (Gd.un 15 true 59 rfl rfl rfl) rfl rfl ?_
        refine TO.off (Gd.at 13 false 57 true rfl rfl rfl rfl) rfl rfl ?_
        refine TO.y (Y.pick_t rfl rfl rfl) rfl rfl rfl ?_
        refine TO.nil ?_
        exact TE.jb_go () [] ⟨rfl, rfl, trivial⟩ rfl
      · refine TO.y (Y.move rfl) (Gd.at 3 false 47 (!(decide (R8.2.2 = R11.2.2))) rfl rfl rfl (beq_ff H16)) rfl rfl ?_
        refine TO.y (Y.move rfl) (Gd.at 3 false 47 (!(decide (R8.2.2 = R11.2.2))) rfl rfl rfl (beq_ff H16)) rfl rfl ?_
        refine TO.y (Y.neq rfl rfl) (Gd.at 3 false 47 (!(decide (R8.2.2 = R11.2.2))) rfl rfl rfl (beq_ff H16)) rfl rfl ?_
        refine TO.y (Y.pick_f H16 rfl rfl) rfl rfl rfl ?_
        refine TO.y (Y.move rfl) rfl rfl rfl ?_
        refine TO.ite (b := !(decide (R8.1 = R11.1))) (fun H17 => ?_) (fun H17 => ?_)
        · refine TO.off (Gd.at 8 false 52 (!(decide (R8.1 = R11.1))) rfl rfl rfl (beq_tf H17)) rfl rfl ?_
          refine TO.off (Gd.at 8 false 52 (!(decide (R8.1 = R11.1))) rfl rfl rfl (beq_tf H17)) rfl rfl ?_
          refine TO.off (Gd.at 8 false 52 (!(decide (R8.1 = R11.1))) rfl rfl rfl (beq_tf H17)) rfl rfl ?_
          refine TO.y (Y.pick_t H17 rfl rfl) rfl rfl rfl ?_
          refine TO.y (Y.move rfl) rfl rfl rfl ?_
          refine TO.off (Gd.at 13 false 57 true rfl rfl rfl rfl) rfl rfl ?_
          refine TO.off (Gd.at 13 false 57 true rfl rfl rfl rfl) rfl rfl ?_
          refine TO.off (Gd.un 15 true 59 rfl rfl rfl) rfl rfl ?_
          refine TO.off (Gd.un 15 true 59 rfl rfl rfl) rfl rfl ?_
          refine TO.off (Gd.un 15 true 59 rfl rfl rfl) rfl rfl ?_
          refine TO.off (Gd.un 15 true 59 rfl rfl rfl) rfl rfl ?_
          refine TO.off (Gd.un 15 true 59 rfl rfl rfl) rfl rfl ?_
          refine TO.off (Gd.un 15 true 59 rfl rfl rfl) rfl rfl ?_
          refine TO.off (Gd.at 13 false 57 true rfl rfl rfl rfl) rfl rfl ?_
          refine TO.y (Y.pick_t rfl rfl rfl) rfl rfl rfl ?_
          refine TO.nil ?_
          exact TE.jb_go () [] ⟨rfl, rfl, trivial⟩ rfl
        · refine TO.y (Y.move rfl) (Gd.at 8 false 52 (!(decide (R8.1 = R11.1))) rfl rfl rfl (beq_ff H17)) rfl rfl ?_
          refine TO.y (Y.move rfl) (Gd.at 8 false 52 (!(decide (R8.1 = R11.1))) rfl rfl rfl (beq_ff H17)) rfl rfl ?_
          refine TO.y (Y.neq rfl rfl) (Gd.at 8 false 52 (!(decide (R8.1 = R11.1))) rfl rfl rfl (beq_ff H17)) rfl rfl ?_
          refine TO.y (Y.pick_f H17 rfl rfl) rfl rfl rfl ?_
          refine TO.y (Y.move rfl) rfl rfl rfl ?_
          refine TO.ite (b := !(decide (R8.2.1 = R11.2.1))) (fun H18 => ?_) (fun H18 => ?_)
          · refine TO.off (Gd.at 13 false 57 (!(decide (R8.2.1 = R11.2.1))) rfl rfl rfl (beq_tf H18)) rfl rfl ?_
            refine TO.off (Gd.at 13 false 57 (!(decide (R8.2.1 = R11.2.1))) rfl rfl rfl (beq_tf H18)) rfl rfl ?_
            refine TO.off (Gd.un 15 true 59 rfl rfl rfl) rfl rfl ?_
            refine TO.off (Gd.un 15 true 59 rfl rfl rfl) rfl rfl ?_
            refine TO.off (Gd.un 15 true 59 rfl rfl rfl) rfl rfl ?_
            refine TO.off (Gd.un 15 true 59 rfl rfl rfl) rfl rfl ?_
            refine TO.off (Gd.un 15 true 59 rfl rfl rfl) rfl rfl ?_
            refine TO.off (Gd.un 15 true 59 rfl rfl rfl) rfl rfl ?_
            refine TO.off (Gd.at 13 false 57 (!(decide (R8.2.1 = R11.2.1))) rfl rfl rfl (beq_tf H18)) rfl rfl ?_
            refine TO.y (Y.pick_t H18 rfl rfl) rfl rfl rfl ?_
            refine TO.nil ?_
            exact TE.jb_go () [] ⟨rfl, rfl, trivial⟩ rfl
          · refine TO.y (Y.move rfl) (Gd.at 13 false 57 (!(decide (R8.2.1 = R11.2.1))) rfl rfl rfl (beq_ff H18)) rfl rfl ?_
            refine TO.y (Y.move rfl) (Gd.at 13 false 57 (!(decide (R8.2.1 = R11.2.1))) rfl rfl rfl (beq_ff H18)) rfl rfl ?_
            refine TO.ite (b := R8.2.2) (fun H19 => ?_) (fun H19 => ?_)
            · refine TO.y (Y.move rfl) (Gd.at 15 true 59 R8.2.2 rfl rfl rfl (beq_tt H19)) rfl rfl ?_
              refine TO.y (Y.move rfl) (Gd.at 15 true 59 R8.2.2 rfl rfl rfl (beq_tt H19)) rfl rfl ?_
              refine TO.y (Y.move rfl) (Gd.at 15 true 59 R8.2.2 rfl rfl rfl (beq_tt H19)) rfl rfl ?_
              refine TO.bind fun R20 H21 => ?_
              refine TO.ef (Ef.call (rest := []) [] (impl_MintToken_con R5.1 R8.1 R8.2.1  R20 H21) kc20 rfl rfl trivial) (Gd.at 15 true 59 R8.2.2 rfl rfl rfl (beq_tt H19)) rfl rfl (fun _ => ?_)
              refine TO.y (Y.move rfl) (Gd.at 15 true 59 R8.2.2 rfl rfl rfl (beq_tt H19)) rfl rfl ?_
              refine TO.y (Y.sneq rfl rfl) (Gd.at 15 true 59 R8.2.2 rfl rfl rfl (beq_tt H19)) rfl rfl ?_
              refine TO.y (Y.pick_t H19 rfl rfl) (Gd.at 13 false 57 (!(decide (R8.2.1 = R11.2.1))) rfl rfl rfl (beq_ff H18)) rfl rfl ?_
              refine TO.y (Y.pick_f H18 rfl rfl) rfl rfl rfl ?_
              refine TO.nil ?_
              exact TE.jb_go () [] ⟨rfl, rfl, trivial⟩ rfl
            · refine TO.off (Gd.at 15 true 59 R8.2.2 rfl rfl rfl (beq_ft H19)) rfl rfl ?_
              refine TO.off (Gd.at 15 true 59 R8.2.2 rfl rfl rfl (beq_ft H19)) rfl rfl ?_
              refine TO.off (Gd.at 15 true 59 R8.2.2 rfl rfl rfl (beq_ft H19)) rfl rfl ?_
              refine TO.off (Gd.at 15 true 59 R8.2.2 rfl rfl rfl (beq_ft H19)) rfl rfl ?_
              refine TO.off (Gd.at 15 true 59 R8.2.2 rfl rfl rfl (beq_ft H19)) rfl rfl ?_
              refine TO.off (Gd.at 15 true 59 R8.2.2 rfl rfl rfl (beq_ft H19)) rfl rfl ?_
              refine TO.y (Y.pick_f H19 rfl rfl) (Gd.at 13 false 57 (!(decide (R8.2.1 = R11.2.1))) rfl rfl rfl (beq_ff H18)) rfl rfl ?_
              refine TO.y (Y.pick_f H18 rfl rfl) rfl rfl rfl ?_
              refine TO.nil ?_
              exact TE.jb_go () [] ⟨rfl, rfl, trivial⟩ rfl
    · refine TE.next ?_
      refine TW.cond rfl (fun H23 => ?_) (fun H23 => ?_)
      · refine TW.seq ?_
        refine TW.region ?_
        refine TO.y (Y.assign rfl) rfl rfl rfl ?_
        refine TO.nil ?_
        refine TE.next ?_
        refine TW.ret ?_
        refine TE.then_ret ?_
        exact TE.leaf fun _ _ hf_ hs_ => ret_any (rs := [.tmp 2]) (vs := [.bool false]) (.inl rfl) rfl ⟨rfl, trivial⟩ hf_ hs_ ⟨(), rfl, hs_.pulls [] rfl⟩
      · refine TW.skip ?_
        refine TE.next ?_
        refine TW.seq ?_
        refine TW.region ?_
        refine TO.y (Y.move rfl) rfl rfl rfl ?_
        refine TO.bind fun R24 H25 => ?_
        refine TO.ef (Ef.call (rest := []) [] (spec_DrawMintToken_con code V_code0 R24 H25) kc21 rfl rfl ⟨(Base.can HB_V_code0), trivial⟩) rfl rfl rfl (fun _ => ?_)
        refine TO.y (Y.move rfl) rfl rfl rfl ?_
        refine TO.y (Y.extract rfl rfl) rfl rfl rfl ?_
        refine TO.y (Y.extract rfl rfl) rfl rfl rfl ?_
        refine TO.y (Y.extract rfl rfl) rfl rfl rfl ?_
        refine TO.y (Y.assign rfl) rfl rfl rfl ?_
        refine TO.y (Y.assign rfl) rfl rfl rfl ?_
        refine TO.y (Y.assign rfl) rfl rfl rfl ?_
        refine TO.nil ?_
        refine TE.next ?_
        refine TW.seq ?_
        refine TW.region ?_
        refine TO.y (Y.move rfl) rfl rfl rfl ?_
        refine TO.y (Y.move rfl) rfl rfl rfl ?_
        refine TO.y (Y.move rfl) rfl rfl rfl ?_
        refine TO.bind fun R27 H28 => ?_
        refine TO.ef (Ef.call (rest := []) [] (impl_MintToken_con R24.1 R24.2.1 R24.2.2  R27 H28) kc20 rfl rfl trivial) rfl rfl rfl (fun _ => ?_)
        refine TO.y (Y.assign rfl) rfl rfl rfl ?_
        refine TO.nil ?_
        refine TE.next ?_
        refine TW.seq ?_
        refine TW.seq ?_
        refine TW.region ?_
        refine TO.y (Y.move rfl) rfl rfl rfl ?_
        refine TO.y (Y.seql rfl rfl) rfl rfl rfl ?_
        refine TO.nil ?_
        refine TE.next ?_
        refine TW.cond rfl (fun H30 => ?_) (fun H30 => ?_)
        · refine TW.seq ?_
          refine TW.region ?_
          refine TO.y (Y.move rfl) rfl rfl rfl ?_
          refine TO.y (Y.move rfl) rfl rfl rfl ?_
          refine TO.y (Y.move rfl) rfl rfl rfl ?_
          refine TO.bind fun R31 H32 => ?_
          refine TO.ef (Ef.call (rest := []) [] (spec_MintToken_con R24.1 R24.2.1 R24.2.2  R31 H32) kc22 rfl rfl trivial) rfl rfl rfl (fun _ => ?_)
          refine TO.y (Y.seql rfl rfl) rfl rfl rfl ?_
          refine TO.y (Y.assign rfl) rfl rfl rfl ?_
          refine TO.nil ?_
          refine TE.next ?_
          refine TW.ret ?_
          refine TE.then_ret ?_
          exact TE.leaf fun _ _ hf_ hs_ => ret_any (rs := [.tmp 2]) (vs := [.bool (decide (R31 = ([])))]) (.inl rfl) rfl ⟨rfl, trivial⟩ hf_ hs_ ⟨(), rfl, hs_.pulls [] rfl⟩
        · refine TW.skip ?_
          refine TE.next ?_
          refine TW.seq ?_
          refine TW.region ?_
          refine TO.y (Y.move rfl) rfl rfl rfl ?_
          refine TO.bind fun R34 H35 => ?_
          refine TO.ef (Ef.call (rest := []) [] (laws_at_con code (0 : Int) V_code0 R34 H35) kc23 rfl rfl ⟨(Base.can HB_V_code0), trivial⟩) rfl rfl rfl (fun _ => ?_)
          refine TO.y (Y.rem (by decide) rfl rfl) rfl rfl rfl ?_
          refine TO.y (Y.assign rfl) rfl rfl rfl ?_
          refine TO.nil ?_
          refine TE.next ?_
          refine TW.seq ?_
          refine TW.draw (isH := []) hMix ?_
          refine TA.y (listed' := #[true, false, false, false, false, false, false, false, false, false, false, false, false, false, false, false, false, false, false, false, false, false, false, false, false, false, false, false, false, false, false, false]) 0 [] rfl (Y.move rfl) rfl rfl rfl (by kernel_rfl) (by kernel_rfl) (by kernel_rfl) rfl rfl ?_
          refine TA.y (listed' := #[true, true, false, false, false, false, false, false, false, false, false, false, false, false, false, false, false, false, false, false, false, false, false, false, false, false, false, false, false, false, false, false]) 1 [] rfl (Y.move rfl) rfl rfl rfl (by kernel_rfl) (by kernel_rfl) (by kernel_rfl) rfl rfl ?_
          refine TA.y (listed' := #[true, true, true, false, false, false, false, false, false, false, false, false, false, false, false, false, false, false, false, false, false, false, false, false, false, false, false, false, false, false, false, false]) 2 [] rfl (Y.slen ks9 rfl) rfl rfl rfl (by kernel_rfl) (by kernel_rfl) (by kernel_rfl) rfl rfl ?_
          refine TA.y (listed' := #[true, true, true, true, false, false, false, false, false, false, false, false, false, false, false, false, false, false, false, false, false, false, false, false, false, false, false, false, false, false, false, false]) 3 [] rfl (Y.sub rfl rfl) rfl rfl rfl (by kernel_rfl) (by kernel_rfl) (by kernel_rfl) rfl rfl ?_
          refine TA.y (listed' := #[true, true, true, true, true, false, false, false, false, false, false, false, false, false, false, false, false, false, false, false, false, false, false, false, false, false, false, false, false, false, false, false]) 4 [] rfl (Y.move rfl) rfl rfl rfl (by kernel_rfl) (by kernel_rfl) (by kernel_rfl) rfl rfl ?_
          refine TA.y (listed' := #[true, true, true, true, true, true, false, false, false, false, false, false, false, false, false, false, false, false, false, false, false, false, false, false, false, false, false, false, false, false, false, false]) 5 [] rfl (Y.add rfl rfl) rfl rfl rfl (by kernel_rfl) (by kernel_rfl) (by kernel_rfl) rfl rfl ?_
          refine TA.bind fun E37 H38 => ?_
          refine TA.y (listed' := #[true, true, true, true, true, true, true, false, false, false, false, false, false, false, false, false, false, false, false, false, false, false, false, false, false, false, false, false, false, false, false, false]) 6 [] rfl (Y.ssub_to H38 ks9 rfl rfl) rfl rfl rfl (by kernel_rfl) (by kernel_rfl) (by kernel_rfl) rfl rfl ?_
          refine TA.y (listed' := #[true, true, true, true, true, true, true, true, false, false, false, false, false, false, false, false, false, false, false, false, false, false, false, false, false, false, false, false, false, false, false, false]) 7 [] rfl (Y.move rfl) rfl rfl rfl (by kernel_rfl) (by kernel_rfl) (by kernel_rfl) rfl rfl ?_
          refine TA.y (listed' := #[true, true, true, true, true, true, true, true, true, false, false, false, false, false, false, false, false, false, false, false, false, false, false, false, false, false, false, false, false, false, false, false]) 8 [] rfl (Y.move rfl) rfl rfl rfl (by kernel_rfl) (by kernel_rfl) (by kernel_rfl) rfl rfl ?_
          refine TA.y (listed' := #[true, true, true, true, true, true, true, true, true, true, false, false, false, false, false, false, false, false, false, false, false, false, false, false, false, false, false, false, false, false, false, false]) 9 [] rfl (Y.slen ks9 rfl) rfl rfl rfl (by kernel_rfl) (by kernel_rfl) (by kernel_rfl) rfl rfl ?_
          refine TA.y (listed' := #[true, true, true, true, true, true, true, true, true, true, true, false, false, false, false, false, false, false, false, false, false, false, false, false, false, false, false, false, false, false, false, false]) 10 [] rfl (Y.sub rfl rfl) rfl rfl rfl (by kernel_rfl) (by kernel_rfl) (by kernel_rfl) rfl rfl ?_
          refine TA.y (listed' := #[true, true, true, true, true, true, true, true, true, true, true, true, false, false, false, false, false, false, false, false, false, false, false, false, false, false, false, false, false, false, false, false]) 11 [] rfl (Y.move rfl) rfl rfl rfl (by kernel_rfl) (by kernel_rfl) (by kernel_rfl) rfl rfl ?_
          refine TA.y (listed' := #[true, true, true, true, true, true, true, true, true, true, true, true, true, false, false, false, false, false, false, false, false, false, false, false, false, false, false, false, false, false, false, false]) 12 [] rfl (Y.add rfl rfl) rfl rfl rfl (by kernel_rfl) (by kernel_rfl) (by kernel_rfl) rfl rfl ?_
          refine TA.bind fun E39 H40 => ?_
          refine TA.y (listed' := #[true, true, true, true, true, true, true, true, true, true, true, true, true, true, false, false, false, false, false, false, false, false, false, false, false, false, false, false, false, false, false, false]) 13 [] rfl (Y.sidx H40 ks9 rfl rfl) rfl rfl rfl (by kernel_rfl) (by kernel_rfl) (by kernel_rfl) rfl rfl ?_
          refine TA.y (listed' := #[true, true, true, true, true, true, true, true, true, true, true, true, true, true, true, false, false, false, false, false, false, false, false, false, false, false, false, false, false, false, false, false]) 14 [] rfl (Y.move rfl) rfl rfl rfl (by kernel_rfl) (by kernel_rfl) (by kernel_rfl) rfl rfl ?_
          refine TA.y (listed' := #[true, true, true, true, true, true, true, true, true, true, true, true, true, true, true, false, false, false, false, false, false, false, false, true, false, false, false, false, false, false, false, false]) 23 [] rfl (Y.move rfl) rfl rfl rfl (by kernel_rfl) (by kernel_rfl) (by kernel_rfl) rfl rfl ?_
          refine TA.y (listed' := #[true, true, true, true, true, true, true, true, true, true, true, true, true, true, true, false, false, false, false, false, false, false, false, true, true, false, false, false, false, false, false, false]) 24 [] rfl (Y.move rfl) rfl rfl rfl (by kernel_rfl) (by kernel_rfl) (by kernel_rfl) rfl rfl ?_
          refine TA.y (listed' := #[true, true, true, true, true, true, true, true, true, true, true, true, true, true, true, false, false, false, false, false, false, false, false, true, true, true, false, false, false, false, false, false]) 25 [] rfl (Y.slen ks9 rfl) rfl rfl rfl (by kernel_rfl) (by kernel_rfl) (by kernel_rfl) rfl rfl ?_
          refine TA.y (listed' := #[true, true, true, true, true, true, true, true, true, true, true, true, true, true, true, false, false, false, false, false, false, false, false, true, true, true, true, false, false, false, false, false]) 26 [] rfl (Y.sub rfl rfl) rfl rfl rfl (by kernel_rfl) (by kernel_rfl) (by kernel_rfl) rfl rfl ?_
          refine TA.y (listed' := #[true, true, true, true, true, true, true, true, true, true, true, true, true, true, true, false, false, false, false, false, false, false, false, true, true, true, true, true, false, false, false, false]) 27 [] rfl (Y.move rfl) rfl rfl rfl (by kernel_rfl) (by kernel_rfl) (by kernel_rfl) rfl rfl ?_
          refine TA.y (listed' := #[true, true, true, true, true, true, true, true, true, true, true, true, true, true, true, false, false, false, false, false, false, false, false, true, true, true, true, true, true, false, false, false]) 28 [] rfl (Y.add rfl rfl) rfl rfl rfl (by kernel_rfl) (by kernel_rfl) (by kernel_rfl) rfl rfl ?_
          refine TA.bind fun E41 H42 => ?_
          refine TA.y (listed' := #[true, true, true, true, true, true, true, true, true, true, true, true, true, true, true, false, false, false, false, false, false, false, false, true, true, true, true, true, true, true, false, false]) 29 [] rfl (Y.ssub_from H42 ks9 rfl rfl) rfl rfl rfl (by kernel_rfl) (by kernel_rfl) (by kernel_rfl) rfl rfl ?_
          refine TA.bind fun R43 H44 => ?_
          refine TA.one 15 (by kernel_rfl) ?_
          refine TX.ef (listed' := #[true, true, true, true, true, true, true, true, true, true, true, true, true, true, true, true, false, false, false, false, false, false, false, true, true, true, true, true, true, true, false, false]) [] rfl (Ef.call (rest := []) [] (laws_at_con code (1 : Int) V_code0 R43 H44) kc23 rfl rfl ⟨(Base.can HB_V_code0), trivial⟩) rfl rfl rfl rfl (fun _ => rfl) (fun _ => ?_)
          refine TA.y (listed' := #[true, true, true, true, true, true, true, true, true, true, true, true, true, true, true, true, true, false, false, false, false, false, false, true, true, true, true, true, true, true, false, false]) 16 [] rfl (Y.rem (by decide) rfl rfl) rfl rfl rfl (by kernel_rfl) (by kernel_rfl) (by kernel_rfl) rfl rfl ?_
          refine TA.y (listed' := #[true, true, true, true, true, true, true, true, true, true, true, true, true, true, true, true, true, true, false, false, false, false, false, true, true, true, true, true, true, true, false, false]) 17 [] rfl (Y.add rfl rfl) rfl rfl rfl (by kernel_rfl) (by kernel_rfl) (by kernel_rfl) rfl rfl ?_
          refine TA.y (listed' := #[true, true, true, true, true, true, true, true, true, true, true, true, true, true, true, true, true, true, true, false, false, false, false, true, true, true, true, true, true, true, false, false]) 18 [] rfl (Y.conv8 ki3 ki5 rfl) rfl rfl rfl (by kernel_rfl) (by kernel_rfl) (by kernel_rfl) rfl rfl ?_
          refine TA.y (listed' := #[true, true, true, true, true, true, true, true, true, true, true, true, true, true, true, true, true, true, true, true, false, false, false, true, true, true, true, true, true, true, false, false]) 19 [] rfl (Y.xor8 rfl rfl) rfl rfl rfl (by kernel_rfl) (by kernel_rfl) (by kernel_rfl) rfl rfl ?_
          refine TA.one 20 (by kernel_rfl) ?_
          refine TX.ef (listed' := #[true, true, true, true, true, true, true, true, true, true, true, true, true, true, true, true, true, true, true, true, true, false, false, true, true, true, true, true, true, true, false, false]) [] rfl (Ef.buildSlice (α := UInt8) (Vs := [.int .u8 (((E39 ^^^ (toU8 (IntKind.i64.wrap ((1 : Int) + (Int.tmod R43 (255 : Int)))))).toNat : Nat) : Int)]) [(E39 ^^^ (toU8 (IntKind.i64.wrap ((1 : Int) + (Int.tmod R43 (255 : Int))))))] ke22 kz5 rfl rfl rfl rfl rfl) rfl rfl rfl rfl (fun _ => rfl) (fun B46 => ?_)
          refine TA.one 21 (by kernel_rfl) ?_
          refine TX.y (listed' := #[true, true, true, true, true, true, true, true, true, true, true, true, true, true, true, true, true, true, true, true, true, true, false, true, true, true, true, true, true, true, false, false]) [] rfl (Y.toStr ke22 ki5 ks9 (Can.own 0 rfl) rfl) rfl rfl rfl rfl rfl ?_
          refine TA.bind fun E47 H48 => ?_
          refine TA.y (listed' := #[true, true, true, true, true, true, true, true, true, true, true, true, true, true, true, true, true, true, true, true, true, true, true, true, true, true, true, true, true, true, false, false]) 22 [] rfl (Y.cat H48 rfl rfl) rfl rfl rfl (by kernel_rfl) (by kernel_rfl) (by kernel_rfl) rfl rfl ?_
          refine TA.bind fun E49 H50 => ?_
          refine TA.y (listed' := #[true, true, true, true, true, true, true, true, true, true, true, true, true, true, true, true, true, true, true, true, true, true, true, true, true, true, true, true, true, true, true, false]) 30 [] rfl (Y.cat H50 rfl rfl) rfl rfl rfl (by kernel_rfl) (by kernel_rfl) (by kernel_rfl) rfl rfl ?_
          refine TA.y (listed' := #[true, true, true, true, true, true, true, true, true, true, true, true, true, true, true, true, true, true, true, true, true, true, true, true, true, true, true, true, true, true, true, true]) 31 [] rfl (Y.assign rfl) rfl rfl rfl (by kernel_rfl) (by kernel_rfl) (by kernel_rfl) rfl rfl ?_
          refine TA.nil (by kernel_rfl) ?_
          refine TE.next ?_
          refine TW.seq ?_
          refine TW.region ?_
          refine TO.y (Y.move rfl) rfl rfl rfl ?_
          refine TO.y (Y.move rfl) rfl rfl rfl ?_
          refine TO.bind fun R51 H52 => ?_
          refine TO.ef (Ef.call (rest := [.own (.slice (some ⟨B46, 0, none⟩) 1 1) (lc ([(E39 ^^^ (toU8 (IntKind.i64.wrap ((1 : Int) + (Int.tmod R43 (255 : Int))))))]))]) [0] (impl_ReadToken_con R24.1 E49  R51 H52) kc18 rfl rfl trivial) rfl rfl rfl (fun _ => ?_)
          refine TO.y (Y.move rfl) rfl rfl rfl ?_
          refine TO.y (Y.extract rfl rfl) rfl rfl rfl ?_
          refine TO.y (Y.extract rfl rfl) rfl rfl rfl ?_
          refine TO.y (Y.extract rfl rfl) rfl rfl rfl ?_
          refine TO.y (Y.assign rfl) rfl rfl rfl ?_
          refine TO.y (Y.assign rfl) rfl rfl rfl ?_
          refine TO.y (Y.assign rfl) rfl rfl rfl ?_
          refine TO.nil ?_
          refine TE.next ?_
          refine TW.seq ?_
          refine TW.region ?_
          refine TO.y (Y.move rfl) rfl rfl rfl ?_
          refine TO.y (Y.move rfl) rfl rfl rfl ?_
          refine TO.bind fun R54 H55 => ?_
          refine TO.ef (Ef.call (rest := [.own (.slice (some ⟨B46, 0, none⟩) 1 1) (lc ([(E39 ^^^ (toU8 (IntKind.i64.wrap ((1 : Int) + (Int.tmod R43 (255 : Int))))))]))]) [0] (impl_ReadToken_con R24.1 R27  R54 H55) kc18 rfl rfl trivial) rfl rfl rfl (fun _ => ?_)
          refine TO.y (Y.move rfl) rfl rfl rfl ?_
          refine TO.y (Y.extract rfl rfl) rfl rfl rfl ?_
          refine TO.y (Y.extract rfl rfl) rfl rfl rfl ?_
          refine TO.y (Y.extract rfl rfl) rfl rfl rfl ?_
          refine TO.y (Y.assign rfl) rfl rfl rfl ?_
          refine TO.y (Y.assign rfl) rfl rfl rfl ?_
          refine TO.y (Y.assign rfl) rfl rfl rfl ?_
          refine TO.nil ?_
          refine TE.next ?_
          refine TW.seq ?_
          refine TW.joinBX (τ := Bool) (X := Unit) (fun T _ => [(2, .bool T)]) (fun _ _ => []) ?_ (fun T57 X58 => ?_)
          · refine TW.region ?_
            refine TO.y (Y.move rfl) rfl rfl rfl ?_
            refine TO.y (Y.not rfl) rfl rfl rfl ?_
            refine TO.y (Y.move rfl) rfl rfl rfl ?_
            refine TO.ite (b := !R51.2.2) (fun H59 => ?_) (fun H59 => ?_)
            · refine TO.y (Y.move rfl) (Gd.at 2 true 135 (!R51.2.2) rfl rfl rfl (beq_tt H59)) rfl rfl ?_
              refine TO.y (Y.pick_t H59 rfl rfl) rfl rfl rfl ?_
              refine TO.y (Y.move rfl) rfl rfl rfl ?_
              refine TO.ite (b := R54.2.2) (fun H60 => ?_) (fun H60 => ?_)
              · refine TO.y (Y.move rfl) (Gd.at 5 true 138 R54.2.2 rfl rfl rfl (beq_tt H60)) rfl rfl ?_
                refine TO.y (Y.move rfl) (Gd.at 5 true 138 R54.2.2 rfl rfl rfl (beq_tt H60)) rfl rfl ?_
                refine TO.y (Y.eql rfl rfl) (Gd.at 5 true 138 R54.2.2 rfl rfl rfl (beq_tt H60)) rfl rfl ?_
                refine TO.y (Y.pick_t H60 rfl rfl) rfl rfl rfl ?_
                refine TO.y (Y.move rfl) rfl rfl rfl ?_
                refine TO.ite (b := decide (R54.1 = R24.2.1)) (fun H61 => ?_) (fun H61 => ?_)
                · refine TO.y (Y.move rfl) (Gd.at 10 true 143 (decide (R54.1 = R24.2.1)) rfl rfl rfl (beq_tt H61)) rfl rfl ?_
                  refine TO.y (Y.move rfl) (Gd.at 10 true 143 (decide (R54.1 = R24.2.1)) rfl rfl rfl (beq_tt H61)) rfl rfl ?_
                  refine TO.y (Y.eql rfl rfl) (Gd.at 10 true 143 (decide (R54.1 = R24.2.1)) rfl rfl rfl (beq_tt H61)) rfl rfl ?_
                  refine TO.y (Y.pick_t H61 rfl rfl) rfl rfl rfl ?_
                  refine TO.y (Y.assign rfl) rfl rfl rfl ?_
                  refine TO.nil ?_
                  exact TE.jb_go () [] ⟨rfl, trivial⟩ rfl
                · refine TO.off (Gd.at 10 true 143 (decide (R54.1 = R24.2.1)) rfl rfl rfl (beq_ft H61)) rfl rfl ?_
                  refine TO.off (Gd.at 10 true 143 (decide (R54.1 = R24.2.1)) rfl rfl rfl (beq_ft H61)) rfl rfl ?_
                  refine TO.off (Gd.at 10 true 143 (decide (R54.1 = R24.2.1)) rfl rfl rfl (beq_ft H61)) rfl rfl ?_
                  refine TO.y (Y.pick_f H61 rfl rfl) rfl rfl rfl ?_
                  refine TO.y (Y.assign rfl) rfl rfl rfl ?_
                  refine TO.nil ?_
                  exact TE.jb_go () [] ⟨rfl, trivial⟩ rfl
              · refine TO.off (Gd.at 5 true 138 R54.2.2 rfl rfl rfl (beq_ft H60)) rfl rfl ?_
                refine TO.off (Gd.at 5 true 138 R54.2.2 rfl rfl rfl (beq_ft H60)) rfl rfl ?_
                refine TO.off (Gd.at 5 true 138 R54.2.2 rfl rfl rfl (beq_ft H60)) rfl rfl ?_
                refine TO.y (Y.pick_f H60 rfl rfl) rfl rfl rfl ?_
                refine TO.y (Y.move rfl) rfl rfl rfl ?_
                refine TO.off (Gd.at 10 true 143 false rfl rfl rfl rfl) rfl rfl ?_
                refine TO.off (Gd.at 10 true 143 false rfl rfl rfl rfl) rfl rfl ?_
                refine TO.off (Gd.at 10 true 143 false rfl rfl rfl rfl) rfl rfl ?_
                refine TO.y (Y.pick_f rfl rfl rfl) rfl rfl rfl ?_
                refine TO.y (Y.assign rfl) rfl rfl rfl ?_
                refine TO.nil ?_
                exact TE.jb_go () [] ⟨rfl, trivial⟩ rfl
            · refine TO.off (Gd.at 2 true 135 (!R51.2.2) rfl rfl rfl (beq_ft H59)) rfl rfl ?_
              refine TO.y (Y.pick_f H59 rfl rfl) rfl rfl rfl ?_
              refine TO.y (Y.move rfl) rfl rfl rfl ?_
              refine TO.off (Gd.at 5 true 138 false rfl rfl rfl rfl) rfl rfl ?_
              refine TO.off (Gd.at 5 true 138 false rfl rfl rfl rfl) rfl rfl ?_
              refine TO.off (Gd.at 5 true 138 false rfl rfl rfl rfl) rfl rfl ?_
              refine TO.y (Y.pick_f rfl rfl rfl) rfl rfl rfl ?_
              refine TO.y (Y.move rfl) rfl rfl rfl ?_
              refine TO.off (Gd.at 10 true 143 false rfl rfl rfl rfl) rfl rfl ?_
              refine TO.off (Gd.at 10 true 143 false rfl rfl rfl rfl) rfl rfl ?_
              refine TO.off (Gd.at 10 true 143 false rfl rfl rfl rfl) rfl rfl ?_
              refine TO.y (Y.pick_f rfl rfl rfl) rfl rfl rfl ?_
              refine TO.y (Y.assign rfl) rfl rfl rfl ?_
              refine TO.nil ?_
              exact TE.jb_go () [] ⟨rfl, trivial⟩ rfl
          · refine TE.next ?_
            refine TW.ret ?_
            exact TE.leaf fun _ _ hf_ hs_ => ret_any (rs := [.tmp 2]) (vs := [.bool T57]) (.inl rfl) rfl ⟨rfl, trivial⟩ hf_ hs_ ⟨(), rfl, hs_.pulls [] rfl⟩

end Go.Proofs.Ytammomfkamhhdaa
