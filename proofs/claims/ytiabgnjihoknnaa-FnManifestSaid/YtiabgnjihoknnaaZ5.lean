/-
  The functions that a law reaches, each as a pure function, with the proof that the program computes it, and the step from a pure law to the given statement. Conditions: none.
-/
import Derived.Test.YtiabgnjihoknnaaZ4
set_option linter.unusedVariables false
set_option maxRecDepth 100000
set_option maxHeartbeats 4000000
namespace Go.Proofs.Ytiabgnjihoknnaa
open Go Sl

/-- loop.example/g00950/spec.l6Vars -/
noncomputable def spec_l6Vars (s : List UInt8) (at_ : Int) (n : Int) : Option (List Int × Int) :=
  bindC (loopO (fun (S2 : Int × Int × List Int) => if (decide (S2.2.1 < n)) = true then ((if (decide (S2.1 < (0 : Int))) = true then (some true)
  else (some (decide (S2.1 > ((s.length : Nat) : Int))))).bind (fun (T7 : Bool) =>
  if T7 = true then (some (.done (.done (S2.2.2, (-1 : Int)))))
  else ((ssub s S2.1 (s.length : Int)).bind fun E11 =>
  (spec_ReadVar E11).bind fun R13 =>
  if (decide (R13.2 = (0 : Int))) = true then (some (.done (.done (S2.2.2, (-1 : Int)))))
  else ((app 8 S2.2.2 ([R13.1])).bind fun E19 =>
  some (.go (IntKind.i64.wrap (S2.1 + R13.2), IntKind.i64.wrap (S2.2.1 + (1 : Int)), E19))))))
  else (some (.done (.go (S2.1, S2.2.2)))))
  (at_, (0 : Int), ([] : List Int)))
  (fun (T4 : Int × List Int) => some (T4.2, T4.1))

theorem spec_l6Vars_con (s : List UInt8) (at_ : Int) (n : Int)  (r : List Int × Int) (hm : spec_l6Vars s at_ n = some r) :
    Con Try.prog 53 [strV s, .int .i64 at_, .int .i64 n] [] [] (fun X : Value => .tuple #[X, .int .i64 r.2]) (fun X => [.own X (lc r.1)]) := by
  refine Con.intro (args := [strV s, .int .i64 at_, .int .i64 n]) (n := 46) (val := fun r (X : Value) => .tuple #[X, .int .i64 r.2]) (post := fun r X => [.own X (lc r.1)]) (m := spec_l6Vars s at_ n) Try.func53 rfl rfl rfl hm ?_
  intro w S _
  unfold spec_l6Vars
  refine TW.seq ?_
  refine TW.region ?_
  refine TO.y (Y.assign rfl) rfl rfl rfl ?_
  refine TO.y (Y.assign rfl) rfl rfl rfl ?_
  refine TO.nil ?_
  refine TE.next ?_
  refine TW.seq ?_
  refine TW.region ?_
  refine TO.ef (Ef.buildSlice (α := Int) (Vs := []) ([] : List Int) ke32 kz3 rfl rfl rfl rfl rfl) rfl rfl rfl (fun B1 => ?_)
  refine TO.y (Y.assign rfl) rfl rfl rfl ?_
  refine TO.nil ?_
  refine TE.next ?_
  refine TW.seq ?_
  refine TW.seq ?_
  refine TW.region ?_
  refine TO.y (Y.assign rfl) rfl rfl rfl ?_
  refine TO.nil ?_
  refine TE.next ?_
  refine TW.joinX (τ := Int × List Int) (X := Value) (fun T X => [(1, .int .i64 T.1), (8, X)]) (fun T X => [.own X (lc T.2)]) ?_ (fun T4 X5 => ?_)
  · refine TW.block ?_
    refine TW.loopX (σ := Int × Int × List Int) (X := Value) (fun T X => [(0, strV s), (1, .int .i64 T.1), (2, .int .i64 n), (8, X), (9, .int .i64 T.2.1)]) (fun T X => [.own X (lc T.2.2)]) (.slice (some ⟨B1, 0, none⟩) 0 0) [0] ⟨rfl, rfl, rfl, rfl, rfl, trivial⟩ rfl (fun S2 X3 => ?_)
    refine TW.seq ?_
    refine TW.seq ?_
    refine TW.region ?_
    refine TO.y (Y.move rfl) rfl rfl rfl ?_
    refine TO.y (Y.move rfl) rfl rfl rfl ?_
    refine TO.y (Y.lss rfl rfl) rfl rfl rfl ?_
    refine TO.nil ?_
    refine TE.next ?_
    refine TW.cond rfl (fun H6 => ?_) (fun H6 => ?_)
    · refine TW.skip ?_
      refine TE.next ?_
      refine TW.seq ?_
      refine TW.block ?_
      refine TW.seq ?_
      refine TW.seq ?_
      refine TW.joinBX (τ := Bool) (X := Unit) (fun T _ => [(0, strV s), (1, .int .i64 S2.1), (2, .int .i64 n), (8, X3), (9, .int .i64 S2.2.1), (25, .bool T)]) (fun _ _ => [.own X3 (lc S2.2.2)]) ?_ (fun T7 X8 => ?_)
      · refine TW.region ?_
        refine TO.y (Y.move rfl) rfl rfl rfl ?_
        refine TO.y (Y.lss rfl rfl) rfl rfl rfl ?_
        refine TO.y (Y.move rfl) rfl rfl rfl ?_
        refine TO.ite (b := decide (S2.1 < (0 : Int))) (fun H9 => ?_) (fun H9 => ?_)
        · refine TO.off (Gd.at 2 false 20 (decide (S2.1 < (0 : Int))) rfl rfl rfl (beq_tf H9)) rfl rfl ?_
          refine TO.off (Gd.at 2 false 20 (decide (S2.1 < (0 : Int))) rfl rfl rfl (beq_tf H9)) rfl rfl ?_
          refine TO.off (Gd.at 2 false 20 (decide (S2.1 < (0 : Int))) rfl rfl rfl (beq_tf H9)) rfl rfl ?_
          refine TO.off (Gd.at 2 false 20 (decide (S2.1 < (0 : Int))) rfl rfl rfl (beq_tf H9)) rfl rfl ?_
          refine TO.y (Y.pick_t H9 rfl rfl) rfl rfl rfl ?_
          refine TO.nil ?_
          exact TE.jb_go () [0] ⟨rfl, rfl, rfl, rfl, rfl, rfl, trivial⟩ rfl
        · refine TO.y (Y.move rfl) (Gd.at 2 false 20 (decide (S2.1 < (0 : Int))) rfl rfl rfl (beq_ff H9)) rfl rfl ?_
          refine TO.y (Y.move rfl) (Gd.at 2 false 20 (decide (S2.1 < (0 : Int))) rfl rfl rfl (beq_ff H9)) rfl rfl ?_
          refine TO.y (Y.slen ks9 rfl) (Gd.at 2 false 20 (decide (S2.1 < (0 : Int))) rfl rfl rfl (beq_ff H9)) rfl rfl ?_
          refine TO.y (Y.gtr rfl rfl) (Gd.at 2 false 20 (decide (S2.1 < (0 : Int))) rfl rfl rfl (beq_ff H9)) rfl rfl ?_
          refine TO.y (Y.pick_f H9 rfl rfl) rfl rfl rfl ?_
          refine TO.nil ?_
          exact TE.jb_go () [0] ⟨rfl, rfl, rfl, rfl, rfl, rfl, trivial⟩ rfl
      · refine TE.next ?_
        refine TW.cond rfl (fun H10 => ?_) (fun H10 => ?_)
        · refine TW.seq ?_
          refine TW.region ?_
          refine TO.y (Y.move rfl) rfl rfl rfl ?_
          refine TO.y (Y.assign rfl) rfl rfl rfl ?_
          refine TO.y (Y.assign rfl) rfl rfl rfl ?_
          refine TO.nil ?_
          refine TE.next ?_
          refine TW.ret ?_
          refine TE.then_ret ?_
          refine TE.block_ret ?_
          refine TE.then_ret ?_
          refine TE.lp_ret ?_
          refine TE.block_ret ?_
          refine TE.jn_done ?_
          refine TE.then_ret ?_
          exact TE.leaf fun _ _ hf_ hs_ => ret_any (rs := [.tmp 6, .tmp 7]) (vs := [X3, .int .i64 (-1 : Int)]) (.inl rfl) rfl ⟨rfl, ⟨rfl, trivial⟩⟩ hf_ hs_ ⟨X3, rfl, hs_.pulls [0] rfl⟩
        · refine TW.skip ?_
          refine TE.next ?_
          refine TW.seq ?_
          refine TW.region ?_
          refine TO.y (Y.move rfl) rfl rfl rfl ?_
          refine TO.y (Y.move rfl) rfl rfl rfl ?_
          refine TO.bind fun E11 H12 => ?_
          refine TO.y (Y.ssub_from H12 ks9 rfl rfl) rfl rfl rfl ?_
          refine TO.bind fun R13 H14 => ?_
          refine TO.ef (Ef.call (rest := [.own X3 (lc S2.2.2)]) [0] (spec_ReadVar_con E11  R13 H14) kc78 rfl rfl trivial) rfl rfl rfl (fun _ => ?_)
          refine TO.y (Y.move rfl) rfl rfl rfl ?_
          refine TO.y (Y.extract rfl rfl) rfl rfl rfl ?_
          refine TO.y (Y.extract rfl rfl) rfl rfl rfl ?_
          refine TO.y (Y.assign rfl) rfl rfl rfl ?_
          refine TO.y (Y.assign rfl) rfl rfl rfl ?_
          refine TO.nil ?_
          refine TE.next ?_
          refine TW.seq ?_
          refine TW.seq ?_
          refine TW.region ?_
          refine TO.y (Y.move rfl) rfl rfl rfl ?_
          refine TO.y (Y.eql rfl rfl) rfl rfl rfl ?_
          refine TO.nil ?_
          refine TE.next ?_
          refine TW.cond rfl (fun H16 => ?_) (fun H16 => ?_)
          · refine TW.seq ?_
            refine TW.region ?_
            refine TO.y (Y.move rfl) rfl rfl rfl ?_
            refine TO.y (Y.assign rfl) rfl rfl rfl ?_
            refine TO.y (Y.assign rfl) rfl rfl rfl ?_
            refine TO.nil ?_
            refine TE.next ?_
            refine TW.ret ?_
            refine TE.then_ret ?_
            refine TE.block_ret ?_
            refine TE.then_ret ?_
            refine TE.lp_ret ?_
            refine TE.block_ret ?_
            refine TE.jn_done ?_
            refine TE.then_ret ?_
            exact TE.leaf fun _ _ hf_ hs_ => ret_any (rs := [.tmp 6, .tmp 7]) (vs := [X3, .int .i64 (-1 : Int)]) (.inl rfl) rfl ⟨rfl, ⟨rfl, trivial⟩⟩ hf_ hs_ ⟨X3, rfl, hs_.pulls [0] rfl⟩
          · refine TW.skip ?_
            refine TE.next ?_
            refine TW.seq ?_
            refine TW.region ?_
            refine TO.y (Y.move rfl) rfl rfl rfl ?_
            refine TO.y (Y.move rfl) rfl rfl rfl ?_
            refine TO.ef (Ef.buildSlice (α := Int) (Vs := [.int .i64 R13.1]) [R13.1] ke32 kz3 rfl rfl rfl rfl rfl) rfl rfl rfl (fun B17 => ?_)
            refine TO.bind fun E19 H20 => ?_
            refine TO.ef (Ef.append (α := Int) (is' := [.own (.slice (some ⟨B17, 0, none⟩) 1 1) (lc ([R13.1]))]) [1, 0] H20 ke32 kz3 rfl rfl rfl rfl rfl (Can.own 0 rfl)) rfl rfl rfl (fun V18 => ?_)
            refine TO.y (Y.assign rfl) rfl rfl rfl ?_
            refine TO.nil ?_
            refine TE.next ?_
            refine TW.region ?_
            refine TO.y (Y.move rfl) rfl rfl rfl ?_
            refine TO.y (Y.move rfl) rfl rfl rfl ?_
            refine TO.y (Y.add rfl rfl) rfl rfl rfl ?_
            refine TO.y (Y.assign rfl) rfl rfl rfl ?_
            refine TO.nil ?_
            refine TE.block_normal ?_
            refine TE.next ?_
            refine TW.region ?_
            refine TO.y (Y.move rfl) rfl rfl rfl ?_
            refine TO.y (Y.add rfl rfl) rfl rfl rfl ?_
            refine TO.y (Y.assign rfl) rfl rfl rfl ?_
            refine TO.nil ?_
            exact TE.lp_go V18 [0] ⟨rfl, rfl, rfl, rfl, rfl, trivial⟩ rfl
    · refine TW.exit ?_
      refine TE.then_exit ?_
      refine TE.lp_exit ?_
      refine TE.block_exit ?_
      exact TE.jn_go X3 [0] ⟨rfl, rfl, trivial⟩ rfl
  · refine TE.next ?_
    refine TW.seq ?_
    refine TW.region ?_
    refine TO.y (Y.move rfl) rfl rfl rfl ?_
    refine TO.y (Y.move rfl) rfl rfl rfl ?_
    refine TO.y (Y.assign rfl) rfl rfl rfl ?_
    refine TO.y (Y.assign rfl) rfl rfl rfl ?_
    refine TO.nil ?_
    refine TE.next ?_
    refine TW.ret ?_
    exact TE.leaf fun _ _ hf_ hs_ => ret_any (rs := [.tmp 6, .tmp 7]) (vs := [X5, .int .i64 T4.1]) (.inl rfl) rfl ⟨rfl, ⟨rfl, trivial⟩⟩ hf_ hs_ ⟨X5, rfl, hs_.pulls [0] rfl⟩

/-- loop.example/g00950/spec.l6Take -/
noncomputable def spec_l6Take (s : List UInt8) (at_ : Int) : Option (List UInt8 × Int) :=
  (spec_l6Vars s at_ (1 : Int)).bind fun R1 =>
  (if (decide (R1.2 < (0 : Int))) = true then (some true)
  else ((idx R1.1 (0 : Int)).bind fun E7 =>
  some (decide (E7 > IntKind.i64.wrap (((s.length : Nat) : Int) - R1.2))))).bind (fun (T4 : Bool) =>
  if T4 = true then (some ([], (-1 : Int)))
  else ((idx R1.1 (0 : Int)).bind fun E10 =>
  (ssub s R1.2 (IntKind.i64.wrap (R1.2 + E10))).bind fun E12 =>
  some (E12, IntKind.i64.wrap (R1.2 + E10))))

theorem spec_l6Take_con (s : List UInt8) (at_ : Int)  (r : List UInt8 × Int) (hm : spec_l6Take s at_ = some r) :
    Con Try.prog 54 [strV s, .int .i64 at_] [] [] (fun _ : Unit => .tuple #[strV r.1, .int .i64 r.2]) (fun _ => []) := by
  refine Con.intro (args := [strV s, .int .i64 at_]) (n := 39) (val := fun r (_ : Unit) => .tuple #[strV r.1, .int .i64 r.2]) (post := fun _ _ => []) (m := spec_l6Take s at_) Try.func54 rfl rfl rfl hm ?_
  intro w S _
  unfold spec_l6Take
  refine TW.seq ?_
  refine TW.region ?_
  refine TO.y (Y.assign rfl) rfl rfl rfl ?_
  refine TO.y (Y.assign rfl) rfl rfl rfl ?_
  refine TO.nil ?_
  refine TE.next ?_
  refine TW.seq ?_
  refine TW.region ?_
  refine TO.y (Y.move rfl) rfl rfl rfl ?_
  refine TO.y (Y.move rfl) rfl rfl rfl ?_
  refine TO.bind fun R1 H2 => ?_
  refine TO.ef (Ef.call (rest := []) [] (spec_l6Vars_con s at_ (1 : Int)  R1 H2) kc53 rfl rfl trivial) rfl rfl rfl (fun Y3 => ?_)
  refine TO.y (Y.move rfl) rfl rfl rfl ?_
  refine TO.y (Y.extract rfl rfl) rfl rfl rfl ?_
  refine TO.y (Y.extract rfl rfl) rfl rfl rfl ?_
  refine TO.y (Y.assign rfl) rfl rfl rfl ?_
  refine TO.y (Y.assign rfl) rfl rfl rfl ?_
  refine TO.nil ?_
  refine TE.next ?_
  refine TW.seq ?_
  refine TW.seq ?_
  refine TW.joinBX (τ := Bool) (X := Unit) (fun T _ => [(0, strV s), (6, Y3), (7, .int .i64 R1.2), (25, .bool T)]) (fun _ _ => [.own Y3 (lc R1.1)]) ?_ (fun T4 X5 => ?_)
  · refine TW.region ?_
    refine TO.y (Y.move rfl) rfl rfl rfl ?_
    refine TO.y (Y.lss rfl rfl) rfl rfl rfl ?_
    refine TO.y (Y.move rfl) rfl rfl rfl ?_
    refine TO.ite (b := decide (R1.2 < (0 : Int))) (fun H6 => ?_) (fun H6 => ?_)
    · refine TO.off (Gd.at 2 false 16 (decide (R1.2 < (0 : Int))) rfl rfl rfl (beq_tf H6)) rfl rfl ?_
      refine TO.off (Gd.at 2 false 16 (decide (R1.2 < (0 : Int))) rfl rfl rfl (beq_tf H6)) rfl rfl ?_
      refine TO.off (Gd.at 2 false 16 (decide (R1.2 < (0 : Int))) rfl rfl rfl (beq_tf H6)) rfl rfl ?_
      refine TO.off (Gd.at 2 false 16 (decide (R1.2 < (0 : Int))) rfl rfl rfl (beq_tf H6)) rfl rfl ?_
      refine TO.off (Gd.at 2 false 16 (decide (R1.2 < (0 : Int))) rfl rfl rfl (beq_tf H6)) rfl rfl ?_
      refine TO.off (Gd.at 2 false 16 (decide (R1.2 < (0 : Int))) rfl rfl rfl (beq_tf H6)) rfl rfl ?_
      refine TO.off (Gd.at 2 false 16 (decide (R1.2 < (0 : Int))) rfl rfl rfl (beq_tf H6)) rfl rfl ?_
      refine TO.off (Gd.at 2 false 16 (decide (R1.2 < (0 : Int))) rfl rfl rfl (beq_tf H6)) rfl rfl ?_
      refine TO.y (Y.pick_t H6 rfl rfl) rfl rfl rfl ?_
      refine TO.nil ?_
      exact TE.jb_go () [0] ⟨rfl, rfl, rfl, rfl, trivial⟩ rfl
    · refine TO.y (Y.move rfl) (Gd.at 2 false 16 (decide (R1.2 < (0 : Int))) rfl rfl rfl (beq_ff H6)) rfl rfl ?_
      refine TO.bind fun E7 H8 => ?_
      refine TO.y (Y.index ke32 (Can.own 0 rfl) H8 rfl rfl) (Gd.at 2 false 16 (decide (R1.2 < (0 : Int))) rfl rfl rfl (beq_ff H6)) rfl rfl ?_
      refine TO.y (Y.load_el (us := [.int .i64 E7]) (u := .int .i64 E7) kk3 rfl (Can.own 0 rfl) (idx_get H8).2.2 rfl rfl rfl rfl rfl) (Gd.at 2 false 16 (decide (R1.2 < (0 : Int))) rfl rfl rfl (beq_ff H6)) rfl rfl ?_
      refine TO.y (Y.move rfl) (Gd.at 2 false 16 (decide (R1.2 < (0 : Int))) rfl rfl rfl (beq_ff H6)) rfl rfl ?_
      refine TO.y (Y.slen ks9 rfl) (Gd.at 2 false 16 (decide (R1.2 < (0 : Int))) rfl rfl rfl (beq_ff H6)) rfl rfl ?_
      refine TO.y (Y.move rfl) (Gd.at 2 false 16 (decide (R1.2 < (0 : Int))) rfl rfl rfl (beq_ff H6)) rfl rfl ?_
      refine TO.y (Y.sub rfl rfl) (Gd.at 2 false 16 (decide (R1.2 < (0 : Int))) rfl rfl rfl (beq_ff H6)) rfl rfl ?_
      refine TO.y (Y.gtr rfl rfl) (Gd.at 2 false 16 (decide (R1.2 < (0 : Int))) rfl rfl rfl (beq_ff H6)) rfl rfl ?_
      refine TO.y (Y.pick_f H6 rfl rfl) rfl rfl rfl ?_
      refine TO.nil ?_
      exact TE.jb_go () [0] ⟨rfl, rfl, rfl, rfl, trivial⟩ rfl
  · refine TE.next ?_
    refine TW.cond rfl (fun H9 => ?_) (fun H9 => ?_)
    · refine TW.seq ?_
      refine TW.region ?_
      refine TO.y (Y.assign rfl) rfl rfl rfl ?_
      refine TO.y (Y.assign rfl) rfl rfl rfl ?_
      refine TO.nil ?_
      refine TE.next ?_
      refine TW.ret ?_
      refine TE.then_ret ?_
      exact TE.leaf fun _ _ hf_ hs_ => ret_any (rs := [.tmp 4, .tmp 5]) (vs := [strV ([]), .int .i64 (-1 : Int)]) (.inl rfl) rfl ⟨rfl, ⟨rfl, trivial⟩⟩ hf_ hs_ ⟨(), rfl, hs_.pulls [] rfl⟩
    · refine TW.skip ?_
      refine TE.next ?_
      refine TW.seq ?_
      refine TW.draw (isH := [.own Y3 (lc R1.1)]) hMix ?_
      refine TA.y (listed' := #[true, false, false, false, false, false, false, false, false, false, false, false, false, false, false]) 0 [0] rfl (Y.move rfl) rfl rfl rfl (by kernel_rfl) (by kernel_rfl) (by kernel_rfl) rfl rfl ?_
      refine TA.y (listed' := #[true, true, false, false, false, false, false, false, false, false, false, false, false, false, false]) 1 [0] rfl (Y.move rfl) rfl rfl rfl (by kernel_rfl) (by kernel_rfl) (by kernel_rfl) rfl rfl ?_
      refine TA.y (listed' := #[true, true, true, false, false, false, false, false, false, false, false, false, false, false, false]) 2 [0] rfl (Y.move rfl) rfl rfl rfl (by kernel_rfl) (by kernel_rfl) (by kernel_rfl) rfl rfl ?_
      refine TA.y (listed' := #[true, true, true, true, false, false, false, false, false, false, false, false, false, false, false]) 3 [0] rfl (Y.move rfl) rfl rfl rfl (by kernel_rfl) (by kernel_rfl) (by kernel_rfl) rfl rfl ?_
      refine TA.bind fun E10 H11 => ?_
      refine TA.y (listed' := #[true, true, true, true, true, false, false, false, false, false, false, false, false, false, false]) 4 [0] rfl (Y.index ke32 (Can.own 0 rfl) H11 rfl rfl) rfl rfl rfl (by kernel_rfl) (by kernel_rfl) (by kernel_rfl) rfl rfl ?_
      refine TA.y (listed' := #[true, true, true, true, true, true, false, false, false, false, false, false, false, false, false]) 5 [0] rfl (Y.load_el (us := [.int .i64 E10]) (u := .int .i64 E10) kk3 rfl (Can.own 0 rfl) (idx_get H11).2.2 rfl rfl rfl rfl rfl) rfl rfl rfl (by kernel_rfl) (by kernel_rfl) (by kernel_rfl) rfl rfl ?_
      refine TA.y (listed' := #[true, true, true, true, true, true, true, false, false, false, false, false, false, false, false]) 6 [0] rfl (Y.add rfl rfl) rfl rfl rfl (by kernel_rfl) (by kernel_rfl) (by kernel_rfl) rfl rfl ?_
      refine TA.bind fun E12 H13 => ?_
      refine TA.y (listed' := #[true, true, true, true, true, true, true, true, false, false, false, false, false, false, false]) 7 [0] rfl (Y.ssub_both H13 ks9 rfl rfl rfl) rfl rfl rfl (by kernel_rfl) (by kernel_rfl) (by kernel_rfl) rfl rfl ?_
      refine TA.y (listed' := #[true, true, true, true, true, true, true, true, true, false, false, false, false, false, false]) 8 [0] rfl (Y.move rfl) rfl rfl rfl (by kernel_rfl) (by kernel_rfl) (by kernel_rfl) rfl rfl ?_
      refine TA.y (listed' := #[true, true, true, true, true, true, true, true, true, true, false, false, false, false, false]) 9 [0] rfl (Y.move rfl) rfl rfl rfl (by kernel_rfl) (by kernel_rfl) (by kernel_rfl) rfl rfl ?_
      refine TA.y (listed' := #[true, true, true, true, true, true, true, true, true, true, true, false, false, false, false]) 10 [0] rfl (Y.index ke32 (Can.own 0 rfl) H11 rfl rfl) rfl rfl rfl (by kernel_rfl) (by kernel_rfl) (by kernel_rfl) rfl rfl ?_
      refine TA.y (listed' := #[true, true, true, true, true, true, true, true, true, true, true, true, false, false, false]) 11 [0] rfl (Y.load_el (us := [.int .i64 E10]) (u := .int .i64 E10) kk3 rfl (Can.own 0 rfl) (idx_get H11).2.2 rfl rfl rfl rfl rfl) rfl rfl rfl (by kernel_rfl) (by kernel_rfl) (by kernel_rfl) rfl rfl ?_
      refine TA.y (listed' := #[true, true, true, true, true, true, true, true, true, true, true, true, true, false, false]) 12 [0] rfl (Y.add rfl rfl) rfl rfl rfl (by kernel_rfl) (by kernel_rfl) (by kernel_rfl) rfl rfl ?_
      refine TA.y (listed' := #[true, true, true, true, true, true, true, true, true, true, true, true, true, true, false]) 13 [0] rfl (Y.assign rfl) rfl rfl rfl (by kernel_rfl) (by kernel_rfl) (by kernel_rfl) rfl rfl ?_
      refine TA.y (listed' := #[true, true, true, true, true, true, true, true, true, true, true, true, true, true, true]) 14 [0] rfl (Y.assign rfl) rfl rfl rfl (by kernel_rfl) (by kernel_rfl) (by kernel_rfl) rfl rfl ?_
      refine TA.nil (by kernel_rfl) ?_
      refine TE.next ?_
      refine TW.ret ?_
      exact TE.leaf fun _ _ hf_ hs_ => ret_any (rs := [.tmp 4, .tmp 5]) (vs := [strV E12, .int .i64 (IntKind.i64.wrap (R1.2 + E10))]) (.inl rfl) rfl ⟨rfl, ⟨rfl, trivial⟩⟩ hf_ hs_ ⟨(), rfl, hs_.pulls [] rfl⟩

/-- loop.example/g00950/spec.ReadEdit -/
noncomputable def spec_ReadEdit (s : List UInt8) : Option (Edit × Bool) :=
  (spec_l6Vars s (4 : Int) (1 : Int)).bind fun R3 =>
  (if (decide (R3.2 < (0 : Int))) = true then (some true)
  else ((idx R3.1 (0 : Int)).bind fun E9 =>
  some (decide (E9 > (12 : Int))))).bind (fun (T6 : Bool) =>
  if T6 = true then (some ({ Add := ([] : List File), Drop := ([] : List Int) : Edit }, false))
  else ((idx R3.1 (0 : Int)).bind fun E14 =>
  (spec_l6Vars s R3.2 E14).bind fun R16 =>
  (spec_l6Vars s R16.2 (1 : Int)).bind fun R19 =>
  (if (decide (R19.2 < (0 : Int))) = true then (some true)
  else ((idx R19.1 (0 : Int)).bind fun E25 =>
  some (decide (E25 > (12 : Int))))).bind (fun (T22 : Bool) =>
  if T22 = true then (some ({ Add := ([] : List File), Drop := ([] : List Int) : Edit }, false))
  else (bindC (loopO (fun (S30 : Int × Int × List File) => (idx R19.1 (0 : Int)).bind fun E34 =>
  if (decide (S30.2.1 < E34)) = true then ((spec_l6Vars s S30.1 (2 : Int)).bind fun R37 =>
  (spec_l6Take s R37.2).bind fun R40 =>
  (spec_l6Take s R40.2).bind fun R43 =>
  if (decide (R43.2 < (0 : Int))) = true then (some (.done (.done ({ Add := ([] : List File), Drop := ([] : List Int) : Edit }, false))))
  else ((idx R37.1 (0 : Int)).bind fun E49 =>
  (idx R37.1 (1 : Int)).bind fun E51 =>
  (app 48 S30.2.2 ([{ No := E49, Level := E51, Lo := R40.1, Hi := R43.1 : File }])).bind fun E56 =>
  some (.go (R43.2, IntKind.i64.wrap (S30.2.1 + (1 : Int)), E56))))
  else (some (.done (.go S30.2.2))))
  (R19.2, (0 : Int), ([] : List File)))
  (fun (T32 : List File) => (spec_ShowEdit ({ Add := T32, Drop := R16.1 : Edit })).bind fun R61 =>
  if (!(decide (R61 = s))) = true then (some ({ Add := ([] : List File), Drop := ([] : List Int) : Edit }, false))
  else (some ({ Add := T32, Drop := R16.1 : Edit }, true)))))))

theorem spec_ReadEdit_con (s : List UInt8)  (r : Edit × Bool) (hm : spec_ReadEdit s = some r) :
    Con Try.prog 17 [strV s] [] [] (fun X : Value × Value => .tuple #[.agg #[X.1, X.2], .bool r.2]) (fun X => [.own X.1 (lc r.1.Add), .own X.2 (lc r.1.Drop)]) := by
  refine Con.intro (args := [strV s]) (n := 104) (val := fun r (X : Value × Value) => .tuple #[.agg #[X.1, X.2], .bool r.2]) (post := fun r X => [.own X.1 (lc r.1.Add), .own X.2 (lc r.1.Drop)]) (m := spec_ReadEdit s) Try.func17 rfl rfl rfl hm ?_
  intro w S _
  unfold spec_ReadEdit
  refine TW.seq ?_
  refine TW.region ?_
  refine TO.ef (Ef.alloc kz34 rfl) rfl rfl rfl (fun B1 => ?_)
  refine TO.y (Y.assign rfl) rfl rfl rfl ?_
  refine TO.nil ?_
  refine TE.next ?_
  refine TW.seq ?_
  refine TW.region ?_
  refine TO.y (Y.build (cells := [.slice none 0 0, .slice none 0 0]) [] kp34 kz34 trivial rfl) rfl rfl rfl ?_
  refine TO.ef (Ef.alloc kz34 rfl) rfl rfl rfl (fun B2 => ?_)
  refine TO.ef0 (Ef.store_box (us := [.slice none 0 0, .slice none 0 0]) (vs' := [.slice none 0 0, .slice none 0 0]) (is' := [.box B2 34 [.slice none 0 0, .slice none 0 0], .box B1 34 [.slice none 0 0, .slice none 0 0]]) 0 kk34 rfl rfl rfl (Cel.plain rfl rfl) rfl rfl rfl rfl) rfl rfl (fun _ => ?_)
  refine TO.nil ?_
  refine TE.next ?_
  refine TW.seq ?_
  refine TW.region ?_
  refine TO.y (Y.move rfl) rfl rfl rfl ?_
  refine TO.bind fun R3 H4 => ?_
  refine TO.ef (Ef.call (rest := [.box B2 34 [.slice none 0 0, .slice none 0 0], .box B1 34 [.slice none 0 0, .slice none 0 0]]) [0, 0] (spec_l6Vars_con s (4 : Int) (1 : Int)  R3 H4) kc53 rfl rfl trivial) rfl rfl rfl (fun Y5 => ?_)
  refine TO.y (Y.move rfl) rfl rfl rfl ?_
  refine TO.y (Y.extract rfl rfl) rfl rfl rfl ?_
  refine TO.y (Y.extract rfl rfl) rfl rfl rfl ?_
  refine TO.y (Y.assign rfl) rfl rfl rfl ?_
  refine TO.y (Y.assign rfl) rfl rfl rfl ?_
  refine TO.nil ?_
  refine TE.next ?_
  refine TW.seq ?_
  refine TW.seq ?_
  refine TW.joinBX (τ := Bool) (X := Unit) (fun T _ => [(0, strV s), (2, .pointer (some ⟨B1, 0, none⟩)), (4, .pointer (some ⟨B2, 0, none⟩)), (5, Y5), (6, .int .i64 R3.2), (27, .bool T)]) (fun _ _ => [.box B1 34 [.slice none 0 0, .slice none 0 0], .box B2 34 [.slice none 0 0, .slice none 0 0], .own Y5 (lc R3.1)]) ?_ (fun T6 X7 => ?_)
  · refine TW.region ?_
    refine TO.y (Y.move rfl) rfl rfl rfl ?_
    refine TO.y (Y.lss rfl rfl) rfl rfl rfl ?_
    refine TO.y (Y.move rfl) rfl rfl rfl ?_
    refine TO.ite (b := decide (R3.2 < (0 : Int))) (fun H8 => ?_) (fun H8 => ?_)
    · refine TO.off (Gd.at 2 false 22 (decide (R3.2 < (0 : Int))) rfl rfl rfl (beq_tf H8)) rfl rfl ?_
      refine TO.off (Gd.at 2 false 22 (decide (R3.2 < (0 : Int))) rfl rfl rfl (beq_tf H8)) rfl rfl ?_
      refine TO.off (Gd.at 2 false 22 (decide (R3.2 < (0 : Int))) rfl rfl rfl (beq_tf H8)) rfl rfl ?_
      refine TO.off (Gd.at 2 false 22 (decide (R3.2 < (0 : Int))) rfl rfl rfl (beq_tf H8)) rfl rfl ?_
      refine TO.y (Y.pick_t H8 rfl rfl) rfl rfl rfl ?_
      refine TO.nil ?_
      exact TE.jb_go () [2, 1, 0] ⟨rfl, rfl, rfl, rfl, rfl, rfl, trivial⟩ rfl
    · refine TO.y (Y.move rfl) (Gd.at 2 false 22 (decide (R3.2 < (0 : Int))) rfl rfl rfl (beq_ff H8)) rfl rfl ?_
      refine TO.bind fun E9 H10 => ?_
      refine TO.y (Y.index ke32 (Can.own 0 rfl) H10 rfl rfl) (Gd.at 2 false 22 (decide (R3.2 < (0 : Int))) rfl rfl rfl (beq_ff H8)) rfl rfl ?_
      refine TO.y (Y.load_el (us := [.int .i64 E9]) (u := .int .i64 E9) kk3 rfl (Can.own 0 rfl) (idx_get H10).2.2 rfl rfl rfl rfl rfl) (Gd.at 2 false 22 (decide (R3.2 < (0 : Int))) rfl rfl rfl (beq_ff H8)) rfl rfl ?_
      refine TO.y (Y.gtr rfl rfl) (Gd.at 2 false 22 (decide (R3.2 < (0 : Int))) rfl rfl rfl (beq_ff H8)) rfl rfl ?_
      refine TO.y (Y.pick_f H8 rfl rfl) rfl rfl rfl ?_
      refine TO.nil ?_
      exact TE.jb_go () [2, 1, 0] ⟨rfl, rfl, rfl, rfl, rfl, rfl, trivial⟩ rfl
  · refine TE.next ?_
    refine TW.cond rfl (fun H11 => ?_) (fun H11 => ?_)
    · refine TW.seq ?_
      refine TW.region ?_
      refine TO.y (Y.load_box (v := .agg #[.slice none 0 0, .slice none 0 0]) 1 kk34 rfl rfl rfl) rfl rfl rfl ?_
      refine TO.ef0 (Ef.store_box (us := [.slice none 0 0, .slice none 0 0]) (vs' := [.slice none 0 0, .slice none 0 0]) (is' := [.box B1 34 [.slice none 0 0, .slice none 0 0], .box B2 34 [.slice none 0 0, .slice none 0 0], .own Y5 (lc R3.1)]) 0 kk34 rfl rfl rfl (Cel.plain rfl rfl) rfl rfl rfl rfl) rfl rfl (fun _ => ?_)
      refine TO.y (Y.assign rfl) rfl rfl rfl ?_
      refine TO.nil ?_
      refine TE.next ?_
      refine TW.ret ?_
      refine TE.then_ret ?_
      exact TE.leaf fun _ _ hf_ hs_ => ret_any (rs := [.cell 2 34, .tmp 3]) (vs := [.agg #[.slice none 0 0, .slice none 0 0], .bool false]) (.inl rfl) rfl (RV.cell 0 rfl rfl kk34 rfl ⟨rfl, trivial⟩) hf_ hs_ ⟨((.slice none 0 0), (.slice none 0 0)), rfl, ((hs_.nilItem 4).nilItem 1).pulls [1, 0] rfl⟩
    · refine TW.skip ?_
      refine TE.next ?_
      refine TW.seq ?_
      refine TW.region ?_
      refine TO.y (Y.move rfl) rfl rfl rfl ?_
      refine TO.y (Y.move rfl) rfl rfl rfl ?_
      refine TO.y (Y.move rfl) rfl rfl rfl ?_
      refine TO.bind fun E14 H15 => ?_
      refine TO.y (Y.index ke32 (Can.own 2 rfl) H15 rfl rfl) rfl rfl rfl ?_
      refine TO.y (Y.load_el (us := [.int .i64 E14]) (u := .int .i64 E14) kk3 rfl (Can.own 2 rfl) (idx_get H15).2.2 rfl rfl rfl rfl rfl) rfl rfl rfl ?_
      refine TO.bind fun R16 H17 => ?_
      refine TO.ef (Ef.call (rest := [.box B1 34 [.slice none 0 0, .slice none 0 0], .box B2 34 [.slice none 0 0, .slice none 0 0], .own Y5 (lc R3.1)]) [0, 0, 0] (spec_l6Vars_con s R3.2 E14  R16 H17) kc53 rfl rfl trivial) rfl rfl rfl (fun Y18 => ?_)
      refine TO.y (Y.move rfl) rfl rfl rfl ?_
      refine TO.y (Y.extract rfl rfl) rfl rfl rfl ?_
      refine TO.y (Y.extract rfl rfl) rfl rfl rfl ?_
      refine TO.y (Y.assign rfl) rfl rfl rfl ?_
      refine TO.y (Y.assign rfl) rfl rfl rfl ?_
      refine TO.nil ?_
      refine TE.next ?_
      refine TW.seq ?_
      refine TW.region ?_
      refine TO.y (Y.move rfl) rfl rfl rfl ?_
      refine TO.y (Y.move rfl) rfl rfl rfl ?_
      refine TO.bind fun R19 H20 => ?_
      refine TO.ef (Ef.call (rest := [.own Y18 (lc R16.1), .box B1 34 [.slice none 0 0, .slice none 0 0], .box B2 34 [.slice none 0 0, .slice none 0 0], .own Y5 (lc R3.1)]) [0, 0, 0, 0] (spec_l6Vars_con s R16.2 (1 : Int)  R19 H20) kc53 rfl rfl trivial) rfl rfl rfl (fun Y21 => ?_)
      refine TO.y (Y.move rfl) rfl rfl rfl ?_
      refine TO.y (Y.extract rfl rfl) rfl rfl rfl ?_
      refine TO.y (Y.extract rfl rfl) rfl rfl rfl ?_
      refine TO.y (Y.assign rfl) rfl rfl rfl ?_
      refine TO.y (Y.assign rfl) rfl rfl rfl ?_
      refine TO.nil ?_
      refine TE.next ?_
      refine TW.seq ?_
      refine TW.seq ?_
      refine TW.joinBX (τ := Bool) (X := Unit) (fun T _ => [(0, strV s), (2, .pointer (some ⟨B1, 0, none⟩)), (4, .pointer (some ⟨B2, 0, none⟩)), (6, .int .i64 R19.2), (7, Y18), (8, Y21), (51, .bool T)]) (fun _ _ => [.box B1 34 [.slice none 0 0, .slice none 0 0], .box B2 34 [.slice none 0 0, .slice none 0 0], .own Y18 (lc R16.1), .own Y21 (lc R19.1)]) ?_ (fun T22 X23 => ?_)
      · refine TW.region ?_
        refine TO.y (Y.move rfl) rfl rfl rfl ?_
        refine TO.y (Y.lss rfl rfl) rfl rfl rfl ?_
        refine TO.y (Y.move rfl) rfl rfl rfl ?_
        refine TO.ite (b := decide (R19.2 < (0 : Int))) (fun H24 => ?_) (fun H24 => ?_)
        · refine TO.off (Gd.at 2 false 46 (decide (R19.2 < (0 : Int))) rfl rfl rfl (beq_tf H24)) rfl rfl ?_
          refine TO.off (Gd.at 2 false 46 (decide (R19.2 < (0 : Int))) rfl rfl rfl (beq_tf H24)) rfl rfl ?_
          refine TO.off (Gd.at 2 false 46 (decide (R19.2 < (0 : Int))) rfl rfl rfl (beq_tf H24)) rfl rfl ?_
          refine TO.off (Gd.at 2 false 46 (decide (R19.2 < (0 : Int))) rfl rfl rfl (beq_tf H24)) rfl rfl ?_
          refine TO.y (Y.pick_t H24 rfl rfl) rfl rfl rfl ?_
          refine TO.nil ?_
          exact TE.jb_go () [2, 2, 1, 0] ⟨rfl, rfl, rfl, rfl, rfl, rfl, rfl, trivial⟩ rfl
        · refine TO.y (Y.move rfl) (Gd.at 2 false 46 (decide (R19.2 < (0 : Int))) rfl rfl rfl (beq_ff H24)) rfl rfl ?_
          refine TO.bind fun E25 H26 => ?_
          refine TO.y (Y.index ke32 (Can.own 0 rfl) H26 rfl rfl) (Gd.at 2 false 46 (decide (R19.2 < (0 : Int))) rfl rfl rfl (beq_ff H24)) rfl rfl ?_
          refine TO.y (Y.load_el (us := [.int .i64 E25]) (u := .int .i64 E25) kk3 rfl (Can.own 0 rfl) (idx_get H26).2.2 rfl rfl rfl rfl rfl) (Gd.at 2 false 46 (decide (R19.2 < (0 : Int))) rfl rfl rfl (beq_ff H24)) rfl rfl ?_
          refine TO.y (Y.gtr rfl rfl) (Gd.at 2 false 46 (decide (R19.2 < (0 : Int))) rfl rfl rfl (beq_ff H24)) rfl rfl ?_
          refine TO.y (Y.pick_f H24 rfl rfl) rfl rfl rfl ?_
          refine TO.nil ?_
          exact TE.jb_go () [2, 2, 1, 0] ⟨rfl, rfl, rfl, rfl, rfl, rfl, rfl, trivial⟩ rfl
      · refine TE.next ?_
        refine TW.cond rfl (fun H27 => ?_) (fun H27 => ?_)
        · refine TW.seq ?_
          refine TW.region ?_
          refine TO.y (Y.load_box (v := .agg #[.slice none 0 0, .slice none 0 0]) 1 kk34 rfl rfl rfl) rfl rfl rfl ?_
          refine TO.ef0 (Ef.store_box (us := [.slice none 0 0, .slice none 0 0]) (vs' := [.slice none 0 0, .slice none 0 0]) (is' := [.box B1 34 [.slice none 0 0, .slice none 0 0], .box B2 34 [.slice none 0 0, .slice none 0 0], .own Y18 (lc R16.1), .own Y21 (lc R19.1)]) 0 kk34 rfl rfl rfl (Cel.plain rfl rfl) rfl rfl rfl rfl) rfl rfl (fun _ => ?_)
          refine TO.y (Y.assign rfl) rfl rfl rfl ?_
          refine TO.nil ?_
          refine TE.next ?_
          refine TW.ret ?_
          refine TE.then_ret ?_
          exact TE.leaf fun _ _ hf_ hs_ => ret_any (rs := [.cell 2 34, .tmp 3]) (vs := [.agg #[.slice none 0 0, .slice none 0 0], .bool false]) (.inl rfl) rfl (RV.cell 0 rfl rfl kk34 rfl ⟨rfl, trivial⟩) hf_ hs_ ⟨((.slice none 0 0), (.slice none 0 0)), rfl, ((hs_.nilItem 4).nilItem 1).pulls [1, 0] rfl⟩
        · refine TW.skip ?_
          refine TE.next ?_
          refine TW.seq ?_
          refine TW.region ?_
          refine TO.y (Y.move rfl) rfl rfl rfl ?_
          refine TO.y (Y.field_box kf34_1 rfl rfl) rfl rfl rfl ?_
          refine TO.ef0 (Ef.store_box (us := [Y18]) (vs' := [.slice none 0 0, Y18]) (is' := [.box B1 34 [.slice none 0 0, .slice none 0 0], .box B2 34 [.slice none 0 0, Y18], .own Y18 (lc R16.1), .own Y21 (lc R19.1)]) 1 kk32 rfl rfl rfl (Cel.one (One.can (Can.own 2 rfl))) rfl rfl rfl rfl) rfl rfl (fun _ => ?_)
          refine TO.nil ?_
          refine TE.next ?_
          refine TW.seq ?_
          refine TW.seq ?_
          refine TW.region ?_
          refine TO.y (Y.assign rfl) rfl rfl rfl ?_
          refine TO.nil ?_
          refine TE.next ?_
          refine TW.joinX (τ := List File) (X := Value) (fun _ _ => [(0, strV s), (2, .pointer (some ⟨B1, 0, none⟩)), (4, .pointer (some ⟨B2, 0, none⟩))]) (fun T X => [.box B1 34 [.slice none 0 0, .slice none 0 0], .box B2 34 [X, Y18], .own X (lc T), .own Y18 (lc R16.1)]) ?_ (fun T32 X33 => ?_)
          · refine TW.block ?_
            refine TW.nilItem 4 ?_
            refine TW.loopX (σ := Int × Int × List File) (X := Value) (fun T _ => [(0, strV s), (2, .pointer (some ⟨B1, 0, none⟩)), (4, .pointer (some ⟨B2, 0, none⟩)), (6, .int .i64 T.1), (8, Y21), (9, .int .i64 T.2.1)]) (fun T X => [.box B1 34 [.slice none 0 0, .slice none 0 0], .box B2 34 [X, Y18], .own X (lc T.2.2), .own Y18 (lc R16.1), .own Y21 (lc R19.1)]) (.slice none 0 0) [1, 1, 0, 0, 0] ⟨rfl, rfl, rfl, rfl, rfl, rfl, trivial⟩ rfl (fun S30 X31 => ?_)
            refine TW.seq ?_
            refine TW.seq ?_
            refine TW.region ?_
            refine TO.y (Y.move rfl) rfl rfl rfl ?_
            refine TO.y (Y.move rfl) rfl rfl rfl ?_
            refine TO.bind fun E34 H35 => ?_
            refine TO.y (Y.index ke32 (Can.own 4 rfl) H35 rfl rfl) rfl rfl rfl ?_
            refine TO.y (Y.load_el (us := [.int .i64 E34]) (u := .int .i64 E34) kk3 rfl (Can.own 4 rfl) (idx_get H35).2.2 rfl rfl rfl rfl rfl) rfl rfl rfl ?_
            refine TO.y (Y.lss rfl rfl) rfl rfl rfl ?_
            refine TO.nil ?_
            refine TE.next ?_
            refine TW.cond rfl (fun H36 => ?_) (fun H36 => ?_)
            · refine TW.skip ?_
              refine TE.next ?_
              refine TW.seq ?_
              refine TW.block ?_
              refine TW.seq ?_
              refine TW.region ?_
              refine TO.y (Y.move rfl) rfl rfl rfl ?_
              refine TO.y (Y.move rfl) rfl rfl rfl ?_
              refine TO.bind fun R37 H38 => ?_
              refine TO.ef (Ef.call (rest := [.box B1 34 [.slice none 0 0, .slice none 0 0], .box B2 34 [X31, Y18], .own X31 (lc S30.2.2), .own Y18 (lc R16.1), .own Y21 (lc R19.1)]) [0, 0, 0, 0, 0] (spec_l6Vars_con s S30.1 (2 : Int)  R37 H38) kc53 rfl rfl trivial) rfl rfl rfl (fun Y39 => ?_)
              refine TO.y (Y.move rfl) rfl rfl rfl ?_
              refine TO.y (Y.extract rfl rfl) rfl rfl rfl ?_
              refine TO.y (Y.extract rfl rfl) rfl rfl rfl ?_
              refine TO.y (Y.assign rfl) rfl rfl rfl ?_
              refine TO.y (Y.assign rfl) rfl rfl rfl ?_
              refine TO.nil ?_
              refine TE.next ?_
              refine TW.seq ?_
              refine TW.region ?_
              refine TO.y (Y.move rfl) rfl rfl rfl ?_
              refine TO.y (Y.move rfl) rfl rfl rfl ?_
              refine TO.bind fun R40 H41 => ?_
              refine TO.ef (Ef.call (rest := [.own Y39 (lc R37.1), .box B1 34 [.slice none 0 0, .slice none 0 0], .box B2 34 [X31, Y18], .own X31 (lc S30.2.2), .own Y18 (lc R16.1), .own Y21 (lc R19.1)]) [0, 0, 0, 0, 0, 0] (spec_l6Take_con s R37.2  R40 H41) kc54 rfl rfl trivial) rfl rfl rfl (fun _ => ?_)
              refine TO.y (Y.move rfl) rfl rfl rfl ?_
              refine TO.y (Y.extract rfl rfl) rfl rfl rfl ?_
              refine TO.y (Y.extract rfl rfl) rfl rfl rfl ?_
              refine TO.y (Y.assign rfl) rfl rfl rfl ?_
              refine TO.y (Y.assign rfl) rfl rfl rfl ?_
              refine TO.nil ?_
              refine TE.next ?_
              refine TW.seq ?_
              refine TW.region ?_
              refine TO.y (Y.move rfl) rfl rfl rfl ?_
              refine TO.y (Y.move rfl) rfl rfl rfl ?_
              refine TO.bind fun R43 H44 => ?_
              refine TO.ef (Ef.call (rest := [.own Y39 (lc R37.1), .box B1 34 [.slice none 0 0, .slice none 0 0], .box B2 34 [X31, Y18], .own X31 (lc S30.2.2), .own Y18 (lc R16.1), .own Y21 (lc R19.1)]) [0, 0, 0, 0, 0, 0] (spec_l6Take_con s R40.2  R43 H44) kc54 rfl rfl trivial) rfl rfl rfl (fun _ => ?_)
              refine TO.y (Y.move rfl) rfl rfl rfl ?_
              refine TO.y (Y.extract rfl rfl) rfl rfl rfl ?_
              refine TO.y (Y.extract rfl rfl) rfl rfl rfl ?_
              refine TO.y (Y.assign rfl) rfl rfl rfl ?_
              refine TO.y (Y.assign rfl) rfl rfl rfl ?_
              refine TO.nil ?_
              refine TE.next ?_
              refine TW.seq ?_
              refine TW.seq ?_
              refine TW.region ?_
              refine TO.y (Y.move rfl) rfl rfl rfl ?_
              refine TO.y (Y.lss rfl rfl) rfl rfl rfl ?_
              refine TO.nil ?_
              refine TE.next ?_
              refine TW.cond rfl (fun H46 => ?_) (fun H46 => ?_)
              · refine TW.seq ?_
                refine TW.region ?_
                refine TO.y (Y.build (cells := [.slice none 0 0, .slice none 0 0]) [] kp34 kz34 trivial rfl) rfl rfl rfl ?_
                refine TO.ef0 (Ef.store_box (us := [.slice none 0 0, .slice none 0 0]) (vs' := [.slice none 0 0, .slice none 0 0]) (is' := [.own Y39 (lc R37.1), .box B1 34 [.slice none 0 0, .slice none 0 0], .box B2 34 [X31, Y18], .own X31 (lc S30.2.2), .own Y18 (lc R16.1), .own Y21 (lc R19.1)]) 1 kk34 rfl rfl rfl (Cel.plain rfl rfl) rfl rfl rfl rfl) rfl rfl (fun _ => ?_)
                refine TO.y (Y.assign rfl) rfl rfl rfl ?_
                refine TO.nil ?_
                refine TE.next ?_
                refine TW.ret ?_
                refine TE.then_ret ?_
                refine TE.block_ret ?_
                refine TE.then_ret ?_
                refine TE.lp_ret ?_
                refine TE.block_ret ?_
                refine TE.jn_done ?_
                refine TE.then_ret ?_
                exact TE.leaf fun _ _ hf_ hs_ => ret_any (rs := [.cell 2 34, .tmp 3]) (vs := [.agg #[.slice none 0 0, .slice none 0 0], .bool false]) (.inl rfl) rfl (RV.cell 1 rfl rfl kk34 rfl ⟨rfl, trivial⟩) hf_ hs_ ⟨((.slice none 0 0), (.slice none 0 0)), rfl, ((hs_.nilItem 4).nilItem 1).pulls [1, 0] rfl⟩
              · refine TW.skip ?_
                refine TE.next ?_
                refine TW.seq ?_
                refine TW.bind fun E49 H50 => ?_
                refine TW.bind fun E51 H52 => ?_
                refine TW.bind fun E56 H57 => ?_
                refine TW.joinU (X := Value) (fun _ _ => [(0, strV s), (2, .pointer (some ⟨B1, 0, none⟩)), (4, .pointer (some ⟨B2, 0, none⟩)), (8, Y21), (9, .int .i64 S30.2.1), (11, .int .i64 R43.2)]) (fun _ X => [.box B1 34 [.slice none 0 0, .slice none 0 0], .box B2 34 [X, Y18], .own X (lc E56), .own Y18 (lc R16.1), .own Y21 (lc R19.1)]) ?_ (fun _ X59 => ?_)
                · refine TW.draw (isH := [.own Y39 (lc R37.1), .box B1 34 [.slice none 0 0, .slice none 0 0], .own Y18 (lc R16.1), .own Y21 (lc R19.1)]) hMix ?_
                  refine TA.y (listed' := #[true, false, false, false, false, false, false, false, false, false, false, false, false, false, false]) 0 [0, 0, 2, 2] rfl (Y.field_box kf34_0 rfl rfl) rfl rfl rfl (by kernel_rfl) (by kernel_rfl) (by kernel_rfl) rfl rfl ?_
                  refine TA.y (listed' := #[true, false, true, false, false, false, false, false, false, false, false, false, false, false, false]) 2 [0, 0, 2, 2] rfl (Y.move rfl) rfl rfl rfl (by kernel_rfl) (by kernel_rfl) (by kernel_rfl) rfl rfl ?_
                  refine TA.y (listed' := #[true, false, true, true, false, false, false, false, false, false, false, false, false, false, false]) 3 [0, 0, 2, 2] rfl (Y.index ke32 (Can.own 0 rfl) H50 rfl rfl) rfl rfl rfl (by kernel_rfl) (by kernel_rfl) (by kernel_rfl) rfl rfl ?_
                  refine TA.y (listed' := #[true, false, true, true, true, false, false, false, false, false, false, false, false, false, false]) 4 [0, 0, 2, 2] rfl (Y.load_el (us := [.int .i64 E49]) (u := .int .i64 E49) kk3 rfl (Can.own 0 rfl) (idx_get H50).2.2 rfl rfl rfl rfl rfl) rfl rfl rfl (by kernel_rfl) (by kernel_rfl) (by kernel_rfl) rfl rfl ?_
                  refine TA.y (listed' := #[true, false, true, true, true, true, false, false, false, false, false, false, false, false, false]) 5 [0, 0, 2, 2] rfl (Y.move rfl) rfl rfl rfl (by kernel_rfl) (by kernel_rfl) (by kernel_rfl) rfl rfl ?_
                  refine TA.y (listed' := #[true, false, true, true, true, true, true, false, false, false, false, false, false, false, false]) 6 [0, 0, 2, 2] rfl (Y.index ke32 (Can.own 0 rfl) H52 rfl rfl) rfl rfl rfl (by kernel_rfl) (by kernel_rfl) (by kernel_rfl) rfl rfl ?_
                  refine TA.y (listed' := #[true, false, true, true, true, true, true, true, false, false, false, false, false, false, false]) 7 [0, 0, 2, 2] rfl (Y.load_el (us := [.int .i64 E51]) (u := .int .i64 E51) kk3 rfl (Can.own 0 rfl) (idx_get H52).2.2 rfl rfl rfl rfl rfl) rfl rfl rfl (by kernel_rfl) (by kernel_rfl) (by kernel_rfl) rfl rfl ?_
                  refine TA.y (listed' := #[true, false, true, true, true, true, true, true, true, false, false, false, false, false, false]) 8 [0, 0, 2, 2] rfl (Y.move rfl) rfl rfl rfl (by kernel_rfl) (by kernel_rfl) (by kernel_rfl) rfl rfl ?_
                  refine TA.y (listed' := #[true, false, true, true, true, true, true, true, true, true, false, false, false, false, false]) 9 [0, 0, 2, 2] rfl (Y.move rfl) rfl rfl rfl (by kernel_rfl) (by kernel_rfl) (by kernel_rfl) rfl rfl ?_
                  refine TA.y (listed' := #[true, false, true, true, true, true, true, true, true, true, true, false, false, false, false]) 10 [0, 0, 2, 2] rfl (Y.build (cells := [.int .i64 E49, .int .i64 E51, strV R40.1, strV R43.1]) [(0, [.int .i64 E49]), (1, [.int .i64 E51]), (2, [strV R40.1]), (3, [strV R43.1])] kp43 kz43 ⟨rfl, ⟨_, rfl, (Cel.plain rfl rfl)⟩, ⟨rfl, ⟨_, rfl, (Cel.plain rfl rfl)⟩, ⟨rfl, ⟨_, rfl, (Cel.plain rfl rfl)⟩, ⟨rfl, ⟨_, rfl, (Cel.plain rfl rfl)⟩, trivial⟩⟩⟩⟩ rfl) rfl rfl rfl (by kernel_rfl) (by kernel_rfl) (by kernel_rfl) rfl rfl ?_
                  refine TA.two 1 11 (by kernel_rfl) ?_ ?_
                  · refine TX.y (listed' := #[true, true, true, true, true, true, true, true, true, true, true, false, false, false, false]) [0, 0, 2, 2] rfl (Y.load_box (v := X31) 2 kk26 rfl rfl rfl) rfl rfl rfl rfl rfl ?_
                    refine TA.one 11 (by kernel_rfl) ?_
                    refine TX.ef (listed' := #[true, true, true, true, true, true, true, true, true, true, true, true, false, false, false]) [1, 1, 3, 3] rfl (Ef.buildSlice (α := File) (Vs := [.agg #[.int .i64 E49, .int .i64 E51, strV R40.1, strV R43.1]]) [{ No := E49, Level := E51, Lo := R40.1, Hi := R43.1 : File }] ke26 kz43 rfl rfl rfl rfl rfl) rfl rfl rfl rfl (fun _ => rfl) (fun B61 => ?_)
                    refine TA.one 12 (by kernel_rfl) ?_
                    refine TX.ef (listed' := #[true, true, true, true, true, true, true, true, true, true, true, true, true, false, false]) [2, 2, 3, 3] rfl (Ef.append (α := File) (is' := [.own (.slice (some ⟨B61, 0, none⟩) 1 1) (lc ([{ No := E49, Level := E51, Lo := R40.1, Hi := R43.1 : File }])), .own Y39 (lc R37.1), .box B1 34 [.slice none 0 0, .slice none 0 0], .box B2 34 [X31, Y18], .own Y18 (lc R16.1), .own Y21 (lc R19.1)]) [4, 0, 0, 0, 0, 0, 0] H57 ke26 kz43 rfl rfl rfl rfl rfl (Can.own 0 rfl)) rfl rfl rfl rfl (fun _ => rfl) (fun V62 => ?_)
                    refine TA.y (listed' := #[true, true, true, true, true, true, true, true, true, true, true, true, true, true, false]) 13 [2, 2, 3, 3] rfl (Y.field_box kf34_0 rfl rfl) rfl rfl rfl (by kernel_rfl) (by kernel_rfl) (by kernel_rfl) rfl rfl ?_
                    refine TA.one 14 (by kernel_rfl) ?_
                    refine TX.ef0 (listed' := #[true, true, true, true, true, true, true, true, true, true, true, true, true, true, true]) [2, 2, 3, 3] rfl (Ef.store_box (us := [V62]) (vs' := [V62, Y18]) (is' := [.own V62 (lc E56), .own (.slice (some ⟨B61, 0, none⟩) 1 1) (lc ([{ No := E49, Level := E51, Lo := R40.1, Hi := R43.1 : File }])), .own Y39 (lc R37.1), .box B1 34 [.slice none 0 0, .slice none 0 0], .box B2 34 [V62, Y18], .own Y18 (lc R16.1), .own Y21 (lc R19.1)]) 4 kk26 rfl rfl rfl (Cel.one (One.can (Can.own 0 rfl))) rfl rfl rfl rfl) rfl rfl rfl (fun _ => rfl) (fun _ => ?_)
                    refine TA.nil (by kernel_rfl) ?_
                    exact TE.jb_go V62 [3, 3, 0, 2, 2] ⟨rfl, rfl, rfl, rfl, rfl, rfl, trivial⟩ rfl
                  · refine TX.ef (listed' := #[true, false, true, true, true, true, true, true, true, true, true, true, false, false, false]) [1, 1, 3, 3] rfl (Ef.buildSlice (α := File) (Vs := [.agg #[.int .i64 E49, .int .i64 E51, strV R40.1, strV R43.1]]) [{ No := E49, Level := E51, Lo := R40.1, Hi := R43.1 : File }] ke26 kz43 rfl rfl rfl rfl rfl) rfl rfl rfl rfl (fun _ => rfl) (fun B60 => ?_)
                    refine TA.one 1 (by kernel_rfl) ?_
                    refine TX.y (listed' := #[true, true, true, true, true, true, true, true, true, true, true, true, false, false, false]) [1, 1, 3, 3] rfl (Y.load_box (v := X31) 3 kk26 rfl rfl rfl) rfl rfl rfl rfl rfl ?_
                    refine TA.one 12 (by kernel_rfl) ?_
                    refine TX.ef (listed' := #[true, true, true, true, true, true, true, true, true, true, true, true, true, false, false]) [2, 2, 3, 3] rfl (Ef.append (α := File) (is' := [.own (.slice (some ⟨B60, 0, none⟩) 1 1) (lc ([{ No := E49, Level := E51, Lo := R40.1, Hi := R43.1 : File }])), .own Y39 (lc R37.1), .box B1 34 [.slice none 0 0, .slice none 0 0], .box B2 34 [X31, Y18], .own Y18 (lc R16.1), .own Y21 (lc R19.1)]) [4, 0, 0, 0, 0, 0, 0] H57 ke26 kz43 rfl rfl rfl rfl rfl (Can.own 0 rfl)) rfl rfl rfl rfl (fun _ => rfl) (fun V61 => ?_)
                    refine TA.y (listed' := #[true, true, true, true, true, true, true, true, true, true, true, true, true, true, false]) 13 [2, 2, 3, 3] rfl (Y.field_box kf34_0 rfl rfl) rfl rfl rfl (by kernel_rfl) (by kernel_rfl) (by kernel_rfl) rfl rfl ?_
                    refine TA.one 14 (by kernel_rfl) ?_
                    refine TX.ef0 (listed' := #[true, true, true, true, true, true, true, true, true, true, true, true, true, true, true]) [2, 2, 3, 3] rfl (Ef.store_box (us := [V61]) (vs' := [V61, Y18]) (is' := [.own V61 (lc E56), .own (.slice (some ⟨B60, 0, none⟩) 1 1) (lc ([{ No := E49, Level := E51, Lo := R40.1, Hi := R43.1 : File }])), .own Y39 (lc R37.1), .box B1 34 [.slice none 0 0, .slice none 0 0], .box B2 34 [V61, Y18], .own Y18 (lc R16.1), .own Y21 (lc R19.1)]) 4 kk26 rfl rfl rfl (Cel.one (One.can (Can.own 0 rfl))) rfl rfl rfl rfl) rfl rfl rfl (fun _ => rfl) (fun _ => ?_)
                    refine TA.nil (by kernel_rfl) ?_
                    exact TE.jb_go V61 [3, 3, 0, 2, 2] ⟨rfl, rfl, rfl, rfl, rfl, rfl, trivial⟩ rfl
                · refine TE.next ?_
                  refine TW.region ?_
                  refine TO.y (Y.move rfl) rfl rfl rfl ?_
                  refine TO.y (Y.assign rfl) rfl rfl rfl ?_
                  refine TO.nil ?_
                  refine TE.block_normal ?_
                  refine TE.next ?_
                  refine TW.region ?_
                  refine TO.y (Y.move rfl) rfl rfl rfl ?_
                  refine TO.y (Y.add rfl rfl) rfl rfl rfl ?_
                  refine TO.y (Y.assign rfl) rfl rfl rfl ?_
                  refine TO.nil ?_
                  exact TE.lp_go X59 [0, 0, 0, 0, 0] ⟨rfl, rfl, rfl, rfl, rfl, rfl, trivial⟩ rfl
            · refine TW.exit ?_
              refine TE.then_exit ?_
              refine TE.lp_exit ?_
              refine TE.block_exit ?_
              exact TE.jn_go X31 [0, 0, 0, 0] ⟨rfl, rfl, rfl, trivial⟩ rfl
          · refine TE.next ?_
            refine TW.seq ?_
            refine TW.seq ?_
            refine TW.region ?_
            refine TO.y (Y.load_box (v := .agg #[X33, Y18]) 1 kk34 rfl rfl rfl) rfl rfl rfl ?_
            refine TO.bind fun R61 H62 => ?_
            refine TO.ef (Ef.call (rest := [.box B1 34 [.slice none 0 0, .slice none 0 0], .box B2 34 [X33, Y18], .own X33 (lc T32), .own Y18 (lc R16.1)]) [0, 0, 0, 0] (spec_ShowEdit_con ({ Add := T32, Drop := R16.1 : Edit }) X33 Y18 R61 H62) kc35 rfl rfl ⟨(Can.own 2 rfl), (Can.own 3 rfl), trivial⟩) rfl rfl rfl (fun _ => ?_)
            refine TO.y (Y.move rfl) rfl rfl rfl ?_
            refine TO.y (Y.sneq rfl rfl) rfl rfl rfl ?_
            refine TO.nil ?_
            refine TE.next ?_
            refine TW.cond rfl (fun H64 => ?_) (fun H64 => ?_)
            · refine TW.seq ?_
              refine TW.region ?_
              refine TO.y (Y.build (cells := [.slice none 0 0, .slice none 0 0]) [] kp34 kz34 trivial rfl) rfl rfl rfl ?_
              refine TO.ef0 (Ef.store_box (us := [.slice none 0 0, .slice none 0 0]) (vs' := [.slice none 0 0, .slice none 0 0]) (is' := [.box B1 34 [.slice none 0 0, .slice none 0 0], .box B2 34 [X33, Y18], .own X33 (lc T32), .own Y18 (lc R16.1)]) 0 kk34 rfl rfl rfl (Cel.plain rfl rfl) rfl rfl rfl rfl) rfl rfl (fun _ => ?_)
              refine TO.y (Y.assign rfl) rfl rfl rfl ?_
              refine TO.nil ?_
              refine TE.next ?_
              refine TW.ret ?_
              refine TE.then_ret ?_
              exact TE.leaf fun _ _ hf_ hs_ => ret_any (rs := [.cell 2 34, .tmp 3]) (vs := [.agg #[.slice none 0 0, .slice none 0 0], .bool false]) (.inl rfl) rfl (RV.cell 0 rfl rfl kk34 rfl ⟨rfl, trivial⟩) hf_ hs_ ⟨((.slice none 0 0), (.slice none 0 0)), rfl, ((hs_.nilItem 4).nilItem 1).pulls [1, 0] rfl⟩
            · refine TW.skip ?_
              refine TE.next ?_
              refine TW.seq ?_
              refine TW.region ?_
              refine TO.y (Y.load_box (v := .agg #[X33, Y18]) 1 kk34 rfl rfl rfl) rfl rfl rfl ?_
              refine TO.ef0 (Ef.store_box (us := [X33, Y18]) (vs' := [X33, Y18]) (is' := [.box B1 34 [X33, Y18], .box B2 34 [X33, Y18], .own X33 (lc T32), .own Y18 (lc R16.1)]) 0 kk34 rfl rfl rfl (Cel.agg ⟨(One.can (Can.own 2 rfl)), (One.can (Can.own 3 rfl)), trivial⟩) rfl rfl rfl rfl) rfl rfl (fun _ => ?_)
              refine TO.y (Y.assign rfl) rfl rfl rfl ?_
              refine TO.nil ?_
              refine TE.next ?_
              refine TW.ret ?_
              exact TE.leaf fun _ _ hf_ hs_ => ret_any (rs := [.cell 2 34, .tmp 3]) (vs := [.agg #[X33, Y18], .bool true]) (.inl rfl) rfl (RV.cell 0 rfl rfl kk34 rfl ⟨rfl, trivial⟩) hf_ hs_ ⟨(X33, Y18), rfl, hs_.pulls [2, 2] rfl⟩

/-- loop.example/g00950/spec.Replay -/
noncomputable def spec_Replay (log : List (List UInt8)) : Option (List File × Int) :=
  bindC (loopO (fun (S2 : Int × List File) => if (decide (S2.1 < ((log.length : Nat) : Int))) = true then ((idx log S2.1).bind fun E7 =>
  (spec_ReadEdit E7).bind fun R9 =>
  if (!R9.2) = true then (some (.done (.done (S2.2, S2.1))))
  else ((spec_EditFiles S2.2 R9.1).bind fun R14 =>
  if (!R14.2) = true then (some (.done (.done (S2.2, S2.1))))
  else (some (.go (IntKind.i64.wrap (S2.1 + (1 : Int)), R14.1)))))
  else (some (.done (.go S2.2))))
  ((0 : Int), ([] : List File)))
  (fun (T4 : List File) => some (T4, ((log.length : Nat) : Int)))

theorem spec_Replay_con (log : List (List UInt8)) (V_log0 : Value) (r : List File × Int) (hm : spec_Replay log = some r) :
    Con Try.prog 8 [V_log0] [] [(V_log0, lc log)] (fun X : Value => .tuple #[X, .int .i64 r.2]) (fun X => [.own X (lc r.1)]) := by
  refine Con.intro (args := [V_log0]) (n := 43) (val := fun r (X : Value) => .tuple #[X, .int .i64 r.2]) (post := fun r X => [.own X (lc r.1)]) (m := spec_Replay log) Try.func8 rfl rfl rfl hm ?_
  intro w S hrd
  have HB_V_log0 := hrd _ (.head _)
  clear hrd
  unfold spec_Replay
  refine TW.seq ?_
  refine TW.region ?_
  refine TO.y (Y.assign rfl) rfl rfl rfl ?_
  refine TO.y (Y.assign rfl) rfl rfl rfl ?_
  refine TO.nil ?_
  refine TE.next ?_
  refine TW.seq ?_
  refine TW.region ?_
  refine TO.ef (Ef.buildSlice (α := File) (Vs := []) ([] : List File) ke26 kz43 rfl rfl rfl rfl rfl) rfl rfl rfl (fun B1 => ?_)
  refine TO.y (Y.assign rfl) rfl rfl rfl ?_
  refine TO.nil ?_
  refine TE.next ?_
  refine TW.seq ?_
  refine TW.seq ?_
  refine TW.region ?_
  refine TO.y (Y.assign rfl) rfl rfl rfl ?_
  refine TO.nil ?_
  refine TE.next ?_
  refine TW.joinX (τ := List File) (X := Value) (fun _ X => [(0, V_log0), (4, X)]) (fun T X => [.own X (lc T)]) ?_ (fun T4 X5 => ?_)
  · refine TW.block ?_
    refine TW.loopX (σ := Int × List File) (X := Value) (fun T X => [(0, V_log0), (4, X), (5, .int .i64 T.1)]) (fun T X => [.own X (lc T.2)]) (.slice (some ⟨B1, 0, none⟩) 0 0) [0] ⟨rfl, rfl, rfl, trivial⟩ rfl (fun S2 X3 => ?_)
    refine TW.seq ?_
    refine TW.seq ?_
    refine TW.region ?_
    refine TO.y (Y.move rfl) rfl rfl rfl ?_
    refine TO.y (Y.move rfl) rfl rfl rfl ?_
    refine TO.y (Y.len (l := log) ke24 (Base.can HB_V_log0) rfl) rfl rfl rfl ?_
    refine TO.y (Y.lss rfl rfl) rfl rfl rfl ?_
    refine TO.nil ?_
    refine TE.next ?_
    refine TW.cond rfl (fun H6 => ?_) (fun H6 => ?_)
    · refine TW.skip ?_
      refine TE.next ?_
      refine TW.seq ?_
      refine TW.block ?_
      refine TW.seq ?_
      refine TW.region ?_
      refine TO.y (Y.move rfl) rfl rfl rfl ?_
      refine TO.y (Y.move rfl) rfl rfl rfl ?_
      refine TO.bind fun E7 H8 => ?_
      refine TO.y (Y.index ke24 (Base.can HB_V_log0) H8 rfl rfl) rfl rfl rfl ?_
      refine TO.y (Y.load_el (us := [strV E7]) (u := strV E7) kk9 rfl (Base.can HB_V_log0) (idx_get H8).2.2 rfl rfl rfl rfl rfl) rfl rfl rfl ?_
      refine TO.bind fun R9 H10 => ?_
      refine TO.ef (Ef.call (rest := [.own X3 (lc S2.2)]) [0] (spec_ReadEdit_con E7  R9 H10) kc17 rfl rfl trivial) rfl rfl rfl (fun Y11 => ?_)
      refine TO.y (Y.move rfl) rfl rfl rfl ?_
      refine TO.y (Y.extract rfl rfl) rfl rfl rfl ?_
      refine TO.y (Y.extract rfl rfl) rfl rfl rfl ?_
      refine TO.ef (Ef.alloc kz34 rfl) rfl rfl rfl (fun B12 => ?_)
      refine TO.ef0 (Ef.store_box (us := [Y11.1, Y11.2]) (vs' := [Y11.1, Y11.2]) (is' := [.box B12 34 [Y11.1, Y11.2], .own Y11.1 (lc R9.1.Add), .own Y11.2 (lc R9.1.Drop), .own X3 (lc S2.2)]) 0 kk34 rfl rfl rfl (Cel.agg ⟨(One.can (Can.own 1 rfl)), (One.can (Can.own 2 rfl)), trivial⟩) rfl rfl rfl rfl) rfl rfl (fun _ => ?_)
      refine TO.y (Y.assign rfl) rfl rfl rfl ?_
      refine TO.nil ?_
      refine TE.next ?_
      refine TW.seq ?_
      refine TW.seq ?_
      refine TW.region ?_
      refine TO.y (Y.move rfl) rfl rfl rfl ?_
      refine TO.y (Y.not rfl) rfl rfl rfl ?_
      refine TO.nil ?_
      refine TE.next ?_
      refine TW.cond rfl (fun H13 => ?_) (fun H13 => ?_)
      · refine TW.seq ?_
        refine TW.region ?_
        refine TO.y (Y.move rfl) rfl rfl rfl ?_
        refine TO.y (Y.move rfl) rfl rfl rfl ?_
        refine TO.y (Y.assign rfl) rfl rfl rfl ?_
        refine TO.y (Y.assign rfl) rfl rfl rfl ?_
        refine TO.nil ?_
        refine TE.next ?_
        refine TW.ret ?_
        refine TE.then_ret ?_
        refine TE.block_ret ?_
        refine TE.then_ret ?_
        refine TE.lp_ret ?_
        refine TE.block_ret ?_
        refine TE.jn_done ?_
        refine TE.then_ret ?_
        exact TE.leaf fun _ _ hf_ hs_ => ret_any (rs := [.tmp 2, .tmp 3]) (vs := [X3, .int .i64 S2.1]) (.inl rfl) rfl ⟨rfl, ⟨rfl, trivial⟩⟩ hf_ hs_ ⟨X3, rfl, hs_.pulls [3] rfl⟩
      · refine TW.skip ?_
        refine TE.next ?_
        refine TW.seq ?_
        refine TW.region ?_
        refine TO.y (Y.move rfl) rfl rfl rfl ?_
        refine TO.y (Y.load_box (v := .agg #[Y11.1, Y11.2]) 0 kk34 rfl rfl rfl) rfl rfl rfl ?_
        refine TO.bind fun R14 H15 => ?_
        refine TO.ef (Ef.call (rest := [.box B12 34 [Y11.1, Y11.2], .own Y11.1 (lc R9.1.Add), .own Y11.2 (lc R9.1.Drop), .own X3 (lc S2.2)]) [0, 0, 0, 0] (spec_EditFiles_con S2.2 R9.1 X3 Y11.1 Y11.2 R14 H15) kc33 rfl rfl ⟨(Can.own 3 rfl), (Can.own 1 rfl), (Can.own 2 rfl), trivial⟩) rfl rfl rfl (fun Y16 => ?_)
        refine TO.y (Y.move rfl) rfl rfl rfl ?_
        refine TO.y (Y.extract rfl rfl) rfl rfl rfl ?_
        refine TO.y (Y.extract rfl rfl) rfl rfl rfl ?_
        refine TO.y (Y.assign rfl) rfl rfl rfl ?_
        refine TO.y (Y.assign rfl) rfl rfl rfl ?_
        refine TO.nil ?_
        refine TE.next ?_
        refine TW.seq ?_
        refine TW.seq ?_
        refine TW.region ?_
        refine TO.y (Y.move rfl) rfl rfl rfl ?_
        refine TO.y (Y.not rfl) rfl rfl rfl ?_
        refine TO.nil ?_
        refine TE.next ?_
        refine TW.cond rfl (fun H17 => ?_) (fun H17 => ?_)
        · refine TW.seq ?_
          refine TW.region ?_
          refine TO.y (Y.move rfl) rfl rfl rfl ?_
          refine TO.y (Y.move rfl) rfl rfl rfl ?_
          refine TO.y (Y.assign rfl) rfl rfl rfl ?_
          refine TO.y (Y.assign rfl) rfl rfl rfl ?_
          refine TO.nil ?_
          refine TE.next ?_
          refine TW.ret ?_
          refine TE.then_ret ?_
          refine TE.block_ret ?_
          refine TE.then_ret ?_
          refine TE.lp_ret ?_
          refine TE.block_ret ?_
          refine TE.jn_done ?_
          refine TE.then_ret ?_
          exact TE.leaf fun _ _ hf_ hs_ => ret_any (rs := [.tmp 2, .tmp 3]) (vs := [X3, .int .i64 S2.1]) (.inl rfl) rfl ⟨rfl, ⟨rfl, trivial⟩⟩ hf_ hs_ ⟨X3, rfl, hs_.pulls [4] rfl⟩
        · refine TW.skip ?_
          refine TE.next ?_
          refine TW.region ?_
          refine TO.y (Y.move rfl) rfl rfl rfl ?_
          refine TO.y (Y.assign rfl) rfl rfl rfl ?_
          refine TO.nil ?_
          refine TE.block_normal ?_
          refine TE.next ?_
          refine TW.region ?_
          refine TO.y (Y.move rfl) rfl rfl rfl ?_
          refine TO.y (Y.add rfl rfl) rfl rfl rfl ?_
          refine TO.y (Y.assign rfl) rfl rfl rfl ?_
          refine TO.nil ?_
          exact TE.lp_go Y16 [0] ⟨rfl, rfl, rfl, trivial⟩ rfl
    · refine TW.exit ?_
      refine TE.then_exit ?_
      refine TE.lp_exit ?_
      refine TE.block_exit ?_
      exact TE.jn_go X3 [0] ⟨rfl, rfl, trivial⟩ rfl
  · refine TE.next ?_
    refine TW.seq ?_
    refine TW.region ?_
    refine TO.y (Y.move rfl) rfl rfl rfl ?_
    refine TO.y (Y.move rfl) rfl rfl rfl ?_
    refine TO.y (Y.len (l := log) ke24 (Base.can HB_V_log0) rfl) rfl rfl rfl ?_
    refine TO.y (Y.assign rfl) rfl rfl rfl ?_
    refine TO.y (Y.assign rfl) rfl rfl rfl ?_
    refine TO.nil ?_
    refine TE.next ?_
    refine TW.ret ?_
    exact TE.leaf fun _ _ hf_ hs_ => ret_any (rs := [.tmp 2, .tmp 3]) (vs := [X5, .int .i64 ((log.length : Nat) : Int)]) (.inl rfl) rfl ⟨rfl, ⟨rfl, trivial⟩⟩ hf_ hs_ ⟨X5, rfl, hs_.pulls [0] rfl⟩

/-- loop.example/g00950/laws.sameFiles -/
noncomputable def laws_sameFiles (a : List File) (b : List File) : Option Bool :=
  if (!(decide (((a.length : Nat) : Int) = ((b.length : Nat) : Int)))) = true then (some false)
  else (bindC (loopO (fun (S2 : Int) => if (decide (S2 < ((a.length : Nat) : Int))) = true then ((idx a S2).bind fun E7 =>
  (idx b S2).bind fun E9 =>
  if (!(decide (E7.No = E9.No) && (decide (E7.Level = E9.Level) && (decide (E7.Lo = E9.Lo) && (decide (E7.Hi = E9.Hi) && true))))) = true then (some (.done (.done false)))
  else (some (.go (IntKind.i64.wrap (S2 + (1 : Int))))))
  else (some (.done (.go ()))))
  (0 : Int))
  (fun (T4 : Unit) => some true))

theorem laws_sameFiles_con (a : List File) (b : List File) (V_a0 : Value) (V_b0 : Value) (r : Bool) (hm : laws_sameFiles a b = some r) :
    Con Try.prog 9 [V_a0, V_b0] [] [(V_a0, lc a), (V_b0, lc b)] (fun _ : Unit => .bool r) (fun _ => []) := by
  refine Con.intro (args := [V_a0, V_b0]) (n := 26) (val := fun r (_ : Unit) => .bool r) (post := fun _ _ => []) (m := laws_sameFiles a b) Try.func9 rfl rfl rfl hm ?_
  intro w S hrd
  have HB_V_a0 := hrd _ (.head _)
  have HB_V_b0 := hrd _ (.tail _ (.head _))
  clear hrd
  unfold laws_sameFiles
  refine TW.seq ?_
  refine TW.region ?_
  refine TO.y (Y.assign rfl) rfl rfl rfl ?_
  refine TO.nil ?_
  refine TE.next ?_
  refine TW.seq ?_
  refine TW.seq ?_
  refine TW.region ?_
  refine TO.y (Y.move rfl) rfl rfl rfl ?_
  refine TO.y (Y.len (l := a) ke26 (Base.can HB_V_a0) rfl) rfl rfl rfl ?_
  refine TO.y (Y.move rfl) rfl rfl rfl ?_
  refine TO.y (Y.len (l := b) ke26 (Base.can HB_V_b0) rfl) rfl rfl rfl ?_
  refine TO.y (Y.neq rfl rfl) rfl rfl rfl ?_
  refine TO.nil ?_
  refine TE.next ?_
  refine TW.cond rfl (fun H1 => ?_) (fun H1 => ?_)
  · refine TW.seq ?_
    refine TW.region ?_
    refine TO.y (Y.assign rfl) rfl rfl rfl ?_
    refine TO.nil ?_
    refine TE.next ?_
    refine TW.ret ?_
    refine TE.then_ret ?_
    exact TE.leaf fun _ _ hf_ hs_ => ret_any (rs := [.tmp 4]) (vs := [.bool false]) (.inl rfl) rfl ⟨rfl, trivial⟩ hf_ hs_ ⟨(), rfl, hs_.pulls [] rfl⟩
  · refine TW.skip ?_
    refine TE.next ?_
    refine TW.seq ?_
    refine TW.seq ?_
    refine TW.region ?_
    refine TO.y (Y.assign rfl) rfl rfl rfl ?_
    refine TO.nil ?_
    refine TE.next ?_
    refine TW.joinX (τ := Unit) (X := Unit) (fun _ _ => []) (fun _ _ => []) ?_ (fun T4 X5 => ?_)
    · refine TW.block ?_
      refine TW.loopX (σ := Int) (X := Unit) (fun T _ => [(0, V_a0), (1, V_b0), (5, .int .i64 T)]) (fun _ _ => []) () [] ⟨rfl, rfl, rfl, trivial⟩ rfl (fun S2 X3 => ?_)
      refine TW.seq ?_
      refine TW.seq ?_
      refine TW.region ?_
      refine TO.y (Y.move rfl) rfl rfl rfl ?_
      refine TO.y (Y.move rfl) rfl rfl rfl ?_
      refine TO.y (Y.len (l := a) ke26 (Base.can HB_V_a0) rfl) rfl rfl rfl ?_
      refine TO.y (Y.lss rfl rfl) rfl rfl rfl ?_
      refine TO.nil ?_
      refine TE.next ?_
      refine TW.cond rfl (fun H6 => ?_) (fun H6 => ?_)
      · refine TW.skip ?_
        refine TE.next ?_
        refine TW.seq ?_
        refine TW.block ?_
        refine TW.seq ?_
        refine TW.draw (isH := []) hMix ?_
        refine TA.y (listed' := #[true, false, false, false, false, false, false, false, false]) 0 [] rfl (Y.move rfl) rfl rfl rfl (by kernel_rfl) (by kernel_rfl) (by kernel_rfl) rfl rfl ?_
        refine TA.y (listed' := #[true, true, false, false, false, false, false, false, false]) 1 [] rfl (Y.move rfl) rfl rfl rfl (by kernel_rfl) (by kernel_rfl) (by kernel_rfl) rfl rfl ?_
        refine TA.bind fun E7 H8 => ?_
        refine TA.y (listed' := #[true, true, true, false, false, false, false, false, false]) 2 [] rfl (Y.index ke26 (Base.can HB_V_a0) H8 rfl rfl) rfl rfl rfl (by kernel_rfl) (by kernel_rfl) (by kernel_rfl) rfl rfl ?_
        refine TA.y (listed' := #[true, true, true, true, false, false, false, false, false]) 3 [] rfl (Y.load_el (us := [.int .i64 E7.No, .int .i64 E7.Level, strV E7.Lo, strV E7.Hi]) (u := .agg #[.int .i64 E7.No, .int .i64 E7.Level, strV E7.Lo, strV E7.Hi]) kk43 rfl (Base.can HB_V_a0) (idx_get H8).2.2 rfl rfl rfl rfl rfl) rfl rfl rfl (by kernel_rfl) (by kernel_rfl) (by kernel_rfl) rfl rfl ?_
        refine TA.y (listed' := #[true, true, true, true, true, false, false, false, false]) 4 [] rfl (Y.move rfl) rfl rfl rfl (by kernel_rfl) (by kernel_rfl) (by kernel_rfl) rfl rfl ?_
        refine TA.y (listed' := #[true, true, true, true, true, true, false, false, false]) 5 [] rfl (Y.move rfl) rfl rfl rfl (by kernel_rfl) (by kernel_rfl) (by kernel_rfl) rfl rfl ?_
        refine TA.bind fun E9 H10 => ?_
        refine TA.y (listed' := #[true, true, true, true, true, true, true, false, false]) 6 [] rfl (Y.index ke26 (Base.can HB_V_b0) H10 rfl rfl) rfl rfl rfl (by kernel_rfl) (by kernel_rfl) (by kernel_rfl) rfl rfl ?_
        refine TA.y (listed' := #[true, true, true, true, true, true, true, true, false]) 7 [] rfl (Y.load_el (us := [.int .i64 E9.No, .int .i64 E9.Level, strV E9.Lo, strV E9.Hi]) (u := .agg #[.int .i64 E9.No, .int .i64 E9.Level, strV E9.Lo, strV E9.Hi]) kk43 rfl (Base.can HB_V_b0) (idx_get H10).2.2 rfl rfl rfl rfl rfl) rfl rfl rfl (by kernel_rfl) (by kernel_rfl) (by kernel_rfl) rfl rfl ?_
        refine TA.y (listed' := #[true, true, true, true, true, true, true, true, true]) 8 [] rfl (Y.neqA keq43 (EqA.int (EqA.int (EqA.str (EqA.str EqA.nil)))) rfl rfl) rfl rfl rfl (by kernel_rfl) (by kernel_rfl) (by kernel_rfl) rfl rfl ?_
        refine TA.nil (by kernel_rfl) ?_
        refine TE.next ?_
        refine TW.cond rfl (fun H11 => ?_) (fun H11 => ?_)
        · refine TW.seq ?_
          refine TW.region ?_
          refine TO.y (Y.assign rfl) rfl rfl rfl ?_
          refine TO.nil ?_
          refine TE.next ?_
          refine TW.ret ?_
          refine TE.block_ret ?_
          refine TE.then_ret ?_
          refine TE.lp_ret ?_
          refine TE.block_ret ?_
          refine TE.jn_done ?_
          refine TE.then_ret ?_
          exact TE.leaf fun _ _ hf_ hs_ => ret_any (rs := [.tmp 4]) (vs := [.bool false]) (.inl rfl) rfl ⟨rfl, trivial⟩ hf_ hs_ ⟨(), rfl, hs_.pulls [] rfl⟩
        · refine TW.skip ?_
          refine TE.block_normal ?_
          refine TE.next ?_
          refine TW.region ?_
          refine TO.y (Y.move rfl) rfl rfl rfl ?_
          refine TO.y (Y.add rfl rfl) rfl rfl rfl ?_
          refine TO.y (Y.assign rfl) rfl rfl rfl ?_
          refine TO.nil ?_
          exact TE.lp_go () [] ⟨rfl, rfl, rfl, trivial⟩ rfl
      · refine TW.exit ?_
        refine TE.then_exit ?_
        refine TE.lp_exit ?_
        refine TE.block_exit ?_
        exact TE.jn_go () [] trivial rfl
    · refine TE.next ?_
      refine TW.seq ?_
      refine TW.region ?_
      refine TO.y (Y.assign rfl) rfl rfl rfl ?_
      refine TO.nil ?_
      refine TE.next ?_
      refine TW.ret ?_
      exact TE.leaf fun _ _ hf_ hs_ => ret_any (rs := [.tmp 4]) (vs := [.bool true]) (.inl rfl) rfl ⟨rfl, trivial⟩ hf_ hs_ ⟨(), rfl, hs_.pulls [] rfl⟩

/-- loop.example/g00950/laws.at -/
noncomputable def laws_at (code : List UInt8) (i : Int) : Option Int :=
  if (decide (i < ((code.length : Nat) : Int))) = true then ((idx code i).bind fun E2 =>
  some (IntKind.i64.wrap ((E2.toNat : Nat) : Int)))
  else (some (Int.tmod (IntKind.i64.wrap (IntKind.i64.wrap (i * (37 : Int)) + (IntKind.i64.wrap (((code.length : Nat) : Int) * (11 : Int))))) (256 : Int)))

theorem laws_at_con (code : List UInt8) (i : Int) (V_code0 : Value) (r : Int) (hm : laws_at code i = some r) :
    Con Try.prog 11 [V_code0, .int .i64 i] [] [(V_code0, lc code)] (fun _ : Unit => .int .i64 r) (fun _ => []) := by
  refine Con.intro (args := [V_code0, .int .i64 i]) (n := 21) (val := fun r (_ : Unit) => .int .i64 r) (post := fun _ _ => []) (m := laws_at code i) Try.func11 rfl rfl rfl hm ?_
  intro w S hrd
  have HB_V_code0 := hrd _ (.head _)
  clear hrd
  unfold laws_at
  refine TW.seq ?_
  refine TW.region ?_
  refine TO.y (Y.assign rfl) rfl rfl rfl ?_
  refine TO.nil ?_
  refine TE.next ?_
  refine TW.seq ?_
  refine TW.seq ?_
  refine TW.region ?_
  refine TO.y (Y.move rfl) rfl rfl rfl ?_
  refine TO.y (Y.move rfl) rfl rfl rfl ?_
  refine TO.y (Y.len (l := code) ke22 (Base.can HB_V_code0) rfl) rfl rfl rfl ?_
  refine TO.y (Y.lss rfl rfl) rfl rfl rfl ?_
  refine TO.nil ?_
  refine TE.next ?_
  refine TW.cond rfl (fun H1 => ?_) (fun H1 => ?_)
  · refine TW.seq ?_
    refine TW.region ?_
    refine TO.y (Y.move rfl) rfl rfl rfl ?_
    refine TO.y (Y.move rfl) rfl rfl rfl ?_
    refine TO.bind fun E2 H3 => ?_
    refine TO.y (Y.index ke22 (Base.can HB_V_code0) H3 rfl rfl) rfl rfl rfl ?_
    refine TO.y (Y.load_el (us := [.int .u8 ((E2.toNat : Nat) : Int)]) (u := .int .u8 ((E2.toNat : Nat) : Int)) kk5 rfl (Base.can HB_V_code0) (idx_get H3).2.2 rfl rfl rfl rfl rfl) rfl rfl rfl ?_
    refine TO.y (Y.conv ki5 ki3 rfl) rfl rfl rfl ?_
    refine TO.y (Y.assign rfl) rfl rfl rfl ?_
    refine TO.nil ?_
    refine TE.next ?_
    refine TW.ret ?_
    refine TE.then_ret ?_
    exact TE.leaf fun _ _ hf_ hs_ => ret_any (rs := [.tmp 4]) (vs := [.int .i64 (IntKind.i64.wrap ((E2.toNat : Nat) : Int))]) (.inl rfl) rfl ⟨rfl, trivial⟩ hf_ hs_ ⟨(), rfl, hs_.pulls [] rfl⟩
  · refine TW.skip ?_
    refine TE.next ?_
    refine TW.seq ?_
    refine TW.region ?_
    refine TO.y (Y.move rfl) rfl rfl rfl ?_
    refine TO.y (Y.mul rfl rfl) rfl rfl rfl ?_
    refine TO.y (Y.move rfl) rfl rfl rfl ?_
    refine TO.y (Y.len (l := code) ke22 (Base.can HB_V_code0) rfl) rfl rfl rfl ?_
    refine TO.y (Y.mul rfl rfl) rfl rfl rfl ?_
    refine TO.y (Y.add rfl rfl) rfl rfl rfl ?_
    refine TO.y (Y.rem (by decide) rfl rfl) rfl rfl rfl ?_
    refine TO.y (Y.assign rfl) rfl rfl rfl ?_
    refine TO.nil ?_
    refine TE.next ?_
    refine TW.ret ?_
    exact TE.leaf fun _ _ hf_ hs_ => ret_any (rs := [.tmp 4]) (vs := [.int .i64 (Int.tmod (IntKind.i64.wrap (IntKind.i64.wrap (i * (37 : Int)) + (IntKind.i64.wrap (((code.length : Nat) : Int) * (11 : Int))))) (256 : Int))]) (.inl rfl) rfl ⟨rfl, trivial⟩ hf_ hs_ ⟨(), rfl, hs_.pulls [] rfl⟩

/-- loop.example/g00950/spec.l16Some -/
noncomputable def spec_l16Some (c : L1Cur) : Option (List File × L1Cur) :=
  (spec_l1Below c (14 : Int)).bind fun R2 =>
  bindC (loopO (fun (S5 : Int × Int × Int × List File) => if (decide (S5.2.2.1 > (0 : Int))) = true then ((spec_l16File ({ b := c.b, i := S5.1, h := S5.2.1 : L1Cur })).bind fun R10 =>
  (spec_FilesAdd S5.2.2.2 R10.1).bind fun R13 =>
  bindC (if R13.2 = true then (some (.go R13.1))
  else (some (.go S5.2.2.2)))
  (fun (T16 : List File) => some (.go (R10.2.i, R10.2.h, IntKind.i64.wrap (S5.2.2.1 - (1 : Int)), T16))))
  else (some (.done (.go (S5.1, S5.2.1, S5.2.2.2)))))
  (R2.2.i, R2.2.h, R2.1, ([] : List File)))
  (fun (T7 : Int × Int × List File) => (if (decide (((T7.2.2.length : Nat) : Int) > (0 : Int))) = true then ((spec_l1Once ({ b := c.b, i := T7.1, h := T7.2.1 : L1Cur }) (12 : Int)).bind fun R22 =>
  some (R22.2.i, R22.2.h, R22.1))
  else (some (T7.1, T7.2.1, false))).bind (fun (T19 : Int × Int × Bool) =>
  bindC (if T19.2.2 = true then ((spec_l1Below ({ b := c.b, i := T19.1, h := T19.2.1 : L1Cur }) ((T7.2.2.length : Nat) : Int)).bind fun R28 =>
  (spec_l16File ({ b := c.b, i := R28.2.i, h := R28.2.h : L1Cur })).bind fun R31 =>
  (idx T7.2.2 R28.1).bind fun E34 =>
  some (.go (R31.2.i, R31.2.h, (T7.2.2.set R28.1.toNat R31.1))))
  else (some (.go (T19.1, T19.2.1, T7.2.2))))
  (fun (T25 : Int × Int × List File) => some (T25.2.2, { b := c.b, i := T25.1, h := T25.2.1 : L1Cur }))))

theorem spec_l16Some_con (c : L1Cur) (V_c0 : Value) (B_c : Nat) (r : List File × L1Cur) (hm : spec_l16Some c = some r) :
    Con Try.prog 46 [.pointer (some ⟨B_c, 0, none⟩)] [.box B_c 94 [V_c0, .int .i64 c.i, .int .i64 c.h]] [(V_c0, lc c.b)] (fun X : Value => X) (fun X => [.box B_c 94 [V_c0, .int .i64 r.2.i, .int .i64 r.2.h], .own X (lc r.1)]) := by
  refine Con.intro (args := [.pointer (some ⟨B_c, 0, none⟩)]) (n := 39) (val := fun _ (X : Value) => X) (post := fun r X => [.box B_c 94 [V_c0, .int .i64 r.2.i, .int .i64 r.2.h], .own X (lc r.1)]) (m := spec_l16Some c) Try.func46 rfl rfl rfl hm ?_
  intro w S hrd
  have HB_V_c0 := hrd _ (.head _)
  clear hrd
  unfold spec_l16Some
  refine TW.seq ?_
  refine TW.region ?_
  refine TO.y (Y.assign rfl) rfl rfl rfl ?_
  refine TO.nil ?_
  refine TE.next ?_
  refine TW.seq ?_
  refine TW.region ?_
  refine TO.ef (Ef.buildSlice (α := File) (Vs := []) ([] : List File) ke26 kz43 rfl rfl rfl rfl rfl) rfl rfl rfl (fun B1 => ?_)
  refine TO.y (Y.assign rfl) rfl rfl rfl ?_
  refine TO.nil ?_
  refine TE.next ?_
  refine TW.seq ?_
  refine TW.seq ?_
  refine TW.region ?_
  refine TO.y (Y.move rfl) rfl rfl rfl ?_
  refine TO.bind fun R2 H3 => ?_
  refine TO.ef (Ef.call (rest := [.own (.slice (some ⟨B1, 0, none⟩) 0 0) (lc ([] : List File))]) [1, 0] (spec_l1Below_con c (14 : Int) V_c0 B_c R2 H3) kc31 rfl rfl ⟨(Base.can HB_V_c0), trivial⟩) rfl rfl rfl (fun _ => ?_)
  refine TO.y (Y.assign rfl) rfl rfl rfl ?_
  refine TO.nil ?_
  refine TE.next ?_
  refine TW.joinX (τ := Int × Int × List File) (X := Value) (fun _ X => [(0, .pointer (some ⟨B_c, 0, none⟩)), (3, X)]) (fun T X => [.box B_c 94 [V_c0, .int .i64 T.1, .int .i64 T.2.1], .own X (lc T.2.2)]) ?_ (fun T7 X8 => ?_)
  · refine TW.block ?_
    refine TW.loopX (σ := Int × Int × Int × List File) (X := Value) (fun T X => [(0, .pointer (some ⟨B_c, 0, none⟩)), (3, X), (4, .int .i64 T.2.2.1)]) (fun T X => [.box B_c 94 [V_c0, .int .i64 T.1, .int .i64 T.2.1], .own X (lc T.2.2.2)]) (.slice (some ⟨B1, 0, none⟩) 0 0) [0, 0] ⟨rfl, rfl, rfl, trivial⟩ rfl (fun S5 X6 => ?_)
    refine TW.seq ?_
    refine TW.seq ?_
    refine TW.region ?_
    refine TO.y (Y.move rfl) rfl rfl rfl ?_
    refine TO.y (Y.gtr rfl rfl) rfl rfl rfl ?_
    refine TO.nil ?_
    refine TE.next ?_
    refine TW.cond rfl (fun H9 => ?_) (fun H9 => ?_)
    · refine TW.skip ?_
      refine TE.next ?_
      refine TW.seq ?_
      refine TW.block ?_
      refine TW.seq ?_
      refine TW.region ?_
      refine TO.y (Y.move rfl) rfl rfl rfl ?_
      refine TO.y (Y.move rfl) rfl rfl rfl ?_
      refine TO.bind fun R10 H11 => ?_
      refine TO.ef (Ef.call (rest := [.own X6 (lc S5.2.2.2)]) [0, 0] (spec_l16File_con ({ b := c.b, i := S5.1, h := S5.2.1 : L1Cur }) V_c0 B_c R10 H11) kc55 rfl rfl ⟨(Base.can HB_V_c0), trivial⟩) rfl rfl rfl (fun _ => ?_)
      refine TO.bind fun R13 H14 => ?_
      refine TO.ef (Ef.call (rest := [.box B_c 94 [V_c0, .int .i64 R10.2.i, .int .i64 R10.2.h], .own X6 (lc S5.2.2.2)]) [0, 0] (spec_FilesAdd_con S5.2.2.2 R10.1 X6 R13 H14) kc20 rfl rfl ⟨(Can.own 1 rfl), trivial⟩) rfl rfl rfl (fun Y15 => ?_)
      refine TO.y (Y.move rfl) rfl rfl rfl ?_
      refine TO.y (Y.extract rfl rfl) rfl rfl rfl ?_
      refine TO.y (Y.extract rfl rfl) rfl rfl rfl ?_
      refine TO.y (Y.assign rfl) rfl rfl rfl ?_
      refine TO.y (Y.assign rfl) rfl rfl rfl ?_
      refine TO.nil ?_
      refine TE.next ?_
      refine TW.seq ?_
      refine TW.region ?_
      refine TO.y (Y.move rfl) rfl rfl rfl ?_
      refine TO.nil ?_
      refine TE.next ?_
      refine TW.joinX (τ := List File) (X := Value) (fun _ X => [(0, .pointer (some ⟨B_c, 0, none⟩)), (3, X), (4, .int .i64 S5.2.2.1)]) (fun T X => [.box B_c 94 [V_c0, .int .i64 R10.2.i, .int .i64 R10.2.h], .own X (lc T)]) ?_ (fun T16 X17 => ?_)
      · refine TW.cond rfl (fun H18 => ?_) (fun H18 => ?_)
        · refine TW.region ?_
          refine TO.y (Y.move rfl) rfl rfl rfl ?_
          refine TO.y (Y.assign rfl) rfl rfl rfl ?_
          refine TO.nil ?_
          exact TE.jn_go Y15 [1, 0] ⟨rfl, rfl, rfl, trivial⟩ rfl
        · refine TW.skip ?_
          exact TE.jn_go X6 [1, 1] ⟨rfl, rfl, rfl, trivial⟩ rfl
      · refine TE.block_normal ?_
        refine TE.next ?_
        refine TW.region ?_
        refine TO.y (Y.move rfl) rfl rfl rfl ?_
        refine TO.y (Y.sub rfl rfl) rfl rfl rfl ?_
        refine TO.y (Y.assign rfl) rfl rfl rfl ?_
        refine TO.nil ?_
        exact TE.lp_go X17 [0, 0] ⟨rfl, rfl, rfl, trivial⟩ rfl
    · refine TW.exit ?_
      refine TE.then_exit ?_
      refine TE.lp_exit ?_
      refine TE.block_exit ?_
      exact TE.jn_go X6 [0, 0] ⟨rfl, rfl, trivial⟩ rfl
  · refine TE.next ?_
    refine TW.seq ?_
    refine TW.seq ?_
    refine TW.joinBX (τ := Int × Int × Bool) (X := Unit) (fun T _ => [(0, .pointer (some ⟨B_c, 0, none⟩)), (3, X8), (29, .bool T.2.2)]) (fun T _ => [.box B_c 94 [V_c0, .int .i64 T.1, .int .i64 T.2.1], .own X8 (lc T7.2.2)]) ?_ (fun T19 X20 => ?_)
    · refine TW.region ?_
      refine TO.y (Y.move rfl) rfl rfl rfl ?_
      refine TO.y (Y.len (l := T7.2.2) ke26 (Can.own 1 rfl) rfl) rfl rfl rfl ?_
      refine TO.y (Y.gtr rfl rfl) rfl rfl rfl ?_
      refine TO.y (Y.move rfl) rfl rfl rfl ?_
      refine TO.ite (b := decide (((T7.2.2.length : Nat) : Int) > (0 : Int))) (fun H21 => ?_) (fun H21 => ?_)
      · refine TO.y (Y.move rfl) (Gd.at 3 true 26 (decide (((T7.2.2.length : Nat) : Int) > (0 : Int))) rfl rfl rfl (beq_tt H21)) rfl rfl ?_
        refine TO.bind fun R22 H23 => ?_
        refine TO.ef (Ef.call (rest := [.own X8 (lc T7.2.2)]) [0, 0] (spec_l1Once_con ({ b := c.b, i := T7.1, h := T7.2.1 : L1Cur }) (12 : Int) V_c0 B_c R22 H23) kc34 rfl rfl ⟨(Base.can HB_V_c0), trivial⟩) (Gd.at 3 true 26 (decide (((T7.2.2.length : Nat) : Int) > (0 : Int))) rfl rfl rfl (beq_tt H21)) rfl rfl (fun _ => ?_)
        refine TO.y (Y.pick_t H21 rfl rfl) rfl rfl rfl ?_
        refine TO.nil ?_
        exact TE.jb_go () [0, 0] ⟨rfl, rfl, rfl, trivial⟩ rfl
      · refine TO.off (Gd.at 3 true 26 (decide (((T7.2.2.length : Nat) : Int) > (0 : Int))) rfl rfl rfl (beq_ft H21)) rfl rfl ?_
        refine TO.off (Gd.at 3 true 26 (decide (((T7.2.2.length : Nat) : Int) > (0 : Int))) rfl rfl rfl (beq_ft H21)) rfl rfl ?_
        refine TO.y (Y.pick_f H21 rfl rfl) rfl rfl rfl ?_
        refine TO.nil ?_
        exact TE.jb_go () [0, 0] ⟨rfl, rfl, rfl, trivial⟩ rfl
    · refine TE.next ?_
      refine TW.joinX (τ := Int × Int × List File) (X := Unit) (fun _ _ => [(3, X8)]) (fun T _ => [.box B_c 94 [V_c0, .int .i64 T.1, .int .i64 T.2.1], .own X8 (lc T.2.2)]) ?_ (fun T25 X26 => ?_)
      · refine TW.cond rfl (fun H27 => ?_) (fun H27 => ?_)
        · refine TW.region ?_
          refine TO.y (Y.move rfl) rfl rfl rfl ?_
          refine TO.y (Y.move rfl) rfl rfl rfl ?_
          refine TO.y (Y.move rfl) rfl rfl rfl ?_
          refine TO.y (Y.len (l := T7.2.2) ke26 (Can.own 1 rfl) rfl) rfl rfl rfl ?_
          refine TO.bind fun R28 H29 => ?_
          refine TO.ef (Ef.call (rest := [.own X8 (lc T7.2.2)]) [0, 0] (spec_l1Below_con ({ b := c.b, i := T19.1, h := T19.2.1 : L1Cur }) ((T7.2.2.length : Nat) : Int) V_c0 B_c R28 H29) kc31 rfl rfl ⟨(Base.can HB_V_c0), trivial⟩) rfl rfl rfl (fun _ => ?_)
          refine TO.y (Y.move rfl) rfl rfl rfl ?_
          refine TO.bind fun R31 H32 => ?_
          refine TO.ef (Ef.call (rest := [.own X8 (lc T7.2.2)]) [0, 0] (spec_l16File_con ({ b := c.b, i := R28.2.i, h := R28.2.h : L1Cur }) V_c0 B_c R31 H32) kc55 rfl rfl ⟨(Base.can HB_V_c0), trivial⟩) rfl rfl rfl (fun _ => ?_)
          refine TO.bind fun E34 H35 => ?_
          refine TO.y (Y.index ke26 (Can.own 1 rfl) H35 rfl rfl) rfl rfl rfl ?_
          refine TO.ef0 (Ef.store_el (us := [.int .i64 R31.1.No, .int .i64 R31.1.Level, strV R31.1.Lo, strV R31.1.Hi]) (is' := [.box B_c 94 [V_c0, .int .i64 R31.2.i, .int .i64 R31.2.h], .own X8 (lc (T7.2.2.set R28.1.toNat R31.1))]) R31.1 1 kk43 rfl rfl (idx_get H35).2.2 rfl rfl (Cel.plain rfl rfl) rfl rfl rfl rfl) rfl rfl (fun _ => ?_)
          refine TO.nil ?_
          exact TE.jn_go () [0, 0] ⟨rfl, trivial⟩ rfl
        · refine TW.skip ?_
          exact TE.jn_go () [0, 0] ⟨rfl, trivial⟩ rfl
      · refine TE.next ?_
        refine TW.seq ?_
        refine TW.region ?_
        refine TO.y (Y.move rfl) rfl rfl rfl ?_
        refine TO.y (Y.assign rfl) rfl rfl rfl ?_
        refine TO.nil ?_
        refine TE.next ?_
        refine TW.ret ?_
        exact TE.leaf fun _ _ hf_ hs_ => ret_any (rs := [.tmp 2]) (vs := [X8]) (.inl rfl) rfl ⟨rfl, trivial⟩ hf_ hs_ ⟨X8, rfl, hs_.pulls [0, 0] rfl⟩

/-- loop.example/g00950/spec.DrawShowEdit -/
noncomputable def spec_DrawShowEdit (code : List UInt8) : Option Edit :=
  (spec_l1New code).bind fun R2 =>
  (spec_l16Some ({ b := code, i := R2.i, h := R2.h : L1Cur })).bind fun R5 =>
  (spec_l17Edit ({ b := code, i := R5.2.i, h := R5.2.h : L1Cur }) R5.1).bind fun R8 =>
  some R8.1

theorem spec_DrawShowEdit_con (code : List UInt8) (V_code0 : Value) (r : Edit) (hm : spec_DrawShowEdit code = some r) :
    Con Try.prog 14 [V_code0] [] [(V_code0, lc code)] (fun X : Value × Value => .agg #[X.1, X.2]) (fun X => [.own X.1 (lc r.Add), .own X.2 (lc r.Drop)]) := by
  refine Con.intro (args := [V_code0]) (n := 10) (val := fun _ (X : Value × Value) => .agg #[X.1, X.2]) (post := fun r X => [.own X.1 (lc r.Add), .own X.2 (lc r.Drop)]) (m := spec_DrawShowEdit code) Try.func14 rfl rfl rfl hm ?_
  intro w S hrd
  have HB_V_code0 := hrd _ (.head _)
  clear hrd
  unfold spec_DrawShowEdit
  refine TW.seq ?_
  refine TW.region ?_
  refine TO.ef (Ef.alloc kz34 rfl) rfl rfl rfl (fun B1 => ?_)
  refine TO.nil ?_
  refine TE.next ?_
  refine TW.seq ?_
  refine TW.region ?_
  refine TO.y (Y.move rfl) rfl rfl rfl ?_
  refine TO.bind fun R2 H3 => ?_
  refine TO.ef (Ef.call (rest := [.box B1 34 [.slice none 0 0, .slice none 0 0]]) [0] (spec_l1New_con code V_code0 R2 H3) kc30 rfl rfl ⟨(Base.can HB_V_code0), trivial⟩) rfl rfl rfl (fun Y4 => ?_)
  refine TO.y (Y.assign rfl) rfl rfl rfl ?_
  refine TO.nil ?_
  refine TE.next ?_
  refine TW.seq ?_
  refine TW.region ?_
  refine TO.y (Y.move rfl) rfl rfl rfl ?_
  refine TO.y (Y.move rfl) rfl rfl rfl ?_
  refine TO.bind fun R5 H6 => ?_
  refine TO.ef (Ef.call (rest := [.box B1 34 [.slice none 0 0, .slice none 0 0]]) [0, 0] (spec_l16Some_con ({ b := code, i := R2.i, h := R2.h : L1Cur }) V_code0 Y4 R5 H6) kc46 rfl rfl ⟨(Base.can HB_V_code0), trivial⟩) rfl rfl rfl (fun Y7 => ?_)
  refine TO.bind fun R8 H9 => ?_
  refine TO.ef (Ef.call (rest := [.own Y7 (lc R5.1), .box B1 34 [.slice none 0 0, .slice none 0 0]]) [0, 0, 0] (spec_l17Edit_con ({ b := code, i := R5.2.i, h := R5.2.h : L1Cur }) R5.1 V_code0 Y4 Y7 R8 H9) kc32 rfl rfl ⟨(Base.can HB_V_code0), (Can.own 0 rfl), trivial⟩) rfl rfl rfl (fun Y10 => ?_)
  refine TO.ef0 (Ef.store_box (us := [Y10.1, Y10.2]) (vs' := [Y10.1, Y10.2]) (is' := [.box Y4 94 [V_code0, .int .i64 R8.2.i, .int .i64 R8.2.h], .own Y10.1 (lc R8.1.Add), .own Y10.2 (lc R8.1.Drop), .own Y7 (lc R5.1), .box B1 34 [Y10.1, Y10.2]]) 4 kk34 rfl rfl rfl (Cel.agg ⟨(One.can (Can.own 1 rfl)), (One.can (Can.own 2 rfl)), trivial⟩) rfl rfl rfl rfl) rfl rfl (fun _ => ?_)
  refine TO.nil ?_
  refine TE.next ?_
  refine TW.ret ?_
  exact TE.leaf fun _ _ hf_ hs_ => ret_any (rs := [.cell 2 34]) (vs := [.agg #[Y10.1, Y10.2]]) (.inl rfl) rfl (RV.cell 4 rfl rfl kk34 rfl trivial) hf_ hs_ ⟨(Y10.1, Y10.2), rfl, hs_.pulls [1, 1] rfl⟩

/-- loop.example/g00950/spec.DrawReadEdit -/
noncomputable def spec_DrawReadEdit (code : List UInt8) : Option (List UInt8) :=
  (spec_l1New code).bind fun R1 =>
  (spec_l16Some ({ b := code, i := R1.i, h := R1.h : L1Cur })).bind fun R4 =>
  (spec_l17Edit ({ b := code, i := R4.2.i, h := R4.2.h : L1Cur }) R4.1).bind fun R7 =>
  (spec_ShowEdit R7.1).bind fun R10 =>
  (spec_l1Once ({ b := code, i := R7.2.i, h := R7.2.h : L1Cur }) (3 : Int)).bind fun R13 =>
  if R13.1 = true then ((spec_l1Spoil ({ b := code, i := R13.2.i, h := R13.2.h : L1Cur }) R10).bind fun R17 =>
  some R17.1)
  else (some R10)

theorem spec_DrawReadEdit_con (code : List UInt8) (V_code0 : Value) (r : List UInt8) (hm : spec_DrawReadEdit code = some r) :
    Con Try.prog 16 [V_code0] [] [(V_code0, lc code)] (fun _ : Unit => strV r) (fun _ => []) := by
  refine Con.intro (args := [V_code0]) (n := 18) (val := fun r (_ : Unit) => strV r) (post := fun _ _ => []) (m := spec_DrawReadEdit code) Try.func16 rfl rfl rfl hm ?_
  intro w S hrd
  have HB_V_code0 := hrd _ (.head _)
  clear hrd
  unfold spec_DrawReadEdit
  refine TW.seq ?_
  refine TW.region ?_
  refine TO.y (Y.assign rfl) rfl rfl rfl ?_
  refine TO.nil ?_
  refine TE.next ?_
  refine TW.seq ?_
  refine TW.region ?_
  refine TO.y (Y.move rfl) rfl rfl rfl ?_
  refine TO.bind fun R1 H2 => ?_
  refine TO.ef (Ef.call (rest := []) [] (spec_l1New_con code V_code0 R1 H2) kc30 rfl rfl ⟨(Base.can HB_V_code0), trivial⟩) rfl rfl rfl (fun Y3 => ?_)
  refine TO.y (Y.assign rfl) rfl rfl rfl ?_
  refine TO.nil ?_
  refine TE.next ?_
  refine TW.seq ?_
  refine TW.region ?_
  refine TO.y (Y.move rfl) rfl rfl rfl ?_
  refine TO.y (Y.move rfl) rfl rfl rfl ?_
  refine TO.bind fun R4 H5 => ?_
  refine TO.ef (Ef.call (rest := []) [0] (spec_l16Some_con ({ b := code, i := R1.i, h := R1.h : L1Cur }) V_code0 Y3 R4 H5) kc46 rfl rfl ⟨(Base.can HB_V_code0), trivial⟩) rfl rfl rfl (fun Y6 => ?_)
  refine TO.bind fun R7 H8 => ?_
  refine TO.ef (Ef.call (rest := [.own Y6 (lc R4.1)]) [0, 0] (spec_l17Edit_con ({ b := code, i := R4.2.i, h := R4.2.h : L1Cur }) R4.1 V_code0 Y3 Y6 R7 H8) kc32 rfl rfl ⟨(Base.can HB_V_code0), (Can.own 0 rfl), trivial⟩) rfl rfl rfl (fun Y9 => ?_)
  refine TO.bind fun R10 H11 => ?_
  refine TO.ef (Ef.call (rest := [.box Y3 94 [V_code0, .int .i64 R7.2.i, .int .i64 R7.2.h], .own Y9.1 (lc R7.1.Add), .own Y9.2 (lc R7.1.Drop), .own Y6 (lc R4.1)]) [0, 0, 0, 0] (spec_ShowEdit_con R7.1 Y9.1 Y9.2 R10 H11) kc35 rfl rfl ⟨(Can.own 1 rfl), (Can.own 2 rfl), trivial⟩) rfl rfl rfl (fun _ => ?_)
  refine TO.y (Y.assign rfl) rfl rfl rfl ?_
  refine TO.nil ?_
  refine TE.next ?_
  refine TW.seq ?_
  refine TW.seq ?_
  refine TW.region ?_
  refine TO.y (Y.move rfl) rfl rfl rfl ?_
  refine TO.bind fun R13 H14 => ?_
  refine TO.ef (Ef.call (rest := [.own Y9.1 (lc R7.1.Add), .own Y9.2 (lc R7.1.Drop), .own Y6 (lc R4.1)]) [0, 0, 0, 0] (spec_l1Once_con ({ b := code, i := R7.2.i, h := R7.2.h : L1Cur }) (3 : Int) V_code0 Y3 R13 H14) kc34 rfl rfl ⟨(Base.can HB_V_code0), trivial⟩) rfl rfl rfl (fun _ => ?_)
  refine TO.nil ?_
  refine TE.next ?_
  refine TW.cond rfl (fun H16 => ?_) (fun H16 => ?_)
  · refine TW.seq ?_
    refine TW.region ?_
    refine TO.y (Y.move rfl) rfl rfl rfl ?_
    refine TO.y (Y.move rfl) rfl rfl rfl ?_
    refine TO.bind fun R17 H18 => ?_
    refine TO.ef (Ef.call (rest := [.own Y9.1 (lc R7.1.Add), .own Y9.2 (lc R7.1.Drop), .own Y6 (lc R4.1)]) [0, 0, 0, 0] (spec_l1Spoil_con ({ b := code, i := R13.2.i, h := R13.2.h : L1Cur }) R10 V_code0 Y3 R17 H18) kc36 rfl rfl ⟨(Base.can HB_V_code0), trivial⟩) rfl rfl rfl (fun _ => ?_)
    refine TO.y (Y.assign rfl) rfl rfl rfl ?_
    refine TO.nil ?_
    refine TE.next ?_
    refine TW.ret ?_
    refine TE.then_ret ?_
    exact TE.leaf fun _ _ hf_ hs_ => ret_any (rs := [.tmp 2]) (vs := [strV R17.1]) (.inl rfl) rfl ⟨rfl, trivial⟩ hf_ hs_ ⟨(), rfl, hs_.pulls [] rfl⟩
  · refine TW.skip ?_
    refine TE.next ?_
    refine TW.seq ?_
    refine TW.region ?_
    refine TO.y (Y.move rfl) rfl rfl rfl ?_
    refine TO.y (Y.assign rfl) rfl rfl rfl ?_
    refine TO.nil ?_
    refine TE.next ?_
    refine TW.ret ?_
    exact TE.leaf fun _ _ hf_ hs_ => ret_any (rs := [.tmp 2]) (vs := [strV R10]) (.inl rfl) rfl ⟨rfl, trivial⟩ hf_ hs_ ⟨(), rfl, hs_.pulls [] rfl⟩

/-- loop.example/g00950/laws.FnManifest -/
noncomputable def laws_FnManifest (code : List UInt8) : Option Bool :=
  (laws_big code).bind fun R1 =>
  if R1 = true then (some true)
  else ((spec_DrawReplay code).bind fun R5 =>
  (impl_Replay R5).bind fun R8 =>
  (spec_Replay R5).bind fun R11 =>
  (if (!(decide (R8.2 = R11.2))) = true then (some true)
  else ((laws_sameFiles R8.1 R11.1).bind fun R17 =>
  if (!R17) = true then (some true)
  else ((spec_FilesOk R8.1).bind fun R21 =>
  some (!R21)))).bind (fun (T14 : Bool) =>
  if T14 = true then (some false)
  else (bindC (if (decide (R8.2 > (0 : Int))) = true then ((laws_at code (0 : Int)).bind fun R28 =>
  (nz (IntKind.i64.wrap (R8.2 + (1 : Int)))).bind fun E31 =>
  some (.go (Int.tmod R28 (IntKind.i64.wrap (R8.2 + (1 : Int))))))
  else (some (.go (0 : Int))))
  (fun (T25 : Int) => (piece R5 (0 : Int) T25).bind fun E33 =>
  (impl_Replay E33).bind fun R35 =>
  bindC (loopO (fun (S38 : Int × List File) => if (decide (S38.1 < R8.2)) = true then ((idx R5 S38.1).bind fun E43 =>
  (impl_ReadEdit E43).bind fun R45 =>
  (impl_EditFiles S38.2 R45.1).bind fun R49 =>
  if (!R49.2) = true then (some (.done (.done false)))
  else (some (.go (IntKind.i64.wrap (S38.1 + (1 : Int)), R49.1))))
  else (some (.done (.go S38.2))))
  (T25, R35.1))
  (fun (T40 : List File) => (spec_DrawShowEdit code).bind fun R53 =>
  (impl_ShowEdit R53).bind fun R57 =>
  (impl_ReadEdit R57).bind fun R60 =>
  (spec_DrawReadEdit code).bind fun R64 =>
  (impl_ReadEdit R64).bind fun R67 =>
  (spec_ReadEdit R64).bind fun R71 =>
  (if (decide (R35.2 = T25)) = true then ((laws_sameFiles T40 R8.1).bind fun R78 =>
  if R78 = true then (if (decide (R60.2 = (!(decide (R57 = ([])))))) = true then (if (!R60.2) = true then (if (decide (R67.2 = R71.2)) = true then (if (!R67.2) = true then (some true)
  else ((impl_ShowEdit R67.1).bind fun R86 =>
  some (decide (R86 = R64))))
  else (some false))
  else ((impl_ShowEdit R60.1).bind fun R89 =>
  if (decide (R89 = R57)) = true then (if (decide (R67.2 = R71.2)) = true then (if (!R67.2) = true then (some true)
  else ((impl_ShowEdit R67.1).bind fun R95 =>
  some (decide (R95 = R64))))
  else (some false))
  else (some false)))
  else (some false))
  else (some false))
  else (some false)).bind (fun (T75 : Bool) =>
  some T75))))))

theorem laws_FnManifest_con (code : List UInt8) (V_code0 : Value) (r : Bool) (hm : laws_FnManifest code = some r) :
    Con Try.prog 3 [V_code0] [] [(V_code0, lc code)] (fun _ : Unit => .bool r) (fun _ => []) := by
  refine Con.intro (args := [V_code0]) (n := 150) (val := fun r (_ : Unit) => .bool r) (post := fun _ _ => []) (m := laws_FnManifest code) Try.func3 rfl rfl rfl hm ?_
  intro w S hrd
  have HB_V_code0 := hrd _ (.head _)
  clear hrd
  unfold laws_FnManifest
  refine TW.seq ?_
  refine TW.region ?_
  refine TO.y (Y.assign rfl) rfl rfl rfl ?_
  refine TO.nil ?_
  refine TE.next ?_
  refine TW.seq ?_
  refine TW.seq ?_
  refine TW.region ?_
  refine TO.y (Y.move rfl) rfl rfl rfl ?_
  refine TO.bind fun R1 H2 => ?_
  refine TO.ef (Ef.call (rest := []) [] (laws_big_con code V_code0 R1 H2) kc5 rfl rfl ⟨(Base.can HB_V_code0), trivial⟩) rfl rfl rfl (fun _ => ?_)
  refine TO.nil ?_
  refine TE.next ?_
  refine TW.cond rfl (fun H4 => ?_) (fun H4 => ?_)
  · refine TW.seq ?_
    refine TW.region ?_
    refine TO.y (Y.assign rfl) rfl rfl rfl ?_
    refine TO.nil ?_
    refine TE.next ?_
    refine TW.ret ?_
    refine TE.then_ret ?_
    exact TE.leaf fun _ _ hf_ hs_ => ret_any (rs := [.tmp 2]) (vs := [.bool true]) (.inl rfl) rfl ⟨rfl, trivial⟩ hf_ hs_ ⟨(), rfl, hs_.pulls [] rfl⟩
  · refine TW.skip ?_
    refine TE.next ?_
    refine TW.seq ?_
    refine TW.region ?_
    refine TO.y (Y.move rfl) rfl rfl rfl ?_
    refine TO.bind fun R5 H6 => ?_
    refine TO.ef (Ef.call (rest := []) [] (spec_DrawReplay_con code V_code0 R5 H6) kc6 rfl rfl ⟨(Base.can HB_V_code0), trivial⟩) rfl rfl rfl (fun Y7 => ?_)
    refine TO.y (Y.assign rfl) rfl rfl rfl ?_
    refine TO.nil ?_
    refine TE.next ?_
    refine TW.seq ?_
    refine TW.region ?_
    refine TO.y (Y.move rfl) rfl rfl rfl ?_
    refine TO.bind fun R8 H9 => ?_
    refine TO.ef (Ef.call (rest := [.own Y7 (lc R5)]) [0] (impl_Replay_con R5 Y7 R8 H9) kc7 rfl rfl ⟨(Can.own 0 rfl), trivial⟩) rfl rfl rfl (fun Y10 => ?_)
    refine TO.y (Y.move rfl) rfl rfl rfl ?_
    refine TO.y (Y.extract rfl rfl) rfl rfl rfl ?_
    refine TO.y (Y.extract rfl rfl) rfl rfl rfl ?_
    refine TO.y (Y.assign rfl) rfl rfl rfl ?_
    refine TO.y (Y.assign rfl) rfl rfl rfl ?_
    refine TO.nil ?_
    refine TE.next ?_
    refine TW.seq ?_
    refine TW.region ?_
    refine TO.y (Y.move rfl) rfl rfl rfl ?_
    refine TO.bind fun R11 H12 => ?_
    refine TO.ef (Ef.call (rest := [.own Y10 (lc R8.1), .own Y7 (lc R5)]) [0, 0] (spec_Replay_con R5 Y7 R11 H12) kc8 rfl rfl ⟨(Can.own 1 rfl), trivial⟩) rfl rfl rfl (fun Y13 => ?_)
    refine TO.y (Y.move rfl) rfl rfl rfl ?_
    refine TO.y (Y.extract rfl rfl) rfl rfl rfl ?_
    refine TO.y (Y.extract rfl rfl) rfl rfl rfl ?_
    refine TO.y (Y.assign rfl) rfl rfl rfl ?_
    refine TO.y (Y.assign rfl) rfl rfl rfl ?_
    refine TO.nil ?_
    refine TE.next ?_
    refine TW.seq ?_
    refine TW.seq ?_
    refine TW.joinBX (τ := Bool) (X := Unit) (fun T _ => [(0, V_code0), (3, Y7), (4, Y10), (5, .int .i64 R8.2), (52, .bool T)]) (fun _ _ => [.own Y7 (lc R5), .own Y10 (lc R8.1)]) ?_ (fun T14 X15 => ?_)
    · refine TW.region ?_
      refine TO.y (Y.move rfl) rfl rfl rfl ?_
      refine TO.y (Y.move rfl) rfl rfl rfl ?_
      refine TO.y (Y.neq rfl rfl) rfl rfl rfl ?_
      refine TO.y (Y.move rfl) rfl rfl rfl ?_
      refine TO.ite (b := !(decide (R8.2 = R11.2))) (fun H16 => ?_) (fun H16 => ?_)
      · refine TO.off (Gd.at 3 false 42 (!(decide (R8.2 = R11.2))) rfl rfl rfl (beq_tf H16)) rfl rfl ?_
        refine TO.off (Gd.at 3 false 42 (!(decide (R8.2 = R11.2))) rfl rfl rfl (beq_tf H16)) rfl rfl ?_
        refine TO.off (Gd.at 3 false 42 (!(decide (R8.2 = R11.2))) rfl rfl rfl (beq_tf H16)) rfl rfl ?_
        refine TO.off (Gd.at 3 false 42 (!(decide (R8.2 = R11.2))) rfl rfl rfl (beq_tf H16)) rfl rfl ?_
        refine TO.y (Y.pick_t H16 rfl rfl) rfl rfl rfl ?_
        refine TO.y (Y.move rfl) rfl rfl rfl ?_
        refine TO.off (Gd.at 9 false 48 true rfl rfl rfl rfl) rfl rfl ?_
        refine TO.off (Gd.at 9 false 48 true rfl rfl rfl rfl) rfl rfl ?_
        refine TO.off (Gd.at 9 false 48 true rfl rfl rfl rfl) rfl rfl ?_
        refine TO.y (Y.pick_t rfl rfl rfl) rfl rfl rfl ?_
        refine TO.nil ?_
        exact TE.jb_go () [2, 1] ⟨rfl, rfl, rfl, rfl, rfl, trivial⟩ rfl
      · refine TO.y (Y.move rfl) (Gd.at 3 false 42 (!(decide (R8.2 = R11.2))) rfl rfl rfl (beq_ff H16)) rfl rfl ?_
        refine TO.y (Y.move rfl) (Gd.at 3 false 42 (!(decide (R8.2 = R11.2))) rfl rfl rfl (beq_ff H16)) rfl rfl ?_
        refine TO.bind fun R17 H18 => ?_
        refine TO.ef (Ef.call (rest := [.own Y13 (lc R11.1), .own Y10 (lc R8.1), .own Y7 (lc R5)]) [0, 0, 0] (laws_sameFiles_con R8.1 R11.1 Y10 Y13 R17 H18) kc9 rfl rfl ⟨(Can.own 1 rfl), (Can.own 0 rfl), trivial⟩) (Gd.at 3 false 42 (!(decide (R8.2 = R11.2))) rfl rfl rfl (beq_ff H16)) rfl rfl (fun _ => ?_)
        refine TO.y (Y.not rfl) (Gd.at 3 false 42 (!(decide (R8.2 = R11.2))) rfl rfl rfl (beq_ff H16)) rfl rfl ?_
        refine TO.y (Y.pick_f H16 rfl rfl) rfl rfl rfl ?_
        refine TO.y (Y.move rfl) rfl rfl rfl ?_
        refine TO.ite (b := !R17) (fun H20 => ?_) (fun H20 => ?_)
        · refine TO.off (Gd.at 9 false 48 (!R17) rfl rfl rfl (beq_tf H20)) rfl rfl ?_
          refine TO.off (Gd.at 9 false 48 (!R17) rfl rfl rfl (beq_tf H20)) rfl rfl ?_
          refine TO.off (Gd.at 9 false 48 (!R17) rfl rfl rfl (beq_tf H20)) rfl rfl ?_
          refine TO.y (Y.pick_t H20 rfl rfl) rfl rfl rfl ?_
          refine TO.nil ?_
          exact TE.jb_go () [2, 1] ⟨rfl, rfl, rfl, rfl, rfl, trivial⟩ rfl
        · refine TO.y (Y.move rfl) (Gd.at 9 false 48 (!R17) rfl rfl rfl (beq_ff H20)) rfl rfl ?_
          refine TO.bind fun R21 H22 => ?_
          refine TO.ef (Ef.call (rest := [.own Y13 (lc R11.1), .own Y10 (lc R8.1), .own Y7 (lc R5)]) [0, 0, 0] (spec_FilesOk_con R8.1 Y10 R21 H22) kc10 rfl rfl ⟨(Can.own 1 rfl), trivial⟩) (Gd.at 9 false 48 (!R17) rfl rfl rfl (beq_ff H20)) rfl rfl (fun _ => ?_)
          refine TO.y (Y.not rfl) (Gd.at 9 false 48 (!R17) rfl rfl rfl (beq_ff H20)) rfl rfl ?_
          refine TO.y (Y.pick_f H20 rfl rfl) rfl rfl rfl ?_
          refine TO.nil ?_
          exact TE.jb_go () [2, 1] ⟨rfl, rfl, rfl, rfl, rfl, trivial⟩ rfl
    · refine TE.next ?_
      refine TW.cond rfl (fun H24 => ?_) (fun H24 => ?_)
      · refine TW.seq ?_
        refine TW.region ?_
        refine TO.y (Y.assign rfl) rfl rfl rfl ?_
        refine TO.nil ?_
        refine TE.next ?_
        refine TW.ret ?_
        refine TE.then_ret ?_
        exact TE.leaf fun _ _ hf_ hs_ => ret_any (rs := [.tmp 2]) (vs := [.bool false]) (.inl rfl) rfl ⟨rfl, trivial⟩ hf_ hs_ ⟨(), rfl, hs_.pulls [] rfl⟩
      · refine TW.skip ?_
        refine TE.next ?_
        refine TW.seq ?_
        refine TW.region ?_
        refine TO.y (Y.assign rfl) rfl rfl rfl ?_
        refine TO.nil ?_
        refine TE.next ?_
        refine TW.seq ?_
        refine TW.seq ?_
        refine TW.region ?_
        refine TO.y (Y.move rfl) rfl rfl rfl ?_
        refine TO.y (Y.gtr rfl rfl) rfl rfl rfl ?_
        refine TO.nil ?_
        refine TE.next ?_
        refine TW.joinX (τ := Int) (X := Unit) (fun T _ => [(0, V_code0), (3, Y7), (4, Y10), (5, .int .i64 R8.2), (8, .int .i64 T)]) (fun _ _ => [.own Y7 (lc R5), .own Y10 (lc R8.1)]) ?_ (fun T25 X26 => ?_)
        · refine TW.cond rfl (fun H27 => ?_) (fun H27 => ?_)
          · refine TW.region ?_
            refine TO.y (Y.move rfl) rfl rfl rfl ?_
            refine TO.bind fun R28 H29 => ?_
            refine TO.ef (Ef.call (rest := [.own Y7 (lc R5), .own Y10 (lc R8.1)]) [0, 0] (laws_at_con code (0 : Int) V_code0 R28 H29) kc11 rfl rfl ⟨(Base.can HB_V_code0), trivial⟩) rfl rfl rfl (fun _ => ?_)
            refine TO.y (Y.move rfl) rfl rfl rfl ?_
            refine TO.y (Y.add rfl rfl) rfl rfl rfl ?_
            refine TO.bind fun E31 H32 => ?_
            refine TO.y (Y.rem (nz_ne H32) rfl rfl) rfl rfl rfl ?_
            refine TO.y (Y.assign rfl) rfl rfl rfl ?_
            refine TO.nil ?_
            exact TE.jn_go () [0, 0] ⟨rfl, rfl, rfl, rfl, rfl, trivial⟩ rfl
          · refine TW.skip ?_
            exact TE.jn_go () [0, 0] ⟨rfl, rfl, rfl, rfl, rfl, trivial⟩ rfl
        · refine TE.next ?_
          refine TW.seq ?_
          refine TW.region ?_
          refine TO.y (Y.move rfl) rfl rfl rfl ?_
          refine TO.y (Y.move rfl) rfl rfl rfl ?_
          refine TO.bind fun E33 H34 => ?_
          refine TO.y (Y.subs H34 ke24 (Can.own 0 rfl) rfl rfl ⟨_, rfl⟩) rfl rfl rfl ?_
          refine TO.bind fun R35 H36 => ?_
          refine TO.ef (Ef.call (rest := [.own Y7 (lc R5), .own Y10 (lc R8.1)]) [0, 0] (impl_Replay_con E33 (subV Y7 1 (0 : Int).toNat (T25.toNat - (0 : Int).toNat)) R35 H36) kc7 rfl rfl ⟨(Can.sub H34 rfl (Can.own 0 rfl)), trivial⟩) rfl rfl rfl (fun Y37 => ?_)
          refine TO.y (Y.move rfl) rfl rfl rfl ?_
          refine TO.y (Y.extract rfl rfl) rfl rfl rfl ?_
          refine TO.y (Y.extract rfl rfl) rfl rfl rfl ?_
          refine TO.y (Y.assign rfl) rfl rfl rfl ?_
          refine TO.y (Y.assign rfl) rfl rfl rfl ?_
          refine TO.nil ?_
          refine TE.next ?_
          refine TW.seq ?_
          refine TW.seq ?_
          refine TW.region ?_
          refine TO.y (Y.move rfl) rfl rfl rfl ?_
          refine TO.y (Y.assign rfl) rfl rfl rfl ?_
          refine TO.nil ?_
          refine TE.next ?_
          refine TW.joinX (τ := List File) (X := Value) (fun _ X => [(0, V_code0), (4, Y10), (8, .int .i64 T25), (9, X), (10, .int .i64 R35.2)]) (fun T X => [.own Y10 (lc R8.1), .own X (lc T)]) ?_ (fun T40 X41 => ?_)
          · refine TW.block ?_
            refine TW.loopX (σ := Int × List File) (X := Value) (fun T X => [(0, V_code0), (3, Y7), (4, Y10), (5, .int .i64 R8.2), (8, .int .i64 T25), (9, X), (10, .int .i64 R35.2), (11, .int .i64 T.1)]) (fun T X => [.own Y7 (lc R5), .own Y10 (lc R8.1), .own X (lc T.2)]) Y37 [1, 1, 0] ⟨rfl, rfl, rfl, rfl, rfl, rfl, rfl, rfl, trivial⟩ rfl (fun S38 X39 => ?_)
            refine TW.seq ?_
            refine TW.seq ?_
            refine TW.region ?_
            refine TO.y (Y.move rfl) rfl rfl rfl ?_
            refine TO.y (Y.move rfl) rfl rfl rfl ?_
            refine TO.y (Y.lss rfl rfl) rfl rfl rfl ?_
            refine TO.nil ?_
            refine TE.next ?_
            refine TW.cond rfl (fun H42 => ?_) (fun H42 => ?_)
            · refine TW.skip ?_
              refine TE.next ?_
              refine TW.seq ?_
              refine TW.block ?_
              refine TW.seq ?_
              refine TW.region ?_
              refine TO.y (Y.move rfl) rfl rfl rfl ?_
              refine TO.y (Y.move rfl) rfl rfl rfl ?_
              refine TO.bind fun E43 H44 => ?_
              refine TO.y (Y.index ke24 (Can.own 0 rfl) H44 rfl rfl) rfl rfl rfl ?_
              refine TO.y (Y.load_el (us := [strV E43]) (u := strV E43) kk9 rfl (Can.own 0 rfl) (idx_get H44).2.2 rfl rfl rfl rfl rfl) rfl rfl rfl ?_
              refine TO.bind fun R45 H46 => ?_
              refine TO.ef (Ef.call (rest := [.own Y7 (lc R5), .own Y10 (lc R8.1), .own X39 (lc S38.2)]) [0, 0, 0] (impl_ReadEdit_con E43  R45 H46) kc12 rfl rfl trivial) rfl rfl rfl (fun Y47 => ?_)
              refine TO.y (Y.move rfl) rfl rfl rfl ?_
              refine TO.y (Y.extract rfl rfl) rfl rfl rfl ?_
              refine TO.y (Y.extract rfl rfl) rfl rfl rfl ?_
              refine TO.ef (Ef.alloc kz34 rfl) rfl rfl rfl (fun B48 => ?_)
              refine TO.ef0 (Ef.store_box (us := [Y47.1, Y47.2]) (vs' := [Y47.1, Y47.2]) (is' := [.box B48 34 [Y47.1, Y47.2], .own Y47.1 (lc R45.1.Add), .own Y47.2 (lc R45.1.Drop), .own Y7 (lc R5), .own Y10 (lc R8.1), .own X39 (lc S38.2)]) 0 kk34 rfl rfl rfl (Cel.agg ⟨(One.can (Can.own 1 rfl)), (One.can (Can.own 2 rfl)), trivial⟩) rfl rfl rfl rfl) rfl rfl (fun _ => ?_)
              refine TO.y (Y.assign rfl) rfl rfl rfl ?_
              refine TO.nil ?_
              refine TE.next ?_
              refine TW.seq ?_
              refine TW.region ?_
              refine TO.y (Y.move rfl) rfl rfl rfl ?_
              refine TO.y (Y.load_box (v := .agg #[Y47.1, Y47.2]) 0 kk34 rfl rfl rfl) rfl rfl rfl ?_
              refine TO.bind fun R49 H50 => ?_
              refine TO.ef (Ef.call (rest := [.box B48 34 [Y47.1, Y47.2], .own Y47.1 (lc R45.1.Add), .own Y47.2 (lc R45.1.Drop), .own Y7 (lc R5), .own Y10 (lc R8.1), .own X39 (lc S38.2)]) [0, 0, 0, 0, 0, 0] (impl_EditFiles_con S38.2 R45.1 X39 Y47.1 Y47.2 R49 H50) kc13 rfl rfl ⟨(Can.own 5 rfl), (Can.own 1 rfl), (Can.own 2 rfl), trivial⟩) rfl rfl rfl (fun Y51 => ?_)
              refine TO.y (Y.move rfl) rfl rfl rfl ?_
              refine TO.y (Y.extract rfl rfl) rfl rfl rfl ?_
              refine TO.y (Y.extract rfl rfl) rfl rfl rfl ?_
              refine TO.y (Y.assign rfl) rfl rfl rfl ?_
              refine TO.y (Y.assign rfl) rfl rfl rfl ?_
              refine TO.nil ?_
              refine TE.next ?_
              refine TW.seq ?_
              refine TW.seq ?_
              refine TW.region ?_
              refine TO.y (Y.move rfl) rfl rfl rfl ?_
              refine TO.y (Y.not rfl) rfl rfl rfl ?_
              refine TO.nil ?_
              refine TE.next ?_
              refine TW.cond rfl (fun H52 => ?_) (fun H52 => ?_)
              · refine TW.seq ?_
                refine TW.region ?_
                refine TO.y (Y.assign rfl) rfl rfl rfl ?_
                refine TO.nil ?_
                refine TE.next ?_
                refine TW.ret ?_
                refine TE.then_ret ?_
                refine TE.block_ret ?_
                refine TE.then_ret ?_
                refine TE.lp_ret ?_
                refine TE.block_ret ?_
                refine TE.jn_done ?_
                refine TE.then_ret ?_
                exact TE.leaf fun _ _ hf_ hs_ => ret_any (rs := [.tmp 2]) (vs := [.bool false]) (.inl rfl) rfl ⟨rfl, trivial⟩ hf_ hs_ ⟨(), rfl, hs_.pulls [] rfl⟩
              · refine TW.skip ?_
                refine TE.next ?_
                refine TW.region ?_
                refine TO.y (Y.move rfl) rfl rfl rfl ?_
                refine TO.y (Y.assign rfl) rfl rfl rfl ?_
                refine TO.nil ?_
                refine TE.block_normal ?_
                refine TE.next ?_
                refine TW.region ?_
                refine TO.y (Y.move rfl) rfl rfl rfl ?_
                refine TO.y (Y.add rfl rfl) rfl rfl rfl ?_
                refine TO.y (Y.assign rfl) rfl rfl rfl ?_
                refine TO.nil ?_
                exact TE.lp_go Y51 [4, 4, 0] ⟨rfl, rfl, rfl, rfl, rfl, rfl, rfl, rfl, trivial⟩ rfl
            · refine TW.exit ?_
              refine TE.then_exit ?_
              refine TE.lp_exit ?_
              refine TE.block_exit ?_
              exact TE.jn_go X39 [1, 1] ⟨rfl, rfl, rfl, rfl, rfl, trivial⟩ rfl
          · refine TE.next ?_
            refine TW.seq ?_
            refine TW.region ?_
            refine TO.y (Y.move rfl) rfl rfl rfl ?_
            refine TO.bind fun R53 H54 => ?_
            refine TO.ef (Ef.call (rest := [.own Y10 (lc R8.1), .own X41 (lc T40)]) [0, 0] (spec_DrawShowEdit_con code V_code0 R53 H54) kc14 rfl rfl ⟨(Base.can HB_V_code0), trivial⟩) rfl rfl rfl (fun Y55 => ?_)
            refine TO.ef (Ef.alloc kz34 rfl) rfl rfl rfl (fun B56 => ?_)
            refine TO.ef0 (Ef.store_box (us := [Y55.1, Y55.2]) (vs' := [Y55.1, Y55.2]) (is' := [.box B56 34 [Y55.1, Y55.2], .own Y55.1 (lc R53.Add), .own Y55.2 (lc R53.Drop), .own Y10 (lc R8.1), .own X41 (lc T40)]) 0 kk34 rfl rfl rfl (Cel.agg ⟨(One.can (Can.own 1 rfl)), (One.can (Can.own 2 rfl)), trivial⟩) rfl rfl rfl rfl) rfl rfl (fun _ => ?_)
            refine TO.nil ?_
            refine TE.next ?_
            refine TW.seq ?_
            refine TW.region ?_
            refine TO.y (Y.load_box (v := .agg #[Y55.1, Y55.2]) 0 kk34 rfl rfl rfl) rfl rfl rfl ?_
            refine TO.bind fun R57 H58 => ?_
            refine TO.ef (Ef.call (rest := [.box B56 34 [Y55.1, Y55.2], .own Y55.1 (lc R53.Add), .own Y55.2 (lc R53.Drop), .own Y10 (lc R8.1), .own X41 (lc T40)]) [0, 0, 0, 0, 0] (impl_ShowEdit_con R53 Y55.1 Y55.2 R57 H58) kc15 rfl rfl ⟨(Can.own 1 rfl), (Can.own 2 rfl), trivial⟩) rfl rfl rfl (fun _ => ?_)
            refine TO.y (Y.assign rfl) rfl rfl rfl ?_
            refine TO.nil ?_
            refine TE.next ?_
            refine TW.seq ?_
            refine TW.region ?_
            refine TO.y (Y.move rfl) rfl rfl rfl ?_
            refine TO.bind fun R60 H61 => ?_
            refine TO.ef (Ef.call (rest := [.box B56 34 [Y55.1, Y55.2], .own Y55.1 (lc R53.Add), .own Y55.2 (lc R53.Drop), .own Y10 (lc R8.1), .own X41 (lc T40)]) [0, 0, 0, 0, 0] (impl_ReadEdit_con R57  R60 H61) kc12 rfl rfl trivial) rfl rfl rfl (fun Y62 => ?_)
            refine TO.y (Y.move rfl) rfl rfl rfl ?_
            refine TO.y (Y.extract rfl rfl) rfl rfl rfl ?_
            refine TO.y (Y.extract rfl rfl) rfl rfl rfl ?_
            refine TO.ef (Ef.alloc kz34 rfl) rfl rfl rfl (fun B63 => ?_)
            refine TO.ef0 (Ef.store_box (us := [Y62.1, Y62.2]) (vs' := [Y62.1, Y62.2]) (is' := [.box B63 34 [Y62.1, Y62.2], .own Y62.1 (lc R60.1.Add), .own Y62.2 (lc R60.1.Drop), .box B56 34 [Y55.1, Y55.2], .own Y55.1 (lc R53.Add), .own Y55.2 (lc R53.Drop), .own Y10 (lc R8.1), .own X41 (lc T40)]) 0 kk34 rfl rfl rfl (Cel.agg ⟨(One.can (Can.own 1 rfl)), (One.can (Can.own 2 rfl)), trivial⟩) rfl rfl rfl rfl) rfl rfl (fun _ => ?_)
            refine TO.y (Y.assign rfl) rfl rfl rfl ?_
            refine TO.nil ?_
            refine TE.next ?_
            refine TW.seq ?_
            refine TW.region ?_
            refine TO.y (Y.move rfl) rfl rfl rfl ?_
            refine TO.bind fun R64 H65 => ?_
            refine TO.ef (Ef.call (rest := [.box B63 34 [Y62.1, Y62.2], .own Y62.1 (lc R60.1.Add), .own Y62.2 (lc R60.1.Drop), .box B56 34 [Y55.1, Y55.2], .own Y55.1 (lc R53.Add), .own Y55.2 (lc R53.Drop), .own Y10 (lc R8.1), .own X41 (lc T40)]) [0, 0, 0, 0, 0, 0, 0, 0] (spec_DrawReadEdit_con code V_code0 R64 H65) kc16 rfl rfl ⟨(Base.can HB_V_code0), trivial⟩) rfl rfl rfl (fun _ => ?_)
            refine TO.y (Y.assign rfl) rfl rfl rfl ?_
            refine TO.nil ?_
            refine TE.next ?_
            refine TW.seq ?_
            refine TW.region ?_
            refine TO.y (Y.move rfl) rfl rfl rfl ?_
            refine TO.bind fun R67 H68 => ?_
            refine TO.ef (Ef.call (rest := [.box B63 34 [Y62.1, Y62.2], .own Y62.1 (lc R60.1.Add), .own Y62.2 (lc R60.1.Drop), .box B56 34 [Y55.1, Y55.2], .own Y55.1 (lc R53.Add), .own Y55.2 (lc R53.Drop), .own Y10 (lc R8.1), .own X41 (lc T40)]) [0, 0, 0, 0, 0, 0, 0, 0] (impl_ReadEdit_con R64  R67 H68) kc12 rfl rfl trivial) rfl rfl rfl (fun Y69 => ?_)
            refine TO.y (Y.move rfl) rfl rfl rfl ?_
            refine TO.y (Y.extract rfl rfl) rfl rfl rfl ?_
            refine TO.y (Y.extract rfl rfl) rfl rfl rfl ?_
            refine TO.ef (Ef.alloc kz34 rfl) rfl rfl rfl (fun B70 => ?_)
            refine TO.ef0 (Ef.store_box (us := [Y69.1, Y69.2]) (vs' := [Y69.1, Y69.2]) (is' := [.box B70 34 [Y69.1, Y69.2], .own Y69.1 (lc R67.1.Add), .own Y69.2 (lc R67.1.Drop), .box B63 34 [Y62.1, Y62.2], .own Y62.1 (lc R60.1.Add), .own Y62.2 (lc R60.1.Drop), .box B56 34 [Y55.1, Y55.2], .own Y55.1 (lc R53.Add), .own Y55.2 (lc R53.Drop), .own Y10 (lc R8.1), .own X41 (lc T40)]) 0 kk34 rfl rfl rfl (Cel.agg ⟨(One.can (Can.own 1 rfl)), (One.can (Can.own 2 rfl)), trivial⟩) rfl rfl rfl rfl) rfl rfl (fun _ => ?_)
            refine TO.y (Y.assign rfl) rfl rfl rfl ?_
            refine TO.nil ?_
            refine TE.next ?_
            refine TW.seq ?_
            refine TW.region ?_
            refine TO.y (Y.move rfl) rfl rfl rfl ?_
            refine TO.bind fun R71 H72 => ?_
            refine TO.ef (Ef.call (rest := [.box B70 34 [Y69.1, Y69.2], .own Y69.1 (lc R67.1.Add), .own Y69.2 (lc R67.1.Drop), .box B63 34 [Y62.1, Y62.2], .own Y62.1 (lc R60.1.Add), .own Y62.2 (lc R60.1.Drop), .box B56 34 [Y55.1, Y55.2], .own Y55.1 (lc R53.Add), .own Y55.2 (lc R53.Drop), .own Y10 (lc R8.1), .own X41 (lc T40)]) [0, 0, 0, 0, 0, 0, 0, 0, 0, 0, 0] (spec_ReadEdit_con R64  R71 H72) kc17 rfl rfl trivial) rfl rfl rfl (fun Y73 => ?_)
            refine TO.y (Y.move rfl) rfl rfl rfl ?_
            refine TO.y (Y.extract rfl rfl) rfl rfl rfl ?_
            refine TO.y (Y.extract rfl rfl) rfl rfl rfl ?_
            refine TO.ef (Ef.alloc kz34 rfl) rfl rfl rfl (fun B74 => ?_)
            refine TO.ef0 (Ef.store_box (us := [Y73.1, Y73.2]) (vs' := [Y73.1, Y73.2]) (is' := [.box B74 34 [Y73.1, Y73.2], .own Y73.1 (lc R71.1.Add), .own Y73.2 (lc R71.1.Drop), .box B70 34 [Y69.1, Y69.2], .own Y69.1 (lc R67.1.Add), .own Y69.2 (lc R67.1.Drop), .box B63 34 [Y62.1, Y62.2], .own Y62.1 (lc R60.1.Add), .own Y62.2 (lc R60.1.Drop), .box B56 34 [Y55.1, Y55.2], .own Y55.1 (lc R53.Add), .own Y55.2 (lc R53.Drop), .own Y10 (lc R8.1), .own X41 (lc T40)]) 0 kk34 rfl rfl rfl (Cel.agg ⟨(One.can (Can.own 1 rfl)), (One.can (Can.own 2 rfl)), trivial⟩) rfl rfl rfl rfl) rfl rfl (fun _ => ?_)
            refine TO.y (Y.assign rfl) rfl rfl rfl ?_
            refine TO.nil ?_
            refine TE.next ?_
            refine TW.seq ?_
            refine TW.joinBX (τ := Bool) (X := Unit) (fun T _ => [(2, .bool T)]) (fun _ _ => []) ?_ (fun T75 X76 => ?_)
            · refine TW.region ?_
              refine TO.y (Y.move rfl) rfl rfl rfl ?_
              refine TO.y (Y.move rfl) rfl rfl rfl ?_
              refine TO.y (Y.eql rfl rfl) rfl rfl rfl ?_
              refine TO.y (Y.move rfl) rfl rfl rfl ?_
              refine TO.ite (b := decide (R35.2 = T25)) (fun H77 => ?_) (fun H77 => ?_)
              · refine TO.y (Y.move rfl) (Gd.at 3 true 114 (decide (R35.2 = T25)) rfl rfl rfl (beq_tt H77)) rfl rfl ?_
                refine TO.y (Y.move rfl) (Gd.at 3 true 114 (decide (R35.2 = T25)) rfl rfl rfl (beq_tt H77)) rfl rfl ?_
                refine TO.bind fun R78 H79 => ?_
                refine TO.ef (Ef.call (rest := [.box B74 34 [Y73.1, Y73.2], .own Y73.1 (lc R71.1.Add), .own Y73.2 (lc R71.1.Drop), .box B70 34 [Y69.1, Y69.2], .own Y69.1 (lc R67.1.Add), .own Y69.2 (lc R67.1.Drop), .box B63 34 [Y62.1, Y62.2], .own Y62.1 (lc R60.1.Add), .own Y62.2 (lc R60.1.Drop), .box B56 34 [Y55.1, Y55.2], .own Y55.1 (lc R53.Add), .own Y55.2 (lc R53.Drop), .own Y10 (lc R8.1), .own X41 (lc T40)]) [0, 0, 0, 0, 0, 0, 0, 0, 0, 0, 0, 0, 0, 0] (laws_sameFiles_con T40 R8.1 X41 Y10 R78 H79) kc9 rfl rfl ⟨(Can.own 13 rfl), (Can.own 12 rfl), trivial⟩) (Gd.at 3 true 114 (decide (R35.2 = T25)) rfl rfl rfl (beq_tt H77)) rfl rfl (fun _ => ?_)
                refine TO.y (Y.pick_t H77 rfl rfl) rfl rfl rfl ?_
                refine TO.y (Y.move rfl) rfl rfl rfl ?_
                refine TO.ite (b := R78) (fun H81 => ?_) (fun H81 => ?_)
                · refine TO.y (Y.move rfl) (Gd.at 8 true 119 R78 rfl rfl rfl (beq_tt H81)) rfl rfl ?_
                  refine TO.y (Y.move rfl) (Gd.at 8 true 119 R78 rfl rfl rfl (beq_tt H81)) rfl rfl ?_
                  refine TO.y (Y.sneq rfl rfl) (Gd.at 8 true 119 R78 rfl rfl rfl (beq_tt H81)) rfl rfl ?_
                  refine TO.y (Y.eqb kb4 rfl rfl) (Gd.at 8 true 119 R78 rfl rfl rfl (beq_tt H81)) rfl rfl ?_
                  refine TO.y (Y.pick_t H81 rfl rfl) rfl rfl rfl ?_
                  refine TO.y (Y.move rfl) rfl rfl rfl ?_
                  refine TO.ite (b := decide (R60.2 = (!(decide (R57 = ([])))))) (fun H82 => ?_) (fun H82 => ?_)
                  · refine TO.y (Y.move rfl) (Gd.at 14 true 125 (decide (R60.2 = (!(decide (R57 = ([])))))) rfl rfl rfl (beq_tt H82)) rfl rfl ?_
                    refine TO.y (Y.not rfl) (Gd.at 14 true 125 (decide (R60.2 = (!(decide (R57 = ([])))))) rfl rfl rfl (beq_tt H82)) rfl rfl ?_
                    refine TO.y (Y.move rfl) (Gd.at 14 true 125 (decide (R60.2 = (!(decide (R57 = ([])))))) rfl rfl rfl (beq_tt H82)) rfl rfl ?_
                    refine TO.ite (b := !R60.2) (fun H83 => ?_) (fun H83 => ?_)
                    · refine TO.off (Gd.at 17 false 128 (!R60.2) rfl rfl rfl (beq_tf H83)) rfl rfl ?_
                      refine TO.off (Gd.at 17 false 128 (!R60.2) rfl rfl rfl (beq_tf H83)) rfl rfl ?_
                      refine TO.off (Gd.at 17 false 128 (!R60.2) rfl rfl rfl (beq_tf H83)) rfl rfl ?_
                      refine TO.off (Gd.at 17 false 128 (!R60.2) rfl rfl rfl (beq_tf H83)) rfl rfl ?_
                      refine TO.y (Y.pick_t H83 rfl rfl) (Gd.at 14 true 125 (decide (R60.2 = (!(decide (R57 = ([])))))) rfl rfl rfl (beq_tt H82)) rfl rfl ?_
                      refine TO.y (Y.pick_t H82 rfl rfl) rfl rfl rfl ?_
                      refine TO.y (Y.move rfl) rfl rfl rfl ?_
                      refine TO.y (Y.move rfl) (Gd.at 24 true 135 true rfl rfl rfl rfl) rfl rfl ?_
                      refine TO.y (Y.move rfl) (Gd.at 24 true 135 true rfl rfl rfl rfl) rfl rfl ?_
                      refine TO.y (Y.eqb kb4 rfl rfl) (Gd.at 24 true 135 true rfl rfl rfl rfl) rfl rfl ?_
                      refine TO.y (Y.pick_t rfl rfl rfl) rfl rfl rfl ?_
                      refine TO.y (Y.move rfl) rfl rfl rfl ?_
                      refine TO.ite (b := decide (R67.2 = R71.2)) (fun H84 => ?_) (fun H84 => ?_)
                      · refine TO.y (Y.move rfl) (Gd.at 29 true 140 (decide (R67.2 = R71.2)) rfl rfl rfl (beq_tt H84)) rfl rfl ?_
                        refine TO.y (Y.not rfl) (Gd.at 29 true 140 (decide (R67.2 = R71.2)) rfl rfl rfl (beq_tt H84)) rfl rfl ?_
                        refine TO.y (Y.move rfl) (Gd.at 29 true 140 (decide (R67.2 = R71.2)) rfl rfl rfl (beq_tt H84)) rfl rfl ?_
                        refine TO.ite (b := !R67.2) (fun H85 => ?_) (fun H85 => ?_)
                        · refine TO.off (Gd.at 32 false 143 (!R67.2) rfl rfl rfl (beq_tf H85)) rfl rfl ?_
                          refine TO.off (Gd.at 32 false 143 (!R67.2) rfl rfl rfl (beq_tf H85)) rfl rfl ?_
                          refine TO.off (Gd.at 32 false 143 (!R67.2) rfl rfl rfl (beq_tf H85)) rfl rfl ?_
                          refine TO.off (Gd.at 32 false 143 (!R67.2) rfl rfl rfl (beq_tf H85)) rfl rfl ?_
                          refine TO.y (Y.pick_t H85 rfl rfl) (Gd.at 29 true 140 (decide (R67.2 = R71.2)) rfl rfl rfl (beq_tt H84)) rfl rfl ?_
                          refine TO.y (Y.pick_t H84 rfl rfl) rfl rfl rfl ?_
                          refine TO.y (Y.assign rfl) rfl rfl rfl ?_
                          refine TO.nil ?_
                          exact TE.jb_go () [] ⟨rfl, trivial⟩ rfl
                        · refine TO.y (Y.load_box (v := .agg #[Y69.1, Y69.2]) 3 kk34 rfl rfl rfl) (Gd.at 32 false 143 (!R67.2) rfl rfl rfl (beq_ff H85)) rfl rfl ?_
                          refine TO.bind fun R86 H87 => ?_
                          refine TO.ef (Ef.call (rest := [.box B74 34 [Y73.1, Y73.2], .own Y73.1 (lc R71.1.Add), .own Y73.2 (lc R71.1.Drop), .box B70 34 [Y69.1, Y69.2], .own Y69.1 (lc R67.1.Add), .own Y69.2 (lc R67.1.Drop), .box B63 34 [Y62.1, Y62.2], .own Y62.1 (lc R60.1.Add), .own Y62.2 (lc R60.1.Drop), .box B56 34 [Y55.1, Y55.2], .own Y55.1 (lc R53.Add), .own Y55.2 (lc R53.Drop), .own Y10 (lc R8.1), .own X41 (lc T40)]) [0, 0, 0, 0, 0, 0, 0, 0, 0, 0, 0, 0, 0, 0] (impl_ShowEdit_con R67.1 Y69.1 Y69.2 R86 H87) kc15 rfl rfl ⟨(Can.own 4 rfl), (Can.own 5 rfl), trivial⟩) (Gd.at 32 false 143 (!R67.2) rfl rfl rfl (beq_ff H85)) rfl rfl (fun _ => ?_)
                          refine TO.y (Y.move rfl) (Gd.at 32 false 143 (!R67.2) rfl rfl rfl (beq_ff H85)) rfl rfl ?_
                          refine TO.y (Y.seql rfl rfl) (Gd.at 32 false 143 (!R67.2) rfl rfl rfl (beq_ff H85)) rfl rfl ?_
                          refine TO.y (Y.pick_f H85 rfl rfl) (Gd.at 29 true 140 (decide (R67.2 = R71.2)) rfl rfl rfl (beq_tt H84)) rfl rfl ?_
                          refine TO.y (Y.pick_t H84 rfl rfl) rfl rfl rfl ?_
                          refine TO.y (Y.assign rfl) rfl rfl rfl ?_
                          refine TO.nil ?_
                          exact TE.jb_go () [] ⟨rfl, trivial⟩ rfl
                      · refine TO.off (Gd.at 29 true 140 (decide (R67.2 = R71.2)) rfl rfl rfl (beq_ft H84)) rfl rfl ?_
                        refine TO.off (Gd.at 29 true 140 (decide (R67.2 = R71.2)) rfl rfl rfl (beq_ft H84)) rfl rfl ?_
                        refine TO.off (Gd.at 29 true 140 (decide (R67.2 = R71.2)) rfl rfl rfl (beq_ft H84)) rfl rfl ?_
                        refine TO.off (Gd.un 32 false 143 rfl rfl rfl) rfl rfl ?_
                        refine TO.off (Gd.un 32 false 143 rfl rfl rfl) rfl rfl ?_
                        refine TO.off (Gd.un 32 false 143 rfl rfl rfl) rfl rfl ?_
                        refine TO.off (Gd.un 32 false 143 rfl rfl rfl) rfl rfl ?_
                        refine TO.off (Gd.at 29 true 140 (decide (R67.2 = R71.2)) rfl rfl rfl (beq_ft H84)) rfl rfl ?_
                        refine TO.y (Y.pick_f H84 rfl rfl) rfl rfl rfl ?_
                        refine TO.y (Y.assign rfl) rfl rfl rfl ?_
                        refine TO.nil ?_
                        exact TE.jb_go () [] ⟨rfl, trivial⟩ rfl
                    · refine TO.y (Y.load_box (v := .agg #[Y62.1, Y62.2]) 6 kk34 rfl rfl rfl) (Gd.at 17 false 128 (!R60.2) rfl rfl rfl (beq_ff H83)) rfl rfl ?_
                      refine TO.bind fun R89 H90 => ?_
                      refine TO.ef (Ef.call (rest := [.box B74 34 [Y73.1, Y73.2], .own Y73.1 (lc R71.1.Add), .own Y73.2 (lc R71.1.Drop), .box B70 34 [Y69.1, Y69.2], .own Y69.1 (lc R67.1.Add), .own Y69.2 (lc R67.1.Drop), .box B63 34 [Y62.1, Y62.2], .own Y62.1 (lc R60.1.Add), .own Y62.2 (lc R60.1.Drop), .box B56 34 [Y55.1, Y55.2], .own Y55.1 (lc R53.Add), .own Y55.2 (lc R53.Drop), .own Y10 (lc R8.1), .own X41 (lc T40)]) [0, 0, 0, 0, 0, 0, 0, 0, 0, 0, 0, 0, 0, 0] (impl_ShowEdit_con R60.1 Y62.1 Y62.2 R89 H90) kc15 rfl rfl ⟨(Can.own 7 rfl), (Can.own 8 rfl), trivial⟩) (Gd.at 17 false 128 (!R60.2) rfl rfl rfl (beq_ff H83)) rfl rfl (fun _ => ?_)
                      refine TO.y (Y.move rfl) (Gd.at 17 false 128 (!R60.2) rfl rfl rfl (beq_ff H83)) rfl rfl ?_
                      refine TO.y (Y.seql rfl rfl) (Gd.at 17 false 128 (!R60.2) rfl rfl rfl (beq_ff H83)) rfl rfl ?_
                      refine TO.y (Y.pick_f H83 rfl rfl) (Gd.at 14 true 125 (decide (R60.2 = (!(decide (R57 = ([])))))) rfl rfl rfl (beq_tt H82)) rfl rfl ?_
                      refine TO.y (Y.pick_t H82 rfl rfl) rfl rfl rfl ?_
                      refine TO.y (Y.move rfl) rfl rfl rfl ?_
                      refine TO.ite (b := decide (R89 = R57)) (fun H92 => ?_) (fun H92 => ?_)
                      · refine TO.y (Y.move rfl) (Gd.at 24 true 135 (decide (R89 = R57)) rfl rfl rfl (beq_tt H92)) rfl rfl ?_
                        refine TO.y (Y.move rfl) (Gd.at 24 true 135 (decide (R89 = R57)) rfl rfl rfl (beq_tt H92)) rfl rfl ?_
                        refine TO.y (Y.eqb kb4 rfl rfl) (Gd.at 24 true 135 (decide (R89 = R57)) rfl rfl rfl (beq_tt H92)) rfl rfl ?_
                        refine TO.y (Y.pick_t H92 rfl rfl) rfl rfl rfl ?_
                        refine TO.y (Y.move rfl) rfl rfl rfl ?_
                        refine TO.ite (b := decide (R67.2 = R71.2)) (fun H93 => ?_) (fun H93 => ?_)
                        · refine TO.y (Y.move rfl) (Gd.at 29 true 140 (decide (R67.2 = R71.2)) rfl rfl rfl (beq_tt H93)) rfl rfl ?_
                          refine TO.y (Y.not rfl) (Gd.at 29 true 140 (decide (R67.2 = R71.2)) rfl rfl rfl (beq_tt H93)) rfl rfl ?_
                          refine TO.y (Y.move rfl) (Gd.at 29 true 140 (decide (R67.2 = R71.2)) rfl rfl rfl (beq_tt H93)) rfl rfl ?_
                          refine TO.ite (b := !R67.2) (fun H94 => ?_) (fun H94 => ?_)
                          · refine TO.off (Gd.at 32 false 143 (!R67.2) rfl rfl rfl (beq_tf H94)) rfl rfl ?_
                            refine TO.off (Gd.at 32 false 143 (!R67.2) rfl rfl rfl (beq_tf H94)) rfl rfl ?_
                            refine TO.off (Gd.at 32 false 143 (!R67.2) rfl rfl rfl (beq_tf H94)) rfl rfl ?_
                            refine TO.off (Gd.at 32 false 143 (!R67.2) rfl rfl rfl (beq_tf H94)) rfl rfl ?_
                            refine TO.y (Y.pick_t H94 rfl rfl) (Gd.at 29 true 140 (decide (R67.2 = R71.2)) rfl rfl rfl (beq_tt H93)) rfl rfl ?_
                            refine TO.y (Y.pick_t H93 rfl rfl) rfl rfl rfl ?_
                            refine TO.y (Y.assign rfl) rfl rfl rfl ?_
                            refine TO.nil ?_
                            exact TE.jb_go () [] ⟨rfl, trivial⟩ rfl
                          · refine TO.y (Y.load_box (v := .agg #[Y69.1, Y69.2]) 3 kk34 rfl rfl rfl) (Gd.at 32 false 143 (!R67.2) rfl rfl rfl (beq_ff H94)) rfl rfl ?_
                            refine TO.bind fun R95 H96 => ?_
                            refine TO.ef (Ef.call (rest := [.box B74 34 [Y73.1, Y73.2], .own Y73.1 (lc R71.1.Add), .own Y73.2 (lc R71.1.Drop), .box B70 34 [Y69.1, Y69.2], .own Y69.1 (lc R67.1.Add), .own Y69.2 (lc R67.1.Drop), .box B63 34 [Y62.1, Y62.2], .own Y62.1 (lc R60.1.Add), .own Y62.2 (lc R60.1.Drop), .box B56 34 [Y55.1, Y55.2], .own Y55.1 (lc R53.Add), .own Y55.2 (lc R53.Drop), .own Y10 (lc R8.1), .own X41 (lc T40)]) [0, 0, 0, 0, 0, 0, 0, 0, 0, 0, 0, 0, 0, 0] (impl_ShowEdit_con R67.1 Y69.1 Y69.2 R95 H96) kc15 rfl rfl ⟨(Can.own 4 rfl), (Can.own 5 rfl), trivial⟩) (Gd.at 32 false 143 (!R67.2) rfl rfl rfl (beq_ff H94)) rfl rfl (fun _ => ?_)
                            refine TO.y (Y.move rfl) (Gd.at 32 false 143 (!R67.2) rfl rfl rfl (beq_ff H94)) rfl rfl ?_
                            refine TO.y (Y.seql rfl rfl) (Gd.at 32 false 143 (!R67.2) rfl rfl rfl (beq_ff H94)) rfl rfl ?_
                            refine TO.y (Y.pick_f H94 rfl rfl) (Gd.at 29 true 140 (decide (R67.2 = R71.2)) rfl rfl rfl (beq_tt H93)) rfl rfl ?_
                            refine TO.y (Y.pick_t H93 rfl rfl) rfl rfl rfl ?_
                            refine TO.y (Y.assign rfl) rfl rfl rfl ?_
                            refine TO.nil ?_
                            exact TE.jb_go () [] ⟨rfl, trivial⟩ rfl
                        · refine TO.off (Gd.at 29 true 140 (decide (R67.2 = R71.2)) rfl rfl rfl (beq_ft H93)) rfl rfl ?_
                          refine TO.off (Gd.at 29 true 140 (decide (R67.2 = R71.2)) rfl rfl rfl (beq_ft H93)) rfl rfl ?_
                          refine TO.off (Gd.at 29 true 140 (decide (R67.2 = R71.2)) rfl rfl rfl (beq_ft H93)) rfl rfl ?_
                          refine TO.off (Gd.un 32 false 143 rfl rfl rfl) rfl rfl ?_
                          refine TO.off (Gd.un 32 false 143 rfl rfl rfl) rfl rfl ?_
                          refine TO.off (Gd.un 32 false 143 rfl rfl rfl) rfl rfl ?_
                          refine TO.off (Gd.un 32 false 143 rfl rfl rfl) rfl rfl ?_
                          refine TO.off (Gd.at 29 true 140 (decide (R67.2 = R71.2)) rfl rfl rfl (beq_ft H93)) rfl rfl ?_
                          refine TO.y (Y.pick_f H93 rfl rfl) rfl rfl rfl ?_
                          refine TO.y (Y.assign rfl) rfl rfl rfl ?_
                          refine TO.nil ?_
                          exact TE.jb_go () [] ⟨rfl, trivial⟩ rfl
                      · refine TO.off (Gd.at 24 true 135 (decide (R89 = R57)) rfl rfl rfl (beq_ft H92)) rfl rfl ?_
                        refine TO.off (Gd.at 24 true 135 (decide (R89 = R57)) rfl rfl rfl (beq_ft H92)) rfl rfl ?_
                        refine TO.off (Gd.at 24 true 135 (decide (R89 = R57)) rfl rfl rfl (beq_ft H92)) rfl rfl ?_
                        refine TO.y (Y.pick_f H92 rfl rfl) rfl rfl rfl ?_
                        refine TO.y (Y.move rfl) rfl rfl rfl ?_
                        refine TO.off (Gd.at 29 true 140 false rfl rfl rfl rfl) rfl rfl ?_
                        refine TO.off (Gd.at 29 true 140 false rfl rfl rfl rfl) rfl rfl ?_
                        refine TO.off (Gd.at 29 true 140 false rfl rfl rfl rfl) rfl rfl ?_
                        refine TO.off (Gd.un 32 false 143 rfl rfl rfl) rfl rfl ?_
                        refine TO.off (Gd.un 32 false 143 rfl rfl rfl) rfl rfl ?_
                        refine TO.off (Gd.un 32 false 143 rfl rfl rfl) rfl rfl ?_
                        refine TO.off (Gd.un 32 false 143 rfl rfl rfl) rfl rfl ?_
                        refine TO.off (Gd.at 29 true 140 false rfl rfl rfl rfl) rfl rfl ?_
                        refine TO.y (Y.pick_f rfl rfl rfl) rfl rfl rfl ?_
                        refine TO.y (Y.assign rfl) rfl rfl rfl ?_
                        refine TO.nil ?_
                        exact TE.jb_go () [] ⟨rfl, trivial⟩ rfl
                  · refine TO.off (Gd.at 14 true 125 (decide (R60.2 = (!(decide (R57 = ([])))))) rfl rfl rfl (beq_ft H82)) rfl rfl ?_
                    refine TO.off (Gd.at 14 true 125 (decide (R60.2 = (!(decide (R57 = ([])))))) rfl rfl rfl (beq_ft H82)) rfl rfl ?_
                    refine TO.off (Gd.at 14 true 125 (decide (R60.2 = (!(decide (R57 = ([])))))) rfl rfl rfl (beq_ft H82)) rfl rfl ?_
                    refine TO.off (Gd.un 17 false 128 rfl rfl rfl) rfl rfl ?_
                    refine TO.off (Gd.un 17 false 128 rfl rfl rfl) rfl rfl ?_
                    refine TO.off (Gd.un 17 false 128 rfl rfl rfl) rfl rfl ?_
                    refine TO.off (Gd.un 17 false 128 rfl rfl rfl) rfl rfl ?_
                    refine TO.off (Gd.at 14 true 125 (decide (R60.2 = (!(decide (R57 = ([])))))) rfl rfl rfl (beq_ft H82)) rfl rfl ?_
                    refine TO.y (Y.pick_f H82 rfl rfl) rfl rfl rfl ?_
                    refine TO.y (Y.move rfl) rfl rfl rfl ?_
                    refine TO.off (Gd.at 24 true 135 false rfl rfl rfl rfl) rfl rfl ?_
                    refine TO.off (Gd.at 24 true 135 false rfl rfl rfl rfl) rfl rfl ?_
                    refine TO.off (Gd.at 24 true 135 false rfl rfl rfl rfl) rfl rfl ?_
                    refine TO.y (Y.pick_f rfl rfl rfl) rfl rfl rfl ?_
                    refine TO.y (Y.move rfl) rfl rfl rfl ?_
                    refine TO.off (Gd.at 29 true 140 false rfl rfl rfl rfl) rfl rfl ?_
                    refine TO.off (Gd.at 29 true 140 false rfl rfl rfl rfl) rfl rfl ?_
                    refine TO.off (Gd.at 29 true 140 false rfl rfl rfl rfl) rfl rfl ?_
                    refine TO.off (Gd.un 32 false 143 rfl rfl rfl) rfl rfl ?_
                    refine TO.off (Gd.un 32 false 143 rfl rfl rfl) rfl rfl ?_
                    refine TO.off (Gd.un 32 false 143 rfl rfl rfl) rfl rfl ?_
                    refine TO.off (Gd.un 32 false 143 rfl rfl rfl) rfl rfl ?_
                    refine TO.off (Gd.at 29 true 140 false rfl rfl rfl rfl) rfl rfl ?_
                    refine TO.y (Y.pick_f rfl rfl rfl) rfl rfl rfl ?_
                    refine TO.y (Y.assign rfl) rfl rfl rfl ?_
                    refine TO.nil ?_
                    exact TE.jb_go () [] ⟨rfl, trivial⟩ rfl
                · refine TO.off (Gd.at 8 true 119 R78 rfl rfl rfl (beq_ft H81)) rfl rfl ?_
                  refine TO.off (Gd.at 8 true 119 R78 rfl rfl rfl (beq_ft H81)) rfl rfl ?_
                  refine TO.off (Gd.at 8 true 119 R78 rfl rfl rfl (beq_ft H81)) rfl rfl ?_
                  refine TO.off (Gd.at 8 true 119 R78 rfl rfl rfl (beq_ft H81)) rfl rfl ?_
                  refine TO.y (Y.pick_f H81 rfl rfl) rfl rfl rfl ?_
                  refine TO.y (Y.move rfl) rfl rfl rfl ?_
                  refine TO.off (Gd.at 14 true 125 false rfl rfl rfl rfl) rfl rfl ?_
                  refine TO.off (Gd.at 14 true 125 false rfl rfl rfl rfl) rfl rfl ?_
                  refine TO.off (Gd.at 14 true 125 false rfl rfl rfl rfl) rfl rfl ?_
                  refine TO.off (Gd.un 17 false 128 rfl rfl rfl) rfl rfl ?_
                  refine TO.off (Gd.un 17 false 128 rfl rfl rfl) rfl rfl ?_
                  refine TO.off (Gd.un 17 false 128 rfl rfl rfl) rfl rfl ?_
                  refine TO.off (Gd.un 17 false 128 rfl rfl rfl) rfl rfl ?_
                  refine TO.off (Gd.at 14 true 125 false rfl rfl rfl rfl) rfl rfl ?_
                  refine TO.y (Y.pick_f rfl rfl rfl) rfl rfl rfl ?_
                  refine TO.y (Y.move rfl) rfl rfl rfl ?_
                  refine TO.off (Gd.at 24 true 135 false rfl rfl rfl rfl) rfl rfl ?_
                  refine TO.off (Gd.at 24 true 135 false rfl rfl rfl rfl) rfl rfl ?_
                  refine TO.off (Gd.at 24 true 135 false rfl rfl rfl rfl) rfl rfl ?_
                  refine TO.y (Y.pick_f rfl rfl rfl) rfl rfl rfl ?_
                  refine TO.y (Y.move rfl) rfl rfl rfl ?_
                  refine TO.off (Gd.at 29 true 140 false rfl rfl rfl rfl) rfl rfl ?_
                  refine TO.off (Gd.at 29 true 140 false rfl rfl rfl rfl) rfl rfl ?_
                  refine TO.off (Gd.at 29 true 140 false rfl rfl rfl rfl) rfl rfl ?_
                  refine TO.off (Gd.un 32 false 143 rfl rfl rfl) rfl rfl ?_
                  refine TO.off (Gd.un 32 false 143 rfl rfl rfl) rfl rfl ?_
                  refine TO.off (Gd.un 32 false 143 rfl rfl rfl) rfl rfl ?_
                  refine TO.off (Gd.un 32 false 143 rfl rfl rfl) rfl rfl ?_
                  refine TO.off (Gd.at 29 true 140 false rfl rfl rfl rfl) rfl rfl ?_
                  refine TO.y (Y.pick_f rfl rfl rfl) rfl rfl rfl ?_
                  refine TO.y (Y.assign rfl) rfl rfl rfl ?_
                  refine TO.nil ?_
                  exact TE.jb_go () [] ⟨rfl, trivial⟩ rfl
              · refine TO.off (Gd.at 3 true 114 (decide (R35.2 = T25)) rfl rfl rfl (beq_ft H77)) rfl rfl ?_
                refine TO.off (Gd.at 3 true 114 (decide (R35.2 = T25)) rfl rfl rfl (beq_ft H77)) rfl rfl ?_
                refine TO.off (Gd.at 3 true 114 (decide (R35.2 = T25)) rfl rfl rfl (beq_ft H77)) rfl rfl ?_
                refine TO.y (Y.pick_f H77 rfl rfl) rfl rfl rfl ?_
                refine TO.y (Y.move rfl) rfl rfl rfl ?_
                refine TO.off (Gd.at 8 true 119 false rfl rfl rfl rfl) rfl rfl ?_
                refine TO.off (Gd.at 8 true 119 false rfl rfl rfl rfl) rfl rfl ?_
                refine TO.off (Gd.at 8 true 119 false rfl rfl rfl rfl) rfl rfl ?_
                refine TO.off (Gd.at 8 true 119 false rfl rfl rfl rfl) rfl rfl ?_
                refine TO.y (Y.pick_f rfl rfl rfl) rfl rfl rfl ?_
                refine TO.y (Y.move rfl) rfl rfl rfl ?_
                refine TO.off (Gd.at 14 true 125 false rfl rfl rfl rfl) rfl rfl ?_
                refine TO.off (Gd.at 14 true 125 false rfl rfl rfl rfl) rfl rfl ?_
                refine TO.off (Gd.at 14 true 125 false rfl rfl rfl rfl) rfl rfl ?_
                refine TO.off (Gd.un 17 false 128 rfl rfl rfl) rfl rfl ?_
                refine TO.off (Gd.un 17 false 128 rfl rfl rfl) rfl rfl ?_
                refine TO.off (Gd.un 17 false 128 rfl rfl rfl) rfl rfl ?_
                refine TO.off (Gd.un 17 false 128 rfl rfl rfl) rfl rfl ?_
                refine TO.off (Gd.at 14 true 125 false rfl rfl rfl rfl) rfl rfl ?_
                refine TO.y (Y.pick_f rfl rfl rfl) rfl rfl rfl ?_
                refine TO.y (Y.move rfl) rfl rfl rfl ?_
                refine TO.off (Gd.at 24 true 135 false rfl rfl rfl rfl) rfl rfl ?_
                refine TO.off (Gd.at 24 true 135 false rfl rfl rfl rfl) rfl rfl ?_
                refine TO.off (Gd.at 24 true 135 false rfl rfl rfl rfl) rfl rfl ?_
                refine TO.y (Y.pick_f rfl rfl rfl) rfl rfl rfl ?_
                refine TO.y (Y.move rfl) rfl rfl rfl ?_
                refine TO.off (Gd.at 29 true 140 false rfl rfl rfl rfl) rfl rfl ?_
                refine TO.off (Gd.at 29 true 140 false rfl rfl rfl rfl) rfl rfl ?_
                refine TO.off (Gd.at 29 true 140 false rfl rfl rfl rfl) rfl rfl ?_
                refine TO.off (Gd.un 32 false 143 rfl rfl rfl) rfl rfl ?_
                refine TO.off (Gd.un 32 false 143 rfl rfl rfl) rfl rfl ?_
                refine TO.off (Gd.un 32 false 143 rfl rfl rfl) rfl rfl ?_
                refine TO.off (Gd.un 32 false 143 rfl rfl rfl) rfl rfl ?_
                refine TO.off (Gd.at 29 true 140 false rfl rfl rfl rfl) rfl rfl ?_
                refine TO.y (Y.pick_f rfl rfl rfl) rfl rfl rfl ?_
                refine TO.y (Y.assign rfl) rfl rfl rfl ?_
                refine TO.nil ?_
                exact TE.jb_go () [] ⟨rfl, trivial⟩ rfl
            · refine TE.next ?_
              refine TW.ret ?_
              exact TE.leaf fun _ _ hf_ hs_ => ret_any (rs := [.tmp 2]) (vs := [.bool T75]) (.inl rfl) rfl ⟨rfl, trivial⟩ hf_ hs_ ⟨(), rfl, hs_.pulls [] rfl⟩

end Go.Proofs.Ytiabgnjihoknnaa
