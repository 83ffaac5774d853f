/-
  The functions that a law reaches, each as a pure function, with the proof that the program computes it, and the step from a pure law to the given statement. Conditions: none.
-/
import Derived.Test.YtfanigbmjmiidaaP3
set_option linter.unusedVariables false
set_option maxRecDepth 100000
set_option maxHeartbeats 4000000
namespace Go.Proofs.Ytfanigbmjmiidaa
open Go Sl

/-- (*loop.example/g00950/impl.Eng).engPut -/
noncomputable def impl_Eng_engPut (e : Eng) (l : List Op) : Option (Bool × Eng) :=
  bindC (loopO (fun (S1 : Bool × Int × List Ent) => if (decide (S1.2.1 < ((l.length : Nat) : Int))) = true then ((idx l S1.2.1).bind fun E6 =>
  (piece l (IntKind.i64.wrap (S1.2.1 + (1 : Int))) ((l.length : Nat) : Int)).bind fun E9 =>
  (slices_ContainsFunc_6733_at_impl_Eng_engPut_1 E9 E6).bind fun R12 =>
  (if (!R12) = true then (some S1.1)
  else (some false)).bind (fun (T15 : Bool) =>
  bindC (if T15 = true then ((impl_put S1.2.2 ({ Key := E6.Key, Seq := IntKind.i64.wrap (e.Seq + (1 : Int)), Del := E6.Del, Val := E6.Val : Ent })).bind fun R21 =>
  some (.go (R21.2, R21.1)))
  else (some (.go (S1.1, S1.2.2))))
  (fun (T18 : Bool × List Ent) => some (.go (T18.1, IntKind.i64.wrap (S1.2.1 + (1 : Int)), T18.2)))))
  else (some (.done (.go (S1.1, S1.2.2)))))
  (true, (0 : Int), e.Mem))
  (fun (T3 : Bool × List Ent) => (if T3.1 = true then (if (decide (IntKind.i64.wrap (e.Seq + (1 : Int)) ≤ (1000000 : Int))) = true then (if (decide (((T3.2.length : Nat) : Int) ≤ (60 : Int))) = true then ((impl_totalOf e.Tables).bind fun R31 =>
  some (decide (IntKind.i64.wrap (R31 + ((T3.2.length : Nat) : Int)) ≤ (400 : Int))))
  else (some false))
  else (some false))
  else (some false)).bind (fun (T26 : Bool) =>
  some (T26, { Mem := T3.2, Tables := e.Tables, Seq := IntKind.i64.wrap (e.Seq + (1 : Int)), Snaps := e.Snaps : Eng })))

theorem impl_Eng_engPut_con (e : Eng) (l : List Op) (V_e0 : Value) (V_e1 : Value) (V_e3 : Value) (B_e : Nat) (V_l0 : Value) (r : Bool × Eng) (hm : impl_Eng_engPut e l = some r) :
    Con Try.prog 42 [.pointer (some ⟨B_e, 0, none⟩), V_l0] [.box B_e 33 [V_e0, V_e1, .int .i64 e.Seq, V_e3], .own V_e0 (lc e.Mem)] [(V_e1, lc e.Tables), (V_e3, lc e.Snaps), (V_l0, lc l)] (fun _ : Value => .bool r.1) (fun X => [.box B_e 33 [X, V_e1, .int .i64 r.2.Seq, V_e3], .own X (lc r.2.Mem)]) := by
  refine Con.intro (args := [.pointer (some ⟨B_e, 0, none⟩), V_l0]) (n := 87) (val := fun r (_ : Value) => .bool r.1) (post := fun r X => [.box B_e 33 [X, V_e1, .int .i64 r.2.Seq, V_e3], .own X (lc r.2.Mem)]) (m := impl_Eng_engPut e l) Try.func42 rfl rfl rfl hm ?_
  intro w S hrd
  have HB_V_e1 := hrd _ (.head _)
  have HB_V_e3 := hrd _ (.tail _ (.head _))
  have HB_V_l0 := hrd _ (.tail _ (.tail _ (.head _)))
  clear hrd
  unfold impl_Eng_engPut
  refine TW.seq ?_
  refine TW.region ?_
  refine TO.y (Y.assign rfl) rfl rfl rfl ?_
  refine TO.nil ?_
  refine TE.next ?_
  refine TW.seq ?_
  refine TW.region ?_
  refine TO.y (Y.move rfl) rfl rfl rfl ?_
  refine TO.y (Y.nilCheck rfl) rfl rfl rfl ?_
  refine TO.y (Y.field_box kf33_2 rfl rfl) rfl rfl rfl ?_
  refine TO.y (Y.load_box (v := .int .i64 e.Seq) 0 kk3 rfl rfl rfl) rfl rfl rfl ?_
  refine TO.y (Y.add rfl rfl) rfl rfl rfl ?_
  refine TO.y (Y.nilCheck rfl) rfl rfl rfl ?_
  refine TO.y (Y.field_box kf33_2 rfl rfl) rfl rfl rfl ?_
  refine TO.ef0 (Ef.store_box (us := [.int .i64 (IntKind.i64.wrap (e.Seq + (1 : Int)))]) (vs' := [V_e0, V_e1, .int .i64 (IntKind.i64.wrap (e.Seq + (1 : Int))), V_e3]) (is' := [.box B_e 33 [V_e0, V_e1, .int .i64 (IntKind.i64.wrap (e.Seq + (1 : Int))), V_e3], .own V_e0 (lc e.Mem)]) 0 kk3 rfl rfl rfl (Cel.plain rfl rfl) rfl rfl rfl rfl) rfl rfl (fun _ => ?_)
  refine TO.nil ?_
  refine TE.next ?_
  refine TW.seq ?_
  refine TW.region ?_
  refine TO.y (Y.assign rfl) rfl rfl rfl ?_
  refine TO.nil ?_
  refine TE.next ?_
  refine TW.seq ?_
  refine TW.seq ?_
  refine TW.region ?_
  refine TO.y (Y.move rfl) rfl rfl rfl ?_
  refine TO.y (Y.len (l := l) ke37 (Base.can HB_V_l0) rfl) rfl rfl rfl ?_
  refine TO.y (Y.move rfl) rfl rfl rfl ?_
  refine TO.nil ?_
  refine TE.next ?_
  refine TW.joinX (τ := Bool × List Ent) (X := Value) (fun T _ => [(0, .pointer (some ⟨B_e, 0, none⟩)), (5, .bool T.1)]) (fun T X => [.box B_e 33 [X, V_e1, .int .i64 (IntKind.i64.wrap (e.Seq + (1 : Int))), V_e3], .own X (lc T.2)]) ?_ (fun T3 X4 => ?_)
  · refine TW.block ?_
    refine TW.loopX (σ := Bool × Int × List Ent) (X := Value) (fun T _ => [(0, .pointer (some ⟨B_e, 0, none⟩)), (1, V_l0), (5, .bool T.1), (16, V_l0), (17, .int .i64 ((l.length : Nat) : Int)), (18, .int .i64 T.2.1)]) (fun T X => [.box B_e 33 [X, V_e1, .int .i64 (IntKind.i64.wrap (e.Seq + (1 : Int))), V_e3], .own X (lc T.2.2)]) V_e0 [0, 0] ⟨rfl, rfl, rfl, rfl, rfl, rfl, trivial⟩ rfl (fun S1 X2 => ?_)
    refine TW.seq ?_
    refine TW.region ?_
    refine TO.y (Y.lss rfl rfl) rfl rfl rfl ?_
    refine TO.nil ?_
    refine TE.next ?_
    refine TW.seq ?_
    refine TW.cond rfl (fun H5 => ?_) (fun H5 => ?_)
    · refine TW.skip ?_
      refine TE.next ?_
      refine TW.seq ?_
      refine TW.block ?_
      refine TW.seq ?_
      refine TW.region ?_
      refine TO.y (Y.move rfl) rfl rfl rfl ?_
      refine TO.bind fun E6 H7 => ?_
      refine TO.y (Y.index ke37 (Base.can HB_V_l0) H7 rfl rfl) rfl rfl rfl ?_
      refine TO.y (Y.load_el (us := [strV E6.Key, .bool E6.Del, strV E6.Val]) (u := .agg #[strV E6.Key, .bool E6.Del, strV E6.Val]) kk70 rfl (Base.can HB_V_l0) (idx_get H7).2.2 rfl rfl rfl rfl rfl) rfl rfl rfl ?_
      refine TO.ef (Ef.alloc kz70 rfl) rfl rfl rfl (fun B8 => ?_)
      refine TO.y (Y.assign rfl) rfl rfl rfl ?_
      refine TO.ef0 (Ef.store_box (us := [strV E6.Key, .bool E6.Del, strV E6.Val]) (vs' := [strV E6.Key, .bool E6.Del, strV E6.Val]) (is' := [.box B8 70 [strV E6.Key, .bool E6.Del, strV E6.Val], .box B_e 33 [X2, V_e1, .int .i64 (IntKind.i64.wrap (e.Seq + (1 : Int))), V_e3], .own X2 (lc S1.2.2)]) 0 kk70 rfl rfl rfl (Cel.plain rfl rfl) rfl rfl rfl rfl) rfl rfl (fun _ => ?_)
      refine TO.nil ?_
      refine TE.next ?_
      refine TW.seq ?_
      refine TW.region ?_
      refine TO.y (Y.move rfl) rfl rfl rfl ?_
      refine TO.y (Y.move rfl) rfl rfl rfl ?_
      refine TO.y (Y.add rfl rfl) rfl rfl rfl ?_
      refine TO.bind fun E9 H10 => ?_
      have Q11 := Base.sub (sz := 3) H10 rfl HB_V_l0
      refine TO.y (Y.subs H10 ke37 (Base.can HB_V_l0) rfl ⟨_, rfl⟩ rfl) rfl rfl rfl ?_
      refine TO.y (Y.makeFunc rfl) rfl rfl rfl ?_
      refine TO.bind fun R12 H13 => ?_
      refine TO.ef (Ef.call (rest := [.box B_e 33 [X2, V_e1, .int .i64 (IntKind.i64.wrap (e.Seq + (1 : Int))), V_e3], .own X2 (lc S1.2.2)]) [0, 0, 0] (slices_ContainsFunc_6733_at_impl_Eng_engPut_1_con E9 E6 (subV V_l0 3 (IntKind.i64.wrap (S1.2.1 + (1 : Int))).toNat (((l.length : Nat) : Int).toNat - (IntKind.i64.wrap (S1.2.1 + (1 : Int))).toNat)) B8 R12 H13) kc79 rfl rfl ⟨(Base.can Q11), trivial⟩) rfl rfl rfl (fun _ => ?_)
      refine TO.y (Y.assign rfl) rfl rfl rfl ?_
      refine TO.nil ?_
      refine TE.next ?_
      refine TW.seq ?_
      refine TW.joinBX (τ := Bool) (X := Unit) (fun T _ => [(0, .pointer (some ⟨B_e, 0, none⟩)), (1, V_l0), (5, .bool S1.1), (7, .pointer (some ⟨B8, 0, none⟩)), (16, V_l0), (17, .int .i64 ((l.length : Nat) : Int)), (18, .int .i64 S1.2.1), (33, .bool T)]) (fun _ _ => [.box B_e 33 [X2, V_e1, .int .i64 (IntKind.i64.wrap (e.Seq + (1 : Int))), V_e3], .box B8 70 [strV E6.Key, .bool E6.Del, strV E6.Val], .own X2 (lc S1.2.2)]) ?_ (fun T15 X16 => ?_)
      · refine TW.region ?_
        refine TO.y (Y.move rfl) rfl rfl rfl ?_
        refine TO.y (Y.not rfl) rfl rfl rfl ?_
        refine TO.y (Y.move rfl) rfl rfl rfl ?_
        refine TO.ite (b := !R12) (fun H17 => ?_) (fun H17 => ?_)
        · refine TO.y (Y.move rfl) (Gd.at 2 true 31 (!R12) rfl rfl rfl (beq_tt H17)) rfl rfl ?_
          refine TO.y (Y.pick_t H17 rfl rfl) rfl rfl rfl ?_
          refine TO.nil ?_
          exact TE.jb_go () [1, 0, 0] ⟨rfl, rfl, rfl, rfl, rfl, rfl, rfl, rfl, trivial⟩ rfl
        · refine TO.off (Gd.at 2 true 31 (!R12) rfl rfl rfl (beq_ft H17)) rfl rfl ?_
          refine TO.y (Y.pick_f H17 rfl rfl) rfl rfl rfl ?_
          refine TO.nil ?_
          exact TE.jb_go () [1, 0, 0] ⟨rfl, rfl, rfl, rfl, rfl, rfl, rfl, rfl, trivial⟩ rfl
      · refine TE.next ?_
        refine TW.joinX (τ := Bool × List Ent) (X := Value) (fun T _ => [(0, .pointer (some ⟨B_e, 0, none⟩)), (1, V_l0), (5, .bool T.1), (16, V_l0), (17, .int .i64 ((l.length : Nat) : Int)), (18, .int .i64 S1.2.1)]) (fun T X => [.box B_e 33 [X, V_e1, .int .i64 (IntKind.i64.wrap (e.Seq + (1 : Int))), V_e3], .own X (lc T.2)]) ?_ (fun T18 X19 => ?_)
        · refine TW.cond rfl (fun H20 => ?_) (fun H20 => ?_)
          · refine TW.bind fun R21 H22 => ?_
            refine TW.joinU (X := Value) (fun _ _ => [(0, .pointer (some ⟨B_e, 0, none⟩)), (1, V_l0), (5, .bool R21.2), (16, V_l0), (17, .int .i64 ((l.length : Nat) : Int)), (18, .int .i64 S1.2.1)]) (fun _ X => [.box B_e 33 [X, V_e1, .int .i64 (IntKind.i64.wrap (e.Seq + (1 : Int))), V_e3], .own X (lc R21.1)]) ?_ (fun _ X25 => ?_)
            · refine TW.draw (isH := [.box B8 70 [strV E6.Key, .bool E6.Del, strV E6.Val]]) hMix ?_
              refine TA.y (listed' := #[true, false, false, false, false, false, false, false, false, false, false, false, false, false, false, false, false, false, false, false, false, false, false, false]) 0 [1] rfl (Y.move rfl) rfl rfl rfl (by kernel_rfl) (by kernel_rfl) (by kernel_rfl) rfl rfl ?_
              refine TA.y (listed' := #[true, true, false, false, false, false, false, false, false, false, false, false, false, false, false, false, false, false, false, false, false, false, false, false]) 1 [1] rfl (Y.move rfl) rfl rfl rfl (by kernel_rfl) (by kernel_rfl) (by kernel_rfl) rfl rfl ?_
              refine TA.y (listed' := #[true, true, true, false, false, false, false, false, false, false, false, false, false, false, false, false, false, false, false, false, false, false, false, false]) 2 [1] rfl (Y.nilCheck rfl) rfl rfl rfl (by kernel_rfl) (by kernel_rfl) (by kernel_rfl) rfl rfl ?_
              refine TA.y (listed' := #[true, true, true, true, false, false, false, false, false, false, false, false, false, false, false, false, false, false, false, false, false, false, false, false]) 3 [1] rfl (Y.field_box kf33_0 rfl rfl) rfl rfl rfl (by kernel_rfl) (by kernel_rfl) (by kernel_rfl) rfl rfl ?_
              refine TA.y (listed' := #[true, true, true, true, false, true, false, false, false, false, false, false, false, false, false, false, false, false, false, false, false, false, false, false]) 5 [1] rfl (Y.field_box kf70_0 rfl rfl) rfl rfl rfl (by kernel_rfl) (by kernel_rfl) (by kernel_rfl) rfl rfl ?_
              refine TA.y (listed' := #[true, true, true, true, false, true, true, false, false, false, false, false, false, false, false, false, false, false, false, false, false, false, false, false]) 6 [1] rfl (Y.load_box (v := strV E6.Key) 0 kk9 rfl rfl rfl) rfl rfl rfl (by kernel_rfl) (by kernel_rfl) (by kernel_rfl) rfl rfl ?_
              refine TA.y (listed' := #[true, true, true, true, false, true, true, true, false, false, false, false, false, false, false, false, false, false, false, false, false, false, false, false]) 7 [1] rfl (Y.move rfl) rfl rfl rfl (by kernel_rfl) (by kernel_rfl) (by kernel_rfl) rfl rfl ?_
              refine TA.y (listed' := #[true, true, true, true, false, true, true, true, true, false, false, false, false, false, false, false, false, false, false, false, false, false, false, false]) 8 [1] rfl (Y.nilCheck rfl) rfl rfl rfl (by kernel_rfl) (by kernel_rfl) (by kernel_rfl) rfl rfl ?_
              refine TA.y (listed' := #[true, true, true, true, false, true, true, true, true, true, false, false, false, false, false, false, false, false, false, false, false, false, false, false]) 9 [1] rfl (Y.field_box kf33_2 rfl rfl) rfl rfl rfl (by kernel_rfl) (by kernel_rfl) (by kernel_rfl) rfl rfl ?_
              refine TA.y (listed' := #[true, true, true, true, false, true, true, true, true, true, false, true, false, false, false, false, false, false, false, false, false, false, false, false]) 11 [1] rfl (Y.field_box kf70_1 rfl rfl) rfl rfl rfl (by kernel_rfl) (by kernel_rfl) (by kernel_rfl) rfl rfl ?_
              refine TA.y (listed' := #[true, true, true, true, false, true, true, true, true, true, false, true, true, false, false, false, false, false, false, false, false, false, false, false]) 12 [1] rfl (Y.load_box (v := .bool E6.Del) 0 kk4 rfl rfl rfl) rfl rfl rfl (by kernel_rfl) (by kernel_rfl) (by kernel_rfl) rfl rfl ?_
              refine TA.y (listed' := #[true, true, true, true, false, true, true, true, true, true, false, true, true, true, false, false, false, false, false, false, false, false, false, false]) 13 [1] rfl (Y.field_box kf70_2 rfl rfl) rfl rfl rfl (by kernel_rfl) (by kernel_rfl) (by kernel_rfl) rfl rfl ?_
              refine TA.y (listed' := #[true, true, true, true, false, true, true, true, true, true, false, true, true, true, true, false, false, false, false, false, false, false, false, false]) 14 [1] rfl (Y.load_box (v := strV E6.Val) 0 kk9 rfl rfl rfl) rfl rfl rfl (by kernel_rfl) (by kernel_rfl) (by kernel_rfl) rfl rfl ?_
              refine TA.two 4 10 (by kernel_rfl) ?_ ?_
              · refine TX.y (listed' := #[true, true, true, true, true, true, true, true, true, true, false, true, true, true, true, false, false, false, false, false, false, false, false, false]) [1] rfl (Y.load_box (v := X2) 0 kk30 rfl rfl rfl) rfl rfl rfl rfl rfl ?_
                refine TA.one 10 (by kernel_rfl) ?_
                refine TX.y (listed' := #[true, true, true, true, true, true, true, true, true, true, true, true, true, true, true, false, false, false, false, false, false, false, false, false]) [1] rfl (Y.load_box (v := .int .i64 (IntKind.i64.wrap (e.Seq + (1 : Int)))) 0 kk3 rfl rfl rfl) rfl rfl rfl rfl rfl ?_
                refine TA.y (listed' := #[true, true, true, true, true, true, true, true, true, true, true, true, true, true, true, true, false, false, false, false, false, false, false, false]) 15 [1] rfl (Y.build (cells := [strV E6.Key, .int .i64 (IntKind.i64.wrap (e.Seq + (1 : Int))), .bool E6.Del, strV E6.Val]) [(0, [strV E6.Key]), (1, [.int .i64 (IntKind.i64.wrap (e.Seq + (1 : Int)))]), (2, [.bool E6.Del]), (3, [strV E6.Val])] kp73 kz73 ⟨rfl, ⟨_, rfl, (Cel.plain rfl rfl)⟩, ⟨rfl, ⟨_, rfl, (Cel.plain rfl rfl)⟩, ⟨rfl, ⟨_, rfl, (Cel.plain rfl rfl)⟩, ⟨rfl, ⟨_, rfl, (Cel.plain rfl rfl)⟩, trivial⟩⟩⟩⟩ rfl) rfl rfl rfl (by kernel_rfl) (by kernel_rfl) (by kernel_rfl) rfl rfl ?_
                refine TA.one 16 (by kernel_rfl) ?_
                refine TX.ef (listed' := #[true, true, true, true, true, true, true, true, true, true, true, true, true, true, true, true, true, false, false, false, false, false, false, false]) [2] rfl (Ef.call (rest := [.box B_e 33 [X2, V_e1, .int .i64 (IntKind.i64.wrap (e.Seq + (1 : Int))), V_e3], .box B8 70 [strV E6.Key, .bool E6.Del, strV E6.Val]]) [2, 0, 0] (impl_put_con S1.2.2 ({ Key := E6.Key, Seq := IntKind.i64.wrap (e.Seq + (1 : Int)), Del := E6.Del, Val := E6.Val : Ent }) X2 R21 H22) kc81 rfl rfl trivial) rfl rfl rfl rfl (fun _ => rfl) (fun Y26 => ?_)
                refine TA.y (listed' := #[true, true, true, true, true, true, true, true, true, true, true, true, true, true, true, true, true, true, false, false, false, false, false, false]) 17 [2] rfl (Y.move rfl) rfl rfl rfl (by kernel_rfl) (by kernel_rfl) (by kernel_rfl) rfl rfl ?_
                refine TA.y (listed' := #[true, true, true, true, true, true, true, true, true, true, true, true, true, true, true, true, true, true, true, false, false, false, false, false]) 18 [2] rfl (Y.extract rfl rfl) rfl rfl rfl (by kernel_rfl) (by kernel_rfl) (by kernel_rfl) rfl rfl ?_
                refine TA.y (listed' := #[true, true, true, true, true, true, true, true, true, true, true, true, true, true, true, true, true, true, true, true, false, false, false, false]) 19 [2] rfl (Y.extract rfl rfl) rfl rfl rfl (by kernel_rfl) (by kernel_rfl) (by kernel_rfl) rfl rfl ?_
                refine TA.y (listed' := #[true, true, true, true, true, true, true, true, true, true, true, true, true, true, true, true, true, true, true, true, true, false, false, false]) 20 [2] rfl (Y.nilCheck rfl) rfl rfl rfl (by kernel_rfl) (by kernel_rfl) (by kernel_rfl) rfl rfl ?_
                refine TA.y (listed' := #[true, true, true, true, true, true, true, true, true, true, true, true, true, true, true, true, true, true, true, true, true, true, false, false]) 21 [2] rfl (Y.field_box kf33_0 rfl rfl) rfl rfl rfl (by kernel_rfl) (by kernel_rfl) (by kernel_rfl) rfl rfl ?_
                refine TA.one 22 (by kernel_rfl) ?_
                refine TX.ef0 (listed' := #[true, true, true, true, true, true, true, true, true, true, true, true, true, true, true, true, true, true, true, true, true, true, true, false]) [2] rfl (Ef.store_box (us := [Y26]) (vs' := [Y26, V_e1, .int .i64 (IntKind.i64.wrap (e.Seq + (1 : Int))), V_e3]) (is' := [.own Y26 (lc R21.1), .box B_e 33 [Y26, V_e1, .int .i64 (IntKind.i64.wrap (e.Seq + (1 : Int))), V_e3], .box B8 70 [strV E6.Key, .bool E6.Del, strV E6.Val]]) 1 kk30 rfl rfl rfl (Cel.one (One.can (Can.own 0 rfl))) rfl rfl rfl rfl) rfl rfl rfl (fun _ => rfl) (fun _ => ?_)
                refine TA.y (listed' := #[true, true, true, true, true, true, true, true, true, true, true, true, true, true, true, true, true, true, true, true, true, true, true, true]) 23 [2] rfl (Y.assign rfl) rfl rfl rfl (by kernel_rfl) (by kernel_rfl) (by kernel_rfl) rfl rfl ?_
                refine TA.nil (by kernel_rfl) ?_
                exact TE.jb_go Y26 [1, 0] ⟨rfl, rfl, rfl, rfl, rfl, rfl, trivial⟩ rfl
              · refine TX.y (listed' := #[true, true, true, true, false, true, true, true, true, true, true, true, true, true, true, false, false, false, false, false, false, false, false, false]) [1] rfl (Y.load_box (v := .int .i64 (IntKind.i64.wrap (e.Seq + (1 : Int)))) 0 kk3 rfl rfl rfl) rfl rfl rfl rfl rfl ?_
                refine TA.y (listed' := #[true, true, true, true, false, true, true, true, true, true, true, true, true, true, true, true, false, false, false, false, false, false, false, false]) 15 [1] rfl (Y.build (cells := [strV E6.Key, .int .i64 (IntKind.i64.wrap (e.Seq + (1 : Int))), .bool E6.Del, strV E6.Val]) [(0, [strV E6.Key]), (1, [.int .i64 (IntKind.i64.wrap (e.Seq + (1 : Int)))]), (2, [.bool E6.Del]), (3, [strV E6.Val])] kp73 kz73 ⟨rfl, ⟨_, rfl, (Cel.plain rfl rfl)⟩, ⟨rfl, ⟨_, rfl, (Cel.plain rfl rfl)⟩, ⟨rfl, ⟨_, rfl, (Cel.plain rfl rfl)⟩, ⟨rfl, ⟨_, rfl, (Cel.plain rfl rfl)⟩, trivial⟩⟩⟩⟩ rfl) rfl rfl rfl (by kernel_rfl) (by kernel_rfl) (by kernel_rfl) rfl rfl ?_
                refine TA.one 4 (by kernel_rfl) ?_
                refine TX.y (listed' := #[true, true, true, true, true, true, true, true, true, true, true, true, true, true, true, true, false, false, false, false, false, false, false, false]) [1] rfl (Y.load_box (v := X2) 0 kk30 rfl rfl rfl) rfl rfl rfl rfl rfl ?_
                refine TA.one 16 (by kernel_rfl) ?_
                refine TX.ef (listed' := #[true, true, true, true, true, true, true, true, true, true, true, true, true, true, true, true, true, false, false, false, false, false, false, false]) [2] rfl (Ef.call (rest := [.box B_e 33 [X2, V_e1, .int .i64 (IntKind.i64.wrap (e.Seq + (1 : Int))), V_e3], .box B8 70 [strV E6.Key, .bool E6.Del, strV E6.Val]]) [2, 0, 0] (impl_put_con S1.2.2 ({ Key := E6.Key, Seq := IntKind.i64.wrap (e.Seq + (1 : Int)), Del := E6.Del, Val := E6.Val : Ent }) X2 R21 H22) kc81 rfl rfl trivial) rfl rfl rfl rfl (fun _ => rfl) (fun Y26 => ?_)
                refine TA.y (listed' := #[true, true, true, true, true, true, true, true, true, true, true, true, true, true, true, true, true, true, false, false, false, false, false, false]) 17 [2] rfl (Y.move rfl) rfl rfl rfl (by kernel_rfl) (by kernel_rfl) (by kernel_rfl) rfl rfl ?_
                refine TA.y (listed' := #[true, true, true, true, true, true, true, true, true, true, true, true, true, true, true, true, true, true, true, false, false, false, false, false]) 18 [2] rfl (Y.extract rfl rfl) rfl rfl rfl (by kernel_rfl) (by kernel_rfl) (by kernel_rfl) rfl rfl ?_
                refine TA.y (listed' := #[true, true, true, true, true, true, true, true, true, true, true, true, true, true, true, true, true, true, true, true, false, false, false, false]) 19 [2] rfl (Y.extract rfl rfl) rfl rfl rfl (by kernel_rfl) (by kernel_rfl) (by kernel_rfl) rfl rfl ?_
                refine TA.y (listed' := #[true, true, true, true, true, true, true, true, true, true, true, true, true, true, true, true, true, true, true, true, true, false, false, false]) 20 [2] rfl (Y.nilCheck rfl) rfl rfl rfl (by kernel_rfl) (by kernel_rfl) (by kernel_rfl) rfl rfl ?_
                refine TA.y (listed' := #[true, true, true, true, true, true, true, true, true, true, true, true, true, true, true, true, true, true, true, true, true, true, false, false]) 21 [2] rfl (Y.field_box kf33_0 rfl rfl) rfl rfl rfl (by kernel_rfl) (by kernel_rfl) (by kernel_rfl) rfl rfl ?_
                refine TA.one 22 (by kernel_rfl) ?_
                refine TX.ef0 (listed' := #[true, true, true, true, true, true, true, true, true, true, true, true, true, true, true, true, true, true, true, true, true, true, true, false]) [2] rfl (Ef.store_box (us := [Y26]) (vs' := [Y26, V_e1, .int .i64 (IntKind.i64.wrap (e.Seq + (1 : Int))), V_e3]) (is' := [.own Y26 (lc R21.1), .box B_e 33 [Y26, V_e1, .int .i64 (IntKind.i64.wrap (e.Seq + (1 : Int))), V_e3], .box B8 70 [strV E6.Key, .bool E6.Del, strV E6.Val]]) 1 kk30 rfl rfl rfl (Cel.one (One.can (Can.own 0 rfl))) rfl rfl rfl rfl) rfl rfl rfl (fun _ => rfl) (fun _ => ?_)
                refine TA.y (listed' := #[true, true, true, true, true, true, true, true, true, true, true, true, true, true, true, true, true, true, true, true, true, true, true, true]) 23 [2] rfl (Y.assign rfl) rfl rfl rfl (by kernel_rfl) (by kernel_rfl) (by kernel_rfl) rfl rfl ?_
                refine TA.nil (by kernel_rfl) ?_
                exact TE.jb_go Y26 [1, 0] ⟨rfl, rfl, rfl, rfl, rfl, rfl, trivial⟩ rfl
            · exact TE.jn_go X25 [0, 0] ⟨rfl, rfl, rfl, rfl, rfl, rfl, trivial⟩ rfl
          · refine TW.skip ?_
            exact TE.jn_go X2 [0, 1] ⟨rfl, rfl, rfl, rfl, rfl, rfl, trivial⟩ rfl
        · refine TE.block_normal ?_
          refine TE.next ?_
          refine TW.region ?_
          refine TO.y (Y.add rfl rfl) rfl rfl rfl ?_
          refine TO.y (Y.move rfl) rfl rfl rfl ?_
          refine TO.nil ?_
          exact TE.lp_go X19 [0, 0] ⟨rfl, rfl, rfl, rfl, rfl, rfl, trivial⟩ rfl
    · refine TW.exit ?_
      refine TE.then_exit ?_
      refine TE.lp_exit ?_
      refine TE.block_exit ?_
      exact TE.jn_go X2 [0, 0] ⟨rfl, rfl, trivial⟩ rfl
  · refine TE.next ?_
    refine TW.seq ?_
    refine TW.joinBX (τ := Bool) (X := Unit) (fun T _ => [(4, .bool T)]) (fun _ _ => [.box B_e 33 [X4, V_e1, .int .i64 (IntKind.i64.wrap (e.Seq + (1 : Int))), V_e3], .own X4 (lc T3.2)]) ?_ (fun T26 X27 => ?_)
    · refine TW.draw (isH := [.box B_e 33 [X4, V_e1, .int .i64 (IntKind.i64.wrap (e.Seq + (1 : Int))), V_e3], .own X4 (lc T3.2)]) hMix ?_
      refine TA.y (listed' := #[true, false, false, false, false, false, false, false, false, false, false, false, false, false, false, false, false, false, false, false, false, false, false, false, false, false, false, false, false, false, false]) 0 [0, 0] rfl (Y.move rfl) rfl rfl rfl (by kernel_rfl) (by kernel_rfl) (by kernel_rfl) rfl rfl ?_
      refine TA.y (listed' := #[true, true, false, false, false, false, false, false, false, false, false, false, false, false, false, false, false, false, false, false, false, false, false, false, false, false, false, false, false, false, false]) 1 [0, 0] rfl (Y.move rfl) rfl rfl rfl (by kernel_rfl) (by kernel_rfl) (by kernel_rfl) rfl rfl ?_
      refine TA.ite (b := T3.1) (fun H28 => ?_) (fun H28 => ?_)
      · refine TA.y (listed' := #[true, true, true, false, false, false, false, false, false, false, false, false, false, false, false, false, false, false, false, false, false, false, false, false, false, false, false, false, false, false, false]) 2 [0, 0] rfl (Y.move rfl) (Gd.at 1 true 58 T3.1 rfl rfl rfl (beq_tt H28)) rfl rfl (by kernel_rfl) (by kernel_rfl) (by kernel_rfl) rfl rfl ?_
        refine TA.y (listed' := #[true, true, true, true, false, false, false, false, false, false, false, false, false, false, false, false, false, false, false, false, false, false, false, false, false, false, false, false, false, false, false]) 3 [0, 0] rfl (Y.nilCheck rfl) (Gd.at 1 true 58 T3.1 rfl rfl rfl (beq_tt H28)) rfl rfl (by kernel_rfl) (by kernel_rfl) (by kernel_rfl) rfl rfl ?_
        refine TA.y (listed' := #[true, true, true, true, true, false, false, false, false, false, false, false, false, false, false, false, false, false, false, false, false, false, false, false, false, false, false, false, false, false, false]) 4 [0, 0] rfl (Y.field_box kf33_2 rfl rfl) (Gd.at 1 true 58 T3.1 rfl rfl rfl (beq_tt H28)) rfl rfl (by kernel_rfl) (by kernel_rfl) (by kernel_rfl) rfl rfl ?_
        refine TA.y (listed' := #[true, true, true, true, true, true, false, false, false, false, false, false, false, false, false, false, false, false, false, false, false, false, false, false, false, false, false, false, false, false, false]) 5 [0, 0] rfl (Y.load_box (v := .int .i64 (IntKind.i64.wrap (e.Seq + (1 : Int)))) 0 kk3 rfl rfl rfl) (Gd.at 1 true 58 T3.1 rfl rfl rfl (beq_tt H28)) rfl rfl (by kernel_rfl) (by kernel_rfl) (by kernel_rfl) rfl rfl ?_
        refine TA.y (listed' := #[true, true, true, true, true, true, true, false, false, false, false, false, false, false, false, false, false, false, false, false, false, false, false, false, false, false, false, false, false, false, false]) 6 [0, 0] rfl (Y.leq rfl rfl) (Gd.at 1 true 58 T3.1 rfl rfl rfl (beq_tt H28)) rfl rfl (by kernel_rfl) (by kernel_rfl) (by kernel_rfl) rfl rfl ?_
        refine TA.y (listed' := #[true, true, true, true, true, true, true, true, false, false, false, false, false, false, false, false, false, false, false, false, false, false, false, false, false, false, false, false, false, false, false]) 7 [0, 0] rfl (Y.pick_t H28 rfl rfl) rfl rfl rfl (by kernel_rfl) (by kernel_rfl) (by kernel_rfl) rfl rfl ?_
        refine TA.y (listed' := #[true, true, true, true, true, true, true, true, true, false, false, false, false, false, false, false, false, false, false, false, false, false, false, false, false, false, false, false, false, false, false]) 8 [0, 0] rfl (Y.move rfl) rfl rfl rfl (by kernel_rfl) (by kernel_rfl) (by kernel_rfl) rfl rfl ?_
        refine TA.ite (b := decide (IntKind.i64.wrap (e.Seq + (1 : Int)) ≤ (1000000 : Int))) (fun H29 => ?_) (fun H29 => ?_)
        · refine TA.y (listed' := #[true, true, true, true, true, true, true, true, true, true, false, false, false, false, false, false, false, false, false, false, false, false, false, false, false, false, false, false, false, false, false]) 9 [0, 0] rfl (Y.move rfl) (Gd.at 8 true 65 (decide (IntKind.i64.wrap (e.Seq + (1 : Int)) ≤ (1000000 : Int))) rfl rfl rfl (beq_tt H29)) rfl rfl (by kernel_rfl) (by kernel_rfl) (by kernel_rfl) rfl rfl ?_
          refine TA.y (listed' := #[true, true, true, true, true, true, true, true, true, true, true, false, false, false, false, false, false, false, false, false, false, false, false, false, false, false, false, false, false, false, false]) 10 [0, 0] rfl (Y.nilCheck rfl) (Gd.at 8 true 65 (decide (IntKind.i64.wrap (e.Seq + (1 : Int)) ≤ (1000000 : Int))) rfl rfl rfl (beq_tt H29)) rfl rfl (by kernel_rfl) (by kernel_rfl) (by kernel_rfl) rfl rfl ?_
          refine TA.y (listed' := #[true, true, true, true, true, true, true, true, true, true, true, true, false, false, false, false, false, false, false, false, false, false, false, false, false, false, false, false, false, false, false]) 11 [0, 0] rfl (Y.field_box kf33_0 rfl rfl) (Gd.at 8 true 65 (decide (IntKind.i64.wrap (e.Seq + (1 : Int)) ≤ (1000000 : Int))) rfl rfl rfl (beq_tt H29)) rfl rfl (by kernel_rfl) (by kernel_rfl) (by kernel_rfl) rfl rfl ?_
          refine TA.y (listed' := #[true, true, true, true, true, true, true, true, true, true, true, true, true, false, false, false, false, false, false, false, false, false, false, false, false, false, false, false, false, false, false]) 12 [0, 0] rfl (Y.load_box (v := X4) 0 kk30 rfl rfl rfl) (Gd.at 8 true 65 (decide (IntKind.i64.wrap (e.Seq + (1 : Int)) ≤ (1000000 : Int))) rfl rfl rfl (beq_tt H29)) rfl rfl (by kernel_rfl) (by kernel_rfl) (by kernel_rfl) rfl rfl ?_
          refine TA.y (listed' := #[true, true, true, true, true, true, true, true, true, true, true, true, true, true, false, false, false, false, false, false, false, false, false, false, false, false, false, false, false, false, false]) 13 [0, 0] rfl (Y.len (l := T3.2) ke30 (Can.own 1 rfl) rfl) (Gd.at 8 true 65 (decide (IntKind.i64.wrap (e.Seq + (1 : Int)) ≤ (1000000 : Int))) rfl rfl rfl (beq_tt H29)) rfl rfl (by kernel_rfl) (by kernel_rfl) (by kernel_rfl) rfl rfl ?_
          refine TA.y (listed' := #[true, true, true, true, true, true, true, true, true, true, true, true, true, true, true, false, false, false, false, false, false, false, false, false, false, false, false, false, false, false, false]) 14 [0, 0] rfl (Y.leq rfl rfl) (Gd.at 8 true 65 (decide (IntKind.i64.wrap (e.Seq + (1 : Int)) ≤ (1000000 : Int))) rfl rfl rfl (beq_tt H29)) rfl rfl (by kernel_rfl) (by kernel_rfl) (by kernel_rfl) rfl rfl ?_
          refine TA.y (listed' := #[true, true, true, true, true, true, true, true, true, true, true, true, true, true, true, true, false, false, false, false, false, false, false, false, false, false, false, false, false, false, false]) 15 [0, 0] rfl (Y.pick_t H29 rfl rfl) rfl rfl rfl (by kernel_rfl) (by kernel_rfl) (by kernel_rfl) rfl rfl ?_
          refine TA.y (listed' := #[true, true, true, true, true, true, true, true, true, true, true, true, true, true, true, true, true, false, false, false, false, false, false, false, false, false, false, false, false, false, false]) 16 [0, 0] rfl (Y.move rfl) rfl rfl rfl (by kernel_rfl) (by kernel_rfl) (by kernel_rfl) rfl rfl ?_
          refine TA.ite (b := decide (((T3.2.length : Nat) : Int) ≤ (60 : Int))) (fun H30 => ?_) (fun H30 => ?_)
          · refine TA.y (listed' := #[true, true, true, true, true, true, true, true, true, true, true, true, true, true, true, true, true, true, false, false, false, false, false, false, false, false, false, false, false, false, false]) 17 [0, 0] rfl (Y.move rfl) (Gd.at 16 true 73 (decide (((T3.2.length : Nat) : Int) ≤ (60 : Int))) rfl rfl rfl (beq_tt H30)) rfl rfl (by kernel_rfl) (by kernel_rfl) (by kernel_rfl) rfl rfl ?_
            refine TA.y (listed' := #[true, true, true, true, true, true, true, true, true, true, true, true, true, true, true, true, true, true, true, false, false, false, false, false, false, false, false, false, false, false, false]) 18 [0, 0] rfl (Y.nilCheck rfl) (Gd.at 16 true 73 (decide (((T3.2.length : Nat) : Int) ≤ (60 : Int))) rfl rfl rfl (beq_tt H30)) rfl rfl (by kernel_rfl) (by kernel_rfl) (by kernel_rfl) rfl rfl ?_
            refine TA.y (listed' := #[true, true, true, true, true, true, true, true, true, true, true, true, true, true, true, true, true, true, true, true, false, false, false, false, false, false, false, false, false, false, false]) 19 [0, 0] rfl (Y.field_box kf33_1 rfl rfl) (Gd.at 16 true 73 (decide (((T3.2.length : Nat) : Int) ≤ (60 : Int))) rfl rfl rfl (beq_tt H30)) rfl rfl (by kernel_rfl) (by kernel_rfl) (by kernel_rfl) rfl rfl ?_
            refine TA.y (listed' := #[true, true, true, true, true, true, true, true, true, true, true, true, true, true, true, true, true, true, true, true, true, false, false, false, false, false, false, false, false, false, false]) 20 [0, 0] rfl (Y.load_box (v := V_e1) 0 kk31 rfl rfl rfl) (Gd.at 16 true 73 (decide (((T3.2.length : Nat) : Int) ≤ (60 : Int))) rfl rfl rfl (beq_tt H30)) rfl rfl (by kernel_rfl) (by kernel_rfl) (by kernel_rfl) rfl rfl ?_
            refine TA.y (listed' := #[true, true, true, true, true, true, true, true, true, true, true, true, true, true, true, true, true, true, true, true, true, false, true, false, false, false, false, false, false, false, false]) 22 [0, 0] rfl (Y.move rfl) (Gd.at 16 true 73 (decide (((T3.2.length : Nat) : Int) ≤ (60 : Int))) rfl rfl rfl (beq_tt H30)) rfl rfl (by kernel_rfl) (by kernel_rfl) (by kernel_rfl) rfl rfl ?_
            refine TA.y (listed' := #[true, true, true, true, true, true, true, true, true, true, true, true, true, true, true, true, true, true, true, true, true, false, true, true, false, false, false, false, false, false, false]) 23 [0, 0] rfl (Y.nilCheck rfl) (Gd.at 16 true 73 (decide (((T3.2.length : Nat) : Int) ≤ (60 : Int))) rfl rfl rfl (beq_tt H30)) rfl rfl (by kernel_rfl) (by kernel_rfl) (by kernel_rfl) rfl rfl ?_
            refine TA.y (listed' := #[true, true, true, true, true, true, true, true, true, true, true, true, true, true, true, true, true, true, true, true, true, false, true, true, true, false, false, false, false, false, false]) 24 [0, 0] rfl (Y.field_box kf33_0 rfl rfl) (Gd.at 16 true 73 (decide (((T3.2.length : Nat) : Int) ≤ (60 : Int))) rfl rfl rfl (beq_tt H30)) rfl rfl (by kernel_rfl) (by kernel_rfl) (by kernel_rfl) rfl rfl ?_
            refine TA.y (listed' := #[true, true, true, true, true, true, true, true, true, true, true, true, true, true, true, true, true, true, true, true, true, false, true, true, true, true, false, false, false, false, false]) 25 [0, 0] rfl (Y.load_box (v := X4) 0 kk30 rfl rfl rfl) (Gd.at 16 true 73 (decide (((T3.2.length : Nat) : Int) ≤ (60 : Int))) rfl rfl rfl (beq_tt H30)) rfl rfl (by kernel_rfl) (by kernel_rfl) (by kernel_rfl) rfl rfl ?_
            refine TA.y (listed' := #[true, true, true, true, true, true, true, true, true, true, true, true, true, true, true, true, true, true, true, true, true, false, true, true, true, true, true, false, false, false, false]) 26 [0, 0] rfl (Y.len (l := T3.2) ke30 (Can.own 1 rfl) rfl) (Gd.at 16 true 73 (decide (((T3.2.length : Nat) : Int) ≤ (60 : Int))) rfl rfl rfl (beq_tt H30)) rfl rfl (by kernel_rfl) (by kernel_rfl) (by kernel_rfl) rfl rfl ?_
            refine TA.bind fun R31 H32 => ?_
            refine TA.one 21 (by kernel_rfl) ?_
            refine TX.ef (listed' := #[true, true, true, true, true, true, true, true, true, true, true, true, true, true, true, true, true, true, true, true, true, true, true, true, true, true, true, false, false, false, false]) [0, 0] rfl (Ef.call (rest := [.box B_e 33 [X4, V_e1, .int .i64 (IntKind.i64.wrap (e.Seq + (1 : Int))), V_e3], .own X4 (lc T3.2)]) [0, 0] (impl_totalOf_con e.Tables V_e1 R31 H32) kc82 rfl rfl ⟨(Base.can HB_V_e1), trivial⟩) (Gd.at 16 true 73 (decide (((T3.2.length : Nat) : Int) ≤ (60 : Int))) rfl rfl rfl (beq_tt H30)) rfl rfl rfl (fun _ => rfl) (fun _ => ?_)
            refine TA.y (listed' := #[true, true, true, true, true, true, true, true, true, true, true, true, true, true, true, true, true, true, true, true, true, true, true, true, true, true, true, true, false, false, false]) 27 [0, 0] rfl (Y.add rfl rfl) (Gd.at 16 true 73 (decide (((T3.2.length : Nat) : Int) ≤ (60 : Int))) rfl rfl rfl (beq_tt H30)) rfl rfl (by kernel_rfl) (by kernel_rfl) (by kernel_rfl) rfl rfl ?_
            refine TA.y (listed' := #[true, true, true, true, true, true, true, true, true, true, true, true, true, true, true, true, true, true, true, true, true, true, true, true, true, true, true, true, true, false, false]) 28 [0, 0] rfl (Y.leq rfl rfl) (Gd.at 16 true 73 (decide (((T3.2.length : Nat) : Int) ≤ (60 : Int))) rfl rfl rfl (beq_tt H30)) rfl rfl (by kernel_rfl) (by kernel_rfl) (by kernel_rfl) rfl rfl ?_
            refine TA.y (listed' := #[true, true, true, true, true, true, true, true, true, true, true, true, true, true, true, true, true, true, true, true, true, true, true, true, true, true, true, true, true, true, false]) 29 [0, 0] rfl (Y.pick_t H30 rfl rfl) rfl rfl rfl (by kernel_rfl) (by kernel_rfl) (by kernel_rfl) rfl rfl ?_
            refine TA.y (listed' := #[true, true, true, true, true, true, true, true, true, true, true, true, true, true, true, true, true, true, true, true, true, true, true, true, true, true, true, true, true, true, true]) 30 [0, 0] rfl (Y.assign rfl) rfl rfl rfl (by kernel_rfl) (by kernel_rfl) (by kernel_rfl) rfl rfl ?_
            refine TA.nil (by kernel_rfl) ?_
            exact TE.jb_go () [0, 0] ⟨rfl, trivial⟩ rfl
          · refine TA.off (listed' := #[true, true, true, true, true, true, true, true, true, true, true, true, true, true, true, true, true, true, false, false, false, false, false, false, false, false, false, false, false, false, false]) 17 [0, 0] rfl (Gd.at 16 true 73 (decide (((T3.2.length : Nat) : Int) ≤ (60 : Int))) rfl rfl rfl (beq_ft H30)) rfl rfl (by kernel_rfl) (by kernel_rfl) (by kernel_rfl) rfl rfl ?_
            refine TA.off (listed' := #[true, true, true, true, true, true, true, true, true, true, true, true, true, true, true, true, true, true, true, false, false, false, false, false, false, false, false, false, false, false, false]) 18 [0, 0] rfl (Gd.at 16 true 73 (decide (((T3.2.length : Nat) : Int) ≤ (60 : Int))) rfl rfl rfl (beq_ft H30)) rfl rfl (by kernel_rfl) (by kernel_rfl) (by kernel_rfl) rfl rfl ?_
            refine TA.off (listed' := #[true, true, true, true, true, true, true, true, true, true, true, true, true, true, true, true, true, true, true, true, false, false, false, false, false, false, false, false, false, false, false]) 19 [0, 0] rfl (Gd.at 16 true 73 (decide (((T3.2.length : Nat) : Int) ≤ (60 : Int))) rfl rfl rfl (beq_ft H30)) rfl rfl (by kernel_rfl) (by kernel_rfl) (by kernel_rfl) rfl rfl ?_
            refine TA.off (listed' := #[true, true, true, true, true, true, true, true, true, true, true, true, true, true, true, true, true, true, true, true, true, false, false, false, false, false, false, false, false, false, false]) 20 [0, 0] rfl (Gd.at 16 true 73 (decide (((T3.2.length : Nat) : Int) ≤ (60 : Int))) rfl rfl rfl (beq_ft H30)) rfl rfl (by kernel_rfl) (by kernel_rfl) (by kernel_rfl) rfl rfl ?_
            refine TA.off (listed' := #[true, true, true, true, true, true, true, true, true, true, true, true, true, true, true, true, true, true, true, true, true, true, false, false, false, false, false, false, false, false, false]) 21 [0, 0] rfl (Gd.at 16 true 73 (decide (((T3.2.length : Nat) : Int) ≤ (60 : Int))) rfl rfl rfl (beq_ft H30)) rfl rfl (by kernel_rfl) (by kernel_rfl) (by kernel_rfl) rfl rfl ?_
            refine TA.off (listed' := #[true, true, true, true, true, true, true, true, true, true, true, true, true, true, true, true, true, true, true, true, true, true, true, false, false, false, false, false, false, false, false]) 22 [0, 0] rfl (Gd.at 16 true 73 (decide (((T3.2.length : Nat) : Int) ≤ (60 : Int))) rfl rfl rfl (beq_ft H30)) rfl rfl (by kernel_rfl) (by kernel_rfl) (by kernel_rfl) rfl rfl ?_
            refine TA.off (listed' := #[true, true, true, true, true, true, true, true, true, true, true, true, true, true, true, true, true, true, true, true, true, true, true, true, false, false, false, false, false, false, false]) 23 [0, 0] rfl (Gd.at 16 true 73 (decide (((T3.2.length : Nat) : Int) ≤ (60 : Int))) rfl rfl rfl (beq_ft H30)) rfl rfl (by kernel_rfl) (by kernel_rfl) (by kernel_rfl) rfl rfl ?_
            refine TA.off (listed' := #[true, true, true, true, true, true, true, true, true, true, true, true, true, true, true, true, true, true, true, true, true, true, true, true, true, false, false, false, false, false, false]) 24 [0, 0] rfl (Gd.at 16 true 73 (decide (((T3.2.length : Nat) : Int) ≤ (60 : Int))) rfl rfl rfl (beq_ft H30)) rfl rfl (by kernel_rfl) (by kernel_rfl) (by kernel_rfl) rfl rfl ?_
            refine TA.off (listed' := #[true, true, true, true, true, true, true, true, true, true, true, true, true, true, true, true, true, true, true, true, true, true, true, true, true, true, false, false, false, false, false]) 25 [0, 0] rfl (Gd.at 16 true 73 (decide (((T3.2.length : Nat) : Int) ≤ (60 : Int))) rfl rfl rfl (beq_ft H30)) rfl rfl (by kernel_rfl) (by kernel_rfl) (by kernel_rfl) rfl rfl ?_
            refine TA.off (listed' := #[true, true, true, true, true, true, true, true, true, true, true, true, true, true, true, true, true, true, true, true, true, true, true, true, true, true, true, false, false, false, false]) 26 [0, 0] rfl (Gd.at 16 true 73 (decide (((T3.2.length : Nat) : Int) ≤ (60 : Int))) rfl rfl rfl (beq_ft H30)) rfl rfl (by kernel_rfl) (by kernel_rfl) (by kernel_rfl) rfl rfl ?_
            refine TA.off (listed' := #[true, true, true, true, true, true, true, true, true, true, true, true, true, true, true, true, true, true, true, true, true, true, true, true, true, true, true, true, false, false, false]) 27 [0, 0] rfl (Gd.at 16 true 73 (decide (((T3.2.length : Nat) : Int) ≤ (60 : Int))) rfl rfl rfl (beq_ft H30)) rfl rfl (by kernel_rfl) (by kernel_rfl) (by kernel_rfl) rfl rfl ?_
            refine TA.off (listed' := #[true, true, true, true, true, true, true, true, true, true, true, true, true, true, true, true, true, true, true, true, true, true, true, true, true, true, true, true, true, false, false]) 28 [0, 0] rfl (Gd.at 16 true 73 (decide (((T3.2.length : Nat) : Int) ≤ (60 : Int))) rfl rfl rfl (beq_ft H30)) rfl rfl (by kernel_rfl) (by kernel_rfl) (by kernel_rfl) rfl rfl ?_
            refine TA.y (listed' := #[true, true, true, true, true, true, true, true, true, true, true, true, true, true, true, true, true, true, true, true, true, true, true, true, true, true, true, true, true, true, false]) 29 [0, 0] rfl (Y.pick_f H30 rfl rfl) rfl rfl rfl (by kernel_rfl) (by kernel_rfl) (by kernel_rfl) rfl rfl ?_
            refine TA.y (listed' := #[true, true, true, true, true, true, true, true, true, true, true, true, true, true, true, true, true, true, true, true, true, true, true, true, true, true, true, true, true, true, true]) 30 [0, 0] rfl (Y.assign rfl) rfl rfl rfl (by kernel_rfl) (by kernel_rfl) (by kernel_rfl) rfl rfl ?_
            refine TA.nil (by kernel_rfl) ?_
            exact TE.jb_go () [0, 0] ⟨rfl, trivial⟩ rfl
        · refine TA.off (listed' := #[true, true, true, true, true, true, true, true, true, true, false, false, false, false, false, false, false, false, false, false, false, false, false, false, false, false, false, false, false, false, false]) 9 [0, 0] rfl (Gd.at 8 true 65 (decide (IntKind.i64.wrap (e.Seq + (1 : Int)) ≤ (1000000 : Int))) rfl rfl rfl (beq_ft H29)) rfl rfl (by kernel_rfl) (by kernel_rfl) (by kernel_rfl) rfl rfl ?_
          refine TA.off (listed' := #[true, true, true, true, true, true, true, true, true, true, true, false, false, false, false, false, false, false, false, false, false, false, false, false, false, false, false, false, false, false, false]) 10 [0, 0] rfl (Gd.at 8 true 65 (decide (IntKind.i64.wrap (e.Seq + (1 : Int)) ≤ (1000000 : Int))) rfl rfl rfl (beq_ft H29)) rfl rfl (by kernel_rfl) (by kernel_rfl) (by kernel_rfl) rfl rfl ?_
          refine TA.off (listed' := #[true, true, true, true, true, true, true, true, true, true, true, true, false, false, false, false, false, false, false, false, false, false, false, false, false, false, false, false, false, false, false]) 11 [0, 0] rfl (Gd.at 8 true 65 (decide (IntKind.i64.wrap (e.Seq + (1 : Int)) ≤ (1000000 : Int))) rfl rfl rfl (beq_ft H29)) rfl rfl (by kernel_rfl) (by kernel_rfl) (by kernel_rfl) rfl rfl ?_
          refine TA.off (listed' := #[true, true, true, true, true, true, true, true, true, true, true, true, true, false, false, false, false, false, false, false, false, false, false, false, false, false, false, false, false, false, false]) 12 [0, 0] rfl (Gd.at 8 true 65 (decide (IntKind.i64.wrap (e.Seq + (1 : Int)) ≤ (1000000 : Int))) rfl rfl rfl (beq_ft H29)) rfl rfl (by kernel_rfl) (by kernel_rfl) (by kernel_rfl) rfl rfl ?_
          refine TA.off (listed' := #[true, true, true, true, true, true, true, true, true, true, true, true, true, true, false, false, false, false, false, false, false, false, false, false, false, false, false, false, false, false, false]) 13 [0, 0] rfl (Gd.at 8 true 65 (decide (IntKind.i64.wrap (e.Seq + (1 : Int)) ≤ (1000000 : Int))) rfl rfl rfl (beq_ft H29)) rfl rfl (by kernel_rfl) (by kernel_rfl) (by kernel_rfl) rfl rfl ?_
          refine TA.off (listed' := #[true, true, true, true, true, true, true, true, true, true, true, true, true, true, true, false, false, false, false, false, false, false, false, false, false, false, false, false, false, false, false]) 14 [0, 0] rfl (Gd.at 8 true 65 (decide (IntKind.i64.wrap (e.Seq + (1 : Int)) ≤ (1000000 : Int))) rfl rfl rfl (beq_ft H29)) rfl rfl (by kernel_rfl) (by kernel_rfl) (by kernel_rfl) rfl rfl ?_
          refine TA.y (listed' := #[true, true, true, true, true, true, true, true, true, true, true, true, true, true, true, true, false, false, false, false, false, false, false, false, false, false, false, false, false, false, false]) 15 [0, 0] rfl (Y.pick_f H29 rfl rfl) rfl rfl rfl (by kernel_rfl) (by kernel_rfl) (by kernel_rfl) rfl rfl ?_
          refine TA.y (listed' := #[true, true, true, true, true, true, true, true, true, true, true, true, true, true, true, true, true, false, false, false, false, false, false, false, false, false, false, false, false, false, false]) 16 [0, 0] rfl (Y.move rfl) rfl rfl rfl (by kernel_rfl) (by kernel_rfl) (by kernel_rfl) rfl rfl ?_
          refine TA.off (listed' := #[true, true, true, true, true, true, true, true, true, true, true, true, true, true, true, true, true, true, false, false, false, false, false, false, false, false, false, false, false, false, false]) 17 [0, 0] rfl (Gd.at 16 true 73 false rfl rfl rfl rfl) rfl rfl (by kernel_rfl) (by kernel_rfl) (by kernel_rfl) rfl rfl ?_
          refine TA.off (listed' := #[true, true, true, true, true, true, true, true, true, true, true, true, true, true, true, true, true, true, true, false, false, false, false, false, false, false, false, false, false, false, false]) 18 [0, 0] rfl (Gd.at 16 true 73 false rfl rfl rfl rfl) rfl rfl (by kernel_rfl) (by kernel_rfl) (by kernel_rfl) rfl rfl ?_
          refine TA.off (listed' := #[true, true, true, true, true, true, true, true, true, true, true, true, true, true, true, true, true, true, true, true, false, false, false, false, false, false, false, false, false, false, false]) 19 [0, 0] rfl (Gd.at 16 true 73 false rfl rfl rfl rfl) rfl rfl (by kernel_rfl) (by kernel_rfl) (by kernel_rfl) rfl rfl ?_
          refine TA.off (listed' := #[true, true, true, true, true, true, true, true, true, true, true, true, true, true, true, true, true, true, true, true, true, false, false, false, false, false, false, false, false, false, false]) 20 [0, 0] rfl (Gd.at 16 true 73 false rfl rfl rfl rfl) rfl rfl (by kernel_rfl) (by kernel_rfl) (by kernel_rfl) rfl rfl ?_
          refine TA.off (listed' := #[true, true, true, true, true, true, true, true, true, true, true, true, true, true, true, true, true, true, true, true, true, true, false, false, false, false, false, false, false, false, false]) 21 [0, 0] rfl (Gd.at 16 true 73 false rfl rfl rfl rfl) rfl rfl (by kernel_rfl) (by kernel_rfl) (by kernel_rfl) rfl rfl ?_
          refine TA.off (listed' := #[true, true, true, true, true, true, true, true, true, true, true, true, true, true, true, true, true, true, true, true, true, true, true, false, false, false, false, false, false, false, false]) 22 [0, 0] rfl (Gd.at 16 true 73 false rfl rfl rfl rfl) rfl rfl (by kernel_rfl) (by kernel_rfl) (by kernel_rfl) rfl rfl ?_
          refine TA.off (listed' := #[true, true, true, true, true, true, true, true, true, true, true, true, true, true, true, true, true, true, true, true, true, true, true, true, false, false, false, false, false, false, false]) 23 [0, 0] rfl (Gd.at 16 true 73 false rfl rfl rfl rfl) rfl rfl (by kernel_rfl) (by kernel_rfl) (by kernel_rfl) rfl rfl ?_
          refine TA.off (listed' := #[true, true, true, true, true, true, true, true, true, true, true, true, true, true, true, true, true, true, true, true, true, true, true, true, true, false, false, false, false, false, false]) 24 [0, 0] rfl (Gd.at 16 true 73 false rfl rfl rfl rfl) rfl rfl (by kernel_rfl) (by kernel_rfl) (by kernel_rfl) rfl rfl ?_
          refine TA.off (listed' := #[true, true, true, true, true, true, true, true, true, true, true, true, true, true, true, true, true, true, true, true, true, true, true, true, true, true, false, false, false, false, false]) 25 [0, 0] rfl (Gd.at 16 true 73 false rfl rfl rfl rfl) rfl rfl (by kernel_rfl) (by kernel_rfl) (by kernel_rfl) rfl rfl ?_
          refine TA.off (listed' := #[true, true, true, true, true, true, true, true, true, true, true, true, true, true, true, true, true, true, true, true, true, true, true, true, true, true, true, false, false, false, false]) 26 [0, 0] rfl (Gd.at 16 true 73 false rfl rfl rfl rfl) rfl rfl (by kernel_rfl) (by kernel_rfl) (by kernel_rfl) rfl rfl ?_
          refine TA.off (listed' := #[true, true, true, true, true, true, true, true, true, true, true, true, true, true, true, true, true, true, true, true, true, true, true, true, true, true, true, true, false, false, false]) 27 [0, 0] rfl (Gd.at 16 true 73 false rfl rfl rfl rfl) rfl rfl (by kernel_rfl) (by kernel_rfl) (by kernel_rfl) rfl rfl ?_
          refine TA.off (listed' := #[true, true, true, true, true, true, true, true, true, true, true, true, true, true, true, true, true, true, true, true, true, true, true, true, true, true, true, true, true, false, false]) 28 [0, 0] rfl (Gd.at 16 true 73 false rfl rfl rfl rfl) rfl rfl (by kernel_rfl) (by kernel_rfl) (by kernel_rfl) rfl rfl ?_
          refine TA.y (listed' := #[true, true, true, true, true, true, true, true, true, true, true, true, true, true, true, true, true, true, true, true, true, true, true, true, true, true, true, true, true, true, false]) 29 [0, 0] rfl (Y.pick_f rfl rfl rfl) rfl rfl rfl (by kernel_rfl) (by kernel_rfl) (by kernel_rfl) rfl rfl ?_
          refine TA.y (listed' := #[true, true, true, true, true, true, true, true, true, true, true, true, true, true, true, true, true, true, true, true, true, true, true, true, true, true, true, true, true, true, true]) 30 [0, 0] rfl (Y.assign rfl) rfl rfl rfl (by kernel_rfl) (by kernel_rfl) (by kernel_rfl) rfl rfl ?_
          refine TA.nil (by kernel_rfl) ?_
          exact TE.jb_go () [0, 0] ⟨rfl, trivial⟩ rfl
      · refine TA.off (listed' := #[true, true, true, false, false, false, false, false, false, false, false, false, false, false, false, false, false, false, false, false, false, false, false, false, false, false, false, false, false, false, false]) 2 [0, 0] rfl (Gd.at 1 true 58 T3.1 rfl rfl rfl (beq_ft H28)) rfl rfl (by kernel_rfl) (by kernel_rfl) (by kernel_rfl) rfl rfl ?_
        refine TA.off (listed' := #[true, true, true, true, false, false, false, false, false, false, false, false, false, false, false, false, false, false, false, false, false, false, false, false, false, false, false, false, false, false, false]) 3 [0, 0] rfl (Gd.at 1 true 58 T3.1 rfl rfl rfl (beq_ft H28)) rfl rfl (by kernel_rfl) (by kernel_rfl) (by kernel_rfl) rfl rfl ?_
        refine TA.off (listed' := #[true, true, true, true, true, false, false, false, false, false, false, false, false, false, false, false, false, false, false, false, false, false, false, false, false, false, false, false, false, false, false]) 4 [0, 0] rfl (Gd.at 1 true 58 T3.1 rfl rfl rfl (beq_ft H28)) rfl rfl (by kernel_rfl) (by kernel_rfl) (by kernel_rfl) rfl rfl ?_
        refine TA.off (listed' := #[true, true, true, true, true, true, false, false, false, false, false, false, false, false, false, false, false, false, false, false, false, false, false, false, false, false, false, false, false, false, false]) 5 [0, 0] rfl (Gd.at 1 true 58 T3.1 rfl rfl rfl (beq_ft H28)) rfl rfl (by kernel_rfl) (by kernel_rfl) (by kernel_rfl) rfl rfl ?_
        refine TA.off (listed' := #[true, true, true, true, true, true, true, false, false, false, false, false, false, false, false, false, false, false, false, false, false, false, false, false, false, false, false, false, false, false, false]) 6 [0, 0] rfl (Gd.at 1 true 58 T3.1 rfl rfl rfl (beq_ft H28)) rfl rfl (by kernel_rfl) (by kernel_rfl) (by kernel_rfl) rfl rfl ?_
        refine TA.y (listed' := #[true, true, true, true, true, true, true, true, false, false, false, false, false, false, false, false, false, false, false, false, false, false, false, false, false, false, false, false, false, false, false]) 7 [0, 0] rfl (Y.pick_f H28 rfl rfl) rfl rfl rfl (by kernel_rfl) (by kernel_rfl) (by kernel_rfl) rfl rfl ?_
        refine TA.y (listed' := #[true, true, true, true, true, true, true, true, true, false, false, false, false, false, false, false, false, false, false, false, false, false, false, false, false, false, false, false, false, false, false]) 8 [0, 0] rfl (Y.move rfl) rfl rfl rfl (by kernel_rfl) (by kernel_rfl) (by kernel_rfl) rfl rfl ?_
        refine TA.off (listed' := #[true, true, true, true, true, true, true, true, true, true, false, false, false, false, false, false, false, false, false, false, false, false, false, false, false, false, false, false, false, false, false]) 9 [0, 0] rfl (Gd.at 8 true 65 false rfl rfl rfl rfl) rfl rfl (by kernel_rfl) (by kernel_rfl) (by kernel_rfl) rfl rfl ?_
        refine TA.off (listed' := #[true, true, true, true, true, true, true, true, true, true, true, false, false, false, false, false, false, false, false, false, false, false, false, false, false, false, false, false, false, false, false]) 10 [0, 0] rfl (Gd.at 8 true 65 false rfl rfl rfl rfl) rfl rfl (by kernel_rfl) (by kernel_rfl) (by kernel_rfl) rfl rfl ?_
        refine TA.off (listed' := #[true, true, true, true, true, true, true, true, true, true, true, true, false, false, false, false, false, false, false, false, false, false, false, false, false, false, false, false, false, false, false]) 11 [0, 0] rfl (Gd.at 8 true 65 false rfl rfl rfl rfl) rfl rfl (by kernel_rfl) (by kernel_rfl) (by kernel_rfl) rfl rfl ?_
        refine TA.off (listed' := #[true, true, true, true, true, true, true, true, true, true, true, true, true, false, false, false, false, false, false, false, false, false, false, false, false, false, false, false, false, false, false]) 12 [0, 0] rfl (Gd.at 8 true 65 false rfl rfl rfl rfl) rfl rfl (by kernel_rfl) (by kernel_rfl) (by kernel_rfl) rfl rfl ?_
        refine TA.off (listed' := #[true, true, true, true, true, true, true, true, true, true, true, true, true, true, false, false, false, false, false, false, false, false, false, false, false, false, false, false, false, false, false]) 13 [0, 0] rfl (Gd.at 8 true 65 false rfl rfl rfl rfl) rfl rfl (by kernel_rfl) (by kernel_rfl) (by kernel_rfl) rfl rfl ?_
        refine TA.off (listed' := #[true, true, true, true, true, true, true, true, true, true, true, true, true, true, true, false, false, false, false, false, false, false, false, false, false, false, false, false, false, false, false]) 14 [0, 0] rfl (Gd.at 8 true 65 false rfl rfl rfl rfl) rfl rfl (by kernel_rfl) (by kernel_rfl) (by kernel_rfl) rfl rfl ?_
        refine TA.y (listed' := #[true, true, true, true, true, true, true, true, true, true, true, true, true, true, true, true, false, false, false, false, false, false, false, false, false, false, false, false, false, false, false]) 15 [0, 0] rfl (Y.pick_f rfl rfl rfl) rfl rfl rfl (by kernel_rfl) (by kernel_rfl) (by kernel_rfl) rfl rfl ?_
        refine TA.y (listed' := #[true, true, true, true, true, true, true, true, true, true, true, true, true, true, true, true, true, false, false, false, false, false, false, false, false, false, false, false, false, false, false]) 16 [0, 0] rfl (Y.move rfl) rfl rfl rfl (by kernel_rfl) (by kernel_rfl) (by kernel_rfl) rfl rfl ?_
        refine TA.off (listed' := #[true, true, true, true, true, true, true, true, true, true, true, true, true, true, true, true, true, true, false, false, false, false, false, false, false, false, false, false, false, false, false]) 17 [0, 0] rfl (Gd.at 16 true 73 false rfl rfl rfl rfl) rfl rfl (by kernel_rfl) (by kernel_rfl) (by kernel_rfl) rfl rfl ?_
        refine TA.off (listed' := #[true, true, true, true, true, true, true, true, true, true, true, true, true, true, true, true, true, true, true, false, false, false, false, false, false, false, false, false, false, false, false]) 18 [0, 0] rfl (Gd.at 16 true 73 false rfl rfl rfl rfl) rfl rfl (by kernel_rfl) (by kernel_rfl) (by kernel_rfl) rfl rfl ?_
        refine TA.off (listed' := #[true, true, true, true, true, true, true, true, true, true, true, true, true, true, true, true, true, true, true, true, false, false, false, false, false, false, false, false, false, false, false]) 19 [0, 0] rfl (Gd.at 16 true 73 false rfl rfl rfl rfl) rfl rfl (by kernel_rfl) (by kernel_rfl) (by kernel_rfl) rfl rfl ?_
        refine TA.off (listed' := #[true, true, true, true, true, true, true, true, true, true, true, true, true, true, true, true, true, true, true, true, true, false, false, false, false, false, false, false, false, false, false]) 20 [0, 0] rfl (Gd.at 16 true 73 false rfl rfl rfl rfl) rfl rfl (by kernel_rfl) (by kernel_rfl) (by kernel_rfl) rfl rfl ?_
        refine TA.off (listed' := #[true, true, true, true, true, true, true, true, true, true, true, true, true, true, true, true, true, true, true, true, true, true, false, false, false, false, false, false, false, false, false]) 21 [0, 0] rfl (Gd.at 16 true 73 false rfl rfl rfl rfl) rfl rfl (by kernel_rfl) (by kernel_rfl) (by kernel_rfl) rfl rfl ?_
        refine TA.off (listed' := #[true, true, true, true, true, true, true, true, true, true, true, true, true, true, true, true, true, true, true, true, true, true, true, false, false, false, false, false, false, false, false]) 22 [0, 0] rfl (Gd.at 16 true 73 false rfl rfl rfl rfl) rfl rfl (by kernel_rfl) (by kernel_rfl) (by kernel_rfl) rfl rfl ?_
        refine TA.off (listed' := #[true, true, true, true, true, true, true, true, true, true, true, true, true, true, true, true, true, true, true, true, true, true, true, true, false, false, false, false, false, false, false]) 23 [0, 0] rfl (Gd.at 16 true 73 false rfl rfl rfl rfl) rfl rfl (by kernel_rfl) (by kernel_rfl) (by kernel_rfl) rfl rfl ?_
        refine TA.off (listed' := #[true, true, true, true, true, true, true, true, true, true, true, true, true, true, true, true, true, true, true, true, true, true, true, true, true, false, false, false, false, false, false]) 24 [0, 0] rfl (Gd.at 16 true 73 false rfl rfl rfl rfl) rfl rfl (by kernel_rfl) (by kernel_rfl) (by kernel_rfl) rfl rfl ?_
        refine TA.off (listed' := #[true, true, true, true, true, true, true, true, true, true, true, true, true, true, true, true, true, true, true, true, true, true, true, true, true, true, false, false, false, false, false]) 25 [0, 0] rfl (Gd.at 16 true 73 false rfl rfl rfl rfl) rfl rfl (by kernel_rfl) (by kernel_rfl) (by kernel_rfl) rfl rfl ?_
        refine TA.off (listed' := #[true, true, true, true, true, true, true, true, true, true, true, true, true, true, true, true, true, true, true, true, true, true, true, true, true, true, true, false, false, false, false]) 26 [0, 0] rfl (Gd.at 16 true 73 false rfl rfl rfl rfl) rfl rfl (by kernel_rfl) (by kernel_rfl) (by kernel_rfl) rfl rfl ?_
        refine TA.off (listed' := #[true, true, true, true, true, true, true, true, true, true, true, true, true, true, true, true, true, true, true, true, true, true, true, true, true, true, true, true, false, false, false]) 27 [0, 0] rfl (Gd.at 16 true 73 false rfl rfl rfl rfl) rfl rfl (by kernel_rfl) (by kernel_rfl) (by kernel_rfl) rfl rfl ?_
        refine TA.off (listed' := #[true, true, true, true, true, true, true, true, true, true, true, true, true, true, true, true, true, true, true, true, true, true, true, true, true, true, true, true, true, false, false]) 28 [0, 0] rfl (Gd.at 16 true 73 false rfl rfl rfl rfl) rfl rfl (by kernel_rfl) (by kernel_rfl) (by kernel_rfl) rfl rfl ?_
        refine TA.y (listed' := #[true, true, true, true, true, true, true, true, true, true, true, true, true, true, true, true, true, true, true, true, true, true, true, true, true, true, true, true, true, true, false]) 29 [0, 0] rfl (Y.pick_f rfl rfl rfl) rfl rfl rfl (by kernel_rfl) (by kernel_rfl) (by kernel_rfl) rfl rfl ?_
        refine TA.y (listed' := #[true, true, true, true, true, true, true, true, true, true, true, true, true, true, true, true, true, true, true, true, true, true, true, true, true, true, true, true, true, true, true]) 30 [0, 0] rfl (Y.assign rfl) rfl rfl rfl (by kernel_rfl) (by kernel_rfl) (by kernel_rfl) rfl rfl ?_
        refine TA.nil (by kernel_rfl) ?_
        exact TE.jb_go () [0, 0] ⟨rfl, trivial⟩ rfl
    · refine TE.next ?_
      refine TW.ret ?_
      exact TE.leaf fun _ _ hf_ hs_ => ret_any (rs := [.tmp 4]) (vs := [.bool T26]) (.inl rfl) rfl ⟨rfl, trivial⟩ hf_ hs_ ⟨X4, rfl, hs_.pulls [0, 0] rfl⟩

/-- loop.example/g00950/impl.EngPut -/
noncomputable def impl_EngPut (e : Eng) (l : List Op) : Option (Eng × Bool) :=
  (impl_EngOk e).bind fun R3 =>
  if (!R3) = true then (some ({ Mem := ([] : List Ent), Tables := ([] : List (List Ent)), Seq := (0 : Int), Snaps := ([] : List Int) : Eng }, false))
  else ((impl_copyEng e).bind fun R10 =>
  ((impl_BatchOk l).bind fun R16 =>
  if (!R16) = true then (some (R10.Seq, true, R10.Mem))
  else ((impl_Eng_engPut R10 l).bind fun R20 =>
  some (R20.2.Seq, !R20.1, R20.2.Mem))).bind (fun (T14 : Int × Bool × List Ent) =>
  if T14.2.1 = true then (some (R10, false))
  else (some ({ Mem := T14.2.2, Tables := R10.Tables, Seq := T14.1, Snaps := R10.Snaps : Eng }, true))))

theorem impl_EngPut_con (e : Eng) (l : List Op) (V_e0 : Value) (V_e1 : Value) (V_e3 : Value) (V_l0 : Value) (r : Eng × Bool) (hm : impl_EngPut e l = some r) :
    Con Try.prog 10 [.agg #[V_e0, V_e1, .int .i64 e.Seq, V_e3], V_l0] [] [(V_e0, lc e.Mem), (V_e1, lc e.Tables), (V_e3, lc e.Snaps), (V_l0, lc l)] (fun X : Value × Value × Value => .tuple #[.agg #[X.1, X.2.1, .int .i64 r.1.Seq, X.2.2], .bool r.2]) (fun X => [.own X.1 (lc r.1.Mem), .own X.2.1 (lc r.1.Tables), .own X.2.2 (lc r.1.Snaps)]) := by
  refine Con.intro (args := [.agg #[V_e0, V_e1, .int .i64 e.Seq, V_e3], V_l0]) (n := 24) (val := fun r (X : Value × Value × Value) => .tuple #[.agg #[X.1, X.2.1, .int .i64 r.1.Seq, X.2.2], .bool r.2]) (post := fun r X => [.own X.1 (lc r.1.Mem), .own X.2.1 (lc r.1.Tables), .own X.2.2 (lc r.1.Snaps)]) (m := impl_EngPut e l) Try.func10 rfl rfl rfl hm ?_
  intro w S hrd
  have HB_V_e0 := hrd _ (.head _)
  have HB_V_e1 := hrd _ (.tail _ (.head _))
  have HB_V_e3 := hrd _ (.tail _ (.tail _ (.head _)))
  have HB_V_l0 := hrd _ (.tail _ (.tail _ (.tail _ (.head _))))
  clear hrd
  unfold impl_EngPut
  refine TW.seq ?_
  refine TW.region ?_
  refine TO.ef (Ef.box rfl (Cel.agg ⟨(One.can (Base.can HB_V_e0)), (One.can (Base.can HB_V_e1)), (One.plain rfl), (One.can (Base.can HB_V_e3)), trivial⟩)) rfl rfl rfl (fun B1 => ?_)
  refine TO.ef (Ef.alloc kz33 rfl) rfl rfl rfl (fun B2 => ?_)
  refine TO.y (Y.assign rfl) rfl rfl rfl ?_
  refine TO.nil ?_
  refine TE.next ?_
  refine TW.seq ?_
  refine TW.seq ?_
  refine TW.region ?_
  refine TO.y (Y.load_box (v := .agg #[V_e0, V_e1, .int .i64 e.Seq, V_e3]) 1 kk33 rfl rfl rfl) rfl rfl rfl ?_
  refine TO.bind fun R3 H4 => ?_
  refine TO.ef (Ef.call (rest := [.box B2 33 [.slice none 0 0, .slice none 0 0, .int .i64 (0 : Int), .slice none 0 0], .box B1 33 [V_e0, V_e1, .int .i64 e.Seq, V_e3]]) [0, 0] (impl_EngOk_con e V_e0 V_e1 V_e3 R3 H4) kc39 rfl rfl ⟨(Base.can HB_V_e0), (Base.can HB_V_e1), (Base.can HB_V_e3), trivial⟩) rfl rfl rfl (fun _ => ?_)
  refine TO.y (Y.not rfl) rfl rfl rfl ?_
  refine TO.nil ?_
  refine TE.next ?_
  refine TW.cond rfl (fun H6 => ?_) (fun H6 => ?_)
  · refine TW.seq ?_
    refine TW.region ?_
    refine TO.y (Y.build (cells := [.slice none 0 0, .slice none 0 0, .int .i64 (0 : Int), .slice none 0 0]) [] kp33 kz33 trivial rfl) rfl rfl rfl ?_
    refine TO.ef0 (Ef.store_box (us := [.slice none 0 0, .slice none 0 0, .int .i64 (0 : Int), .slice none 0 0]) (vs' := [.slice none 0 0, .slice none 0 0, .int .i64 (0 : Int), .slice none 0 0]) (is' := [.box B2 33 [.slice none 0 0, .slice none 0 0, .int .i64 (0 : Int), .slice none 0 0], .box B1 33 [V_e0, V_e1, .int .i64 e.Seq, V_e3]]) 0 kk33 rfl rfl rfl (Cel.plain rfl rfl) rfl rfl rfl rfl) rfl rfl (fun _ => ?_)
    refine TO.y (Y.assign rfl) rfl rfl rfl ?_
    refine TO.nil ?_
    refine TE.next ?_
    refine TW.ret ?_
    refine TE.then_ret ?_
    exact TE.leaf fun _ _ hf_ hs_ => ret_any (rs := [.cell 4 33, .tmp 5]) (vs := [.agg #[.slice none 0 0, .slice none 0 0, .int .i64 (0 : Int), .slice none 0 0], .bool false]) (.inl rfl) rfl (RV.cell 0 rfl rfl kk33 rfl ⟨rfl, trivial⟩) hf_ hs_ ⟨((.slice none 0 0), (.slice none 0 0), (.slice none 0 0)), rfl, (((hs_.nilItem 4).nilItem 1).nilItem 1).pulls [2, 1, 0] rfl⟩
  · refine TW.skip ?_
    refine TE.next ?_
    refine TW.seq ?_
    refine TW.region ?_
    refine TO.y (Y.load_box (v := .agg #[V_e0, V_e1, .int .i64 e.Seq, V_e3]) 1 kk33 rfl rfl rfl) rfl rfl rfl ?_
    refine TO.bind fun R10 H11 => ?_
    refine TO.ef (Ef.call (rest := [.box B2 33 [.slice none 0 0, .slice none 0 0, .int .i64 (0 : Int), .slice none 0 0], .box B1 33 [V_e0, V_e1, .int .i64 e.Seq, V_e3]]) [0, 0] (impl_copyEng_con e V_e0 V_e1 V_e3 R10 H11) kc40 rfl rfl ⟨(Base.can HB_V_e0), (Base.can HB_V_e1), (Base.can HB_V_e3), trivial⟩) rfl rfl rfl (fun Y12 => ?_)
    refine TO.ef (Ef.alloc kz33 rfl) rfl rfl rfl (fun B13 => ?_)
    refine TO.ef0 (Ef.store_box (us := [Y12.1, Y12.2.1, .int .i64 R10.Seq, Y12.2.2]) (vs' := [Y12.1, Y12.2.1, .int .i64 R10.Seq, Y12.2.2]) (is' := [.box B13 33 [Y12.1, Y12.2.1, .int .i64 R10.Seq, Y12.2.2], .own Y12.1 (lc R10.Mem), .own Y12.2.1 (lc R10.Tables), .own Y12.2.2 (lc R10.Snaps), .box B2 33 [.slice none 0 0, .slice none 0 0, .int .i64 (0 : Int), .slice none 0 0], .box B1 33 [V_e0, V_e1, .int .i64 e.Seq, V_e3]]) 0 kk33 rfl rfl rfl (Cel.agg ⟨(One.can (Can.own 1 rfl)), (One.can (Can.own 2 rfl)), (One.plain rfl), (One.can (Can.own 3 rfl)), trivial⟩) rfl rfl rfl rfl) rfl rfl (fun _ => ?_)
    refine TO.nil ?_
    refine TE.next ?_
    refine TW.seq ?_
    refine TW.seq ?_
    refine TW.joinBX (τ := Int × Bool × List Ent) (X := Value) (fun T _ => [(2, .pointer (some ⟨B1, 0, none⟩)), (4, .pointer (some ⟨B2, 0, none⟩)), (6, .pointer (some ⟨B13, 0, none⟩)), (20, .bool T.2.1)]) (fun T X => [.box B1 33 [V_e0, V_e1, .int .i64 e.Seq, V_e3], .box B2 33 [.slice none 0 0, .slice none 0 0, .int .i64 (0 : Int), .slice none 0 0], .box B13 33 [X, Y12.2.1, .int .i64 T.1, Y12.2.2], .own X (lc T.2.2), .own Y12.2.1 (lc R10.Tables), .own Y12.2.2 (lc R10.Snaps)]) ?_ (fun T14 X15 => ?_)
    · refine TW.region ?_
      refine TO.y (Y.move rfl) rfl rfl rfl ?_
      refine TO.bind fun R16 H17 => ?_
      refine TO.ef (Ef.call (rest := [.box B13 33 [Y12.1, Y12.2.1, .int .i64 R10.Seq, Y12.2.2], .own Y12.1 (lc R10.Mem), .own Y12.2.1 (lc R10.Tables), .own Y12.2.2 (lc R10.Snaps), .box B2 33 [.slice none 0 0, .slice none 0 0, .int .i64 (0 : Int), .slice none 0 0], .box B1 33 [V_e0, V_e1, .int .i64 e.Seq, V_e3]]) [0, 0, 0, 0, 0, 0] (impl_BatchOk_con l V_l0 R16 H17) kc41 rfl rfl ⟨(Base.can HB_V_l0), trivial⟩) rfl rfl rfl (fun _ => ?_)
      refine TO.y (Y.not rfl) rfl rfl rfl ?_
      refine TO.y (Y.move rfl) rfl rfl rfl ?_
      refine TO.ite (b := !R16) (fun H19 => ?_) (fun H19 => ?_)
      · refine TO.off (Gd.at 3 false 16 (!R16) rfl rfl rfl (beq_tf H19)) rfl rfl ?_
        refine TO.off (Gd.at 3 false 16 (!R16) rfl rfl rfl (beq_tf H19)) rfl rfl ?_
        refine TO.off (Gd.at 3 false 16 (!R16) rfl rfl rfl (beq_tf H19)) rfl rfl ?_
        refine TO.y (Y.pick_t H19 rfl rfl) rfl rfl rfl ?_
        refine TO.nil ?_
        exact TE.jb_go Y12.1 [5, 4, 0, 0, 0, 0] ⟨rfl, rfl, rfl, rfl, trivial⟩ rfl
      · refine TO.y (Y.move rfl) (Gd.at 3 false 16 (!R16) rfl rfl rfl (beq_ff H19)) rfl rfl ?_
        refine TO.bind fun R20 H21 => ?_
        refine TO.ef (Ef.call (rest := [.own Y12.2.1 (lc R10.Tables), .own Y12.2.2 (lc R10.Snaps), .box B2 33 [.slice none 0 0, .slice none 0 0, .int .i64 (0 : Int), .slice none 0 0], .box B1 33 [V_e0, V_e1, .int .i64 e.Seq, V_e3]]) [0, 0, 0, 0, 0, 0] (impl_Eng_engPut_con R10 l Y12.1 Y12.2.1 Y12.2.2 B13 V_l0 R20 H21) kc42 rfl rfl ⟨(Can.own 0 rfl), (Can.own 1 rfl), (Base.can HB_V_l0), trivial⟩) (Gd.at 3 false 16 (!R16) rfl rfl rfl (beq_ff H19)) rfl rfl (fun Y22 => ?_)
        refine TO.y (Y.not rfl) (Gd.at 3 false 16 (!R16) rfl rfl rfl (beq_ff H19)) rfl rfl ?_
        refine TO.y (Y.pick_f H19 rfl rfl) rfl rfl rfl ?_
        refine TO.nil ?_
        exact TE.jb_go Y22 [5, 4, 0, 0, 0, 0] ⟨rfl, rfl, rfl, rfl, trivial⟩ rfl
    · refine TE.next ?_
      refine TW.cond rfl (fun H23 => ?_) (fun H23 => ?_)
      · refine TW.seq ?_
        refine TW.region ?_
        refine TO.y (Y.load_box (v := .agg #[V_e0, V_e1, .int .i64 e.Seq, V_e3]) 0 kk33 rfl rfl rfl) rfl rfl rfl ?_
        refine TO.ef (Ef.call (rest := [.box B1 33 [V_e0, V_e1, .int .i64 e.Seq, V_e3], .box B2 33 [.slice none 0 0, .slice none 0 0, .int .i64 (0 : Int), .slice none 0 0], .box B13 33 [X15, Y12.2.1, .int .i64 T14.1, Y12.2.2], .own X15 (lc T14.2.2), .own Y12.2.1 (lc R10.Tables), .own Y12.2.2 (lc R10.Snaps)]) [0, 0, 0, 0, 0, 0] (impl_copyEng_con e V_e0 V_e1 V_e3 R10 H11) kc40 rfl rfl ⟨(Base.can HB_V_e0), (Base.can HB_V_e1), (Base.can HB_V_e3), trivial⟩) rfl rfl rfl (fun Y24 => ?_)
        refine TO.ef0 (Ef.store_box (us := [Y24.1, Y24.2.1, .int .i64 R10.Seq, Y24.2.2]) (vs' := [Y24.1, Y24.2.1, .int .i64 R10.Seq, Y24.2.2]) (is' := [.own Y24.1 (lc R10.Mem), .own Y24.2.1 (lc R10.Tables), .own Y24.2.2 (lc R10.Snaps), .box B1 33 [V_e0, V_e1, .int .i64 e.Seq, V_e3], .box B2 33 [Y24.1, Y24.2.1, .int .i64 R10.Seq, Y24.2.2], .box B13 33 [X15, Y12.2.1, .int .i64 T14.1, Y12.2.2], .own X15 (lc T14.2.2), .own Y12.2.1 (lc R10.Tables), .own Y12.2.2 (lc R10.Snaps)]) 4 kk33 rfl rfl rfl (Cel.agg ⟨(One.can (Can.own 0 rfl)), (One.can (Can.own 1 rfl)), (One.plain rfl), (One.can (Can.own 2 rfl)), trivial⟩) rfl rfl rfl rfl) rfl rfl (fun _ => ?_)
        refine TO.y (Y.assign rfl) rfl rfl rfl ?_
        refine TO.nil ?_
        refine TE.next ?_
        refine TW.ret ?_
        refine TE.then_ret ?_
        exact TE.leaf fun _ _ hf_ hs_ => ret_any (rs := [.cell 4 33, .tmp 5]) (vs := [.agg #[Y24.1, Y24.2.1, .int .i64 R10.Seq, Y24.2.2], .bool false]) (.inl rfl) rfl (RV.cell 4 rfl rfl kk33 rfl ⟨rfl, trivial⟩) hf_ hs_ ⟨(Y24.1, Y24.2.1, Y24.2.2), rfl, hs_.pulls [0, 0, 0] rfl⟩
      · refine TW.skip ?_
        refine TE.next ?_
        refine TW.seq ?_
        refine TW.region ?_
        refine TO.y (Y.load_box (v := .agg #[X15, Y12.2.1, .int .i64 T14.1, Y12.2.2]) 2 kk33 rfl rfl rfl) rfl rfl rfl ?_
        refine TO.ef0 (Ef.store_box (us := [X15, Y12.2.1, .int .i64 T14.1, Y12.2.2]) (vs' := [X15, Y12.2.1, .int .i64 T14.1, Y12.2.2]) (is' := [.box B1 33 [V_e0, V_e1, .int .i64 e.Seq, V_e3], .box B2 33 [X15, Y12.2.1, .int .i64 T14.1, Y12.2.2], .box B13 33 [X15, Y12.2.1, .int .i64 T14.1, Y12.2.2], .own X15 (lc T14.2.2), .own Y12.2.1 (lc R10.Tables), .own Y12.2.2 (lc R10.Snaps)]) 1 kk33 rfl rfl rfl (Cel.agg ⟨(One.can (Can.own 3 rfl)), (One.can (Can.own 4 rfl)), (One.plain rfl), (One.can (Can.own 5 rfl)), trivial⟩) rfl rfl rfl rfl) rfl rfl (fun _ => ?_)
        refine TO.y (Y.assign rfl) rfl rfl rfl ?_
        refine TO.nil ?_
        refine TE.next ?_
        refine TW.ret ?_
        exact TE.leaf fun _ _ hf_ hs_ => ret_any (rs := [.cell 4 33, .tmp 5]) (vs := [.agg #[X15, Y12.2.1, .int .i64 T14.1, Y12.2.2], .bool true]) (.inl rfl) rfl (RV.cell 1 rfl rfl kk33 rfl ⟨rfl, trivial⟩) hf_ hs_ ⟨(X15, Y12.2.1, Y12.2.2), rfl, hs_.pulls [3, 3, 3] rfl⟩

/-- loop.example/g00950/laws.eqEnt -/
noncomputable def laws_eqEnt (a : Ent) (b : Ent) : Option Bool :=
  if (!(decide (a.Key = b.Key))) = true then (some false)
  else (if (!(decide (a.Seq = b.Seq))) = true then (some false)
  else (if (!(decide (a.Del = b.Del))) = true then (some false)
  else (if (!(decide (a.Val = b.Val))) = true then (some false)
  else (some true))))

theorem laws_eqEnt_con (a : Ent) (b : Ent)  (r : Bool) (hm : laws_eqEnt a b = some r) :
    Con Try.prog 83 [.agg #[strV a.Key, .int .i64 a.Seq, .bool a.Del, strV a.Val], .agg #[strV b.Key, .int .i64 b.Seq, .bool b.Del, strV b.Val]] [] [] (fun _ : Unit => .bool r) (fun _ => []) := by
  refine Con.intro (args := [.agg #[strV a.Key, .int .i64 a.Seq, .bool a.Del, strV a.Val], .agg #[strV b.Key, .int .i64 b.Seq, .bool b.Del, strV b.Val]]) (n := 25) (val := fun r (_ : Unit) => .bool r) (post := fun _ _ => []) (m := laws_eqEnt a b) Try.func83 rfl rfl rfl hm ?_
  intro w S _
  unfold laws_eqEnt
  refine TW.seq ?_
  refine TW.region ?_
  refine TO.ef (Ef.box rfl (Cel.plain rfl rfl)) rfl rfl rfl (fun B1 => ?_)
  refine TO.ef (Ef.box rfl (Cel.plain rfl rfl)) rfl rfl rfl (fun B2 => ?_)
  refine TO.y (Y.assign rfl) rfl rfl rfl ?_
  refine TO.nil ?_
  refine TE.next ?_
  refine TW.seq ?_
  refine TW.seq ?_
  refine TW.region ?_
  refine TO.y (Y.field_box kf73_0 rfl rfl) rfl rfl rfl ?_
  refine TO.y (Y.load_box (v := strV a.Key) 1 kk9 rfl rfl rfl) rfl rfl rfl ?_
  refine TO.y (Y.field_box kf73_0 rfl rfl) rfl rfl rfl ?_
  refine TO.y (Y.load_box (v := strV b.Key) 0 kk9 rfl rfl rfl) rfl rfl rfl ?_
  refine TO.y (Y.sneq rfl rfl) rfl rfl rfl ?_
  refine TO.nil ?_
  refine TE.next ?_
  refine TW.cond rfl (fun H3 => ?_) (fun H3 => ?_)
  · refine TW.seq ?_
    refine TW.region ?_
    refine TO.y (Y.assign rfl) rfl rfl rfl ?_
    refine TO.nil ?_
    refine TE.next ?_
    refine TW.ret ?_
    refine TE.then_ret ?_
    exact TE.leaf fun _ _ hf_ hs_ => ret_any (rs := [.tmp 4]) (vs := [.bool false]) (.inl rfl) rfl ⟨rfl, trivial⟩ hf_ hs_ ⟨(), rfl, hs_.pulls [] rfl⟩
  · refine TW.skip ?_
    refine TE.next ?_
    refine TW.seq ?_
    refine TW.seq ?_
    refine TW.region ?_
    refine TO.y (Y.field_box kf73_1 rfl rfl) rfl rfl rfl ?_
    refine TO.y (Y.load_box (v := .int .i64 a.Seq) 1 kk3 rfl rfl rfl) rfl rfl rfl ?_
    refine TO.y (Y.field_box kf73_1 rfl rfl) rfl rfl rfl ?_
    refine TO.y (Y.load_box (v := .int .i64 b.Seq) 0 kk3 rfl rfl rfl) rfl rfl rfl ?_
    refine TO.y (Y.neq rfl rfl) rfl rfl rfl ?_
    refine TO.nil ?_
    refine TE.next ?_
    refine TW.cond rfl (fun H4 => ?_) (fun H4 => ?_)
    · refine TW.seq ?_
      refine TW.region ?_
      refine TO.y (Y.assign rfl) rfl rfl rfl ?_
      refine TO.nil ?_
      refine TE.next ?_
      refine TW.ret ?_
      refine TE.then_ret ?_
      exact TE.leaf fun _ _ hf_ hs_ => ret_any (rs := [.tmp 4]) (vs := [.bool false]) (.inl rfl) rfl ⟨rfl, trivial⟩ hf_ hs_ ⟨(), rfl, hs_.pulls [] rfl⟩
    · refine TW.skip ?_
      refine TE.next ?_
      refine TW.seq ?_
      refine TW.seq ?_
      refine TW.region ?_
      refine TO.y (Y.field_box kf73_2 rfl rfl) rfl rfl rfl ?_
      refine TO.y (Y.load_box (v := .bool a.Del) 1 kk4 rfl rfl rfl) rfl rfl rfl ?_
      refine TO.y (Y.field_box kf73_2 rfl rfl) rfl rfl rfl ?_
      refine TO.y (Y.load_box (v := .bool b.Del) 0 kk4 rfl rfl rfl) rfl rfl rfl ?_
      refine TO.y (Y.neb kb4 rfl rfl) rfl rfl rfl ?_
      refine TO.nil ?_
      refine TE.next ?_
      refine TW.cond rfl (fun H5 => ?_) (fun H5 => ?_)
      · refine TW.seq ?_
        refine TW.region ?_
        refine TO.y (Y.assign rfl) rfl rfl rfl ?_
        refine TO.nil ?_
        refine TE.next ?_
        refine TW.ret ?_
        refine TE.then_ret ?_
        exact TE.leaf fun _ _ hf_ hs_ => ret_any (rs := [.tmp 4]) (vs := [.bool false]) (.inl rfl) rfl ⟨rfl, trivial⟩ hf_ hs_ ⟨(), rfl, hs_.pulls [] rfl⟩
      · refine TW.skip ?_
        refine TE.next ?_
        refine TW.seq ?_
        refine TW.seq ?_
        refine TW.region ?_
        refine TO.y (Y.field_box kf73_3 rfl rfl) rfl rfl rfl ?_
        refine TO.y (Y.load_box (v := strV a.Val) 1 kk9 rfl rfl rfl) rfl rfl rfl ?_
        refine TO.y (Y.field_box kf73_3 rfl rfl) rfl rfl rfl ?_
        refine TO.y (Y.load_box (v := strV b.Val) 0 kk9 rfl rfl rfl) rfl rfl rfl ?_
        refine TO.y (Y.sneq rfl rfl) rfl rfl rfl ?_
        refine TO.nil ?_
        refine TE.next ?_
        refine TW.cond rfl (fun H6 => ?_) (fun H6 => ?_)
        · refine TW.seq ?_
          refine TW.region ?_
          refine TO.y (Y.assign rfl) rfl rfl rfl ?_
          refine TO.nil ?_
          refine TE.next ?_
          refine TW.ret ?_
          refine TE.then_ret ?_
          exact TE.leaf fun _ _ hf_ hs_ => ret_any (rs := [.tmp 4]) (vs := [.bool false]) (.inl rfl) rfl ⟨rfl, trivial⟩ hf_ hs_ ⟨(), rfl, hs_.pulls [] rfl⟩
        · refine TW.skip ?_
          refine TE.next ?_
          refine TW.seq ?_
          refine TW.region ?_
          refine TO.y (Y.assign rfl) rfl rfl rfl ?_
          refine TO.nil ?_
          refine TE.next ?_
          refine TW.ret ?_
          exact TE.leaf fun _ _ hf_ hs_ => ret_any (rs := [.tmp 4]) (vs := [.bool true]) (.inl rfl) rfl ⟨rfl, trivial⟩ hf_ hs_ ⟨(), rfl, hs_.pulls [] rfl⟩

/-- loop.example/g00950/laws.eqEntS -/
noncomputable def laws_eqEntS (a : List Ent) (b : List Ent) : Option Bool :=
  if (!(decide (((a.length : Nat) : Int) = ((b.length : Nat) : Int)))) = true then (some false)
  else (bindC (loopO (fun (S2 : Int) => if (decide (S2 < ((a.length : Nat) : Int))) = true then ((idx a S2).bind fun E7 =>
  (idx b S2).bind fun E9 =>
  (laws_eqEnt E7 E9).bind fun R11 =>
  if (!R11) = true then (some (.done (.done false)))
  else (some (.go (IntKind.i64.wrap (S2 + (1 : Int))))))
  else (some (.done (.go ()))))
  (0 : Int))
  (fun (T4 : Unit) => some true))

theorem laws_eqEntS_con (a : List Ent) (b : List Ent) (V_a0 : Value) (V_b0 : Value) (r : Bool) (hm : laws_eqEntS a b = some r) :
    Con Try.prog 43 [V_a0, V_b0] [] [(V_a0, lc a), (V_b0, lc b)] (fun _ : Unit => .bool r) (fun _ => []) := by
  refine Con.intro (args := [V_a0, V_b0]) (n := 27) (val := fun r (_ : Unit) => .bool r) (post := fun _ _ => []) (m := laws_eqEntS a b) Try.func43 rfl rfl rfl hm ?_
  intro w S hrd
  have HB_V_a0 := hrd _ (.head _)
  have HB_V_b0 := hrd _ (.tail _ (.head _))
  clear hrd
  unfold laws_eqEntS
  refine TW.seq ?_
  refine TW.region ?_
  refine TO.y (Y.assign rfl) rfl rfl rfl ?_
  refine TO.nil ?_
  refine TE.next ?_
  refine TW.seq ?_
  refine TW.seq ?_
  refine TW.region ?_
  refine TO.y (Y.move rfl) rfl rfl rfl ?_
  refine TO.y (Y.len (l := a) ke30 (Base.can HB_V_a0) rfl) rfl rfl rfl ?_
  refine TO.y (Y.move rfl) rfl rfl rfl ?_
  refine TO.y (Y.len (l := b) ke30 (Base.can HB_V_b0) rfl) rfl rfl rfl ?_
  refine TO.y (Y.neq rfl rfl) rfl rfl rfl ?_
  refine TO.nil ?_
  refine TE.next ?_
  refine TW.cond rfl (fun H1 => ?_) (fun H1 => ?_)
  · refine TW.seq ?_
    refine TW.region ?_
    refine TO.y (Y.assign rfl) rfl rfl rfl ?_
    refine TO.nil ?_
    refine TE.next ?_
    refine TW.ret ?_
    refine TE.then_ret ?_
    exact TE.leaf fun _ _ hf_ hs_ => ret_any (rs := [.tmp 4]) (vs := [.bool false]) (.inl rfl) rfl ⟨rfl, trivial⟩ hf_ hs_ ⟨(), rfl, hs_.pulls [] rfl⟩
  · refine TW.skip ?_
    refine TE.next ?_
    refine TW.seq ?_
    refine TW.seq ?_
    refine TW.region ?_
    refine TO.y (Y.assign rfl) rfl rfl rfl ?_
    refine TO.nil ?_
    refine TE.next ?_
    refine TW.joinX (τ := Unit) (X := Unit) (fun _ _ => []) (fun _ _ => []) ?_ (fun T4 X5 => ?_)
    · refine TW.block ?_
      refine TW.loopX (σ := Int) (X := Unit) (fun T _ => [(0, V_a0), (1, V_b0), (5, .int .i64 T)]) (fun _ _ => []) () [] ⟨rfl, rfl, rfl, trivial⟩ rfl (fun S2 X3 => ?_)
      refine TW.seq ?_
      refine TW.seq ?_
      refine TW.region ?_
      refine TO.y (Y.move rfl) rfl rfl rfl ?_
      refine TO.y (Y.move rfl) rfl rfl rfl ?_
      refine TO.y (Y.len (l := a) ke30 (Base.can HB_V_a0) rfl) rfl rfl rfl ?_
      refine TO.y (Y.lss rfl rfl) rfl rfl rfl ?_
      refine TO.nil ?_
      refine TE.next ?_
      refine TW.cond rfl (fun H6 => ?_) (fun H6 => ?_)
      · refine TW.skip ?_
        refine TE.next ?_
        refine TW.seq ?_
        refine TW.block ?_
        refine TW.seq ?_
        refine TW.draw (isH := []) hMix ?_
        refine TA.y (listed' := #[true, false, false, false, false, false, false, false, false, false]) 0 [] rfl (Y.move rfl) rfl rfl rfl (by kernel_rfl) (by kernel_rfl) (by kernel_rfl) rfl rfl ?_
        refine TA.y (listed' := #[true, true, false, false, false, false, false, false, false, false]) 1 [] rfl (Y.move rfl) rfl rfl rfl (by kernel_rfl) (by kernel_rfl) (by kernel_rfl) rfl rfl ?_
        refine TA.bind fun E7 H8 => ?_
        refine TA.y (listed' := #[true, true, true, false, false, false, false, false, false, false]) 2 [] rfl (Y.index ke30 (Base.can HB_V_a0) H8 rfl rfl) rfl rfl rfl (by kernel_rfl) (by kernel_rfl) (by kernel_rfl) rfl rfl ?_
        refine TA.y (listed' := #[true, true, true, true, false, false, false, false, false, false]) 3 [] rfl (Y.load_el (us := [strV E7.Key, .int .i64 E7.Seq, .bool E7.Del, strV E7.Val]) (u := .agg #[strV E7.Key, .int .i64 E7.Seq, .bool E7.Del, strV E7.Val]) kk73 rfl (Base.can HB_V_a0) (idx_get H8).2.2 rfl rfl rfl rfl rfl) rfl rfl rfl (by kernel_rfl) (by kernel_rfl) (by kernel_rfl) rfl rfl ?_
        refine TA.y (listed' := #[true, true, true, true, true, false, false, false, false, false]) 4 [] rfl (Y.move rfl) rfl rfl rfl (by kernel_rfl) (by kernel_rfl) (by kernel_rfl) rfl rfl ?_
        refine TA.y (listed' := #[true, true, true, true, true, true, false, false, false, false]) 5 [] rfl (Y.move rfl) rfl rfl rfl (by kernel_rfl) (by kernel_rfl) (by kernel_rfl) rfl rfl ?_
        refine TA.bind fun E9 H10 => ?_
        refine TA.y (listed' := #[true, true, true, true, true, true, true, false, false, false]) 6 [] rfl (Y.index ke30 (Base.can HB_V_b0) H10 rfl rfl) rfl rfl rfl (by kernel_rfl) (by kernel_rfl) (by kernel_rfl) rfl rfl ?_
        refine TA.y (listed' := #[true, true, true, true, true, true, true, true, false, false]) 7 [] rfl (Y.load_el (us := [strV E9.Key, .int .i64 E9.Seq, .bool E9.Del, strV E9.Val]) (u := .agg #[strV E9.Key, .int .i64 E9.Seq, .bool E9.Del, strV E9.Val]) kk73 rfl (Base.can HB_V_b0) (idx_get H10).2.2 rfl rfl rfl rfl rfl) rfl rfl rfl (by kernel_rfl) (by kernel_rfl) (by kernel_rfl) rfl rfl ?_
        refine TA.bind fun R11 H12 => ?_
        refine TA.one 8 (by kernel_rfl) ?_
        refine TX.ef (listed' := #[true, true, true, true, true, true, true, true, true, false]) [] rfl (Ef.call (rest := []) [] (laws_eqEnt_con E7 E9  R11 H12) kc83 rfl rfl trivial) rfl rfl rfl rfl (fun _ => rfl) (fun _ => ?_)
        refine TA.y (listed' := #[true, true, true, true, true, true, true, true, true, true]) 9 [] rfl (Y.not rfl) rfl rfl rfl (by kernel_rfl) (by kernel_rfl) (by kernel_rfl) rfl rfl ?_
        refine TA.nil (by kernel_rfl) ?_
        refine TE.next ?_
        refine TW.cond rfl (fun H14 => ?_) (fun H14 => ?_)
        · refine TW.seq ?_
          refine TW.region ?_
          refine TO.y (Y.assign rfl) rfl rfl rfl ?_
          refine TO.nil ?_
          refine TE.next ?_
          refine TW.ret ?_
          refine TE.block_ret ?_
          refine TE.then_ret ?_
          refine TE.lp_ret ?_
          refine TE.block_ret ?_
          refine TE.jn_done ?_
          refine TE.then_ret ?_
          exact TE.leaf fun _ _ hf_ hs_ => ret_any (rs := [.tmp 4]) (vs := [.bool false]) (.inl rfl) rfl ⟨rfl, trivial⟩ hf_ hs_ ⟨(), rfl, hs_.pulls [] rfl⟩
        · refine TW.skip ?_
          refine TE.block_normal ?_
          refine TE.next ?_
          refine TW.region ?_
          refine TO.y (Y.move rfl) rfl rfl rfl ?_
          refine TO.y (Y.add rfl rfl) rfl rfl rfl ?_
          refine TO.y (Y.assign rfl) rfl rfl rfl ?_
          refine TO.nil ?_
          exact TE.lp_go () [] ⟨rfl, rfl, rfl, trivial⟩ rfl
      · refine TW.exit ?_
        refine TE.then_exit ?_
        refine TE.lp_exit ?_
        refine TE.block_exit ?_
        exact TE.jn_go () [] trivial rfl
    · refine TE.next ?_
      refine TW.seq ?_
      refine TW.region ?_
      refine TO.y (Y.assign rfl) rfl rfl rfl ?_
      refine TO.nil ?_
      refine TE.next ?_
      refine TW.ret ?_
      exact TE.leaf fun _ _ hf_ hs_ => ret_any (rs := [.tmp 4]) (vs := [.bool true]) (.inl rfl) rfl ⟨rfl, trivial⟩ hf_ hs_ ⟨(), rfl, hs_.pulls [] rfl⟩

/-- loop.example/g00950/laws.eqEntSS -/
noncomputable def laws_eqEntSS (a : List (List Ent)) (b : List (List Ent)) : Option Bool :=
  if (!(decide (((a.length : Nat) : Int) = ((b.length : Nat) : Int)))) = true then (some false)
  else (bindC (loopO (fun (S2 : Int) => if (decide (S2 < ((a.length : Nat) : Int))) = true then ((idx a S2).bind fun E7 =>
  (idx b S2).bind fun E10 =>
  (laws_eqEntS E7 E10).bind fun R13 =>
  if (!R13) = true then (some (.done (.done false)))
  else (some (.go (IntKind.i64.wrap (S2 + (1 : Int))))))
  else (some (.done (.go ()))))
  (0 : Int))
  (fun (T4 : Unit) => some true))

theorem laws_eqEntSS_con (a : List (List Ent)) (b : List (List Ent)) (V_a0 : Value) (V_b0 : Value) (r : Bool) (hm : laws_eqEntSS a b = some r) :
    Con Try.prog 44 [V_a0, V_b0] [] [(V_a0, lc a), (V_b0, lc b)] (fun _ : Unit => .bool r) (fun _ => []) := by
  refine Con.intro (args := [V_a0, V_b0]) (n := 27) (val := fun r (_ : Unit) => .bool r) (post := fun _ _ => []) (m := laws_eqEntSS a b) Try.func44 rfl rfl rfl hm ?_
  intro w S hrd
  have HB_V_a0 := hrd _ (.head _)
  have HB_V_b0 := hrd _ (.tail _ (.head _))
  clear hrd
  unfold laws_eqEntSS
  refine TW.seq ?_
  refine TW.region ?_
  refine TO.y (Y.assign rfl) rfl rfl rfl ?_
  refine TO.nil ?_
  refine TE.next ?_
  refine TW.seq ?_
  refine TW.seq ?_
  refine TW.region ?_
  refine TO.y (Y.move rfl) rfl rfl rfl ?_
  refine TO.y (Y.len (l := a) ke31 (Base.can HB_V_a0) rfl) rfl rfl rfl ?_
  refine TO.y (Y.move rfl) rfl rfl rfl ?_
  refine TO.y (Y.len (l := b) ke31 (Base.can HB_V_b0) rfl) rfl rfl rfl ?_
  refine TO.y (Y.neq rfl rfl) rfl rfl rfl ?_
  refine TO.nil ?_
  refine TE.next ?_
  refine TW.cond rfl (fun H1 => ?_) (fun H1 => ?_)
  · refine TW.seq ?_
    refine TW.region ?_
    refine TO.y (Y.assign rfl) rfl rfl rfl ?_
    refine TO.nil ?_
    refine TE.next ?_
    refine TW.ret ?_
    refine TE.then_ret ?_
    exact TE.leaf fun _ _ hf_ hs_ => ret_any (rs := [.tmp 4]) (vs := [.bool false]) (.inl rfl) rfl ⟨rfl, trivial⟩ hf_ hs_ ⟨(), rfl, hs_.pulls [] rfl⟩
  · refine TW.skip ?_
    refine TE.next ?_
    refine TW.seq ?_
    refine TW.seq ?_
    refine TW.region ?_
    refine TO.y (Y.assign rfl) rfl rfl rfl ?_
    refine TO.nil ?_
    refine TE.next ?_
    refine TW.joinX (τ := Unit) (X := Unit) (fun _ _ => []) (fun _ _ => []) ?_ (fun T4 X5 => ?_)
    · refine TW.block ?_
      refine TW.loopX (σ := Int) (X := Unit) (fun T _ => [(0, V_a0), (1, V_b0), (5, .int .i64 T)]) (fun _ _ => []) () [] ⟨rfl, rfl, rfl, trivial⟩ rfl (fun S2 X3 => ?_)
      refine TW.seq ?_
      refine TW.seq ?_
      refine TW.region ?_
      refine TO.y (Y.move rfl) rfl rfl rfl ?_
      refine TO.y (Y.move rfl) rfl rfl rfl ?_
      refine TO.y (Y.len (l := a) ke31 (Base.can HB_V_a0) rfl) rfl rfl rfl ?_
      refine TO.y (Y.lss rfl rfl) rfl rfl rfl ?_
      refine TO.nil ?_
      refine TE.next ?_
      refine TW.cond rfl (fun H6 => ?_) (fun H6 => ?_)
      · refine TW.skip ?_
        refine TE.next ?_
        refine TW.seq ?_
        refine TW.block ?_
        refine TW.seq ?_
        refine TW.draw (isH := []) hMix ?_
        refine TA.y (listed' := #[true, false, false, false, false, false, false, false, false, false]) 0 [] rfl (Y.move rfl) rfl rfl rfl (by kernel_rfl) (by kernel_rfl) (by kernel_rfl) rfl rfl ?_
        refine TA.y (listed' := #[true, true, false, false, false, false, false, false, false, false]) 1 [] rfl (Y.move rfl) rfl rfl rfl (by kernel_rfl) (by kernel_rfl) (by kernel_rfl) rfl rfl ?_
        refine TA.bind fun E7 H8 => ?_
        refine TA.y (listed' := #[true, true, true, false, false, false, false, false, false, false]) 2 [] rfl (Y.index ke31 (Base.can HB_V_a0) H8 rfl rfl) rfl rfl rfl (by kernel_rfl) (by kernel_rfl) (by kernel_rfl) rfl rfl ?_
        have Q9 : Base w S (elv w V_a0 (S2.toNat * 1 + 0)) (lc E7) := Base.el HB_V_a0 (idx_get H8).2.2 rfl rfl
        refine TA.y (listed' := #[true, true, true, true, false, false, false, false, false, false]) 3 [] rfl (Y.load_base (α := List Ent) (u := (elv w V_a0 (S2.toNat * 1 + 0))) kk30 rfl HB_V_a0 (idx_get H8).2.2 rfl rfl rfl rfl rfl) rfl rfl rfl (by kernel_rfl) (by kernel_rfl) (by kernel_rfl) rfl rfl ?_
        refine TA.y (listed' := #[true, true, true, true, true, false, false, false, false, false]) 4 [] rfl (Y.move rfl) rfl rfl rfl (by kernel_rfl) (by kernel_rfl) (by kernel_rfl) rfl rfl ?_
        refine TA.y (listed' := #[true, true, true, true, true, true, false, false, false, false]) 5 [] rfl (Y.move rfl) rfl rfl rfl (by kernel_rfl) (by kernel_rfl) (by kernel_rfl) rfl rfl ?_
        refine TA.bind fun E10 H11 => ?_
        refine TA.y (listed' := #[true, true, true, true, true, true, true, false, false, false]) 6 [] rfl (Y.index ke31 (Base.can HB_V_b0) H11 rfl rfl) rfl rfl rfl (by kernel_rfl) (by kernel_rfl) (by kernel_rfl) rfl rfl ?_
        have Q12 : Base w S (elv w V_b0 (S2.toNat * 1 + 0)) (lc E10) := Base.el HB_V_b0 (idx_get H11).2.2 rfl rfl
        refine TA.y (listed' := #[true, true, true, true, true, true, true, true, false, false]) 7 [] rfl (Y.load_base (α := List Ent) (u := (elv w V_b0 (S2.toNat * 1 + 0))) kk30 rfl HB_V_b0 (idx_get H11).2.2 rfl rfl rfl rfl rfl) rfl rfl rfl (by kernel_rfl) (by kernel_rfl) (by kernel_rfl) rfl rfl ?_
        refine TA.bind fun R13 H14 => ?_
        refine TA.one 8 (by kernel_rfl) ?_
        refine TX.ef (listed' := #[true, true, true, true, true, true, true, true, true, false]) [] rfl (Ef.call (rest := []) [] (laws_eqEntS_con E7 E10 (elv w V_a0 (S2.toNat * 1 + 0)) (elv w V_b0 (S2.toNat * 1 + 0)) R13 H14) kc43 rfl rfl ⟨(Base.can Q9), (Base.can Q12), trivial⟩) rfl rfl rfl rfl (fun _ => rfl) (fun _ => ?_)
        refine TA.y (listed' := #[true, true, true, true, true, true, true, true, true, true]) 9 [] rfl (Y.not rfl) rfl rfl rfl (by kernel_rfl) (by kernel_rfl) (by kernel_rfl) rfl rfl ?_
        refine TA.nil (by kernel_rfl) ?_
        refine TE.next ?_
        refine TW.cond rfl (fun H16 => ?_) (fun H16 => ?_)
        · refine TW.seq ?_
          refine TW.region ?_
          refine TO.y (Y.assign rfl) rfl rfl rfl ?_
          refine TO.nil ?_
          refine TE.next ?_
          refine TW.ret ?_
          refine TE.block_ret ?_
          refine TE.then_ret ?_
          refine TE.lp_ret ?_
          refine TE.block_ret ?_
          refine TE.jn_done ?_
          refine TE.then_ret ?_
          exact TE.leaf fun _ _ hf_ hs_ => ret_any (rs := [.tmp 4]) (vs := [.bool false]) (.inl rfl) rfl ⟨rfl, trivial⟩ hf_ hs_ ⟨(), rfl, hs_.pulls [] rfl⟩
        · refine TW.skip ?_
          refine TE.block_normal ?_
          refine TE.next ?_
          refine TW.region ?_
          refine TO.y (Y.move rfl) rfl rfl rfl ?_
          refine TO.y (Y.add rfl rfl) rfl rfl rfl ?_
          refine TO.y (Y.assign rfl) rfl rfl rfl ?_
          refine TO.nil ?_
          exact TE.lp_go () [] ⟨rfl, rfl, rfl, trivial⟩ rfl
      · refine TW.exit ?_
        refine TE.then_exit ?_
        refine TE.lp_exit ?_
        refine TE.block_exit ?_
        exact TE.jn_go () [] trivial rfl
    · refine TE.next ?_
      refine TW.seq ?_
      refine TW.region ?_
      refine TO.y (Y.assign rfl) rfl rfl rfl ?_
      refine TO.nil ?_
      refine TE.next ?_
      refine TW.ret ?_
      exact TE.leaf fun _ _ hf_ hs_ => ret_any (rs := [.tmp 4]) (vs := [.bool true]) (.inl rfl) rfl ⟨rfl, trivial⟩ hf_ hs_ ⟨(), rfl, hs_.pulls [] rfl⟩

/-- loop.example/g00950/laws.eqIntS -/
noncomputable def laws_eqIntS (a : List Int) (b : List Int) : Option Bool :=
  if (!(decide (((a.length : Nat) : Int) = ((b.length : Nat) : Int)))) = true then (some false)
  else (bindC (loopO (fun (S2 : Int) => if (decide (S2 < ((a.length : Nat) : Int))) = true then ((idx a S2).bind fun E7 =>
  (idx b S2).bind fun E9 =>
  if (!(decide (E7 = E9))) = true then (some (.done (.done false)))
  else (some (.go (IntKind.i64.wrap (S2 + (1 : Int))))))
  else (some (.done (.go ()))))
  (0 : Int))
  (fun (T4 : Unit) => some true))

theorem laws_eqIntS_con (a : List Int) (b : List Int) (V_a0 : Value) (V_b0 : Value) (r : Bool) (hm : laws_eqIntS a b = some r) :
    Con Try.prog 45 [V_a0, V_b0] [] [(V_a0, lc a), (V_b0, lc b)] (fun _ : Unit => .bool r) (fun _ => []) := by
  refine Con.intro (args := [V_a0, V_b0]) (n := 26) (val := fun r (_ : Unit) => .bool r) (post := fun _ _ => []) (m := laws_eqIntS a b) Try.func45 rfl rfl rfl hm ?_
  intro w S hrd
  have HB_V_a0 := hrd _ (.head _)
  have HB_V_b0 := hrd _ (.tail _ (.head _))
  clear hrd
  unfold laws_eqIntS
  refine TW.seq ?_
  refine TW.region ?_
  refine TO.y (Y.assign rfl) rfl rfl rfl ?_
  refine TO.nil ?_
  refine TE.next ?_
  refine TW.seq ?_
  refine TW.seq ?_
  refine TW.region ?_
  refine TO.y (Y.move rfl) rfl rfl rfl ?_
  refine TO.y (Y.len (l := a) ke24 (Base.can HB_V_a0) rfl) rfl rfl rfl ?_
  refine TO.y (Y.move rfl) rfl rfl rfl ?_
  refine TO.y (Y.len (l := b) ke24 (Base.can HB_V_b0) rfl) rfl rfl rfl ?_
  refine TO.y (Y.neq rfl rfl) rfl rfl rfl ?_
  refine TO.nil ?_
  refine TE.next ?_
  refine TW.cond rfl (fun H1 => ?_) (fun H1 => ?_)
  · refine TW.seq ?_
    refine TW.region ?_
    refine TO.y (Y.assign rfl) rfl rfl rfl ?_
    refine TO.nil ?_
    refine TE.next ?_
    refine TW.ret ?_
    refine TE.then_ret ?_
    exact TE.leaf fun _ _ hf_ hs_ => ret_any (rs := [.tmp 4]) (vs := [.bool false]) (.inl rfl) rfl ⟨rfl, trivial⟩ hf_ hs_ ⟨(), rfl, hs_.pulls [] rfl⟩
  · refine TW.skip ?_
    refine TE.next ?_
    refine TW.seq ?_
    refine TW.seq ?_
    refine TW.region ?_
    refine TO.y (Y.assign rfl) rfl rfl rfl ?_
    refine TO.nil ?_
    refine TE.next ?_
    refine TW.joinX (τ := Unit) (X := Unit) (fun _ _ => []) (fun _ _ => []) ?_ (fun T4 X5 => ?_)
    · refine TW.block ?_
      refine TW.loopX (σ := Int) (X := Unit) (fun T _ => [(0, V_a0), (1, V_b0), (5, .int .i64 T)]) (fun _ _ => []) () [] ⟨rfl, rfl, rfl, trivial⟩ rfl (fun S2 X3 => ?_)
      refine TW.seq ?_
      refine TW.seq ?_
      refine TW.region ?_
      refine TO.y (Y.move rfl) rfl rfl rfl ?_
      refine TO.y (Y.move rfl) rfl rfl rfl ?_
      refine TO.y (Y.len (l := a) ke24 (Base.can HB_V_a0) rfl) rfl rfl rfl ?_
      refine TO.y (Y.lss rfl rfl) rfl rfl rfl ?_
      refine TO.nil ?_
      refine TE.next ?_
      refine TW.cond rfl (fun H6 => ?_) (fun H6 => ?_)
      · refine TW.skip ?_
        refine TE.next ?_
        refine TW.seq ?_
        refine TW.block ?_
        refine TW.seq ?_
        refine TW.draw (isH := []) hMix ?_
        refine TA.y (listed' := #[true, false, false, false, false, false, false, false, false]) 0 [] rfl (Y.move rfl) rfl rfl rfl (by kernel_rfl) (by kernel_rfl) (by kernel_rfl) rfl rfl ?_
        refine TA.y (listed' := #[true, true, false, false, false, false, false, false, false]) 1 [] rfl (Y.move rfl) rfl rfl rfl (by kernel_rfl) (by kernel_rfl) (by kernel_rfl) rfl rfl ?_
        refine TA.bind fun E7 H8 => ?_
        refine TA.y (listed' := #[true, true, true, false, false, false, false, false, false]) 2 [] rfl (Y.index ke24 (Base.can HB_V_a0) H8 rfl rfl) rfl rfl rfl (by kernel_rfl) (by kernel_rfl) (by kernel_rfl) rfl rfl ?_
        refine TA.y (listed' := #[true, true, true, true, false, false, false, false, false]) 3 [] rfl (Y.load_el (us := [.int .i64 E7]) (u := .int .i64 E7) kk3 rfl (Base.can HB_V_a0) (idx_get H8).2.2 rfl rfl rfl rfl rfl) rfl rfl rfl (by kernel_rfl) (by kernel_rfl) (by kernel_rfl) rfl rfl ?_
        refine TA.y (listed' := #[true, true, true, true, true, false, false, false, false]) 4 [] rfl (Y.move rfl) rfl rfl rfl (by kernel_rfl) (by kernel_rfl) (by kernel_rfl) rfl rfl ?_
        refine TA.y (listed' := #[true, true, true, true, true, true, false, false, false]) 5 [] rfl (Y.move rfl) rfl rfl rfl (by kernel_rfl) (by kernel_rfl) (by kernel_rfl) rfl rfl ?_
        refine TA.bind fun E9 H10 => ?_
        refine TA.y (listed' := #[true, true, true, true, true, true, true, false, false]) 6 [] rfl (Y.index ke24 (Base.can HB_V_b0) H10 rfl rfl) rfl rfl rfl (by kernel_rfl) (by kernel_rfl) (by kernel_rfl) rfl rfl ?_
        refine TA.y (listed' := #[true, true, true, true, true, true, true, true, false]) 7 [] rfl (Y.load_el (us := [.int .i64 E9]) (u := .int .i64 E9) kk3 rfl (Base.can HB_V_b0) (idx_get H10).2.2 rfl rfl rfl rfl rfl) rfl rfl rfl (by kernel_rfl) (by kernel_rfl) (by kernel_rfl) rfl rfl ?_
        refine TA.y (listed' := #[true, true, true, true, true, true, true, true, true]) 8 [] rfl (Y.neq rfl rfl) rfl rfl rfl (by kernel_rfl) (by kernel_rfl) (by kernel_rfl) rfl rfl ?_
        refine TA.nil (by kernel_rfl) ?_
        refine TE.next ?_
        refine TW.cond rfl (fun H11 => ?_) (fun H11 => ?_)
        · refine TW.seq ?_
          refine TW.region ?_
          refine TO.y (Y.assign rfl) rfl rfl rfl ?_
          refine TO.nil ?_
          refine TE.next ?_
          refine TW.ret ?_
          refine TE.block_ret ?_
          refine TE.then_ret ?_
          refine TE.lp_ret ?_
          refine TE.block_ret ?_
          refine TE.jn_done ?_
          refine TE.then_ret ?_
          exact TE.leaf fun _ _ hf_ hs_ => ret_any (rs := [.tmp 4]) (vs := [.bool false]) (.inl rfl) rfl ⟨rfl, trivial⟩ hf_ hs_ ⟨(), rfl, hs_.pulls [] rfl⟩
        · refine TW.skip ?_
          refine TE.block_normal ?_
          refine TE.next ?_
          refine TW.region ?_
          refine TO.y (Y.move rfl) rfl rfl rfl ?_
          refine TO.y (Y.add rfl rfl) rfl rfl rfl ?_
          refine TO.y (Y.assign rfl) rfl rfl rfl ?_
          refine TO.nil ?_
          exact TE.lp_go () [] ⟨rfl, rfl, rfl, trivial⟩ rfl
      · refine TW.exit ?_
        refine TE.then_exit ?_
        refine TE.lp_exit ?_
        refine TE.block_exit ?_
        exact TE.jn_go () [] trivial rfl
    · refine TE.next ?_
      refine TW.seq ?_
      refine TW.region ?_
      refine TO.y (Y.assign rfl) rfl rfl rfl ?_
      refine TO.nil ?_
      refine TE.next ?_
      refine TW.ret ?_
      exact TE.leaf fun _ _ hf_ hs_ => ret_any (rs := [.tmp 4]) (vs := [.bool true]) (.inl rfl) rfl ⟨rfl, trivial⟩ hf_ hs_ ⟨(), rfl, hs_.pulls [] rfl⟩

/-- loop.example/g00950/laws.eqEng -/
noncomputable def laws_eqEng (a : Eng) (b : Eng) : Option Bool :=
  (laws_eqEntS a.Mem b.Mem).bind fun R3 =>
  if (!R3) = true then (some false)
  else ((laws_eqEntSS a.Tables b.Tables).bind fun R7 =>
  if (!R7) = true then (some false)
  else (if (!(decide (a.Seq = b.Seq))) = true then (some false)
  else ((laws_eqIntS a.Snaps b.Snaps).bind fun R12 =>
  if (!R12) = true then (some false)
  else (some true))))

theorem laws_eqEng_con (a : Eng) (b : Eng) (V_a0 : Value) (V_a1 : Value) (V_a3 : Value) (V_b0 : Value) (V_b1 : Value) (V_b3 : Value) (r : Bool) (hm : laws_eqEng a b = some r) :
    Con Try.prog 11 [.agg #[V_a0, V_a1, .int .i64 a.Seq, V_a3], .agg #[V_b0, V_b1, .int .i64 b.Seq, V_b3]] [] [(V_a0, lc a.Mem), (V_a1, lc a.Tables), (V_a3, lc a.Snaps), (V_b0, lc b.Mem), (V_b1, lc b.Tables), (V_b3, lc b.Snaps)] (fun _ : Unit => .bool r) (fun _ => []) := by
  refine Con.intro (args := [.agg #[V_a0, V_a1, .int .i64 a.Seq, V_a3], .agg #[V_b0, V_b1, .int .i64 b.Seq, V_b3]]) (n := 28) (val := fun r (_ : Unit) => .bool r) (post := fun _ _ => []) (m := laws_eqEng a b) Try.func11 rfl rfl rfl hm ?_
  intro w S hrd
  have HB_V_a0 := hrd _ (.head _)
  have HB_V_a1 := hrd _ (.tail _ (.head _))
  have HB_V_a3 := hrd _ (.tail _ (.tail _ (.head _)))
  have HB_V_b0 := hrd _ (.tail _ (.tail _ (.tail _ (.head _))))
  have HB_V_b1 := hrd _ (.tail _ (.tail _ (.tail _ (.tail _ (.head _)))))
  have HB_V_b3 := hrd _ (.tail _ (.tail _ (.tail _ (.tail _ (.tail _ (.head _))))))
  clear hrd
  unfold laws_eqEng
  refine TW.seq ?_
  refine TW.region ?_
  refine TO.ef (Ef.box rfl (Cel.agg ⟨(One.can (Base.can HB_V_a0)), (One.can (Base.can HB_V_a1)), (One.plain rfl), (One.can (Base.can HB_V_a3)), trivial⟩)) rfl rfl rfl (fun B1 => ?_)
  refine TO.ef (Ef.box rfl (Cel.agg ⟨(One.can (Base.can HB_V_b0)), (One.can (Base.can HB_V_b1)), (One.plain rfl), (One.can (Base.can HB_V_b3)), trivial⟩)) rfl rfl rfl (fun B2 => ?_)
  refine TO.y (Y.assign rfl) rfl rfl rfl ?_
  refine TO.nil ?_
  refine TE.next ?_
  refine TW.seq ?_
  refine TW.seq ?_
  refine TW.region ?_
  refine TO.y (Y.field_box kf33_0 rfl rfl) rfl rfl rfl ?_
  refine TO.y (Y.load_box (v := V_a0) 1 kk30 rfl rfl rfl) rfl rfl rfl ?_
  refine TO.y (Y.field_box kf33_0 rfl rfl) rfl rfl rfl ?_
  refine TO.y (Y.load_box (v := V_b0) 0 kk30 rfl rfl rfl) rfl rfl rfl ?_
  refine TO.bind fun R3 H4 => ?_
  refine TO.ef (Ef.call (rest := [.box B2 33 [V_b0, V_b1, .int .i64 b.Seq, V_b3], .box B1 33 [V_a0, V_a1, .int .i64 a.Seq, V_a3]]) [0, 0] (laws_eqEntS_con a.Mem b.Mem V_a0 V_b0 R3 H4) kc43 rfl rfl ⟨(Base.can HB_V_a0), (Base.can HB_V_b0), trivial⟩) rfl rfl rfl (fun _ => ?_)
  refine TO.y (Y.not rfl) rfl rfl rfl ?_
  refine TO.nil ?_
  refine TE.next ?_
  refine TW.cond rfl (fun H6 => ?_) (fun H6 => ?_)
  · refine TW.seq ?_
    refine TW.region ?_
    refine TO.y (Y.assign rfl) rfl rfl rfl ?_
    refine TO.nil ?_
    refine TE.next ?_
    refine TW.ret ?_
    refine TE.then_ret ?_
    exact TE.leaf fun _ _ hf_ hs_ => ret_any (rs := [.tmp 4]) (vs := [.bool false]) (.inl rfl) rfl ⟨rfl, trivial⟩ hf_ hs_ ⟨(), rfl, hs_.pulls [] rfl⟩
  · refine TW.skip ?_
    refine TE.next ?_
    refine TW.seq ?_
    refine TW.seq ?_
    refine TW.region ?_
    refine TO.y (Y.field_box kf33_1 rfl rfl) rfl rfl rfl ?_
    refine TO.y (Y.load_box (v := V_a1) 1 kk31 rfl rfl rfl) rfl rfl rfl ?_
    refine TO.y (Y.field_box kf33_1 rfl rfl) rfl rfl rfl ?_
    refine TO.y (Y.load_box (v := V_b1) 0 kk31 rfl rfl rfl) rfl rfl rfl ?_
    refine TO.bind fun R7 H8 => ?_
    refine TO.ef (Ef.call (rest := [.box B2 33 [V_b0, V_b1, .int .i64 b.Seq, V_b3], .box B1 33 [V_a0, V_a1, .int .i64 a.Seq, V_a3]]) [0, 0] (laws_eqEntSS_con a.Tables b.Tables V_a1 V_b1 R7 H8) kc44 rfl rfl ⟨(Base.can HB_V_a1), (Base.can HB_V_b1), trivial⟩) rfl rfl rfl (fun _ => ?_)
    refine TO.y (Y.not rfl) rfl rfl rfl ?_
    refine TO.nil ?_
    refine TE.next ?_
    refine TW.cond rfl (fun H10 => ?_) (fun H10 => ?_)
    · refine TW.seq ?_
      refine TW.region ?_
      refine TO.y (Y.assign rfl) rfl rfl rfl ?_
      refine TO.nil ?_
      refine TE.next ?_
      refine TW.ret ?_
      refine TE.then_ret ?_
      exact TE.leaf fun _ _ hf_ hs_ => ret_any (rs := [.tmp 4]) (vs := [.bool false]) (.inl rfl) rfl ⟨rfl, trivial⟩ hf_ hs_ ⟨(), rfl, hs_.pulls [] rfl⟩
    · refine TW.skip ?_
      refine TE.next ?_
      refine TW.seq ?_
      refine TW.seq ?_
      refine TW.region ?_
      refine TO.y (Y.field_box kf33_2 rfl rfl) rfl rfl rfl ?_
      refine TO.y (Y.load_box (v := .int .i64 a.Seq) 1 kk3 rfl rfl rfl) rfl rfl rfl ?_
      refine TO.y (Y.field_box kf33_2 rfl rfl) rfl rfl rfl ?_
      refine TO.y (Y.load_box (v := .int .i64 b.Seq) 0 kk3 rfl rfl rfl) rfl rfl rfl ?_
      refine TO.y (Y.neq rfl rfl) rfl rfl rfl ?_
      refine TO.nil ?_
      refine TE.next ?_
      refine TW.cond rfl (fun H11 => ?_) (fun H11 => ?_)
      · refine TW.seq ?_
        refine TW.region ?_
        refine TO.y (Y.assign rfl) rfl rfl rfl ?_
        refine TO.nil ?_
        refine TE.next ?_
        refine TW.ret ?_
        refine TE.then_ret ?_
        exact TE.leaf fun _ _ hf_ hs_ => ret_any (rs := [.tmp 4]) (vs := [.bool false]) (.inl rfl) rfl ⟨rfl, trivial⟩ hf_ hs_ ⟨(), rfl, hs_.pulls [] rfl⟩
      · refine TW.skip ?_
        refine TE.next ?_
        refine TW.seq ?_
        refine TW.seq ?_
        refine TW.region ?_
        refine TO.y (Y.field_box kf33_3 rfl rfl) rfl rfl rfl ?_
        refine TO.y (Y.load_box (v := V_a3) 1 kk24 rfl rfl rfl) rfl rfl rfl ?_
        refine TO.y (Y.field_box kf33_3 rfl rfl) rfl rfl rfl ?_
        refine TO.y (Y.load_box (v := V_b3) 0 kk24 rfl rfl rfl) rfl rfl rfl ?_
        refine TO.bind fun R12 H13 => ?_
        refine TO.ef (Ef.call (rest := [.box B2 33 [V_b0, V_b1, .int .i64 b.Seq, V_b3], .box B1 33 [V_a0, V_a1, .int .i64 a.Seq, V_a3]]) [0, 0] (laws_eqIntS_con a.Snaps b.Snaps V_a3 V_b3 R12 H13) kc45 rfl rfl ⟨(Base.can HB_V_a3), (Base.can HB_V_b3), trivial⟩) rfl rfl rfl (fun _ => ?_)
        refine TO.y (Y.not rfl) rfl rfl rfl ?_
        refine TO.nil ?_
        refine TE.next ?_
        refine TW.cond rfl (fun H15 => ?_) (fun H15 => ?_)
        · refine TW.seq ?_
          refine TW.region ?_
          refine TO.y (Y.assign rfl) rfl rfl rfl ?_
          refine TO.nil ?_
          refine TE.next ?_
          refine TW.ret ?_
          refine TE.then_ret ?_
          exact TE.leaf fun _ _ hf_ hs_ => ret_any (rs := [.tmp 4]) (vs := [.bool false]) (.inl rfl) rfl ⟨rfl, trivial⟩ hf_ hs_ ⟨(), rfl, hs_.pulls [] rfl⟩
        · refine TW.skip ?_
          refine TE.next ?_
          refine TW.seq ?_
          refine TW.region ?_
          refine TO.y (Y.assign rfl) rfl rfl rfl ?_
          refine TO.nil ?_
          refine TE.next ?_
          refine TW.ret ?_
          exact TE.leaf fun _ _ hf_ hs_ => ret_any (rs := [.tmp 4]) (vs := [.bool true]) (.inl rfl) rfl ⟨rfl, trivial⟩ hf_ hs_ ⟨(), rfl, hs_.pulls [] rfl⟩

/-- loop.example/g00950/laws.eqOp -/
noncomputable def laws_eqOp (a : Op) (b : Op) : Option Bool :=
  if (!(decide (a.Key = b.Key))) = true then (some false)
  else (if (!(decide (a.Del = b.Del))) = true then (some false)
  else (if (!(decide (a.Val = b.Val))) = true then (some false)
  else (some true)))

theorem laws_eqOp_con (a : Op) (b : Op)  (r : Bool) (hm : laws_eqOp a b = some r) :
    Con Try.prog 46 [.agg #[strV a.Key, .bool a.Del, strV a.Val], .agg #[strV b.Key, .bool b.Del, strV b.Val]] [] [] (fun _ : Unit => .bool r) (fun _ => []) := by
  refine Con.intro (args := [.agg #[strV a.Key, .bool a.Del, strV a.Val], .agg #[strV b.Key, .bool b.Del, strV b.Val]]) (n := 20) (val := fun r (_ : Unit) => .bool r) (post := fun _ _ => []) (m := laws_eqOp a b) Try.func46 rfl rfl rfl hm ?_
  intro w S _
  unfold laws_eqOp
  refine TW.seq ?_
  refine TW.region ?_
  refine TO.ef (Ef.box rfl (Cel.plain rfl rfl)) rfl rfl rfl (fun B1 => ?_)
  refine TO.ef (Ef.box rfl (Cel.plain rfl rfl)) rfl rfl rfl (fun B2 => ?_)
  refine TO.y (Y.assign rfl) rfl rfl rfl ?_
  refine TO.nil ?_
  refine TE.next ?_
  refine TW.seq ?_
  refine TW.seq ?_
  refine TW.region ?_
  refine TO.y (Y.field_box kf70_0 rfl rfl) rfl rfl rfl ?_
  refine TO.y (Y.load_box (v := strV a.Key) 1 kk9 rfl rfl rfl) rfl rfl rfl ?_
  refine TO.y (Y.field_box kf70_0 rfl rfl) rfl rfl rfl ?_
  refine TO.y (Y.load_box (v := strV b.Key) 0 kk9 rfl rfl rfl) rfl rfl rfl ?_
  refine TO.y (Y.sneq rfl rfl) rfl rfl rfl ?_
  refine TO.nil ?_
  refine TE.next ?_
  refine TW.cond rfl (fun H3 => ?_) (fun H3 => ?_)
  · refine TW.seq ?_
    refine TW.region ?_
    refine TO.y (Y.assign rfl) rfl rfl rfl ?_
    refine TO.nil ?_
    refine TE.next ?_
    refine TW.ret ?_
    refine TE.then_ret ?_
    exact TE.leaf fun _ _ hf_ hs_ => ret_any (rs := [.tmp 4]) (vs := [.bool false]) (.inl rfl) rfl ⟨rfl, trivial⟩ hf_ hs_ ⟨(), rfl, hs_.pulls [] rfl⟩
  · refine TW.skip ?_
    refine TE.next ?_
    refine TW.seq ?_
    refine TW.seq ?_
    refine TW.region ?_
    refine TO.y (Y.field_box kf70_1 rfl rfl) rfl rfl rfl ?_
    refine TO.y (Y.load_box (v := .bool a.Del) 1 kk4 rfl rfl rfl) rfl rfl rfl ?_
    refine TO.y (Y.field_box kf70_1 rfl rfl) rfl rfl rfl ?_
    refine TO.y (Y.load_box (v := .bool b.Del) 0 kk4 rfl rfl rfl) rfl rfl rfl ?_
    refine TO.y (Y.neb kb4 rfl rfl) rfl rfl rfl ?_
    refine TO.nil ?_
    refine TE.next ?_
    refine TW.cond rfl (fun H4 => ?_) (fun H4 => ?_)
    · refine TW.seq ?_
      refine TW.region ?_
      refine TO.y (Y.assign rfl) rfl rfl rfl ?_
      refine TO.nil ?_
      refine TE.next ?_
      refine TW.ret ?_
      refine TE.then_ret ?_
      exact TE.leaf fun _ _ hf_ hs_ => ret_any (rs := [.tmp 4]) (vs := [.bool false]) (.inl rfl) rfl ⟨rfl, trivial⟩ hf_ hs_ ⟨(), rfl, hs_.pulls [] rfl⟩
    · refine TW.skip ?_
      refine TE.next ?_
      refine TW.seq ?_
      refine TW.seq ?_
      refine TW.region ?_
      refine TO.y (Y.field_box kf70_2 rfl rfl) rfl rfl rfl ?_
      refine TO.y (Y.load_box (v := strV a.Val) 1 kk9 rfl rfl rfl) rfl rfl rfl ?_
      refine TO.y (Y.field_box kf70_2 rfl rfl) rfl rfl rfl ?_
      refine TO.y (Y.load_box (v := strV b.Val) 0 kk9 rfl rfl rfl) rfl rfl rfl ?_
      refine TO.y (Y.sneq rfl rfl) rfl rfl rfl ?_
      refine TO.nil ?_
      refine TE.next ?_
      refine TW.cond rfl (fun H5 => ?_) (fun H5 => ?_)
      · refine TW.seq ?_
        refine TW.region ?_
        refine TO.y (Y.assign rfl) rfl rfl rfl ?_
        refine TO.nil ?_
        refine TE.next ?_
        refine TW.ret ?_
        refine TE.then_ret ?_
        exact TE.leaf fun _ _ hf_ hs_ => ret_any (rs := [.tmp 4]) (vs := [.bool false]) (.inl rfl) rfl ⟨rfl, trivial⟩ hf_ hs_ ⟨(), rfl, hs_.pulls [] rfl⟩
      · refine TW.skip ?_
        refine TE.next ?_
        refine TW.seq ?_
        refine TW.region ?_
        refine TO.y (Y.assign rfl) rfl rfl rfl ?_
        refine TO.nil ?_
        refine TE.next ?_
        refine TW.ret ?_
        exact TE.leaf fun _ _ hf_ hs_ => ret_any (rs := [.tmp 4]) (vs := [.bool true]) (.inl rfl) rfl ⟨rfl, trivial⟩ hf_ hs_ ⟨(), rfl, hs_.pulls [] rfl⟩

/-- loop.example/g00950/laws.eqOpS -/
noncomputable def laws_eqOpS (a : List Op) (b : List Op) : Option Bool :=
  if (!(decide (((a.length : Nat) : Int) = ((b.length : Nat) : Int)))) = true then (some false)
  else (bindC (loopO (fun (S2 : Int) => if (decide (S2 < ((a.length : Nat) : Int))) = true then ((idx a S2).bind fun E7 =>
  (idx b S2).bind fun E9 =>
  (laws_eqOp E7 E9).bind fun R11 =>
  if (!R11) = true then (some (.done (.done false)))
  else (some (.go (IntKind.i64.wrap (S2 + (1 : Int))))))
  else (some (.done (.go ()))))
  (0 : Int))
  (fun (T4 : Unit) => some true))

theorem laws_eqOpS_con (a : List Op) (b : List Op) (V_a0 : Value) (V_b0 : Value) (r : Bool) (hm : laws_eqOpS a b = some r) :
    Con Try.prog 12 [V_a0, V_b0] [] [(V_a0, lc a), (V_b0, lc b)] (fun _ : Unit => .bool r) (fun _ => []) := by
  refine Con.intro (args := [V_a0, V_b0]) (n := 27) (val := fun r (_ : Unit) => .bool r) (post := fun _ _ => []) (m := laws_eqOpS a b) Try.func12 rfl rfl rfl hm ?_
  intro w S hrd
  have HB_V_a0 := hrd _ (.head _)
  have HB_V_b0 := hrd _ (.tail _ (.head _))
  clear hrd
  unfold laws_eqOpS
  refine TW.seq ?_
  refine TW.region ?_
  refine TO.y (Y.assign rfl) rfl rfl rfl ?_
  refine TO.nil ?_
  refine TE.next ?_
  refine TW.seq ?_
  refine TW.seq ?_
  refine TW.region ?_
  refine TO.y (Y.move rfl) rfl rfl rfl ?_
  refine TO.y (Y.len (l := a) ke37 (Base.can HB_V_a0) rfl) rfl rfl rfl ?_
  refine TO.y (Y.move rfl) rfl rfl rfl ?_
  refine TO.y (Y.len (l := b) ke37 (Base.can HB_V_b0) rfl) rfl rfl rfl ?_
  refine TO.y (Y.neq rfl rfl) rfl rfl rfl ?_
  refine TO.nil ?_
  refine TE.next ?_
  refine TW.cond rfl (fun H1 => ?_) (fun H1 => ?_)
  · refine TW.seq ?_
    refine TW.region ?_
    refine TO.y (Y.assign rfl) rfl rfl rfl ?_
    refine TO.nil ?_
    refine TE.next ?_
    refine TW.ret ?_
    refine TE.then_ret ?_
    exact TE.leaf fun _ _ hf_ hs_ => ret_any (rs := [.tmp 4]) (vs := [.bool false]) (.inl rfl) rfl ⟨rfl, trivial⟩ hf_ hs_ ⟨(), rfl, hs_.pulls [] rfl⟩
  · refine TW.skip ?_
    refine TE.next ?_
    refine TW.seq ?_
    refine TW.seq ?_
    refine TW.region ?_
    refine TO.y (Y.assign rfl) rfl rfl rfl ?_
    refine TO.nil ?_
    refine TE.next ?_
    refine TW.joinX (τ := Unit) (X := Unit) (fun _ _ => []) (fun _ _ => []) ?_ (fun T4 X5 => ?_)
    · refine TW.block ?_
      refine TW.loopX (σ := Int) (X := Unit) (fun T _ => [(0, V_a0), (1, V_b0), (5, .int .i64 T)]) (fun _ _ => []) () [] ⟨rfl, rfl, rfl, trivial⟩ rfl (fun S2 X3 => ?_)
      refine TW.seq ?_
      refine TW.seq ?_
      refine TW.region ?_
      refine TO.y (Y.move rfl) rfl rfl rfl ?_
      refine TO.y (Y.move rfl) rfl rfl rfl ?_
      refine TO.y (Y.len (l := a) ke37 (Base.can HB_V_a0) rfl) rfl rfl rfl ?_
      refine TO.y (Y.lss rfl rfl) rfl rfl rfl ?_
      refine TO.nil ?_
      refine TE.next ?_
      refine TW.cond rfl (fun H6 => ?_) (fun H6 => ?_)
      · refine TW.skip ?_
        refine TE.next ?_
        refine TW.seq ?_
        refine TW.block ?_
        refine TW.seq ?_
        refine TW.draw (isH := []) hMix ?_
        refine TA.y (listed' := #[true, false, false, false, false, false, false, false, false, false]) 0 [] rfl (Y.move rfl) rfl rfl rfl (by kernel_rfl) (by kernel_rfl) (by kernel_rfl) rfl rfl ?_
        refine TA.y (listed' := #[true, true, false, false, false, false, false, false, false, false]) 1 [] rfl (Y.move rfl) rfl rfl rfl (by kernel_rfl) (by kernel_rfl) (by kernel_rfl) rfl rfl ?_
        refine TA.bind fun E7 H8 => ?_
        refine TA.y (listed' := #[true, true, true, false, false, false, false, false, false, false]) 2 [] rfl (Y.index ke37 (Base.can HB_V_a0) H8 rfl rfl) rfl rfl rfl (by kernel_rfl) (by kernel_rfl) (by kernel_rfl) rfl rfl ?_
        refine TA.y (listed' := #[true, true, true, true, false, false, false, false, false, false]) 3 [] rfl (Y.load_el (us := [strV E7.Key, .bool E7.Del, strV E7.Val]) (u := .agg #[strV E7.Key, .bool E7.Del, strV E7.Val]) kk70 rfl (Base.can HB_V_a0) (idx_get H8).2.2 rfl rfl rfl rfl rfl) rfl rfl rfl (by kernel_rfl) (by kernel_rfl) (by kernel_rfl) rfl rfl ?_
        refine TA.y (listed' := #[true, true, true, true, true, false, false, false, false, false]) 4 [] rfl (Y.move rfl) rfl rfl rfl (by kernel_rfl) (by kernel_rfl) (by kernel_rfl) rfl rfl ?_
        refine TA.y (listed' := #[true, true, true, true, true, true, false, false, false, false]) 5 [] rfl (Y.move rfl) rfl rfl rfl (by kernel_rfl) (by kernel_rfl) (by kernel_rfl) rfl rfl ?_
        refine TA.bind fun E9 H10 => ?_
        refine TA.y (listed' := #[true, true, true, true, true, true, true, false, false, false]) 6 [] rfl (Y.index ke37 (Base.can HB_V_b0) H10 rfl rfl) rfl rfl rfl (by kernel_rfl) (by kernel_rfl) (by kernel_rfl) rfl rfl ?_
        refine TA.y (listed' := #[true, true, true, true, true, true, true, true, false, false]) 7 [] rfl (Y.load_el (us := [strV E9.Key, .bool E9.Del, strV E9.Val]) (u := .agg #[strV E9.Key, .bool E9.Del, strV E9.Val]) kk70 rfl (Base.can HB_V_b0) (idx_get H10).2.2 rfl rfl rfl rfl rfl) rfl rfl rfl (by kernel_rfl) (by kernel_rfl) (by kernel_rfl) rfl rfl ?_
        refine TA.bind fun R11 H12 => ?_
        refine TA.one 8 (by kernel_rfl) ?_
        refine TX.ef (listed' := #[true, true, true, true, true, true, true, true, true, false]) [] rfl (Ef.call (rest := []) [] (laws_eqOp_con E7 E9  R11 H12) kc46 rfl rfl trivial) rfl rfl rfl rfl (fun _ => rfl) (fun _ => ?_)
        refine TA.y (listed' := #[true, true, true, true, true, true, true, true, true, true]) 9 [] rfl (Y.not rfl) rfl rfl rfl (by kernel_rfl) (by kernel_rfl) (by kernel_rfl) rfl rfl ?_
        refine TA.nil (by kernel_rfl) ?_
        refine TE.next ?_
        refine TW.cond rfl (fun H14 => ?_) (fun H14 => ?_)
        · refine TW.seq ?_
          refine TW.region ?_
          refine TO.y (Y.assign rfl) rfl rfl rfl ?_
          refine TO.nil ?_
          refine TE.next ?_
          refine TW.ret ?_
          refine TE.block_ret ?_
          refine TE.then_ret ?_
          refine TE.lp_ret ?_
          refine TE.block_ret ?_
          refine TE.jn_done ?_
          refine TE.then_ret ?_
          exact TE.leaf fun _ _ hf_ hs_ => ret_any (rs := [.tmp 4]) (vs := [.bool false]) (.inl rfl) rfl ⟨rfl, trivial⟩ hf_ hs_ ⟨(), rfl, hs_.pulls [] rfl⟩
        · refine TW.skip ?_
          refine TE.block_normal ?_
          refine TE.next ?_
          refine TW.region ?_
          refine TO.y (Y.move rfl) rfl rfl rfl ?_
          refine TO.y (Y.add rfl rfl) rfl rfl rfl ?_
          refine TO.y (Y.assign rfl) rfl rfl rfl ?_
          refine TO.nil ?_
          exact TE.lp_go () [] ⟨rfl, rfl, rfl, trivial⟩ rfl
      · refine TW.exit ?_
        refine TE.then_exit ?_
        refine TE.lp_exit ?_
        refine TE.block_exit ?_
        exact TE.jn_go () [] trivial rfl
    · refine TE.next ?_
      refine TW.seq ?_
      refine TW.region ?_
      refine TO.y (Y.assign rfl) rfl rfl rfl ?_
      refine TO.nil ?_
      refine TE.next ?_
      refine TW.ret ?_
      exact TE.leaf fun _ _ hf_ hs_ => ret_any (rs := [.tmp 4]) (vs := [.bool true]) (.inl rfl) rfl ⟨rfl, trivial⟩ hf_ hs_ ⟨(), rfl, hs_.pulls [] rfl⟩

/-- loop.example/g00950/laws.markText -/
noncomputable def laws_markText (k : Int) : Option (List UInt8) :=
  if (decide (k ≤ (0 : Int))) = true then (some ([109, 48]))
  else (bindC (loopO (fun (S2 : Int × List UInt8) => if (decide (S2.1 > (0 : Int))) = true then ((cat ([toU8 (IntKind.i64.wrap ((48 : Int) + (Int.tmod S2.1 (10 : Int))))]) S2.2).bind fun E8 =>
  some (.go (IntKind.i64.wrap (Int.tdiv S2.1 (10 : Int)), E8)))
  else (some (.done (.go S2.2))))
  (k, []))
  (fun (T4 : List UInt8) => (cat ([109]) T4).bind fun E10 =>
  some E10))

theorem laws_markText_con (k : Int)  (r : List UInt8) (hm : laws_markText k = some r) :
    Con Try.prog 50 [.int .i64 k] [] [] (fun _ : Unit => strV r) (fun _ => []) := by
  refine Con.intro (args := [.int .i64 k]) (n := 20) (val := fun r (_ : Unit) => strV r) (post := fun _ _ => []) (m := laws_markText k) Try.func50 rfl rfl rfl hm ?_
  intro w S _
  unfold laws_markText
  refine TW.seq ?_
  refine TW.region ?_
  refine TO.y (Y.assign rfl) rfl rfl rfl ?_
  refine TO.nil ?_
  refine TE.next ?_
  refine TW.seq ?_
  refine TW.seq ?_
  refine TW.region ?_
  refine TO.y (Y.move rfl) rfl rfl rfl ?_
  refine TO.y (Y.leq rfl rfl) rfl rfl rfl ?_
  refine TO.nil ?_
  refine TE.next ?_
  refine TW.cond rfl (fun H1 => ?_) (fun H1 => ?_)
  · refine TW.seq ?_
    refine TW.region ?_
    refine TO.y (Y.assign rfl) rfl rfl rfl ?_
    refine TO.nil ?_
    refine TE.next ?_
    refine TW.ret ?_
    refine TE.then_ret ?_
    exact TE.leaf fun _ _ hf_ hs_ => ret_any (rs := [.tmp 2]) (vs := [strV ([109, 48])]) (.inl rfl) rfl ⟨rfl, trivial⟩ hf_ hs_ ⟨(), rfl, hs_.pulls [] rfl⟩
  · refine TW.skip ?_
    refine TE.next ?_
    refine TW.seq ?_
    refine TW.region ?_
    refine TO.y (Y.assign rfl) rfl rfl rfl ?_
    refine TO.nil ?_
    refine TE.next ?_
    refine TW.seq ?_
    refine TW.joinX (τ := List UInt8) (X := Unit) (fun T _ => [(3, strV T)]) (fun _ _ => []) ?_ (fun T4 X5 => ?_)
    · refine TW.block ?_
      refine TW.loopX (σ := Int × List UInt8) (X := Unit) (fun T _ => [(0, .int .i64 T.1), (3, strV T.2)]) (fun _ _ => []) () [] ⟨rfl, rfl, trivial⟩ rfl (fun S2 X3 => ?_)
      refine TW.seq ?_
      refine TW.seq ?_
      refine TW.region ?_
      refine TO.y (Y.move rfl) rfl rfl rfl ?_
      refine TO.y (Y.gtr rfl rfl) rfl rfl rfl ?_
      refine TO.nil ?_
      refine TE.next ?_
      refine TW.cond rfl (fun H6 => ?_) (fun H6 => ?_)
      · refine TW.skip ?_
        refine TE.next ?_
        refine TW.block ?_
        refine TW.seq ?_
        refine TW.region ?_
        refine TO.y (Y.move rfl) rfl rfl rfl ?_
        refine TO.y (Y.rem (by decide) rfl rfl) rfl rfl rfl ?_
        refine TO.y (Y.add rfl rfl) rfl rfl rfl ?_
        refine TO.y (Y.conv8 ki3 ki5 rfl) rfl rfl rfl ?_
        refine TO.ef (Ef.buildSlice (α := UInt8) (Vs := [.int .u8 (((toU8 (IntKind.i64.wrap ((48 : Int) + (Int.tmod S2.1 (10 : Int))))).toNat : Nat) : Int)]) [toU8 (IntKind.i64.wrap ((48 : Int) + (Int.tmod S2.1 (10 : Int))))] ke113 kz5 rfl rfl rfl rfl rfl) rfl rfl rfl (fun B7 => ?_)
        refine TO.y (Y.toStr ke113 ki5 ks9 (Can.own 0 rfl) rfl) rfl rfl rfl ?_
        refine TO.y (Y.move rfl) rfl rfl rfl ?_
        refine TO.bind fun E8 H9 => ?_
        refine TO.y (Y.cat H9 rfl rfl) rfl rfl rfl ?_
        refine TO.y (Y.assign rfl) rfl rfl rfl ?_
        refine TO.nil ?_
        refine TE.next ?_
        refine TW.region ?_
        refine TO.y (Y.move rfl) rfl rfl rfl ?_
        refine TO.y (Y.quo (by decide) rfl rfl) rfl rfl rfl ?_
        refine TO.y (Y.assign rfl) rfl rfl rfl ?_
        refine TO.nil ?_
        refine TE.block_normal ?_
        exact TE.lp_go () [] ⟨rfl, rfl, trivial⟩ rfl
      · refine TW.exit ?_
        refine TE.then_exit ?_
        refine TE.lp_exit ?_
        refine TE.block_exit ?_
        exact TE.jn_go () [] ⟨rfl, trivial⟩ rfl
    · refine TE.next ?_
      refine TW.seq ?_
      refine TW.region ?_
      refine TO.y (Y.move rfl) rfl rfl rfl ?_
      refine TO.bind fun E10 H11 => ?_
      refine TO.y (Y.cat H11 rfl rfl) rfl rfl rfl ?_
      refine TO.y (Y.assign rfl) rfl rfl rfl ?_
      refine TO.nil ?_
      refine TE.next ?_
      refine TW.ret ?_
      exact TE.leaf fun _ _ hf_ hs_ => ret_any (rs := [.tmp 2]) (vs := [strV E10]) (.inl rfl) rfl ⟨rfl, trivial⟩ hf_ hs_ ⟨(), rfl, hs_.pulls [] rfl⟩

/-- loop.example/g00950/laws.markEntS -/
noncomputable def laws_markEntS (a : List Ent) (k : Int) : Option (Int × List Ent) :=
  bindC (loopO (fun (S1 : Int × Int × List Ent) => if (decide (S1.2.1 < ((S1.2.2.length : Nat) : Int))) = true then ((laws_markText S1.1).bind fun R6 =>
  (idx S1.2.2 S1.2.1).bind fun E9 =>
  (laws_markText (IntKind.i64.wrap (IntKind.i64.wrap (IntKind.i64.wrap (S1.1 + (1 : Int)) + (1 : Int)) + (1 : Int)))).bind fun R11 =>
  some (.go (IntKind.i64.wrap (IntKind.i64.wrap (IntKind.i64.wrap (IntKind.i64.wrap (S1.1 + (1 : Int)) + (1 : Int)) + (1 : Int)) + (1 : Int)), IntKind.i64.wrap (S1.2.1 + (1 : Int)), (S1.2.2.set S1.2.1.toNat ({ Key := R6, Seq := (IntKind.i64.wrap (S1.1 + (1 : Int))), Del := (decide (Int.tmod (IntKind.i64.wrap (IntKind.i64.wrap (S1.1 + (1 : Int)) + (1 : Int))) (3 : Int) = (0 : Int))), Val := R11 : Ent })))))
  else (some (.done (.go (S1.1, S1.2.2)))))
  (k, (0 : Int), a))
  (fun (T3 : Int × List Ent) => some (T3.1, T3.2))

theorem laws_markEntS_con (a : List Ent) (k : Int) (V_a0 : Value) (r : Int × List Ent) (hm : laws_markEntS a k = some r) :
    Con Try.prog 47 [V_a0, .int .i64 k] [.own V_a0 (lc a)] [] (fun _ : Unit => .int .i64 r.1) (fun _ => [.own V_a0 (lc r.2)]) := by
  refine Con.intro (args := [V_a0, .int .i64 k]) (n := 45) (val := fun r (_ : Unit) => .int .i64 r.1) (post := fun r _ => [.own V_a0 (lc r.2)]) (m := laws_markEntS a k) Try.func47 rfl rfl rfl hm ?_
  intro w S _
  unfold laws_markEntS
  refine TW.seq ?_
  refine TW.region ?_
  refine TO.y (Y.assign rfl) rfl rfl rfl ?_
  refine TO.nil ?_
  refine TE.next ?_
  refine TW.seq ?_
  refine TW.seq ?_
  refine TW.region ?_
  refine TO.y (Y.assign rfl) rfl rfl rfl ?_
  refine TO.nil ?_
  refine TE.next ?_
  refine TW.joinX (τ := Int × List Ent) (X := Unit) (fun T _ => [(1, .int .i64 T.1)]) (fun T _ => [.own V_a0 (lc T.2)]) ?_ (fun T3 X4 => ?_)
  · refine TW.block ?_
    refine TW.loopX (σ := Int × Int × List Ent) (X := Unit) (fun T _ => [(0, V_a0), (1, .int .i64 T.1), (5, .int .i64 T.2.1)]) (fun T _ => [.own V_a0 (lc T.2.2)]) () [0] ⟨rfl, rfl, rfl, trivial⟩ rfl (fun S1 X2 => ?_)
    refine TW.seq ?_
    refine TW.seq ?_
    refine TW.region ?_
    refine TO.y (Y.move rfl) rfl rfl rfl ?_
    refine TO.y (Y.move rfl) rfl rfl rfl ?_
    refine TO.y (Y.len (l := S1.2.2) ke30 (Can.own 0 rfl) rfl) rfl rfl rfl ?_
    refine TO.y (Y.lss rfl rfl) rfl rfl rfl ?_
    refine TO.nil ?_
    refine TE.next ?_
    refine TW.cond rfl (fun H5 => ?_) (fun H5 => ?_)
    · refine TW.skip ?_
      refine TE.next ?_
      refine TW.seq ?_
      refine TW.block ?_
      refine TW.seq ?_
      refine TW.region ?_
      refine TO.y (Y.move rfl) rfl rfl rfl ?_
      refine TO.y (Y.move rfl) rfl rfl rfl ?_
      refine TO.y (Y.move rfl) rfl rfl rfl ?_
      refine TO.bind fun R6 H7 => ?_
      refine TO.ef (Ef.call (rest := [.own V_a0 (lc S1.2.2)]) [0] (laws_markText_con S1.1  R6 H7) kc50 rfl rfl trivial) rfl rfl rfl (fun _ => ?_)
      refine TO.bind fun E9 H10 => ?_
      refine TO.y (Y.index ke30 (Can.own 0 rfl) H10 rfl rfl) rfl rfl rfl ?_
      refine TO.y (Y.field_el kf73_0 (Can.own 0 rfl) (idx_get H10).2.2 rfl rfl) rfl rfl rfl ?_
      refine TO.ef0 (Ef.store_el (us := [strV R6]) (is' := [.own V_a0 (lc (S1.2.2.set S1.2.1.toNat ({ Key := R6, Seq := E9.Seq, Del := E9.Del, Val := E9.Val : Ent })))]) ({ Key := R6, Seq := E9.Seq, Del := E9.Del, Val := E9.Val : Ent }) 0 kk9 rfl rfl (idx_get H10).2.2 rfl rfl (Cel.plain rfl rfl) rfl rfl rfl rfl) rfl rfl (fun _ => ?_)
      refine TO.nil ?_
      refine TE.next ?_
      refine TW.seq ?_
      refine TW.region ?_
      refine TO.y (Y.move rfl) rfl rfl rfl ?_
      refine TO.y (Y.add rfl rfl) rfl rfl rfl ?_
      refine TO.y (Y.assign rfl) rfl rfl rfl ?_
      refine TO.nil ?_
      refine TE.next ?_
      refine TW.seq ?_
      refine TW.region ?_
      refine TO.y (Y.move rfl) rfl rfl rfl ?_
      refine TO.y (Y.move rfl) rfl rfl rfl ?_
      refine TO.y (Y.move rfl) rfl rfl rfl ?_
      refine TO.y (Y.index ke30 (Can.own 0 rfl) (idx_set H10) rfl rfl) rfl rfl rfl ?_
      refine TO.y (Y.field_el kf73_1 (Can.own 0 rfl) (idx_get (idx_set H10)).2.2 rfl rfl) rfl rfl rfl ?_
      refine TO.ef0 (Ef.store_el (us := [.int .i64 (IntKind.i64.wrap (S1.1 + (1 : Int)))]) (is' := [.own V_a0 (lc (S1.2.2.set S1.2.1.toNat ({ Key := R6, Seq := IntKind.i64.wrap (S1.1 + (1 : Int)), Del := E9.Del, Val := E9.Val : Ent })))]) ({ Key := R6, Seq := IntKind.i64.wrap (S1.1 + (1 : Int)), Del := E9.Del, Val := E9.Val : Ent }) 0 kk3 rfl rfl (idx_get (idx_set H10)).2.2 rfl rfl (Cel.plain rfl rfl) rfl rfl rfl (by rw [List.set_set]; rfl)) rfl rfl (fun _ => ?_)
      refine TO.nil ?_
      refine TE.next ?_
      refine TW.seq ?_
      refine TW.region ?_
      refine TO.y (Y.move rfl) rfl rfl rfl ?_
      refine TO.y (Y.add rfl rfl) rfl rfl rfl ?_
      refine TO.y (Y.assign rfl) rfl rfl rfl ?_
      refine TO.nil ?_
      refine TE.next ?_
      refine TW.seq ?_
      refine TW.region ?_
      refine TO.y (Y.move rfl) rfl rfl rfl ?_
      refine TO.y (Y.move rfl) rfl rfl rfl ?_
      refine TO.y (Y.move rfl) rfl rfl rfl ?_
      refine TO.y (Y.rem (by decide) rfl rfl) rfl rfl rfl ?_
      refine TO.y (Y.eql rfl rfl) rfl rfl rfl ?_
      refine TO.y (Y.index ke30 (Can.own 0 rfl) (idx_set H10) rfl rfl) rfl rfl rfl ?_
      refine TO.y (Y.field_el kf73_2 (Can.own 0 rfl) (idx_get (idx_set H10)).2.2 rfl rfl) rfl rfl rfl ?_
      refine TO.ef0 (Ef.store_el (us := [.bool (decide (Int.tmod (IntKind.i64.wrap (IntKind.i64.wrap (S1.1 + (1 : Int)) + (1 : Int))) (3 : Int) = (0 : Int)))]) (is' := [.own V_a0 (lc (S1.2.2.set S1.2.1.toNat ({ Key := R6, Seq := (IntKind.i64.wrap (S1.1 + (1 : Int))), Del := decide (Int.tmod (IntKind.i64.wrap (IntKind.i64.wrap (S1.1 + (1 : Int)) + (1 : Int))) (3 : Int) = (0 : Int)), Val := E9.Val : Ent })))]) ({ Key := R6, Seq := (IntKind.i64.wrap (S1.1 + (1 : Int))), Del := decide (Int.tmod (IntKind.i64.wrap (IntKind.i64.wrap (S1.1 + (1 : Int)) + (1 : Int))) (3 : Int) = (0 : Int)), Val := E9.Val : Ent }) 0 kk4 rfl rfl (idx_get (idx_set H10)).2.2 rfl rfl (Cel.plain rfl rfl) rfl rfl rfl (by rw [List.set_set]; rfl)) rfl rfl (fun _ => ?_)
      refine TO.nil ?_
      refine TE.next ?_
      refine TW.seq ?_
      refine TW.region ?_
      refine TO.y (Y.move rfl) rfl rfl rfl ?_
      refine TO.y (Y.add rfl rfl) rfl rfl rfl ?_
      refine TO.y (Y.assign rfl) rfl rfl rfl ?_
      refine TO.nil ?_
      refine TE.next ?_
      refine TW.seq ?_
      refine TW.region ?_
      refine TO.y (Y.move rfl) rfl rfl rfl ?_
      refine TO.y (Y.move rfl) rfl rfl rfl ?_
      refine TO.y (Y.move rfl) rfl rfl rfl ?_
      refine TO.bind fun R11 H12 => ?_
      refine TO.ef (Ef.call (rest := [.own V_a0 (lc (S1.2.2.set S1.2.1.toNat ({ Key := R6, Seq := (IntKind.i64.wrap (S1.1 + (1 : Int))), Del := decide (Int.tmod (IntKind.i64.wrap (IntKind.i64.wrap (S1.1 + (1 : Int)) + (1 : Int))) (3 : Int) = (0 : Int)), Val := E9.Val : Ent })))]) [0] (laws_markText_con (IntKind.i64.wrap (IntKind.i64.wrap (IntKind.i64.wrap (S1.1 + (1 : Int)) + (1 : Int)) + (1 : Int)))  R11 H12) kc50 rfl rfl trivial) rfl rfl rfl (fun _ => ?_)
      refine TO.y (Y.index ke30 (Can.own 0 rfl) (idx_set H10) rfl rfl) rfl rfl rfl ?_
      refine TO.y (Y.field_el kf73_3 (Can.own 0 rfl) (idx_get (idx_set H10)).2.2 rfl rfl) rfl rfl rfl ?_
      refine TO.ef0 (Ef.store_el (us := [strV R11]) (is' := [.own V_a0 (lc (S1.2.2.set S1.2.1.toNat ({ Key := R6, Seq := (IntKind.i64.wrap (S1.1 + (1 : Int))), Del := (decide (Int.tmod (IntKind.i64.wrap (IntKind.i64.wrap (S1.1 + (1 : Int)) + (1 : Int))) (3 : Int) = (0 : Int))), Val := R11 : Ent })))]) ({ Key := R6, Seq := (IntKind.i64.wrap (S1.1 + (1 : Int))), Del := (decide (Int.tmod (IntKind.i64.wrap (IntKind.i64.wrap (S1.1 + (1 : Int)) + (1 : Int))) (3 : Int) = (0 : Int))), Val := R11 : Ent }) 0 kk9 rfl rfl (idx_get (idx_set H10)).2.2 rfl rfl (Cel.plain rfl rfl) rfl rfl rfl (by rw [List.set_set]; rfl)) rfl rfl (fun _ => ?_)
      refine TO.nil ?_
      refine TE.next ?_
      refine TW.region ?_
      refine TO.y (Y.move rfl) rfl rfl rfl ?_
      refine TO.y (Y.add rfl rfl) rfl rfl rfl ?_
      refine TO.y (Y.assign rfl) rfl rfl rfl ?_
      refine TO.nil ?_
      refine TE.block_normal ?_
      refine TE.next ?_
      refine TW.region ?_
      refine TO.y (Y.move rfl) rfl rfl rfl ?_
      refine TO.y (Y.add rfl rfl) rfl rfl rfl ?_
      refine TO.y (Y.assign rfl) rfl rfl rfl ?_
      refine TO.nil ?_
      exact TE.lp_go () [0] ⟨rfl, rfl, rfl, trivial⟩ rfl
    · refine TW.exit ?_
      refine TE.then_exit ?_
      refine TE.lp_exit ?_
      refine TE.block_exit ?_
      exact TE.jn_go () [0] ⟨rfl, trivial⟩ rfl
  · refine TE.next ?_
    refine TW.seq ?_
    refine TW.region ?_
    refine TO.y (Y.move rfl) rfl rfl rfl ?_
    refine TO.y (Y.assign rfl) rfl rfl rfl ?_
    refine TO.nil ?_
    refine TE.next ?_
    refine TW.ret ?_
    exact TE.leaf fun _ _ hf_ hs_ => ret_any (rs := [.tmp 4]) (vs := [.int .i64 T3.1]) (.inl rfl) rfl ⟨rfl, trivial⟩ hf_ hs_ ⟨(), rfl, hs_.pulls [0] rfl⟩

/-- loop.example/g00950/laws.markEntSS -/
noncomputable def laws_markEntSS (a : List (List Ent)) (k : Int) : Option (Int × List (List Ent)) :=
  bindC (loopO (fun (S1 : Int × Int × List (List Ent)) => if (decide (S1.2.1 < ((S1.2.2.length : Nat) : Int))) = true then ((idx S1.2.2 S1.2.1).bind fun E6 =>
  (laws_markEntS E6 S1.1).bind fun R9 =>
  some (.go (R9.1, IntKind.i64.wrap (S1.2.1 + (1 : Int)), (S1.2.2.set S1.2.1.toNat R9.2))))
  else (some (.done (.go (S1.1, S1.2.2)))))
  (k, (0 : Int), a))
  (fun (T3 : Int × List (List Ent)) => some (T3.1, T3.2))

theorem laws_markEntSS_con (a : List (List Ent)) (k : Int) (V_a0 : Value) (r : Int × List (List Ent)) (hm : laws_markEntSS a k = some r) :
    Con Try.prog 48 [V_a0, .int .i64 k] [.own V_a0 (lc a)] [] (fun _ : Unit => .int .i64 r.1) (fun _ => [.own V_a0 (lc r.2)]) := by
  refine Con.intro (args := [V_a0, .int .i64 k]) (n := 19) (val := fun r (_ : Unit) => .int .i64 r.1) (post := fun r _ => [.own V_a0 (lc r.2)]) (m := laws_markEntSS a k) Try.func48 rfl rfl rfl hm ?_
  intro w S _
  unfold laws_markEntSS
  refine TW.seq ?_
  refine TW.region ?_
  refine TO.y (Y.assign rfl) rfl rfl rfl ?_
  refine TO.nil ?_
  refine TE.next ?_
  refine TW.seq ?_
  refine TW.seq ?_
  refine TW.region ?_
  refine TO.y (Y.assign rfl) rfl rfl rfl ?_
  refine TO.nil ?_
  refine TE.next ?_
  refine TW.joinX (τ := Int × List (List Ent)) (X := Unit) (fun T _ => [(1, .int .i64 T.1)]) (fun T _ => [.own V_a0 (lc T.2)]) ?_ (fun T3 X4 => ?_)
  · refine TW.block ?_
    refine TW.loopX (σ := Int × Int × List (List Ent)) (X := Unit) (fun T _ => [(0, V_a0), (1, .int .i64 T.1), (5, .int .i64 T.2.1)]) (fun T _ => [.own V_a0 (lc T.2.2)]) () [0] ⟨rfl, rfl, rfl, trivial⟩ rfl (fun S1 X2 => ?_)
    refine TW.seq ?_
    refine TW.seq ?_
    refine TW.region ?_
    refine TO.y (Y.move rfl) rfl rfl rfl ?_
    refine TO.y (Y.move rfl) rfl rfl rfl ?_
    refine TO.y (Y.len (l := S1.2.2) ke31 (Can.own 0 rfl) rfl) rfl rfl rfl ?_
    refine TO.y (Y.lss rfl rfl) rfl rfl rfl ?_
    refine TO.nil ?_
    refine TE.next ?_
    refine TW.cond rfl (fun H5 => ?_) (fun H5 => ?_)
    · refine TW.skip ?_
      refine TE.next ?_
      refine TW.seq ?_
      refine TW.block ?_
      refine TW.region ?_
      refine TO.y (Y.move rfl) rfl rfl rfl ?_
      refine TO.y (Y.move rfl) rfl rfl rfl ?_
      refine TO.bind fun E6 H7 => ?_
      refine TO.y (Y.index ke31 (Can.own 0 rfl) H7 rfl rfl) rfl rfl rfl ?_
      refine TO.ghost (X := Value) (is' := fun X8 => [.own V_a0 (hl S1.2.2 S1.2.1.toNat [.raw X8]), .own X8 (lc E6)]) (Gh.open 1 S1.2.1.toNat [0] rfl (idx_get H7).2.2 rfl) (fun X8 => ?_)
      refine TO.y (Y.load_hole (α := List Ent) (us := [X8]) (u := X8) kk30 rfl (i := 0) rfl (idx_get H7).2.2 rfl rfl rfl rfl rfl rfl) rfl rfl rfl ?_
      refine TO.y (Y.move rfl) rfl rfl rfl ?_
      refine TO.bind fun R9 H10 => ?_
      refine TO.ef (Ef.call (rest := [.own V_a0 (hl S1.2.2 S1.2.1.toNat [.raw X8])]) [1, 0] (laws_markEntS_con E6 S1.1 X8 R9 H10) kc47 rfl rfl trivial) rfl rfl rfl (fun _ => ?_)
      refine TO.y (Y.assign rfl) rfl rfl rfl ?_
      refine TO.nil ?_
      refine TE.block_normal ?_
      refine TE.next ?_
      refine TW.region ?_
      refine TO.y (Y.move rfl) rfl rfl rfl ?_
      refine TO.y (Y.add rfl rfl) rfl rfl rfl ?_
      refine TO.y (Y.assign rfl) rfl rfl rfl ?_
      refine TO.nil ?_
      refine TE.ghost (is' := fun _ => [.own V_a0 (lc (S1.2.2.set S1.2.1.toNat R9.2))]) (Gh.close (y := R9.2) (js := [.own X8 (lc R9.2)]) (r := []) [1, 0] rfl (idx_get H7).2.2 (Cls.fill Cls.nil) rfl) (fun _ => ?_)
      exact TE.lp_go () [0] ⟨rfl, rfl, rfl, trivial⟩ rfl
    · refine TW.exit ?_
      refine TE.then_exit ?_
      refine TE.lp_exit ?_
      refine TE.block_exit ?_
      exact TE.jn_go () [0] ⟨rfl, trivial⟩ rfl
  · refine TE.next ?_
    refine TW.seq ?_
    refine TW.region ?_
    refine TO.y (Y.move rfl) rfl rfl rfl ?_
    refine TO.y (Y.assign rfl) rfl rfl rfl ?_
    refine TO.nil ?_
    refine TE.next ?_
    refine TW.ret ?_
    exact TE.leaf fun _ _ hf_ hs_ => ret_any (rs := [.tmp 4]) (vs := [.int .i64 T3.1]) (.inl rfl) rfl ⟨rfl, trivial⟩ hf_ hs_ ⟨(), rfl, hs_.pulls [0] rfl⟩

/-- loop.example/g00950/laws.markIntS -/
noncomputable def laws_markIntS (a : List Int) (k : Int) : Option (Int × List Int) :=
  bindC (loopO (fun (S1 : Int × Int × List Int) => if (decide (S1.2.1 < ((S1.2.2.length : Nat) : Int))) = true then ((idx S1.2.2 S1.2.1).bind fun E6 =>
  some (.go (IntKind.i64.wrap (S1.1 + (1 : Int)), IntKind.i64.wrap (S1.2.1 + (1 : Int)), (S1.2.2.set S1.2.1.toNat S1.1))))
  else (some (.done (.go (S1.1, S1.2.2)))))
  (k, (0 : Int), a))
  (fun (T3 : Int × List Int) => some (T3.1, T3.2))

theorem laws_markIntS_con (a : List Int) (k : Int) (V_a0 : Value) (r : Int × List Int) (hm : laws_markIntS a k = some r) :
    Con Try.prog 49 [V_a0, .int .i64 k] [.own V_a0 (lc a)] [] (fun _ : Unit => .int .i64 r.1) (fun _ => [.own V_a0 (lc r.2)]) := by
  refine Con.intro (args := [V_a0, .int .i64 k]) (n := 19) (val := fun r (_ : Unit) => .int .i64 r.1) (post := fun r _ => [.own V_a0 (lc r.2)]) (m := laws_markIntS a k) Try.func49 rfl rfl rfl hm ?_
  intro w S _
  unfold laws_markIntS
  refine TW.seq ?_
  refine TW.region ?_
  refine TO.y (Y.assign rfl) rfl rfl rfl ?_
  refine TO.nil ?_
  refine TE.next ?_
  refine TW.seq ?_
  refine TW.seq ?_
  refine TW.region ?_
  refine TO.y (Y.assign rfl) rfl rfl rfl ?_
  refine TO.nil ?_
  refine TE.next ?_
  refine TW.joinX (τ := Int × List Int) (X := Unit) (fun T _ => [(1, .int .i64 T.1)]) (fun T _ => [.own V_a0 (lc T.2)]) ?_ (fun T3 X4 => ?_)
  · refine TW.block ?_
    refine TW.loopX (σ := Int × Int × List Int) (X := Unit) (fun T _ => [(0, V_a0), (1, .int .i64 T.1), (5, .int .i64 T.2.1)]) (fun T _ => [.own V_a0 (lc T.2.2)]) () [0] ⟨rfl, rfl, rfl, trivial⟩ rfl (fun S1 X2 => ?_)
    refine TW.seq ?_
    refine TW.seq ?_
    refine TW.region ?_
    refine TO.y (Y.move rfl) rfl rfl rfl ?_
    refine TO.y (Y.move rfl) rfl rfl rfl ?_
    refine TO.y (Y.len (l := S1.2.2) ke24 (Can.own 0 rfl) rfl) rfl rfl rfl ?_
    refine TO.y (Y.lss rfl rfl) rfl rfl rfl ?_
    refine TO.nil ?_
    refine TE.next ?_
    refine TW.cond rfl (fun H5 => ?_) (fun H5 => ?_)
    · refine TW.skip ?_
      refine TE.next ?_
      refine TW.seq ?_
      refine TW.block ?_
      refine TW.seq ?_
      refine TW.region ?_
      refine TO.y (Y.move rfl) rfl rfl rfl ?_
      refine TO.y (Y.move rfl) rfl rfl rfl ?_
      refine TO.y (Y.move rfl) rfl rfl rfl ?_
      refine TO.bind fun E6 H7 => ?_
      refine TO.y (Y.index ke24 (Can.own 0 rfl) H7 rfl rfl) rfl rfl rfl ?_
      refine TO.ef0 (Ef.store_el (us := [.int .i64 S1.1]) (is' := [.own V_a0 (lc (S1.2.2.set S1.2.1.toNat S1.1))]) S1.1 0 kk3 rfl rfl (idx_get H7).2.2 rfl rfl (Cel.plain rfl rfl) rfl rfl rfl rfl) rfl rfl (fun _ => ?_)
      refine TO.nil ?_
      refine TE.next ?_
      refine TW.region ?_
      refine TO.y (Y.move rfl) rfl rfl rfl ?_
      refine TO.y (Y.add rfl rfl) rfl rfl rfl ?_
      refine TO.y (Y.assign rfl) rfl rfl rfl ?_
      refine TO.nil ?_
      refine TE.block_normal ?_
      refine TE.next ?_
      refine TW.region ?_
      refine TO.y (Y.move rfl) rfl rfl rfl ?_
      refine TO.y (Y.add rfl rfl) rfl rfl rfl ?_
      refine TO.y (Y.assign rfl) rfl rfl rfl ?_
      refine TO.nil ?_
      exact TE.lp_go () [0] ⟨rfl, rfl, rfl, trivial⟩ rfl
    · refine TW.exit ?_
      refine TE.then_exit ?_
      refine TE.lp_exit ?_
      refine TE.block_exit ?_
      exact TE.jn_go () [0] ⟨rfl, trivial⟩ rfl
  · refine TE.next ?_
    refine TW.seq ?_
    refine TW.region ?_
    refine TO.y (Y.move rfl) rfl rfl rfl ?_
    refine TO.y (Y.assign rfl) rfl rfl rfl ?_
    refine TO.nil ?_
    refine TE.next ?_
    refine TW.ret ?_
    exact TE.leaf fun _ _ hf_ hs_ => ret_any (rs := [.tmp 4]) (vs := [.int .i64 T3.1]) (.inl rfl) rfl ⟨rfl, trivial⟩ hf_ hs_ ⟨(), rfl, hs_.pulls [0] rfl⟩

/-- loop.example/g00950/laws.markEng -/
noncomputable def laws_markEng (a : Eng) (k : Int) : Option (Int × List Ent × List (List Ent) × List Int) :=
  (laws_markEntS a.Mem k).bind fun R2 =>
  (laws_markEntSS a.Tables R2.1).bind fun R5 =>
  (laws_markIntS a.Snaps R5.1).bind fun R8 =>
  some (R8.1, R2.2, R5.2, R8.2)

theorem laws_markEng_con (a : Eng) (k : Int) (V_a0 : Value) (V_a1 : Value) (V_a3 : Value) (r : Int × List Ent × List (List Ent) × List Int) (hm : laws_markEng a k = some r) :
    Con Try.prog 13 [.agg #[V_a0, V_a1, .int .i64 a.Seq, V_a3], .int .i64 k] [.own V_a0 (lc a.Mem), .own V_a1 (lc a.Tables), .own V_a3 (lc a.Snaps)] [] (fun _ : Unit => .int .i64 r.1) (fun _ => [.own V_a0 (lc r.2.1), .own V_a1 (lc r.2.2.1), .own V_a3 (lc r.2.2.2)]) := by
  refine Con.intro (args := [.agg #[V_a0, V_a1, .int .i64 a.Seq, V_a3], .int .i64 k]) (n := 18) (val := fun r (_ : Unit) => .int .i64 r.1) (post := fun r _ => [.own V_a0 (lc r.2.1), .own V_a1 (lc r.2.2.1), .own V_a3 (lc r.2.2.2)]) (m := laws_markEng a k) Try.func13 rfl rfl rfl hm ?_
  intro w S _
  unfold laws_markEng
  refine TW.seq ?_
  refine TW.region ?_
  refine TO.ef (Ef.box rfl (Cel.agg ⟨(One.can (Can.own 0 rfl)), (One.can (Can.own 1 rfl)), (One.plain rfl), (One.can (Can.own 2 rfl)), trivial⟩)) rfl rfl rfl (fun B1 => ?_)
  refine TO.y (Y.assign rfl) rfl rfl rfl ?_
  refine TO.nil ?_
  refine TE.next ?_
  refine TW.seq ?_
  refine TW.region ?_
  refine TO.y (Y.field_box kf33_0 rfl rfl) rfl rfl rfl ?_
  refine TO.y (Y.load_box (v := V_a0) 0 kk30 rfl rfl rfl) rfl rfl rfl ?_
  refine TO.y (Y.move rfl) rfl rfl rfl ?_
  refine TO.bind fun R2 H3 => ?_
  refine TO.ef (Ef.call (rest := [.box B1 33 [V_a0, V_a1, .int .i64 a.Seq, V_a3], .own V_a1 (lc a.Tables), .own V_a3 (lc a.Snaps)]) [1, 0, 0, 0] (laws_markEntS_con a.Mem k V_a0 R2 H3) kc47 rfl rfl trivial) rfl rfl rfl (fun _ => ?_)
  refine TO.y (Y.assign rfl) rfl rfl rfl ?_
  refine TO.nil ?_
  refine TE.next ?_
  refine TW.seq ?_
  refine TW.region ?_
  refine TO.y (Y.field_box kf33_1 rfl rfl) rfl rfl rfl ?_
  refine TO.y (Y.load_box (v := V_a1) 1 kk31 rfl rfl rfl) rfl rfl rfl ?_
  refine TO.y (Y.move rfl) rfl rfl rfl ?_
  refine TO.bind fun R5 H6 => ?_
  refine TO.ef (Ef.call (rest := [.own V_a0 (lc R2.2), .box B1 33 [V_a0, V_a1, .int .i64 a.Seq, V_a3], .own V_a3 (lc a.Snaps)]) [2, 0, 0, 0] (laws_markEntSS_con a.Tables R2.1 V_a1 R5 H6) kc48 rfl rfl trivial) rfl rfl rfl (fun _ => ?_)
  refine TO.y (Y.assign rfl) rfl rfl rfl ?_
  refine TO.nil ?_
  refine TE.next ?_
  refine TW.seq ?_
  refine TW.region ?_
  refine TO.y (Y.field_box kf33_3 rfl rfl) rfl rfl rfl ?_
  refine TO.y (Y.load_box (v := V_a3) 2 kk24 rfl rfl rfl) rfl rfl rfl ?_
  refine TO.y (Y.move rfl) rfl rfl rfl ?_
  refine TO.bind fun R8 H9 => ?_
  refine TO.ef (Ef.call (rest := [.own V_a1 (lc R5.2), .own V_a0 (lc R2.2), .box B1 33 [V_a0, V_a1, .int .i64 a.Seq, V_a3]]) [3, 0, 0, 0] (laws_markIntS_con a.Snaps R5.1 V_a3 R8 H9) kc49 rfl rfl trivial) rfl rfl rfl (fun _ => ?_)
  refine TO.y (Y.assign rfl) rfl rfl rfl ?_
  refine TO.nil ?_
  refine TE.next ?_
  refine TW.seq ?_
  refine TW.region ?_
  refine TO.y (Y.move rfl) rfl rfl rfl ?_
  refine TO.y (Y.assign rfl) rfl rfl rfl ?_
  refine TO.nil ?_
  refine TE.next ?_
  refine TW.ret ?_
  exact TE.leaf fun _ _ hf_ hs_ => ret_any (rs := [.tmp 4]) (vs := [.int .i64 R8.1]) (.inl rfl) rfl ⟨rfl, trivial⟩ hf_ hs_ ⟨(), rfl, hs_.pulls [2, 1, 0] rfl⟩

/-- loop.example/g00950/laws.markOpS -/
noncomputable def laws_markOpS (a : List Op) (k : Int) : Option (Int × List Op) :=
  bindC (loopO (fun (S1 : Int × Int × List Op) => if (decide (S1.2.1 < ((S1.2.2.length : Nat) : Int))) = true then ((laws_markText S1.1).bind fun R6 =>
  (idx S1.2.2 S1.2.1).bind fun E9 =>
  (laws_markText (IntKind.i64.wrap (IntKind.i64.wrap (S1.1 + (1 : Int)) + (1 : Int)))).bind fun R11 =>
  some (.go (IntKind.i64.wrap (IntKind.i64.wrap (IntKind.i64.wrap (S1.1 + (1 : Int)) + (1 : Int)) + (1 : Int)), IntKind.i64.wrap (S1.2.1 + (1 : Int)), (S1.2.2.set S1.2.1.toNat ({ Key := R6, Del := (decide (Int.tmod (IntKind.i64.wrap (S1.1 + (1 : Int))) (3 : Int) = (0 : Int))), Val := R11 : Op })))))
  else (some (.done (.go (S1.1, S1.2.2)))))
  (k, (0 : Int), a))
  (fun (T3 : Int × List Op) => some (T3.1, T3.2))

theorem laws_markOpS_con (a : List Op) (k : Int) (V_a0 : Value) (r : Int × List Op) (hm : laws_markOpS a k = some r) :
    Con Try.prog 14 [V_a0, .int .i64 k] [.own V_a0 (lc a)] [] (fun _ : Unit => .int .i64 r.1) (fun _ => [.own V_a0 (lc r.2)]) := by
  refine Con.intro (args := [V_a0, .int .i64 k]) (n := 38) (val := fun r (_ : Unit) => .int .i64 r.1) (post := fun r _ => [.own V_a0 (lc r.2)]) (m := laws_markOpS a k) Try.func14 rfl rfl rfl hm ?_
  intro w S _
  unfold laws_markOpS
  refine TW.seq ?_
  refine TW.region ?_
  refine TO.y (Y.assign rfl) rfl rfl rfl ?_
  refine TO.nil ?_
  refine TE.next ?_
  refine TW.seq ?_
  refine TW.seq ?_
  refine TW.region ?_
  refine TO.y (Y.assign rfl) rfl rfl rfl ?_
  refine TO.nil ?_
  refine TE.next ?_
  refine TW.joinX (τ := Int × List Op) (X := Unit) (fun T _ => [(1, .int .i64 T.1)]) (fun T _ => [.own V_a0 (lc T.2)]) ?_ (fun T3 X4 => ?_)
  · refine TW.block ?_
    refine TW.loopX (σ := Int × Int × List Op) (X := Unit) (fun T _ => [(0, V_a0), (1, .int .i64 T.1), (5, .int .i64 T.2.1)]) (fun T _ => [.own V_a0 (lc T.2.2)]) () [0] ⟨rfl, rfl, rfl, trivial⟩ rfl (fun S1 X2 => ?_)
    refine TW.seq ?_
    refine TW.seq ?_
    refine TW.region ?_
    refine TO.y (Y.move rfl) rfl rfl rfl ?_
    refine TO.y (Y.move rfl) rfl rfl rfl ?_
    refine TO.y (Y.len (l := S1.2.2) ke37 (Can.own 0 rfl) rfl) rfl rfl rfl ?_
    refine TO.y (Y.lss rfl rfl) rfl rfl rfl ?_
    refine TO.nil ?_
    refine TE.next ?_
    refine TW.cond rfl (fun H5 => ?_) (fun H5 => ?_)
    · refine TW.skip ?_
      refine TE.next ?_
      refine TW.seq ?_
      refine TW.block ?_
      refine TW.seq ?_
      refine TW.region ?_
      refine TO.y (Y.move rfl) rfl rfl rfl ?_
      refine TO.y (Y.move rfl) rfl rfl rfl ?_
      refine TO.y (Y.move rfl) rfl rfl rfl ?_
      refine TO.bind fun R6 H7 => ?_
      refine TO.ef (Ef.call (rest := [.own V_a0 (lc S1.2.2)]) [0] (laws_markText_con S1.1  R6 H7) kc50 rfl rfl trivial) rfl rfl rfl (fun _ => ?_)
      refine TO.bind fun E9 H10 => ?_
      refine TO.y (Y.index ke37 (Can.own 0 rfl) H10 rfl rfl) rfl rfl rfl ?_
      refine TO.y (Y.field_el kf70_0 (Can.own 0 rfl) (idx_get H10).2.2 rfl rfl) rfl rfl rfl ?_
      refine TO.ef0 (Ef.store_el (us := [strV R6]) (is' := [.own V_a0 (lc (S1.2.2.set S1.2.1.toNat ({ Key := R6, Del := E9.Del, Val := E9.Val : Op })))]) ({ Key := R6, Del := E9.Del, Val := E9.Val : Op }) 0 kk9 rfl rfl (idx_get H10).2.2 rfl rfl (Cel.plain rfl rfl) rfl rfl rfl rfl) rfl rfl (fun _ => ?_)
      refine TO.nil ?_
      refine TE.next ?_
      refine TW.seq ?_
      refine TW.region ?_
      refine TO.y (Y.move rfl) rfl rfl rfl ?_
      refine TO.y (Y.add rfl rfl) rfl rfl rfl ?_
      refine TO.y (Y.assign rfl) rfl rfl rfl ?_
      refine TO.nil ?_
      refine TE.next ?_
      refine TW.seq ?_
      refine TW.region ?_
      refine TO.y (Y.move rfl) rfl rfl rfl ?_
      refine TO.y (Y.move rfl) rfl rfl rfl ?_
      refine TO.y (Y.move rfl) rfl rfl rfl ?_
      refine TO.y (Y.rem (by decide) rfl rfl) rfl rfl rfl ?_
      refine TO.y (Y.eql rfl rfl) rfl rfl rfl ?_
      refine TO.y (Y.index ke37 (Can.own 0 rfl) (idx_set H10) rfl rfl) rfl rfl rfl ?_
      refine TO.y (Y.field_el kf70_1 (Can.own 0 rfl) (idx_get (idx_set H10)).2.2 rfl rfl) rfl rfl rfl ?_
      refine TO.ef0 (Ef.store_el (us := [.bool (decide (Int.tmod (IntKind.i64.wrap (S1.1 + (1 : Int))) (3 : Int) = (0 : Int)))]) (is' := [.own V_a0 (lc (S1.2.2.set S1.2.1.toNat ({ Key := R6, Del := decide (Int.tmod (IntKind.i64.wrap (S1.1 + (1 : Int))) (3 : Int) = (0 : Int)), Val := E9.Val : Op })))]) ({ Key := R6, Del := decide (Int.tmod (IntKind.i64.wrap (S1.1 + (1 : Int))) (3 : Int) = (0 : Int)), Val := E9.Val : Op }) 0 kk4 rfl rfl (idx_get (idx_set H10)).2.2 rfl rfl (Cel.plain rfl rfl) rfl rfl rfl (by rw [List.set_set]; rfl)) rfl rfl (fun _ => ?_)
      refine TO.nil ?_
      refine TE.next ?_
      refine TW.seq ?_
      refine TW.region ?_
      refine TO.y (Y.move rfl) rfl rfl rfl ?_
      refine TO.y (Y.add rfl rfl) rfl rfl rfl ?_
      refine TO.y (Y.assign rfl) rfl rfl rfl ?_
      refine TO.nil ?_
      refine TE.next ?_
      refine TW.seq ?_
      refine TW.region ?_
      refine TO.y (Y.move rfl) rfl rfl rfl ?_
      refine TO.y (Y.move rfl) rfl rfl rfl ?_
      refine TO.y (Y.move rfl) rfl rfl rfl ?_
      refine TO.bind fun R11 H12 => ?_
      refine TO.ef (Ef.call (rest := [.own V_a0 (lc (S1.2.2.set S1.2.1.toNat ({ Key := R6, Del := decide (Int.tmod (IntKind.i64.wrap (S1.1 + (1 : Int))) (3 : Int) = (0 : Int)), Val := E9.Val : Op })))]) [0] (laws_markText_con (IntKind.i64.wrap (IntKind.i64.wrap (S1.1 + (1 : Int)) + (1 : Int)))  R11 H12) kc50 rfl rfl trivial) rfl rfl rfl (fun _ => ?_)
      refine TO.y (Y.index ke37 (Can.own 0 rfl) (idx_set H10) rfl rfl) rfl rfl rfl ?_
      refine TO.y (Y.field_el kf70_2 (Can.own 0 rfl) (idx_get (idx_set H10)).2.2 rfl rfl) rfl rfl rfl ?_
      refine TO.ef0 (Ef.store_el (us := [strV R11]) (is' := [.own V_a0 (lc (S1.2.2.set S1.2.1.toNat ({ Key := R6, Del := (decide (Int.tmod (IntKind.i64.wrap (S1.1 + (1 : Int))) (3 : Int) = (0 : Int))), Val := R11 : Op })))]) ({ Key := R6, Del := (decide (Int.tmod (IntKind.i64.wrap (S1.1 + (1 : Int))) (3 : Int) = (0 : Int))), Val := R11 : Op }) 0 kk9 rfl rfl (idx_get (idx_set H10)).2.2 rfl rfl (Cel.plain rfl rfl) rfl rfl rfl (by rw [List.set_set]; rfl)) rfl rfl (fun _ => ?_)
      refine TO.nil ?_
      refine TE.next ?_
      refine TW.region ?_
      refine TO.y (Y.move rfl) rfl rfl rfl ?_
      refine TO.y (Y.add rfl rfl) rfl rfl rfl ?_
      refine TO.y (Y.assign rfl) rfl rfl rfl ?_
      refine TO.nil ?_
      refine TE.block_normal ?_
      refine TE.next ?_
      refine TW.region ?_
      refine TO.y (Y.move rfl) rfl rfl rfl ?_
      refine TO.y (Y.add rfl rfl) rfl rfl rfl ?_
      refine TO.y (Y.assign rfl) rfl rfl rfl ?_
      refine TO.nil ?_
      exact TE.lp_go () [0] ⟨rfl, rfl, rfl, trivial⟩ rfl
    · refine TW.exit ?_
      refine TE.then_exit ?_
      refine TE.lp_exit ?_
      refine TE.block_exit ?_
      exact TE.jn_go () [0] ⟨rfl, trivial⟩ rfl
  · refine TE.next ?_
    refine TW.seq ?_
    refine TW.region ?_
    refine TO.y (Y.move rfl) rfl rfl rfl ?_
    refine TO.y (Y.assign rfl) rfl rfl rfl ?_
    refine TO.nil ?_
    refine TE.next ?_
    refine TW.ret ?_
    exact TE.leaf fun _ _ hf_ hs_ => ret_any (rs := [.tmp 4]) (vs := [.int .i64 T3.1]) (.inl rfl) rfl ⟨rfl, trivial⟩ hf_ hs_ ⟨(), rfl, hs_.pulls [0] rfl⟩

/-- loop.example/g00950/laws.heldEntS -/
noncomputable def laws_heldEntS (a : List Ent) (k : Int) : Option Int :=
  bindC (loopO (fun (S1 : Int × Int) => if (decide (S1.2 < ((a.length : Nat) : Int))) = true then ((idx a S1.2).bind fun E6 =>
  (laws_markText S1.1).bind fun R8 =>
  if (!(decide (E6.Key = R8))) = true then (some (.done (.done (-1 : Int))))
  else (if (!(decide (E6.Seq = IntKind.i64.wrap (S1.1 + (1 : Int))))) = true then (some (.done (.done (-1 : Int))))
  else (if (!(decide (E6.Del = (decide (Int.tmod (IntKind.i64.wrap (IntKind.i64.wrap (S1.1 + (1 : Int)) + (1 : Int))) (3 : Int) = (0 : Int)))))) = true then (some (.done (.done (-1 : Int))))
  else ((laws_markText (IntKind.i64.wrap (IntKind.i64.wrap (IntKind.i64.wrap (S1.1 + (1 : Int)) + (1 : Int)) + (1 : Int)))).bind fun R14 =>
  if (!(decide (E6.Val = R14))) = true then (some (.done (.done (-1 : Int))))
  else (some (.go (IntKind.i64.wrap (IntKind.i64.wrap (IntKind.i64.wrap (IntKind.i64.wrap (S1.1 + (1 : Int)) + (1 : Int)) + (1 : Int)) + (1 : Int)), IntKind.i64.wrap (S1.2 + (1 : Int)))))))))
  else (some (.done (.go S1.1))))
  (k, (0 : Int)))
  (fun (T3 : Int) => some T3)

theorem laws_heldEntS_con (a : List Ent) (k : Int) (V_a0 : Value) (r : Int) (hm : laws_heldEntS a k = some r) :
    Con Try.prog 51 [V_a0, .int .i64 k] [] [(V_a0, lc a)] (fun _ : Unit => .int .i64 r) (fun _ => []) := by
  refine Con.intro (args := [V_a0, .int .i64 k]) (n := 53) (val := fun r (_ : Unit) => .int .i64 r) (post := fun _ _ => []) (m := laws_heldEntS a k) Try.func51 rfl rfl rfl hm ?_
  intro w S hrd
  have HB_V_a0 := hrd _ (.head _)
  clear hrd
  unfold laws_heldEntS
  refine TW.seq ?_
  refine TW.region ?_
  refine TO.y (Y.assign rfl) rfl rfl rfl ?_
  refine TO.nil ?_
  refine TE.next ?_
  refine TW.seq ?_
  refine TW.seq ?_
  refine TW.region ?_
  refine TO.y (Y.assign rfl) rfl rfl rfl ?_
  refine TO.nil ?_
  refine TE.next ?_
  refine TW.joinX (τ := Int) (X := Unit) (fun T _ => [(1, .int .i64 T)]) (fun _ _ => []) ?_ (fun T3 X4 => ?_)
  · refine TW.block ?_
    refine TW.loopX (σ := Int × Int) (X := Unit) (fun T _ => [(0, V_a0), (1, .int .i64 T.1), (5, .int .i64 T.2)]) (fun _ _ => []) () [] ⟨rfl, rfl, rfl, trivial⟩ rfl (fun S1 X2 => ?_)
    refine TW.seq ?_
    refine TW.seq ?_
    refine TW.region ?_
    refine TO.y (Y.move rfl) rfl rfl rfl ?_
    refine TO.y (Y.move rfl) rfl rfl rfl ?_
    refine TO.y (Y.len (l := a) ke30 (Base.can HB_V_a0) rfl) rfl rfl rfl ?_
    refine TO.y (Y.lss rfl rfl) rfl rfl rfl ?_
    refine TO.nil ?_
    refine TE.next ?_
    refine TW.cond rfl (fun H5 => ?_) (fun H5 => ?_)
    · refine TW.skip ?_
      refine TE.next ?_
      refine TW.seq ?_
      refine TW.block ?_
      refine TW.seq ?_
      refine TW.seq ?_
      refine TW.draw (isH := []) hMix ?_
      refine TA.y (listed' := #[true, false, false, false, false, false, false, false]) 0 [] rfl (Y.move rfl) rfl rfl rfl (by kernel_rfl) (by kernel_rfl) (by kernel_rfl) rfl rfl ?_
      refine TA.y (listed' := #[true, true, false, false, false, false, false, false]) 1 [] rfl (Y.move rfl) rfl rfl rfl (by kernel_rfl) (by kernel_rfl) (by kernel_rfl) rfl rfl ?_
      refine TA.bind fun E6 H7 => ?_
      refine TA.y (listed' := #[true, true, true, false, false, false, false, false]) 2 [] rfl (Y.index ke30 (Base.can HB_V_a0) H7 rfl rfl) rfl rfl rfl (by kernel_rfl) (by kernel_rfl) (by kernel_rfl) rfl rfl ?_
      refine TA.y (listed' := #[true, true, true, true, false, false, false, false]) 3 [] rfl (Y.field_el kf73_0 (Base.can HB_V_a0) (idx_get H7).2.2 rfl rfl) rfl rfl rfl (by kernel_rfl) (by kernel_rfl) (by kernel_rfl) rfl rfl ?_
      refine TA.y (listed' := #[true, true, true, true, true, false, false, false]) 4 [] rfl (Y.load_el (us := [strV E6.Key]) (u := strV E6.Key) kk9 rfl (Base.can HB_V_a0) (idx_get H7).2.2 rfl rfl rfl rfl rfl) rfl rfl rfl (by kernel_rfl) (by kernel_rfl) (by kernel_rfl) rfl rfl ?_
      refine TA.y (listed' := #[true, true, true, true, true, true, false, false]) 5 [] rfl (Y.move rfl) rfl rfl rfl (by kernel_rfl) (by kernel_rfl) (by kernel_rfl) rfl rfl ?_
      refine TA.bind fun R8 H9 => ?_
      refine TA.one 6 (by kernel_rfl) ?_
      refine TX.ef (listed' := #[true, true, true, true, true, true, true, false]) [] rfl (Ef.call (rest := []) [] (laws_markText_con S1.1  R8 H9) kc50 rfl rfl trivial) rfl rfl rfl rfl (fun _ => rfl) (fun _ => ?_)
      refine TA.y (listed' := #[true, true, true, true, true, true, true, true]) 7 [] rfl (Y.sneq rfl rfl) rfl rfl rfl (by kernel_rfl) (by kernel_rfl) (by kernel_rfl) rfl rfl ?_
      refine TA.nil (by kernel_rfl) ?_
      refine TE.next ?_
      refine TW.cond rfl (fun H11 => ?_) (fun H11 => ?_)
      · refine TW.seq ?_
        refine TW.region ?_
        refine TO.y (Y.assign rfl) rfl rfl rfl ?_
        refine TO.nil ?_
        refine TE.next ?_
        refine TW.ret ?_
        refine TE.then_ret ?_
        refine TE.block_ret ?_
        refine TE.then_ret ?_
        refine TE.lp_ret ?_
        refine TE.block_ret ?_
        refine TE.jn_done ?_
        refine TE.then_ret ?_
        exact TE.leaf fun _ _ hf_ hs_ => ret_any (rs := [.tmp 4]) (vs := [.int .i64 (-1 : Int)]) (.inl rfl) rfl ⟨rfl, trivial⟩ hf_ hs_ ⟨(), rfl, hs_.pulls [] rfl⟩
      · refine TW.skip ?_
        refine TE.next ?_
        refine TW.seq ?_
        refine TW.region ?_
        refine TO.y (Y.move rfl) rfl rfl rfl ?_
        refine TO.y (Y.add rfl rfl) rfl rfl rfl ?_
        refine TO.y (Y.assign rfl) rfl rfl rfl ?_
        refine TO.nil ?_
        refine TE.next ?_
        refine TW.seq ?_
        refine TW.seq ?_
        refine TW.region ?_
        refine TO.y (Y.move rfl) rfl rfl rfl ?_
        refine TO.y (Y.move rfl) rfl rfl rfl ?_
        refine TO.y (Y.index ke30 (Base.can HB_V_a0) H7 rfl rfl) rfl rfl rfl ?_
        refine TO.y (Y.field_el kf73_1 (Base.can HB_V_a0) (idx_get H7).2.2 rfl rfl) rfl rfl rfl ?_
        refine TO.y (Y.load_el (us := [.int .i64 E6.Seq]) (u := .int .i64 E6.Seq) kk3 rfl (Base.can HB_V_a0) (idx_get H7).2.2 rfl rfl rfl rfl rfl) rfl rfl rfl ?_
        refine TO.y (Y.move rfl) rfl rfl rfl ?_
        refine TO.y (Y.neq rfl rfl) rfl rfl rfl ?_
        refine TO.nil ?_
        refine TE.next ?_
        refine TW.cond rfl (fun H12 => ?_) (fun H12 => ?_)
        · refine TW.seq ?_
          refine TW.region ?_
          refine TO.y (Y.assign rfl) rfl rfl rfl ?_
          refine TO.nil ?_
          refine TE.next ?_
          refine TW.ret ?_
          refine TE.then_ret ?_
          refine TE.block_ret ?_
          refine TE.then_ret ?_
          refine TE.lp_ret ?_
          refine TE.block_ret ?_
          refine TE.jn_done ?_
          refine TE.then_ret ?_
          exact TE.leaf fun _ _ hf_ hs_ => ret_any (rs := [.tmp 4]) (vs := [.int .i64 (-1 : Int)]) (.inl rfl) rfl ⟨rfl, trivial⟩ hf_ hs_ ⟨(), rfl, hs_.pulls [] rfl⟩
        · refine TW.skip ?_
          refine TE.next ?_
          refine TW.seq ?_
          refine TW.region ?_
          refine TO.y (Y.move rfl) rfl rfl rfl ?_
          refine TO.y (Y.add rfl rfl) rfl rfl rfl ?_
          refine TO.y (Y.assign rfl) rfl rfl rfl ?_
          refine TO.nil ?_
          refine TE.next ?_
          refine TW.seq ?_
          refine TW.seq ?_
          refine TW.region ?_
          refine TO.y (Y.move rfl) rfl rfl rfl ?_
          refine TO.y (Y.move rfl) rfl rfl rfl ?_
          refine TO.y (Y.index ke30 (Base.can HB_V_a0) H7 rfl rfl) rfl rfl rfl ?_
          refine TO.y (Y.field_el kf73_2 (Base.can HB_V_a0) (idx_get H7).2.2 rfl rfl) rfl rfl rfl ?_
          refine TO.y (Y.load_el (us := [.bool E6.Del]) (u := .bool E6.Del) kk4 rfl (Base.can HB_V_a0) (idx_get H7).2.2 rfl rfl rfl rfl rfl) rfl rfl rfl ?_
          refine TO.y (Y.move rfl) rfl rfl rfl ?_
          refine TO.y (Y.rem (by decide) rfl rfl) rfl rfl rfl ?_
          refine TO.y (Y.eql rfl rfl) rfl rfl rfl ?_
          refine TO.y (Y.neb kb4 rfl rfl) rfl rfl rfl ?_
          refine TO.nil ?_
          refine TE.next ?_
          refine TW.cond rfl (fun H13 => ?_) (fun H13 => ?_)
          · refine TW.seq ?_
            refine TW.region ?_
            refine TO.y (Y.assign rfl) rfl rfl rfl ?_
            refine TO.nil ?_
            refine TE.next ?_
            refine TW.ret ?_
            refine TE.then_ret ?_
            refine TE.block_ret ?_
            refine TE.then_ret ?_
            refine TE.lp_ret ?_
            refine TE.block_ret ?_
            refine TE.jn_done ?_
            refine TE.then_ret ?_
            exact TE.leaf fun _ _ hf_ hs_ => ret_any (rs := [.tmp 4]) (vs := [.int .i64 (-1 : Int)]) (.inl rfl) rfl ⟨rfl, trivial⟩ hf_ hs_ ⟨(), rfl, hs_.pulls [] rfl⟩
          · refine TW.skip ?_
            refine TE.next ?_
            refine TW.seq ?_
            refine TW.region ?_
            refine TO.y (Y.move rfl) rfl rfl rfl ?_
            refine TO.y (Y.add rfl rfl) rfl rfl rfl ?_
            refine TO.y (Y.assign rfl) rfl rfl rfl ?_
            refine TO.nil ?_
            refine TE.next ?_
            refine TW.seq ?_
            refine TW.seq ?_
            refine TW.draw (isH := []) hMix ?_
            refine TA.y (listed' := #[true, false, false, false, false, false, false, false]) 0 [] rfl (Y.move rfl) rfl rfl rfl (by kernel_rfl) (by kernel_rfl) (by kernel_rfl) rfl rfl ?_
            refine TA.y (listed' := #[true, true, false, false, false, false, false, false]) 1 [] rfl (Y.move rfl) rfl rfl rfl (by kernel_rfl) (by kernel_rfl) (by kernel_rfl) rfl rfl ?_
            refine TA.y (listed' := #[true, true, true, false, false, false, false, false]) 2 [] rfl (Y.index ke30 (Base.can HB_V_a0) H7 rfl rfl) rfl rfl rfl (by kernel_rfl) (by kernel_rfl) (by kernel_rfl) rfl rfl ?_
            refine TA.y (listed' := #[true, true, true, true, false, false, false, false]) 3 [] rfl (Y.field_el kf73_3 (Base.can HB_V_a0) (idx_get H7).2.2 rfl rfl) rfl rfl rfl (by kernel_rfl) (by kernel_rfl) (by kernel_rfl) rfl rfl ?_
            refine TA.y (listed' := #[true, true, true, true, true, false, false, false]) 4 [] rfl (Y.load_el (us := [strV E6.Val]) (u := strV E6.Val) kk9 rfl (Base.can HB_V_a0) (idx_get H7).2.2 rfl rfl rfl rfl rfl) rfl rfl rfl (by kernel_rfl) (by kernel_rfl) (by kernel_rfl) rfl rfl ?_
            refine TA.y (listed' := #[true, true, true, true, true, true, false, false]) 5 [] rfl (Y.move rfl) rfl rfl rfl (by kernel_rfl) (by kernel_rfl) (by kernel_rfl) rfl rfl ?_
            refine TA.bind fun R14 H15 => ?_
            refine TA.one 6 (by kernel_rfl) ?_
            refine TX.ef (listed' := #[true, true, true, true, true, true, true, false]) [] rfl (Ef.call (rest := []) [] (laws_markText_con (IntKind.i64.wrap (IntKind.i64.wrap (IntKind.i64.wrap (S1.1 + (1 : Int)) + (1 : Int)) + (1 : Int)))  R14 H15) kc50 rfl rfl trivial) rfl rfl rfl rfl (fun _ => rfl) (fun _ => ?_)
            refine TA.y (listed' := #[true, true, true, true, true, true, true, true]) 7 [] rfl (Y.sneq rfl rfl) rfl rfl rfl (by kernel_rfl) (by kernel_rfl) (by kernel_rfl) rfl rfl ?_
            refine TA.nil (by kernel_rfl) ?_
            refine TE.next ?_
            refine TW.cond rfl (fun H17 => ?_) (fun H17 => ?_)
            · refine TW.seq ?_
              refine TW.region ?_
              refine TO.y (Y.assign rfl) rfl rfl rfl ?_
              refine TO.nil ?_
              refine TE.next ?_
              refine TW.ret ?_
              refine TE.then_ret ?_
              refine TE.block_ret ?_
              refine TE.then_ret ?_
              refine TE.lp_ret ?_
              refine TE.block_ret ?_
              refine TE.jn_done ?_
              refine TE.then_ret ?_
              exact TE.leaf fun _ _ hf_ hs_ => ret_any (rs := [.tmp 4]) (vs := [.int .i64 (-1 : Int)]) (.inl rfl) rfl ⟨rfl, trivial⟩ hf_ hs_ ⟨(), rfl, hs_.pulls [] rfl⟩
            · refine TW.skip ?_
              refine TE.next ?_
              refine TW.region ?_
              refine TO.y (Y.move rfl) rfl rfl rfl ?_
              refine TO.y (Y.add rfl rfl) rfl rfl rfl ?_
              refine TO.y (Y.assign rfl) rfl rfl rfl ?_
              refine TO.nil ?_
              refine TE.block_normal ?_
              refine TE.next ?_
              refine TW.region ?_
              refine TO.y (Y.move rfl) rfl rfl rfl ?_
              refine TO.y (Y.add rfl rfl) rfl rfl rfl ?_
              refine TO.y (Y.assign rfl) rfl rfl rfl ?_
              refine TO.nil ?_
              exact TE.lp_go () [] ⟨rfl, rfl, rfl, trivial⟩ rfl
    · refine TW.exit ?_
      refine TE.then_exit ?_
      refine TE.lp_exit ?_
      refine TE.block_exit ?_
      exact TE.jn_go () [] ⟨rfl, trivial⟩ rfl
  · refine TE.next ?_
    refine TW.seq ?_
    refine TW.region ?_
    refine TO.y (Y.move rfl) rfl rfl rfl ?_
    refine TO.y (Y.assign rfl) rfl rfl rfl ?_
    refine TO.nil ?_
    refine TE.next ?_
    refine TW.ret ?_
    exact TE.leaf fun _ _ hf_ hs_ => ret_any (rs := [.tmp 4]) (vs := [.int .i64 T3]) (.inl rfl) rfl ⟨rfl, trivial⟩ hf_ hs_ ⟨(), rfl, hs_.pulls [] rfl⟩

/-- loop.example/g00950/laws.heldEntSS -/
noncomputable def laws_heldEntSS (a : List (List Ent)) (k : Int) : Option Int :=
  bindC (loopO (fun (S1 : Int × Int) => if (decide (S1.2 < ((a.length : Nat) : Int))) = true then ((idx a S1.2).bind fun E6 =>
  (laws_heldEntS E6 S1.1).bind fun R9 =>
  if (decide (R9 < (0 : Int))) = true then (some (.done (.done (-1 : Int))))
  else (some (.go (R9, IntKind.i64.wrap (S1.2 + (1 : Int))))))
  else (some (.done (.go S1.1))))
  (k, (0 : Int)))
  (fun (T3 : Int) => some T3)

theorem laws_heldEntSS_con (a : List (List Ent)) (k : Int) (V_a0 : Value) (r : Int) (hm : laws_heldEntSS a k = some r) :
    Con Try.prog 52 [V_a0, .int .i64 k] [] [(V_a0, lc a)] (fun _ : Unit => .int .i64 r) (fun _ => []) := by
  refine Con.intro (args := [V_a0, .int .i64 k]) (n := 21) (val := fun r (_ : Unit) => .int .i64 r) (post := fun _ _ => []) (m := laws_heldEntSS a k) Try.func52 rfl rfl rfl hm ?_
  intro w S hrd
  have HB_V_a0 := hrd _ (.head _)
  clear hrd
  unfold laws_heldEntSS
  refine TW.seq ?_
  refine TW.region ?_
  refine TO.y (Y.assign rfl) rfl rfl rfl ?_
  refine TO.nil ?_
  refine TE.next ?_
  refine TW.seq ?_
  refine TW.seq ?_
  refine TW.region ?_
  refine TO.y (Y.assign rfl) rfl rfl rfl ?_
  refine TO.nil ?_
  refine TE.next ?_
  refine TW.joinX (τ := Int) (X := Unit) (fun T _ => [(1, .int .i64 T)]) (fun _ _ => []) ?_ (fun T3 X4 => ?_)
  · refine TW.block ?_
    refine TW.loopX (σ := Int × Int) (X := Unit) (fun T _ => [(0, V_a0), (1, .int .i64 T.1), (5, .int .i64 T.2)]) (fun _ _ => []) () [] ⟨rfl, rfl, rfl, trivial⟩ rfl (fun S1 X2 => ?_)
    refine TW.seq ?_
    refine TW.seq ?_
    refine TW.region ?_
    refine TO.y (Y.move rfl) rfl rfl rfl ?_
    refine TO.y (Y.move rfl) rfl rfl rfl ?_
    refine TO.y (Y.len (l := a) ke31 (Base.can HB_V_a0) rfl) rfl rfl rfl ?_
    refine TO.y (Y.lss rfl rfl) rfl rfl rfl ?_
    refine TO.nil ?_
    refine TE.next ?_
    refine TW.cond rfl (fun H5 => ?_) (fun H5 => ?_)
    · refine TW.skip ?_
      refine TE.next ?_
      refine TW.seq ?_
      refine TW.block ?_
      refine TW.seq ?_
      refine TW.region ?_
      refine TO.y (Y.move rfl) rfl rfl rfl ?_
      refine TO.y (Y.move rfl) rfl rfl rfl ?_
      refine TO.bind fun E6 H7 => ?_
      refine TO.y (Y.index ke31 (Base.can HB_V_a0) H7 rfl rfl) rfl rfl rfl ?_
      have Q8 : Base w S (elv w V_a0 (S1.2.toNat * 1 + 0)) (lc E6) := Base.el HB_V_a0 (idx_get H7).2.2 rfl rfl
      refine TO.y (Y.load_base (α := List Ent) (u := (elv w V_a0 (S1.2.toNat * 1 + 0))) kk30 rfl HB_V_a0 (idx_get H7).2.2 rfl rfl rfl rfl rfl) rfl rfl rfl ?_
      refine TO.y (Y.move rfl) rfl rfl rfl ?_
      refine TO.bind fun R9 H10 => ?_
      refine TO.ef (Ef.call (rest := []) [] (laws_heldEntS_con E6 S1.1 (elv w V_a0 (S1.2.toNat * 1 + 0)) R9 H10) kc51 rfl rfl ⟨(Base.can Q8), trivial⟩) rfl rfl rfl (fun _ => ?_)
      refine TO.y (Y.assign rfl) rfl rfl rfl ?_
      refine TO.nil ?_
      refine TE.next ?_
      refine TW.seq ?_
      refine TW.region ?_
      refine TO.y (Y.move rfl) rfl rfl rfl ?_
      refine TO.y (Y.lss rfl rfl) rfl rfl rfl ?_
      refine TO.nil ?_
      refine TE.next ?_
      refine TW.cond rfl (fun H12 => ?_) (fun H12 => ?_)
      · refine TW.seq ?_
        refine TW.region ?_
        refine TO.y (Y.assign rfl) rfl rfl rfl ?_
        refine TO.nil ?_
        refine TE.next ?_
        refine TW.ret ?_
        refine TE.block_ret ?_
        refine TE.then_ret ?_
        refine TE.lp_ret ?_
        refine TE.block_ret ?_
        refine TE.jn_done ?_
        refine TE.then_ret ?_
        exact TE.leaf fun _ _ hf_ hs_ => ret_any (rs := [.tmp 4]) (vs := [.int .i64 (-1 : Int)]) (.inl rfl) rfl ⟨rfl, trivial⟩ hf_ hs_ ⟨(), rfl, hs_.pulls [] rfl⟩
      · refine TW.skip ?_
        refine TE.block_normal ?_
        refine TE.next ?_
        refine TW.region ?_
        refine TO.y (Y.move rfl) rfl rfl rfl ?_
        refine TO.y (Y.add rfl rfl) rfl rfl rfl ?_
        refine TO.y (Y.assign rfl) rfl rfl rfl ?_
        refine TO.nil ?_
        exact TE.lp_go () [] ⟨rfl, rfl, rfl, trivial⟩ rfl
    · refine TW.exit ?_
      refine TE.then_exit ?_
      refine TE.lp_exit ?_
      refine TE.block_exit ?_
      exact TE.jn_go () [] ⟨rfl, trivial⟩ rfl
  · refine TE.next ?_
    refine TW.seq ?_
    refine TW.region ?_
    refine TO.y (Y.move rfl) rfl rfl rfl ?_
    refine TO.y (Y.assign rfl) rfl rfl rfl ?_
    refine TO.nil ?_
    refine TE.next ?_
    refine TW.ret ?_
    exact TE.leaf fun _ _ hf_ hs_ => ret_any (rs := [.tmp 4]) (vs := [.int .i64 T3]) (.inl rfl) rfl ⟨rfl, trivial⟩ hf_ hs_ ⟨(), rfl, hs_.pulls [] rfl⟩

/-- loop.example/g00950/laws.heldIntS -/
noncomputable def laws_heldIntS (a : List Int) (k : Int) : Option Int :=
  bindC (loopO (fun (S1 : Int × Int) => if (decide (S1.2 < ((a.length : Nat) : Int))) = true then ((idx a S1.2).bind fun E6 =>
  if (!(decide (E6 = S1.1))) = true then (some (.done (.done (-1 : Int))))
  else (some (.go (IntKind.i64.wrap (S1.1 + (1 : Int)), IntKind.i64.wrap (S1.2 + (1 : Int))))))
  else (some (.done (.go S1.1))))
  (k, (0 : Int)))
  (fun (T3 : Int) => some T3)

theorem laws_heldIntS_con (a : List Int) (k : Int) (V_a0 : Value) (r : Int) (hm : laws_heldIntS a k = some r) :
    Con Try.prog 53 [V_a0, .int .i64 k] [] [(V_a0, lc a)] (fun _ : Unit => .int .i64 r) (fun _ => []) := by
  refine Con.intro (args := [V_a0, .int .i64 k]) (n := 21) (val := fun r (_ : Unit) => .int .i64 r) (post := fun _ _ => []) (m := laws_heldIntS a k) Try.func53 rfl rfl rfl hm ?_
  intro w S hrd
  have HB_V_a0 := hrd _ (.head _)
  clear hrd
  unfold laws_heldIntS
  refine TW.seq ?_
  refine TW.region ?_
  refine TO.y (Y.assign rfl) rfl rfl rfl ?_
  refine TO.nil ?_
  refine TE.next ?_
  refine TW.seq ?_
  refine TW.seq ?_
  refine TW.region ?_
  refine TO.y (Y.assign rfl) rfl rfl rfl ?_
  refine TO.nil ?_
  refine TE.next ?_
  refine TW.joinX (τ := Int) (X := Unit) (fun T _ => [(1, .int .i64 T)]) (fun _ _ => []) ?_ (fun T3 X4 => ?_)
  · refine TW.block ?_
    refine TW.loopX (σ := Int × Int) (X := Unit) (fun T _ => [(0, V_a0), (1, .int .i64 T.1), (5, .int .i64 T.2)]) (fun _ _ => []) () [] ⟨rfl, rfl, rfl, trivial⟩ rfl (fun S1 X2 => ?_)
    refine TW.seq ?_
    refine TW.seq ?_
    refine TW.region ?_
    refine TO.y (Y.move rfl) rfl rfl rfl ?_
    refine TO.y (Y.move rfl) rfl rfl rfl ?_
    refine TO.y (Y.len (l := a) ke24 (Base.can HB_V_a0) rfl) rfl rfl rfl ?_
    refine TO.y (Y.lss rfl rfl) rfl rfl rfl ?_
    refine TO.nil ?_
    refine TE.next ?_
    refine TW.cond rfl (fun H5 => ?_) (fun H5 => ?_)
    · refine TW.skip ?_
      refine TE.next ?_
      refine TW.seq ?_
      refine TW.block ?_
      refine TW.seq ?_
      refine TW.seq ?_
      refine TW.region ?_
      refine TO.y (Y.move rfl) rfl rfl rfl ?_
      refine TO.y (Y.move rfl) rfl rfl rfl ?_
      refine TO.bind fun E6 H7 => ?_
      refine TO.y (Y.index ke24 (Base.can HB_V_a0) H7 rfl rfl) rfl rfl rfl ?_
      refine TO.y (Y.load_el (us := [.int .i64 E6]) (u := .int .i64 E6) kk3 rfl (Base.can HB_V_a0) (idx_get H7).2.2 rfl rfl rfl rfl rfl) rfl rfl rfl ?_
      refine TO.y (Y.move rfl) rfl rfl rfl ?_
      refine TO.y (Y.neq rfl rfl) rfl rfl rfl ?_
      refine TO.nil ?_
      refine TE.next ?_
      refine TW.cond rfl (fun H8 => ?_) (fun H8 => ?_)
      · refine TW.seq ?_
        refine TW.region ?_
        refine TO.y (Y.assign rfl) rfl rfl rfl ?_
        refine TO.nil ?_
        refine TE.next ?_
        refine TW.ret ?_
        refine TE.then_ret ?_
        refine TE.block_ret ?_
        refine TE.then_ret ?_
        refine TE.lp_ret ?_
        refine TE.block_ret ?_
        refine TE.jn_done ?_
        refine TE.then_ret ?_
        exact TE.leaf fun _ _ hf_ hs_ => ret_any (rs := [.tmp 4]) (vs := [.int .i64 (-1 : Int)]) (.inl rfl) rfl ⟨rfl, trivial⟩ hf_ hs_ ⟨(), rfl, hs_.pulls [] rfl⟩
      · refine TW.skip ?_
        refine TE.next ?_
        refine TW.region ?_
        refine TO.y (Y.move rfl) rfl rfl rfl ?_
        refine TO.y (Y.add rfl rfl) rfl rfl rfl ?_
        refine TO.y (Y.assign rfl) rfl rfl rfl ?_
        refine TO.nil ?_
        refine TE.block_normal ?_
        refine TE.next ?_
        refine TW.region ?_
        refine TO.y (Y.move rfl) rfl rfl rfl ?_
        refine TO.y (Y.add rfl rfl) rfl rfl rfl ?_
        refine TO.y (Y.assign rfl) rfl rfl rfl ?_
        refine TO.nil ?_
        exact TE.lp_go () [] ⟨rfl, rfl, rfl, trivial⟩ rfl
    · refine TW.exit ?_
      refine TE.then_exit ?_
      refine TE.lp_exit ?_
      refine TE.block_exit ?_
      exact TE.jn_go () [] ⟨rfl, trivial⟩ rfl
  · refine TE.next ?_
    refine TW.seq ?_
    refine TW.region ?_
    refine TO.y (Y.move rfl) rfl rfl rfl ?_
    refine TO.y (Y.assign rfl) rfl rfl rfl ?_
    refine TO.nil ?_
    refine TE.next ?_
    refine TW.ret ?_
    exact TE.leaf fun _ _ hf_ hs_ => ret_any (rs := [.tmp 4]) (vs := [.int .i64 T3]) (.inl rfl) rfl ⟨rfl, trivial⟩ hf_ hs_ ⟨(), rfl, hs_.pulls [] rfl⟩

/-- loop.example/g00950/laws.heldEng -/
noncomputable def laws_heldEng (a : Eng) (k : Int) : Option Int :=
  (laws_heldEntS a.Mem k).bind fun R2 =>
  if (decide (R2 < (0 : Int))) = true then (some (-1 : Int))
  else ((laws_heldEntSS a.Tables R2).bind fun R6 =>
  if (decide (R6 < (0 : Int))) = true then (some (-1 : Int))
  else ((laws_heldIntS a.Snaps R6).bind fun R10 =>
  if (decide (R10 < (0 : Int))) = true then (some (-1 : Int))
  else (some R10)))

theorem laws_heldEng_con (a : Eng) (k : Int) (V_a0 : Value) (V_a1 : Value) (V_a3 : Value) (r : Int) (hm : laws_heldEng a k = some r) :
    Con Try.prog 15 [.agg #[V_a0, V_a1, .int .i64 a.Seq, V_a3], .int .i64 k] [] [(V_a0, lc a.Mem), (V_a1, lc a.Tables), (V_a3, lc a.Snaps)] (fun _ : Unit => .int .i64 r) (fun _ => []) := by
  refine Con.intro (args := [.agg #[V_a0, V_a1, .int .i64 a.Seq, V_a3], .int .i64 k]) (n := 24) (val := fun r (_ : Unit) => .int .i64 r) (post := fun _ _ => []) (m := laws_heldEng a k) Try.func15 rfl rfl rfl hm ?_
  intro w S hrd
  have HB_V_a0 := hrd _ (.head _)
  have HB_V_a1 := hrd _ (.tail _ (.head _))
  have HB_V_a3 := hrd _ (.tail _ (.tail _ (.head _)))
  clear hrd
  unfold laws_heldEng
  refine TW.seq ?_
  refine TW.region ?_
  refine TO.ef (Ef.box rfl (Cel.agg ⟨(One.can (Base.can HB_V_a0)), (One.can (Base.can HB_V_a1)), (One.plain rfl), (One.can (Base.can HB_V_a3)), trivial⟩)) rfl rfl rfl (fun B1 => ?_)
  refine TO.y (Y.assign rfl) rfl rfl rfl ?_
  refine TO.nil ?_
  refine TE.next ?_
  refine TW.seq ?_
  refine TW.region ?_
  refine TO.y (Y.field_box kf33_0 rfl rfl) rfl rfl rfl ?_
  refine TO.y (Y.load_box (v := V_a0) 0 kk30 rfl rfl rfl) rfl rfl rfl ?_
  refine TO.y (Y.move rfl) rfl rfl rfl ?_
  refine TO.bind fun R2 H3 => ?_
  refine TO.ef (Ef.call (rest := [.box B1 33 [V_a0, V_a1, .int .i64 a.Seq, V_a3]]) [0] (laws_heldEntS_con a.Mem k V_a0 R2 H3) kc51 rfl rfl ⟨(Base.can HB_V_a0), trivial⟩) rfl rfl rfl (fun _ => ?_)
  refine TO.y (Y.assign rfl) rfl rfl rfl ?_
  refine TO.nil ?_
  refine TE.next ?_
  refine TW.seq ?_
  refine TW.seq ?_
  refine TW.region ?_
  refine TO.y (Y.move rfl) rfl rfl rfl ?_
  refine TO.y (Y.lss rfl rfl) rfl rfl rfl ?_
  refine TO.nil ?_
  refine TE.next ?_
  refine TW.cond rfl (fun H5 => ?_) (fun H5 => ?_)
  · refine TW.seq ?_
    refine TW.region ?_
    refine TO.y (Y.assign rfl) rfl rfl rfl ?_
    refine TO.nil ?_
    refine TE.next ?_
    refine TW.ret ?_
    refine TE.then_ret ?_
    exact TE.leaf fun _ _ hf_ hs_ => ret_any (rs := [.tmp 4]) (vs := [.int .i64 (-1 : Int)]) (.inl rfl) rfl ⟨rfl, trivial⟩ hf_ hs_ ⟨(), rfl, hs_.pulls [] rfl⟩
  · refine TW.skip ?_
    refine TE.next ?_
    refine TW.seq ?_
    refine TW.region ?_
    refine TO.y (Y.field_box kf33_1 rfl rfl) rfl rfl rfl ?_
    refine TO.y (Y.load_box (v := V_a1) 0 kk31 rfl rfl rfl) rfl rfl rfl ?_
    refine TO.y (Y.move rfl) rfl rfl rfl ?_
    refine TO.bind fun R6 H7 => ?_
    refine TO.ef (Ef.call (rest := [.box B1 33 [V_a0, V_a1, .int .i64 a.Seq, V_a3]]) [0] (laws_heldEntSS_con a.Tables R2 V_a1 R6 H7) kc52 rfl rfl ⟨(Base.can HB_V_a1), trivial⟩) rfl rfl rfl (fun _ => ?_)
    refine TO.y (Y.assign rfl) rfl rfl rfl ?_
    refine TO.nil ?_
    refine TE.next ?_
    refine TW.seq ?_
    refine TW.seq ?_
    refine TW.region ?_
    refine TO.y (Y.move rfl) rfl rfl rfl ?_
    refine TO.y (Y.lss rfl rfl) rfl rfl rfl ?_
    refine TO.nil ?_
    refine TE.next ?_
    refine TW.cond rfl (fun H9 => ?_) (fun H9 => ?_)
    · refine TW.seq ?_
      refine TW.region ?_
      refine TO.y (Y.assign rfl) rfl rfl rfl ?_
      refine TO.nil ?_
      refine TE.next ?_
      refine TW.ret ?_
      refine TE.then_ret ?_
      exact TE.leaf fun _ _ hf_ hs_ => ret_any (rs := [.tmp 4]) (vs := [.int .i64 (-1 : Int)]) (.inl rfl) rfl ⟨rfl, trivial⟩ hf_ hs_ ⟨(), rfl, hs_.pulls [] rfl⟩
    · refine TW.skip ?_
      refine TE.next ?_
      refine TW.seq ?_
      refine TW.region ?_
      refine TO.y (Y.field_box kf33_3 rfl rfl) rfl rfl rfl ?_
      refine TO.y (Y.load_box (v := V_a3) 0 kk24 rfl rfl rfl) rfl rfl rfl ?_
      refine TO.y (Y.move rfl) rfl rfl rfl ?_
      refine TO.bind fun R10 H11 => ?_
      refine TO.ef (Ef.call (rest := [.box B1 33 [V_a0, V_a1, .int .i64 a.Seq, V_a3]]) [0] (laws_heldIntS_con a.Snaps R6 V_a3 R10 H11) kc53 rfl rfl ⟨(Base.can HB_V_a3), trivial⟩) rfl rfl rfl (fun _ => ?_)
      refine TO.y (Y.assign rfl) rfl rfl rfl ?_
      refine TO.nil ?_
      refine TE.next ?_
      refine TW.seq ?_
      refine TW.seq ?_
      refine TW.region ?_
      refine TO.y (Y.move rfl) rfl rfl rfl ?_
      refine TO.y (Y.lss rfl rfl) rfl rfl rfl ?_
      refine TO.nil ?_
      refine TE.next ?_
      refine TW.cond rfl (fun H13 => ?_) (fun H13 => ?_)
      · refine TW.seq ?_
        refine TW.region ?_
        refine TO.y (Y.assign rfl) rfl rfl rfl ?_
        refine TO.nil ?_
        refine TE.next ?_
        refine TW.ret ?_
        refine TE.then_ret ?_
        exact TE.leaf fun _ _ hf_ hs_ => ret_any (rs := [.tmp 4]) (vs := [.int .i64 (-1 : Int)]) (.inl rfl) rfl ⟨rfl, trivial⟩ hf_ hs_ ⟨(), rfl, hs_.pulls [] rfl⟩
      · refine TW.skip ?_
        refine TE.next ?_
        refine TW.seq ?_
        refine TW.region ?_
        refine TO.y (Y.move rfl) rfl rfl rfl ?_
        refine TO.y (Y.assign rfl) rfl rfl rfl ?_
        refine TO.nil ?_
        refine TE.next ?_
        refine TW.ret ?_
        exact TE.leaf fun _ _ hf_ hs_ => ret_any (rs := [.tmp 4]) (vs := [.int .i64 R10]) (.inl rfl) rfl ⟨rfl, trivial⟩ hf_ hs_ ⟨(), rfl, hs_.pulls [] rfl⟩

end Go.Proofs.Ytfanigbmjmiidaa
