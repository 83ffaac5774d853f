/-
  The functions that a law reaches, each as a pure function, with the proof that the program computes it, and the step from a pure law to the given statement. Conditions: none.
-/
import Derived.Test.YtahennbogdbnmaaY1
set_option linter.unusedVariables false
set_option maxRecDepth 100000
set_option maxHeartbeats 4000000
namespace Go.Proofs.Ytahennbogdbnmaa
open Go Sl

/-- loop.example/g00950/impl.Need -/
noncomputable def impl_Need (quota : Int) : Option Int :=
  (impl_inRange quota (0 : Int) (1000 : Int)).bind fun R1 =>
  if (!R1) = true then (some (0 : Int))
  else (some (IntKind.i64.wrap ((2 : Int) + (IntKind.i64.wrap ((2 : Int) * (IntKind.i64.wrap (Int.tdiv (IntKind.i64.wrap (IntKind.i64.wrap (quota + (50 : Int)) - (1 : Int))) (50 : Int))))))))

theorem impl_Need_con (quota : Int)  (r : Int) (hm : impl_Need quota = some r) :
    Con Try.prog 28 [.int .i64 quota] [] [] (fun _ : Unit => .int .i64 r) (fun _ => []) := by
  refine Con.intro (args := [.int .i64 quota]) (n := 12) (val := fun r (_ : Unit) => .int .i64 r) (post := fun _ _ => []) (m := impl_Need quota) Try.func28 rfl rfl rfl hm ?_
  intro w S _
  unfold impl_Need
  refine TW.seq ?_
  refine TW.region ?_
  refine TO.y (Y.assign rfl) rfl rfl rfl ?_
  refine TO.nil ?_
  refine TE.next ?_
  refine TW.seq ?_
  refine TW.seq ?_
  refine TW.region ?_
  refine TO.y (Y.move rfl) rfl rfl rfl ?_
  refine TO.bind fun R1 H2 => ?_
  refine TO.ef (Ef.call (rest := []) [] (impl_inRange_con quota (0 : Int) (1000 : Int)  R1 H2) kc63 rfl rfl trivial) rfl rfl rfl (fun _ => ?_)
  refine TO.y (Y.not rfl) rfl rfl rfl ?_
  refine TO.nil ?_
  refine TE.next ?_
  refine TW.cond rfl (fun H4 => ?_) (fun H4 => ?_)
  · refine TW.seq ?_
    refine TW.region ?_
    refine TO.y (Y.assign rfl) rfl rfl rfl ?_
    refine TO.nil ?_
    refine TE.next ?_
    refine TW.ret ?_
    refine TE.then_ret ?_
    exact TE.leaf fun _ _ hf_ hs_ => ret_any (rs := [.tmp 2]) (vs := [.int .i64 (0 : Int)]) (.inl rfl) rfl ⟨rfl, trivial⟩ hf_ hs_ ⟨(), rfl, hs_.pulls [] rfl⟩
  · refine TW.skip ?_
    refine TE.next ?_
    refine TW.seq ?_
    refine TW.region ?_
    refine TO.y (Y.move rfl) rfl rfl rfl ?_
    refine TO.y (Y.add rfl rfl) rfl rfl rfl ?_
    refine TO.y (Y.sub rfl rfl) rfl rfl rfl ?_
    refine TO.y (Y.quo (by decide) rfl rfl) rfl rfl rfl ?_
    refine TO.y (Y.mul rfl rfl) rfl rfl rfl ?_
    refine TO.y (Y.add rfl rfl) rfl rfl rfl ?_
    refine TO.y (Y.assign rfl) rfl rfl rfl ?_
    refine TO.nil ?_
    refine TE.next ?_
    refine TW.ret ?_
    exact TE.leaf fun _ _ hf_ hs_ => ret_any (rs := [.tmp 2]) (vs := [.int .i64 (IntKind.i64.wrap ((2 : Int) + (IntKind.i64.wrap ((2 : Int) * (IntKind.i64.wrap (Int.tdiv (IntKind.i64.wrap (IntKind.i64.wrap (quota + (50 : Int)) - (1 : Int))) (50 : Int)))))))]) (.inl rfl) rfl ⟨rfl, trivial⟩ hf_ hs_ ⟨(), rfl, hs_.pulls [] rfl⟩

/-- loop.example/g00950/impl.needOf -/
noncomputable def impl_needOf (s : Shares) : Option Int :=
  bindC (loopO (fun (S2 : Int × Int) => if (decide (S2.2 < ((s.List.length : Nat) : Int))) = true then ((idx s.List S2.2).bind fun E7 =>
  (impl_Need E7.Quota).bind fun R10 =>
  some (.go (IntKind.i64.wrap (S2.1 + R10), IntKind.i64.wrap (S2.2 + (1 : Int)))))
  else (some (.done (.go S2.1))))
  ((4 : Int), (0 : Int)))
  (fun (T4 : Int) => some T4)

theorem impl_needOf_con (s : Shares) (V_s1 : Value) (r : Int) (hm : impl_needOf s = some r) :
    Con Try.prog 62 [.agg #[.int .i64 s.Size, V_s1]] [] [(V_s1, lc s.List)] (fun _ : Unit => .int .i64 r) (fun _ => []) := by
  refine Con.intro (args := [.agg #[.int .i64 s.Size, V_s1]]) (n := 20) (val := fun r (_ : Unit) => .int .i64 r) (post := fun _ _ => []) (m := impl_needOf s) Try.func62 rfl rfl rfl hm ?_
  intro w S hrd
  have HB_V_s1 := hrd _ (.head _)
  clear hrd
  unfold impl_needOf
  refine TW.seq ?_
  refine TW.region ?_
  refine TO.ef (Ef.box rfl (Cel.agg ⟨(One.plain rfl), (One.can (Base.can HB_V_s1)), trivial⟩)) rfl rfl rfl (fun B1 => ?_)
  refine TO.y (Y.assign rfl) rfl rfl rfl ?_
  refine TO.nil ?_
  refine TE.next ?_
  refine TW.seq ?_
  refine TW.region ?_
  refine TO.y (Y.assign rfl) rfl rfl rfl ?_
  refine TO.nil ?_
  refine TE.next ?_
  refine TW.seq ?_
  refine TW.seq ?_
  refine TW.region ?_
  refine TO.y (Y.field_box kf51_1 rfl rfl) rfl rfl rfl ?_
  refine TO.y (Y.load_box (v := V_s1) 0 kk49 rfl rfl rfl) rfl rfl rfl ?_
  refine TO.y (Y.len (l := s.List) ke49 (Base.can HB_V_s1) rfl) rfl rfl rfl ?_
  refine TO.y (Y.move rfl) rfl rfl rfl ?_
  refine TO.nil ?_
  refine TE.next ?_
  refine TW.joinX (τ := Int) (X := Unit) (fun T _ => [(3, .int .i64 T)]) (fun _ _ => []) ?_ (fun T4 X5 => ?_)
  · refine TW.block ?_
    refine TW.loopX (σ := Int × Int) (X := Unit) (fun T _ => [(3, .int .i64 T.1), (7, V_s1), (8, .int .i64 ((s.List.length : Nat) : Int)), (9, .int .i64 T.2)]) (fun _ _ => []) () [] ⟨rfl, rfl, rfl, rfl, trivial⟩ rfl (fun S2 X3 => ?_)
    refine TW.seq ?_
    refine TW.region ?_
    refine TO.y (Y.lss rfl rfl) rfl rfl rfl ?_
    refine TO.nil ?_
    refine TE.next ?_
    refine TW.seq ?_
    refine TW.cond rfl (fun H6 => ?_) (fun H6 => ?_)
    · refine TW.skip ?_
      refine TE.next ?_
      refine TW.seq ?_
      refine TW.block ?_
      refine TW.seq ?_
      refine TW.region ?_
      refine TO.bind fun E7 H8 => ?_
      refine TO.y (Y.index ke49 (Base.can HB_V_s1) H8 rfl rfl) rfl rfl rfl ?_
      refine TO.y (Y.load_el (us := [.int .i64 E7.Tenant, .int .i64 E7.Quota]) (u := .agg #[.int .i64 E7.Tenant, .int .i64 E7.Quota]) kk59 rfl (Base.can HB_V_s1) (idx_get H8).2.2 rfl rfl rfl rfl rfl) rfl rfl rfl ?_
      refine TO.ef (Ef.alloc kz59 rfl) rfl rfl rfl (fun B9 => ?_)
      refine TO.ef0 (Ef.store_box (us := [.int .i64 E7.Tenant, .int .i64 E7.Quota]) (vs' := [.int .i64 E7.Tenant, .int .i64 E7.Quota]) (is' := [.box B9 59 [.int .i64 E7.Tenant, .int .i64 E7.Quota]]) 0 kk59 rfl rfl rfl (Cel.plain rfl rfl) rfl rfl rfl rfl) rfl rfl (fun _ => ?_)
      refine TO.nil ?_
      refine TE.next ?_
      refine TW.region ?_
      refine TO.y (Y.move rfl) rfl rfl rfl ?_
      refine TO.y (Y.field_box kf59_1 rfl rfl) rfl rfl rfl ?_
      refine TO.y (Y.load_box (v := .int .i64 E7.Quota) 0 kk3 rfl rfl rfl) rfl rfl rfl ?_
      refine TO.bind fun R10 H11 => ?_
      refine TO.ef (Ef.call (rest := [.box B9 59 [.int .i64 E7.Tenant, .int .i64 E7.Quota]]) [0] (impl_Need_con E7.Quota  R10 H11) kc28 rfl rfl trivial) rfl rfl rfl (fun _ => ?_)
      refine TO.y (Y.add rfl rfl) rfl rfl rfl ?_
      refine TO.y (Y.assign rfl) rfl rfl rfl ?_
      refine TO.nil ?_
      refine TE.block_normal ?_
      refine TE.next ?_
      refine TW.region ?_
      refine TO.y (Y.add rfl rfl) rfl rfl rfl ?_
      refine TO.y (Y.move rfl) rfl rfl rfl ?_
      refine TO.nil ?_
      exact TE.lp_go () [] ⟨rfl, rfl, rfl, rfl, trivial⟩ rfl
    · refine TW.exit ?_
      refine TE.then_exit ?_
      refine TE.lp_exit ?_
      refine TE.block_exit ?_
      exact TE.jn_go () [] ⟨rfl, trivial⟩ rfl
  · refine TE.next ?_
    refine TW.seq ?_
    refine TW.region ?_
    refine TO.y (Y.move rfl) rfl rfl rfl ?_
    refine TO.y (Y.assign rfl) rfl rfl rfl ?_
    refine TO.nil ?_
    refine TE.next ?_
    refine TW.ret ?_
    exact TE.leaf fun _ _ hf_ hs_ => ret_any (rs := [.tmp 2]) (vs := [.int .i64 T4]) (.inl rfl) rfl ⟨rfl, trivial⟩ hf_ hs_ ⟨(), rfl, hs_.pulls [] rfl⟩

/-- loop.example/g00950/impl.SharesOk -/
noncomputable def impl_SharesOk (s : Shares) : Option Bool :=
  ((impl_inRange s.Size (0 : Int) (1000 : Int)).bind fun R4 =>
  if (!R4) = true then (some true)
  else (some (decide (((s.List.length : Nat) : Int) > (4 : Int))))).bind (fun (T2 : Bool) =>
  if T2 = true then (some false)
  else (bindC (loopO (fun (S9 : Int) => if (decide (S9 < ((s.List.length : Nat) : Int))) = true then ((idx s.List S9).bind fun E14 =>
  ((impl_isTenant E14.Tenant).bind fun R19 =>
  if (!R19) = true then (some true)
  else ((impl_inRange E14.Quota (0 : Int) (1000 : Int)).bind fun R23 =>
  if (!R23) = true then (some true)
  else (if (decide (S9 > (0 : Int))) = true then ((idx s.List (IntKind.i64.wrap (S9 - (1 : Int)))).bind fun E28 =>
  some (decide (E14.Tenant ≤ E28.Tenant)))
  else (some false)))).bind (fun (T17 : Bool) =>
  if T17 = true then (some (.done (.done false)))
  else (some (.go (IntKind.i64.wrap (S9 + (1 : Int)))))))
  else (some (.done (.go ()))))
  (0 : Int))
  (fun (T11 : Unit) => (if (decide (((s.List.length : Nat) : Int) = (0 : Int))) = true then (some true)
  else ((impl_needOf s).bind fun R34 =>
  some (decide (R34 ≤ s.Size)))).bind (fun (T31 : Bool) =>
  some T31))))

theorem impl_SharesOk_con (s : Shares) (V_s1 : Value) (r : Bool) (hm : impl_SharesOk s = some r) :
    Con Try.prog 55 [.agg #[.int .i64 s.Size, V_s1]] [] [(V_s1, lc s.List)] (fun _ : Unit => .bool r) (fun _ => []) := by
  refine Con.intro (args := [.agg #[.int .i64 s.Size, V_s1]]) (n := 61) (val := fun r (_ : Unit) => .bool r) (post := fun _ _ => []) (m := impl_SharesOk s) Try.func55 rfl rfl rfl hm ?_
  intro w S hrd
  have HB_V_s1 := hrd _ (.head _)
  clear hrd
  unfold impl_SharesOk
  refine TW.seq ?_
  refine TW.region ?_
  refine TO.ef (Ef.box rfl (Cel.agg ⟨(One.plain rfl), (One.can (Base.can HB_V_s1)), trivial⟩)) rfl rfl rfl (fun B1 => ?_)
  refine TO.y (Y.assign rfl) rfl rfl rfl ?_
  refine TO.nil ?_
  refine TE.next ?_
  refine TW.seq ?_
  refine TW.seq ?_
  refine TW.joinBX (τ := Bool) (X := Unit) (fun T _ => [(1, .pointer (some ⟨B1, 0, none⟩)), (14, .bool T)]) (fun _ _ => [.box B1 51 [.int .i64 s.Size, V_s1]]) ?_ (fun T2 X3 => ?_)
  · refine TW.region ?_
    refine TO.y (Y.field_box kf51_0 rfl rfl) rfl rfl rfl ?_
    refine TO.y (Y.load_box (v := .int .i64 s.Size) 0 kk3 rfl rfl rfl) rfl rfl rfl ?_
    refine TO.bind fun R4 H5 => ?_
    refine TO.ef (Ef.call (rest := [.box B1 51 [.int .i64 s.Size, V_s1]]) [0] (impl_inRange_con s.Size (0 : Int) (1000 : Int)  R4 H5) kc63 rfl rfl trivial) rfl rfl rfl (fun _ => ?_)
    refine TO.y (Y.not rfl) rfl rfl rfl ?_
    refine TO.y (Y.move rfl) rfl rfl rfl ?_
    refine TO.ite (b := !R4) (fun H7 => ?_) (fun H7 => ?_)
    · refine TO.off (Gd.at 4 false 9 (!R4) rfl rfl rfl (beq_tf H7)) rfl rfl ?_
      refine TO.off (Gd.at 4 false 9 (!R4) rfl rfl rfl (beq_tf H7)) rfl rfl ?_
      refine TO.off (Gd.at 4 false 9 (!R4) rfl rfl rfl (beq_tf H7)) rfl rfl ?_
      refine TO.off (Gd.at 4 false 9 (!R4) rfl rfl rfl (beq_tf H7)) rfl rfl ?_
      refine TO.y (Y.pick_t H7 rfl rfl) rfl rfl rfl ?_
      refine TO.nil ?_
      exact TE.jb_go () [0] ⟨rfl, rfl, trivial⟩ rfl
    · refine TO.y (Y.field_box kf51_1 rfl rfl) (Gd.at 4 false 9 (!R4) rfl rfl rfl (beq_ff H7)) rfl rfl ?_
      refine TO.y (Y.load_box (v := V_s1) 0 kk49 rfl rfl rfl) (Gd.at 4 false 9 (!R4) rfl rfl rfl (beq_ff H7)) rfl rfl ?_
      refine TO.y (Y.len (l := s.List) ke49 (Base.can HB_V_s1) rfl) (Gd.at 4 false 9 (!R4) rfl rfl rfl (beq_ff H7)) rfl rfl ?_
      refine TO.y (Y.gtr rfl rfl) (Gd.at 4 false 9 (!R4) rfl rfl rfl (beq_ff H7)) rfl rfl ?_
      refine TO.y (Y.pick_f H7 rfl rfl) rfl rfl rfl ?_
      refine TO.nil ?_
      exact TE.jb_go () [0] ⟨rfl, rfl, trivial⟩ rfl
  · refine TE.next ?_
    refine TW.cond rfl (fun H8 => ?_) (fun H8 => ?_)
    · refine TW.seq ?_
      refine TW.region ?_
      refine TO.y (Y.assign rfl) rfl rfl rfl ?_
      refine TO.nil ?_
      refine TE.next ?_
      refine TW.ret ?_
      refine TE.then_ret ?_
      exact TE.leaf fun _ _ hf_ hs_ => ret_any (rs := [.tmp 2]) (vs := [.bool false]) (.inl rfl) rfl ⟨rfl, trivial⟩ hf_ hs_ ⟨(), rfl, hs_.pulls [] rfl⟩
    · refine TW.skip ?_
      refine TE.next ?_
      refine TW.seq ?_
      refine TW.seq ?_
      refine TW.region ?_
      refine TO.y (Y.field_box kf51_1 rfl rfl) rfl rfl rfl ?_
      refine TO.y (Y.load_box (v := V_s1) 0 kk49 rfl rfl rfl) rfl rfl rfl ?_
      refine TO.y (Y.len (l := s.List) ke49 (Base.can HB_V_s1) rfl) rfl rfl rfl ?_
      refine TO.y (Y.move rfl) rfl rfl rfl ?_
      refine TO.nil ?_
      refine TE.next ?_
      refine TW.joinX (τ := Unit) (X := Unit) (fun _ _ => [(1, .pointer (some ⟨B1, 0, none⟩))]) (fun _ _ => [.box B1 51 [.int .i64 s.Size, V_s1]]) ?_ (fun T11 X12 => ?_)
      · refine TW.block ?_
        refine TW.loopX (σ := Int) (X := Unit) (fun T _ => [(1, .pointer (some ⟨B1, 0, none⟩)), (16, V_s1), (17, .int .i64 ((s.List.length : Nat) : Int)), (18, .int .i64 T)]) (fun _ _ => [.box B1 51 [.int .i64 s.Size, V_s1]]) () [0] ⟨rfl, rfl, rfl, rfl, trivial⟩ rfl (fun S9 X10 => ?_)
        refine TW.seq ?_
        refine TW.region ?_
        refine TO.y (Y.lss rfl rfl) rfl rfl rfl ?_
        refine TO.nil ?_
        refine TE.next ?_
        refine TW.seq ?_
        refine TW.cond rfl (fun H13 => ?_) (fun H13 => ?_)
        · refine TW.skip ?_
          refine TE.next ?_
          refine TW.seq ?_
          refine TW.block ?_
          refine TW.seq ?_
          refine TW.region ?_
          refine TO.y (Y.move rfl) rfl rfl rfl ?_
          refine TO.bind fun E14 H15 => ?_
          refine TO.y (Y.index ke49 (Base.can HB_V_s1) H15 rfl rfl) rfl rfl rfl ?_
          refine TO.y (Y.load_el (us := [.int .i64 E14.Tenant, .int .i64 E14.Quota]) (u := .agg #[.int .i64 E14.Tenant, .int .i64 E14.Quota]) kk59 rfl (Base.can HB_V_s1) (idx_get H15).2.2 rfl rfl rfl rfl rfl) rfl rfl rfl ?_
          refine TO.ef (Ef.alloc kz59 rfl) rfl rfl rfl (fun B16 => ?_)
          refine TO.y (Y.assign rfl) rfl rfl rfl ?_
          refine TO.ef0 (Ef.store_box (us := [.int .i64 E14.Tenant, .int .i64 E14.Quota]) (vs' := [.int .i64 E14.Tenant, .int .i64 E14.Quota]) (is' := [.box B16 59 [.int .i64 E14.Tenant, .int .i64 E14.Quota], .box B1 51 [.int .i64 s.Size, V_s1]]) 0 kk59 rfl rfl rfl (Cel.plain rfl rfl) rfl rfl rfl rfl) rfl rfl (fun _ => ?_)
          refine TO.nil ?_
          refine TE.next ?_
          refine TW.seq ?_
          refine TW.joinBX (τ := Bool) (X := Unit) (fun T _ => [(1, .pointer (some ⟨B1, 0, none⟩)), (16, V_s1), (17, .int .i64 ((s.List.length : Nat) : Int)), (18, .int .i64 S9), (48, .bool T)]) (fun _ _ => [.box B1 51 [.int .i64 s.Size, V_s1]]) ?_ (fun T17 X18 => ?_)
          · refine TW.draw (isH := [.box B16 59 [.int .i64 E14.Tenant, .int .i64 E14.Quota], .box B1 51 [.int .i64 s.Size, V_s1]]) hMix ?_
            refine TA.y (listed' := #[true, false, false, false, false, false, false, false, false, false, false, false, false, false, false, false, false, false, false, false, false, false, false, false, false, false]) 0 [0, 0] rfl (Y.field_box kf59_0 rfl rfl) rfl rfl rfl (by kernel_rfl) (by kernel_rfl) (by kernel_rfl) rfl rfl ?_
            refine TA.y (listed' := #[true, true, false, false, false, false, false, false, false, false, false, false, false, false, false, false, false, false, false, false, false, false, false, false, false, false]) 1 [0, 0] rfl (Y.load_box (v := .int .i64 E14.Tenant) 0 kk3 rfl rfl rfl) rfl rfl rfl (by kernel_rfl) (by kernel_rfl) (by kernel_rfl) rfl rfl ?_
            refine TA.bind fun R19 H20 => ?_
            refine TA.one 2 (by kernel_rfl) ?_
            refine TX.ef (listed' := #[true, true, true, false, false, false, false, false, false, false, false, false, false, false, false, false, false, false, false, false, false, false, false, false, false, false]) [0, 0] rfl (Ef.call (rest := [.box B16 59 [.int .i64 E14.Tenant, .int .i64 E14.Quota], .box B1 51 [.int .i64 s.Size, V_s1]]) [0, 0] (impl_isTenant_con E14.Tenant  R19 H20) kc81 rfl rfl trivial) rfl rfl rfl rfl (fun _ => rfl) (fun _ => ?_)
            refine TA.y (listed' := #[true, true, true, true, false, false, false, false, false, false, false, false, false, false, false, false, false, false, false, false, false, false, false, false, false, false]) 3 [0, 0] rfl (Y.not rfl) rfl rfl rfl (by kernel_rfl) (by kernel_rfl) (by kernel_rfl) rfl rfl ?_
            refine TA.y (listed' := #[true, true, true, true, true, false, false, false, false, false, false, false, false, false, false, false, false, false, false, false, false, false, false, false, false, false]) 4 [0, 0] rfl (Y.move rfl) rfl rfl rfl (by kernel_rfl) (by kernel_rfl) (by kernel_rfl) rfl rfl ?_
            refine TA.ite (b := !R19) (fun H22 => ?_) (fun H22 => ?_)
            · refine TA.off (listed' := #[true, true, true, true, true, true, false, false, false, false, false, false, false, false, false, false, false, false, false, false, false, false, false, false, false, false]) 5 [0, 0] rfl (Gd.at 4 false 27 (!R19) rfl rfl rfl (beq_tf H22)) rfl rfl (by kernel_rfl) (by kernel_rfl) (by kernel_rfl) rfl rfl ?_
              refine TA.off (listed' := #[true, true, true, true, true, true, true, false, false, false, false, false, false, false, false, false, false, false, false, false, false, false, false, false, false, false]) 6 [0, 0] rfl (Gd.at 4 false 27 (!R19) rfl rfl rfl (beq_tf H22)) rfl rfl (by kernel_rfl) (by kernel_rfl) (by kernel_rfl) rfl rfl ?_
              refine TA.off (listed' := #[true, true, true, true, true, true, true, true, false, false, false, false, false, false, false, false, false, false, false, false, false, false, false, false, false, false]) 7 [0, 0] rfl (Gd.at 4 false 27 (!R19) rfl rfl rfl (beq_tf H22)) rfl rfl (by kernel_rfl) (by kernel_rfl) (by kernel_rfl) rfl rfl ?_
              refine TA.off (listed' := #[true, true, true, true, true, true, true, true, true, false, false, false, false, false, false, false, false, false, false, false, false, false, false, false, false, false]) 8 [0, 0] rfl (Gd.at 4 false 27 (!R19) rfl rfl rfl (beq_tf H22)) rfl rfl (by kernel_rfl) (by kernel_rfl) (by kernel_rfl) rfl rfl ?_
              refine TA.y (listed' := #[true, true, true, true, true, true, true, true, true, true, false, false, false, false, false, false, false, false, false, false, false, false, false, false, false, false]) 9 [0, 0] rfl (Y.pick_t H22 rfl rfl) rfl rfl rfl (by kernel_rfl) (by kernel_rfl) (by kernel_rfl) rfl rfl ?_
              refine TA.y (listed' := #[true, true, true, true, true, true, true, true, true, true, true, false, false, false, false, false, false, false, false, false, false, false, false, false, false, false]) 10 [0, 0] rfl (Y.move rfl) rfl rfl rfl (by kernel_rfl) (by kernel_rfl) (by kernel_rfl) rfl rfl ?_
              refine TA.off (listed' := #[true, true, true, true, true, true, true, true, true, true, true, true, false, false, false, false, false, false, false, false, false, false, false, false, false, false]) 11 [0, 0] rfl (Gd.at 10 false 33 true rfl rfl rfl rfl) rfl rfl (by kernel_rfl) (by kernel_rfl) (by kernel_rfl) rfl rfl ?_
              refine TA.off (listed' := #[true, true, true, true, true, true, true, true, true, true, true, true, true, false, false, false, false, false, false, false, false, false, false, false, false, false]) 12 [0, 0] rfl (Gd.at 10 false 33 true rfl rfl rfl rfl) rfl rfl (by kernel_rfl) (by kernel_rfl) (by kernel_rfl) rfl rfl ?_
              refine TA.off (listed' := #[true, true, true, true, true, true, true, true, true, true, true, true, true, true, false, false, false, false, false, false, false, false, false, false, false, false]) 13 [0, 0] rfl (Gd.at 10 false 33 true rfl rfl rfl rfl) rfl rfl (by kernel_rfl) (by kernel_rfl) (by kernel_rfl) rfl rfl ?_
              refine TA.off (listed' := #[true, true, true, true, true, true, true, true, true, true, true, true, true, true, true, false, false, false, false, false, false, false, false, false, false, false]) 14 [0, 0] rfl (Gd.un 13 true 36 rfl rfl rfl) rfl rfl (by kernel_rfl) (by kernel_rfl) (by kernel_rfl) rfl rfl ?_
              refine TA.off (listed' := #[true, true, true, true, true, true, true, true, true, true, true, true, true, true, true, true, false, false, false, false, false, false, false, false, false, false]) 15 [0, 0] rfl (Gd.un 13 true 36 rfl rfl rfl) rfl rfl (by kernel_rfl) (by kernel_rfl) (by kernel_rfl) rfl rfl ?_
              refine TA.off (listed' := #[true, true, true, true, true, true, true, true, true, true, true, true, true, true, true, true, true, false, false, false, false, false, false, false, false, false]) 16 [0, 0] rfl (Gd.un 13 true 36 rfl rfl rfl) rfl rfl (by kernel_rfl) (by kernel_rfl) (by kernel_rfl) rfl rfl ?_
              refine TA.off (listed' := #[true, true, true, true, true, true, true, true, true, true, true, true, true, true, true, true, true, true, false, false, false, false, false, false, false, false]) 17 [0, 0] rfl (Gd.un 13 true 36 rfl rfl rfl) rfl rfl (by kernel_rfl) (by kernel_rfl) (by kernel_rfl) rfl rfl ?_
              refine TA.off (listed' := #[true, true, true, true, true, true, true, true, true, true, true, true, true, true, true, true, true, true, true, false, false, false, false, false, false, false]) 18 [0, 0] rfl (Gd.un 13 true 36 rfl rfl rfl) rfl rfl (by kernel_rfl) (by kernel_rfl) (by kernel_rfl) rfl rfl ?_
              refine TA.off (listed' := #[true, true, true, true, true, true, true, true, true, true, true, true, true, true, true, true, true, true, true, true, false, false, false, false, false, false]) 19 [0, 0] rfl (Gd.un 13 true 36 rfl rfl rfl) rfl rfl (by kernel_rfl) (by kernel_rfl) (by kernel_rfl) rfl rfl ?_
              refine TA.off (listed' := #[true, true, true, true, true, true, true, true, true, true, true, true, true, true, true, true, true, true, true, true, true, false, false, false, false, false]) 20 [0, 0] rfl (Gd.un 13 true 36 rfl rfl rfl) rfl rfl (by kernel_rfl) (by kernel_rfl) (by kernel_rfl) rfl rfl ?_
              refine TA.off (listed' := #[true, true, true, true, true, true, true, true, true, true, true, true, true, true, true, true, true, true, true, true, true, true, false, false, false, false]) 21 [0, 0] rfl (Gd.un 13 true 36 rfl rfl rfl) rfl rfl (by kernel_rfl) (by kernel_rfl) (by kernel_rfl) rfl rfl ?_
              refine TA.off (listed' := #[true, true, true, true, true, true, true, true, true, true, true, true, true, true, true, true, true, true, true, true, true, true, true, false, false, false]) 22 [0, 0] rfl (Gd.un 13 true 36 rfl rfl rfl) rfl rfl (by kernel_rfl) (by kernel_rfl) (by kernel_rfl) rfl rfl ?_
              refine TA.off (listed' := #[true, true, true, true, true, true, true, true, true, true, true, true, true, true, true, true, true, true, true, true, true, true, true, true, false, false]) 23 [0, 0] rfl (Gd.un 13 true 36 rfl rfl rfl) rfl rfl (by kernel_rfl) (by kernel_rfl) (by kernel_rfl) rfl rfl ?_
              refine TA.off (listed' := #[true, true, true, true, true, true, true, true, true, true, true, true, true, true, true, true, true, true, true, true, true, true, true, true, true, false]) 24 [0, 0] rfl (Gd.at 10 false 33 true rfl rfl rfl rfl) rfl rfl (by kernel_rfl) (by kernel_rfl) (by kernel_rfl) rfl rfl ?_
              refine TA.y (listed' := #[true, true, true, true, true, true, true, true, true, true, true, true, true, true, true, true, true, true, true, true, true, true, true, true, true, true]) 25 [0, 0] rfl (Y.pick_t rfl rfl rfl) rfl rfl rfl (by kernel_rfl) (by kernel_rfl) (by kernel_rfl) rfl rfl ?_
              refine TA.nil (by kernel_rfl) ?_
              exact TE.jb_go () [1] ⟨rfl, rfl, rfl, rfl, rfl, trivial⟩ rfl
            · refine TA.y (listed' := #[true, true, true, true, true, true, false, false, false, false, false, false, false, false, false, false, false, false, false, false, false, false, false, false, false, false]) 5 [0, 0] rfl (Y.field_box kf59_1 rfl rfl) (Gd.at 4 false 27 (!R19) rfl rfl rfl (beq_ff H22)) rfl rfl (by kernel_rfl) (by kernel_rfl) (by kernel_rfl) rfl rfl ?_
              refine TA.y (listed' := #[true, true, true, true, true, true, true, false, false, false, false, false, false, false, false, false, false, false, false, false, false, false, false, false, false, false]) 6 [0, 0] rfl (Y.load_box (v := .int .i64 E14.Quota) 0 kk3 rfl rfl rfl) (Gd.at 4 false 27 (!R19) rfl rfl rfl (beq_ff H22)) rfl rfl (by kernel_rfl) (by kernel_rfl) (by kernel_rfl) rfl rfl ?_
              refine TA.bind fun R23 H24 => ?_
              refine TA.one 7 (by kernel_rfl) ?_
              refine TX.ef (listed' := #[true, true, true, true, true, true, true, true, false, false, false, false, false, false, false, false, false, false, false, false, false, false, false, false, false, false]) [0, 0] rfl (Ef.call (rest := [.box B16 59 [.int .i64 E14.Tenant, .int .i64 E14.Quota], .box B1 51 [.int .i64 s.Size, V_s1]]) [0, 0] (impl_inRange_con E14.Quota (0 : Int) (1000 : Int)  R23 H24) kc63 rfl rfl trivial) (Gd.at 4 false 27 (!R19) rfl rfl rfl (beq_ff H22)) rfl rfl rfl (fun _ => rfl) (fun _ => ?_)
              refine TA.y (listed' := #[true, true, true, true, true, true, true, true, true, false, false, false, false, false, false, false, false, false, false, false, false, false, false, false, false, false]) 8 [0, 0] rfl (Y.not rfl) (Gd.at 4 false 27 (!R19) rfl rfl rfl (beq_ff H22)) rfl rfl (by kernel_rfl) (by kernel_rfl) (by kernel_rfl) rfl rfl ?_
              refine TA.y (listed' := #[true, true, true, true, true, true, true, true, true, true, false, false, false, false, false, false, false, false, false, false, false, false, false, false, false, false]) 9 [0, 0] rfl (Y.pick_f H22 rfl rfl) rfl rfl rfl (by kernel_rfl) (by kernel_rfl) (by kernel_rfl) rfl rfl ?_
              refine TA.y (listed' := #[true, true, true, true, true, true, true, true, true, true, true, false, false, false, false, false, false, false, false, false, false, false, false, false, false, false]) 10 [0, 0] rfl (Y.move rfl) rfl rfl rfl (by kernel_rfl) (by kernel_rfl) (by kernel_rfl) rfl rfl ?_
              refine TA.ite (b := !R23) (fun H26 => ?_) (fun H26 => ?_)
              · refine TA.off (listed' := #[true, true, true, true, true, true, true, true, true, true, true, true, false, false, false, false, false, false, false, false, false, false, false, false, false, false]) 11 [0, 0] rfl (Gd.at 10 false 33 (!R23) rfl rfl rfl (beq_tf H26)) rfl rfl (by kernel_rfl) (by kernel_rfl) (by kernel_rfl) rfl rfl ?_
                refine TA.off (listed' := #[true, true, true, true, true, true, true, true, true, true, true, true, true, false, false, false, false, false, false, false, false, false, false, false, false, false]) 12 [0, 0] rfl (Gd.at 10 false 33 (!R23) rfl rfl rfl (beq_tf H26)) rfl rfl (by kernel_rfl) (by kernel_rfl) (by kernel_rfl) rfl rfl ?_
                refine TA.off (listed' := #[true, true, true, true, true, true, true, true, true, true, true, true, true, true, false, false, false, false, false, false, false, false, false, false, false, false]) 13 [0, 0] rfl (Gd.at 10 false 33 (!R23) rfl rfl rfl (beq_tf H26)) rfl rfl (by kernel_rfl) (by kernel_rfl) (by kernel_rfl) rfl rfl ?_
                refine TA.off (listed' := #[true, true, true, true, true, true, true, true, true, true, true, true, true, true, true, false, false, false, false, false, false, false, false, false, false, false]) 14 [0, 0] rfl (Gd.un 13 true 36 rfl rfl rfl) rfl rfl (by kernel_rfl) (by kernel_rfl) (by kernel_rfl) rfl rfl ?_
                refine TA.off (listed' := #[true, true, true, true, true, true, true, true, true, true, true, true, true, true, true, true, false, false, false, false, false, false, false, false, false, false]) 15 [0, 0] rfl (Gd.un 13 true 36 rfl rfl rfl) rfl rfl (by kernel_rfl) (by kernel_rfl) (by kernel_rfl) rfl rfl ?_
                refine TA.off (listed' := #[true, true, true, true, true, true, true, true, true, true, true, true, true, true, true, true, true, false, false, false, false, false, false, false, false, false]) 16 [0, 0] rfl (Gd.un 13 true 36 rfl rfl rfl) rfl rfl (by kernel_rfl) (by kernel_rfl) (by kernel_rfl) rfl rfl ?_
                refine TA.off (listed' := #[true, true, true, true, true, true, true, true, true, true, true, true, true, true, true, true, true, true, false, false, false, false, false, false, false, false]) 17 [0, 0] rfl (Gd.un 13 true 36 rfl rfl rfl) rfl rfl (by kernel_rfl) (by kernel_rfl) (by kernel_rfl) rfl rfl ?_
                refine TA.off (listed' := #[true, true, true, true, true, true, true, true, true, true, true, true, true, true, true, true, true, true, true, false, false, false, false, false, false, false]) 18 [0, 0] rfl (Gd.un 13 true 36 rfl rfl rfl) rfl rfl (by kernel_rfl) (by kernel_rfl) (by kernel_rfl) rfl rfl ?_
                refine TA.off (listed' := #[true, true, true, true, true, true, true, true, true, true, true, true, true, true, true, true, true, true, true, true, false, false, false, false, false, false]) 19 [0, 0] rfl (Gd.un 13 true 36 rfl rfl rfl) rfl rfl (by kernel_rfl) (by kernel_rfl) (by kernel_rfl) rfl rfl ?_
                refine TA.off (listed' := #[true, true, true, true, true, true, true, true, true, true, true, true, true, true, true, true, true, true, true, true, true, false, false, false, false, false]) 20 [0, 0] rfl (Gd.un 13 true 36 rfl rfl rfl) rfl rfl (by kernel_rfl) (by kernel_rfl) (by kernel_rfl) rfl rfl ?_
                refine TA.off (listed' := #[true, true, true, true, true, true, true, true, true, true, true, true, true, true, true, true, true, true, true, true, true, true, false, false, false, false]) 21 [0, 0] rfl (Gd.un 13 true 36 rfl rfl rfl) rfl rfl (by kernel_rfl) (by kernel_rfl) (by kernel_rfl) rfl rfl ?_
                refine TA.off (listed' := #[true, true, true, true, true, true, true, true, true, true, true, true, true, true, true, true, true, true, true, true, true, true, true, false, false, false]) 22 [0, 0] rfl (Gd.un 13 true 36 rfl rfl rfl) rfl rfl (by kernel_rfl) (by kernel_rfl) (by kernel_rfl) rfl rfl ?_
                refine TA.off (listed' := #[true, true, true, true, true, true, true, true, true, true, true, true, true, true, true, true, true, true, true, true, true, true, true, true, false, false]) 23 [0, 0] rfl (Gd.un 13 true 36 rfl rfl rfl) rfl rfl (by kernel_rfl) (by kernel_rfl) (by kernel_rfl) rfl rfl ?_
                refine TA.off (listed' := #[true, true, true, true, true, true, true, true, true, true, true, true, true, true, true, true, true, true, true, true, true, true, true, true, true, false]) 24 [0, 0] rfl (Gd.at 10 false 33 (!R23) rfl rfl rfl (beq_tf H26)) rfl rfl (by kernel_rfl) (by kernel_rfl) (by kernel_rfl) rfl rfl ?_
                refine TA.y (listed' := #[true, true, true, true, true, true, true, true, true, true, true, true, true, true, true, true, true, true, true, true, true, true, true, true, true, true]) 25 [0, 0] rfl (Y.pick_t H26 rfl rfl) rfl rfl rfl (by kernel_rfl) (by kernel_rfl) (by kernel_rfl) rfl rfl ?_
                refine TA.nil (by kernel_rfl) ?_
                exact TE.jb_go () [1] ⟨rfl, rfl, rfl, rfl, rfl, trivial⟩ rfl
              · refine TA.y (listed' := #[true, true, true, true, true, true, true, true, true, true, true, true, false, false, false, false, false, false, false, false, false, false, false, false, false, false]) 11 [0, 0] rfl (Y.move rfl) (Gd.at 10 false 33 (!R23) rfl rfl rfl (beq_ff H26)) rfl rfl (by kernel_rfl) (by kernel_rfl) (by kernel_rfl) rfl rfl ?_
                refine TA.y (listed' := #[true, true, true, true, true, true, true, true, true, true, true, true, true, false, false, false, false, false, false, false, false, false, false, false, false, false]) 12 [0, 0] rfl (Y.gtr rfl rfl) (Gd.at 10 false 33 (!R23) rfl rfl rfl (beq_ff H26)) rfl rfl (by kernel_rfl) (by kernel_rfl) (by kernel_rfl) rfl rfl ?_
                refine TA.y (listed' := #[true, true, true, true, true, true, true, true, true, true, true, true, true, true, false, false, false, false, false, false, false, false, false, false, false, false]) 13 [0, 0] rfl (Y.move rfl) (Gd.at 10 false 33 (!R23) rfl rfl rfl (beq_ff H26)) rfl rfl (by kernel_rfl) (by kernel_rfl) (by kernel_rfl) rfl rfl ?_
                refine TA.ite (b := decide (S9 > (0 : Int))) (fun H27 => ?_) (fun H27 => ?_)
                · refine TA.y (listed' := #[true, true, true, true, true, true, true, true, true, true, true, true, true, true, true, false, false, false, false, false, false, false, false, false, false, false]) 14 [0, 0] rfl (Y.field_box kf59_0 rfl rfl) (Gd.at 13 true 36 (decide (S9 > (0 : Int))) rfl rfl rfl (beq_tt H27)) rfl rfl (by kernel_rfl) (by kernel_rfl) (by kernel_rfl) rfl rfl ?_
                  refine TA.y (listed' := #[true, true, true, true, true, true, true, true, true, true, true, true, true, true, true, true, false, false, false, false, false, false, false, false, false, false]) 15 [0, 0] rfl (Y.load_box (v := .int .i64 E14.Tenant) 0 kk3 rfl rfl rfl) (Gd.at 13 true 36 (decide (S9 > (0 : Int))) rfl rfl rfl (beq_tt H27)) rfl rfl (by kernel_rfl) (by kernel_rfl) (by kernel_rfl) rfl rfl ?_
                  refine TA.y (listed' := #[true, true, true, true, true, true, true, true, true, true, true, true, true, true, true, true, true, false, false, false, false, false, false, false, false, false]) 16 [0, 0] rfl (Y.field_box kf51_1 rfl rfl) (Gd.at 13 true 36 (decide (S9 > (0 : Int))) rfl rfl rfl (beq_tt H27)) rfl rfl (by kernel_rfl) (by kernel_rfl) (by kernel_rfl) rfl rfl ?_
                  refine TA.y (listed' := #[true, true, true, true, true, true, true, true, true, true, true, true, true, true, true, true, true, true, false, false, false, false, false, false, false, false]) 17 [0, 0] rfl (Y.load_box (v := V_s1) 1 kk49 rfl rfl rfl) (Gd.at 13 true 36 (decide (S9 > (0 : Int))) rfl rfl rfl (beq_tt H27)) rfl rfl (by kernel_rfl) (by kernel_rfl) (by kernel_rfl) rfl rfl ?_
                  refine TA.y (listed' := #[true, true, true, true, true, true, true, true, true, true, true, true, true, true, true, true, true, true, true, false, false, false, false, false, false, false]) 18 [0, 0] rfl (Y.move rfl) (Gd.at 13 true 36 (decide (S9 > (0 : Int))) rfl rfl rfl (beq_tt H27)) rfl rfl (by kernel_rfl) (by kernel_rfl) (by kernel_rfl) rfl rfl ?_
                  refine TA.y (listed' := #[true, true, true, true, true, true, true, true, true, true, true, true, true, true, true, true, true, true, true, true, false, false, false, false, false, false]) 19 [0, 0] rfl (Y.sub rfl rfl) (Gd.at 13 true 36 (decide (S9 > (0 : Int))) rfl rfl rfl (beq_tt H27)) rfl rfl (by kernel_rfl) (by kernel_rfl) (by kernel_rfl) rfl rfl ?_
                  refine TA.bind fun E28 H29 => ?_
                  refine TA.y (listed' := #[true, true, true, true, true, true, true, true, true, true, true, true, true, true, true, true, true, true, true, true, true, false, false, false, false, false]) 20 [0, 0] rfl (Y.index ke49 (Base.can HB_V_s1) H29 rfl rfl) (Gd.at 13 true 36 (decide (S9 > (0 : Int))) rfl rfl rfl (beq_tt H27)) rfl rfl (by kernel_rfl) (by kernel_rfl) (by kernel_rfl) rfl rfl ?_
                  refine TA.y (listed' := #[true, true, true, true, true, true, true, true, true, true, true, true, true, true, true, true, true, true, true, true, true, true, false, false, false, false]) 21 [0, 0] rfl (Y.field_el kf59_0 (Base.can HB_V_s1) (idx_get H29).2.2 rfl rfl) (Gd.at 13 true 36 (decide (S9 > (0 : Int))) rfl rfl rfl (beq_tt H27)) rfl rfl (by kernel_rfl) (by kernel_rfl) (by kernel_rfl) rfl rfl ?_
                  refine TA.y (listed' := #[true, true, true, true, true, true, true, true, true, true, true, true, true, true, true, true, true, true, true, true, true, true, true, false, false, false]) 22 [0, 0] rfl (Y.load_el (us := [.int .i64 E28.Tenant]) (u := .int .i64 E28.Tenant) kk3 rfl (Base.can HB_V_s1) (idx_get H29).2.2 rfl rfl rfl rfl rfl) (Gd.at 13 true 36 (decide (S9 > (0 : Int))) rfl rfl rfl (beq_tt H27)) rfl rfl (by kernel_rfl) (by kernel_rfl) (by kernel_rfl) rfl rfl ?_
                  refine TA.y (listed' := #[true, true, true, true, true, true, true, true, true, true, true, true, true, true, true, true, true, true, true, true, true, true, true, true, false, false]) 23 [0, 0] rfl (Y.leq rfl rfl) (Gd.at 13 true 36 (decide (S9 > (0 : Int))) rfl rfl rfl (beq_tt H27)) rfl rfl (by kernel_rfl) (by kernel_rfl) (by kernel_rfl) rfl rfl ?_
                  refine TA.y (listed' := #[true, true, true, true, true, true, true, true, true, true, true, true, true, true, true, true, true, true, true, true, true, true, true, true, true, false]) 24 [0, 0] rfl (Y.pick_t H27 rfl rfl) (Gd.at 10 false 33 (!R23) rfl rfl rfl (beq_ff H26)) rfl rfl (by kernel_rfl) (by kernel_rfl) (by kernel_rfl) rfl rfl ?_
                  refine TA.y (listed' := #[true, true, true, true, true, true, true, true, true, true, true, true, true, true, true, true, true, true, true, true, true, true, true, true, true, true]) 25 [0, 0] rfl (Y.pick_f H26 rfl rfl) rfl rfl rfl (by kernel_rfl) (by kernel_rfl) (by kernel_rfl) rfl rfl ?_
                  refine TA.nil (by kernel_rfl) ?_
                  exact TE.jb_go () [1] ⟨rfl, rfl, rfl, rfl, rfl, trivial⟩ rfl
                · refine TA.off (listed' := #[true, true, true, true, true, true, true, true, true, true, true, true, true, true, true, false, false, false, false, false, false, false, false, false, false, false]) 14 [0, 0] rfl (Gd.at 13 true 36 (decide (S9 > (0 : Int))) rfl rfl rfl (beq_ft H27)) rfl rfl (by kernel_rfl) (by kernel_rfl) (by kernel_rfl) rfl rfl ?_
                  refine TA.off (listed' := #[true, true, true, true, true, true, true, true, true, true, true, true, true, true, true, true, false, false, false, false, false, false, false, false, false, false]) 15 [0, 0] rfl (Gd.at 13 true 36 (decide (S9 > (0 : Int))) rfl rfl rfl (beq_ft H27)) rfl rfl (by kernel_rfl) (by kernel_rfl) (by kernel_rfl) rfl rfl ?_
                  refine TA.off (listed' := #[true, true, true, true, true, true, true, true, true, true, true, true, true, true, true, true, true, false, false, false, false, false, false, false, false, false]) 16 [0, 0] rfl (Gd.at 13 true 36 (decide (S9 > (0 : Int))) rfl rfl rfl (beq_ft H27)) rfl rfl (by kernel_rfl) (by kernel_rfl) (by kernel_rfl) rfl rfl ?_
                  refine TA.off (listed' := #[true, true, true, true, true, true, true, true, true, true, true, true, true, true, true, true, true, true, false, false, false, false, false, false, false, false]) 17 [0, 0] rfl (Gd.at 13 true 36 (decide (S9 > (0 : Int))) rfl rfl rfl (beq_ft H27)) rfl rfl (by kernel_rfl) (by kernel_rfl) (by kernel_rfl) rfl rfl ?_
                  refine TA.off (listed' := #[true, true, true, true, true, true, true, true, true, true, true, true, true, true, true, true, true, true, true, false, false, false, false, false, false, false]) 18 [0, 0] rfl (Gd.at 13 true 36 (decide (S9 > (0 : Int))) rfl rfl rfl (beq_ft H27)) rfl rfl (by kernel_rfl) (by kernel_rfl) (by kernel_rfl) rfl rfl ?_
                  refine TA.off (listed' := #[true, true, true, true, true, true, true, true, true, true, true, true, true, true, true, true, true, true, true, true, false, false, false, false, false, false]) 19 [0, 0] rfl (Gd.at 13 true 36 (decide (S9 > (0 : Int))) rfl rfl rfl (beq_ft H27)) rfl rfl (by kernel_rfl) (by kernel_rfl) (by kernel_rfl) rfl rfl ?_
                  refine TA.off (listed' := #[true, true, true, true, true, true, true, true, true, true, true, true, true, true, true, true, true, true, true, true, true, false, false, false, false, false]) 20 [0, 0] rfl (Gd.at 13 true 36 (decide (S9 > (0 : Int))) rfl rfl rfl (beq_ft H27)) rfl rfl (by kernel_rfl) (by kernel_rfl) (by kernel_rfl) rfl rfl ?_
                  refine TA.off (listed' := #[true, true, true, true, true, true, true, true, true, true, true, true, true, true, true, true, true, true, true, true, true, true, false, false, false, false]) 21 [0, 0] rfl (Gd.at 13 true 36 (decide (S9 > (0 : Int))) rfl rfl rfl (beq_ft H27)) rfl rfl (by kernel_rfl) (by kernel_rfl) (by kernel_rfl) rfl rfl ?_
                  refine TA.off (listed' := #[true, true, true, true, true, true, true, true, true, true, true, true, true, true, true, true, true, true, true, true, true, true, true, false, false, false]) 22 [0, 0] rfl (Gd.at 13 true 36 (decide (S9 > (0 : Int))) rfl rfl rfl (beq_ft H27)) rfl rfl (by kernel_rfl) (by kernel_rfl) (by kernel_rfl) rfl rfl ?_
                  refine TA.off (listed' := #[true, true, true, true, true, true, true, true, true, true, true, true, true, true, true, true, true, true, true, true, true, true, true, true, false, false]) 23 [0, 0] rfl (Gd.at 13 true 36 (decide (S9 > (0 : Int))) rfl rfl rfl (beq_ft H27)) rfl rfl (by kernel_rfl) (by kernel_rfl) (by kernel_rfl) rfl rfl ?_
                  refine TA.y (listed' := #[true, true, true, true, true, true, true, true, true, true, true, true, true, true, true, true, true, true, true, true, true, true, true, true, true, false]) 24 [0, 0] rfl (Y.pick_f H27 rfl rfl) (Gd.at 10 false 33 (!R23) rfl rfl rfl (beq_ff H26)) rfl rfl (by kernel_rfl) (by kernel_rfl) (by kernel_rfl) rfl rfl ?_
                  refine TA.y (listed' := #[true, true, true, true, true, true, true, true, true, true, true, true, true, true, true, true, true, true, true, true, true, true, true, true, true, true]) 25 [0, 0] rfl (Y.pick_f H26 rfl rfl) rfl rfl rfl (by kernel_rfl) (by kernel_rfl) (by kernel_rfl) rfl rfl ?_
                  refine TA.nil (by kernel_rfl) ?_
                  exact TE.jb_go () [1] ⟨rfl, rfl, rfl, rfl, rfl, trivial⟩ rfl
          · refine TE.next ?_
            refine TW.cond rfl (fun H30 => ?_) (fun H30 => ?_)
            · refine TW.seq ?_
              refine TW.region ?_
              refine TO.y (Y.assign rfl) rfl rfl rfl ?_
              refine TO.nil ?_
              refine TE.next ?_
              refine TW.ret ?_
              refine TE.block_ret ?_
              refine TE.then_ret ?_
              refine TE.lp_ret ?_
              refine TE.block_ret ?_
              refine TE.jn_done ?_
              refine TE.then_ret ?_
              exact TE.leaf fun _ _ hf_ hs_ => ret_any (rs := [.tmp 2]) (vs := [.bool false]) (.inl rfl) rfl ⟨rfl, trivial⟩ hf_ hs_ ⟨(), rfl, hs_.pulls [] rfl⟩
            · refine TW.skip ?_
              refine TE.block_normal ?_
              refine TE.next ?_
              refine TW.region ?_
              refine TO.y (Y.add rfl rfl) rfl rfl rfl ?_
              refine TO.y (Y.move rfl) rfl rfl rfl ?_
              refine TO.nil ?_
              exact TE.lp_go () [0] ⟨rfl, rfl, rfl, rfl, trivial⟩ rfl
        · refine TW.exit ?_
          refine TE.then_exit ?_
          refine TE.lp_exit ?_
          refine TE.block_exit ?_
          exact TE.jn_go () [0] ⟨rfl, trivial⟩ rfl
      · refine TE.next ?_
        refine TW.seq ?_
        refine TW.joinBX (τ := Bool) (X := Unit) (fun T _ => [(2, .bool T)]) (fun _ _ => []) ?_ (fun T31 X32 => ?_)
        · refine TW.draw (isH := [.box B1 51 [.int .i64 s.Size, V_s1]]) hMix ?_
          refine TA.y (listed' := #[true, false, false, false, false, false, false, false, false, false, false, false]) 0 [0] rfl (Y.field_box kf51_1 rfl rfl) rfl rfl rfl (by kernel_rfl) (by kernel_rfl) (by kernel_rfl) rfl rfl ?_
          refine TA.y (listed' := #[true, true, false, false, false, false, false, false, false, false, false, false]) 1 [0] rfl (Y.load_box (v := V_s1) 0 kk49 rfl rfl rfl) rfl rfl rfl (by kernel_rfl) (by kernel_rfl) (by kernel_rfl) rfl rfl ?_
          refine TA.y (listed' := #[true, true, true, false, false, false, false, false, false, false, false, false]) 2 [0] rfl (Y.len (l := s.List) ke49 (Base.can HB_V_s1) rfl) rfl rfl rfl (by kernel_rfl) (by kernel_rfl) (by kernel_rfl) rfl rfl ?_
          refine TA.y (listed' := #[true, true, true, true, false, false, false, false, false, false, false, false]) 3 [0] rfl (Y.eql rfl rfl) rfl rfl rfl (by kernel_rfl) (by kernel_rfl) (by kernel_rfl) rfl rfl ?_
          refine TA.y (listed' := #[true, true, true, true, true, false, false, false, false, false, false, false]) 4 [0] rfl (Y.move rfl) rfl rfl rfl (by kernel_rfl) (by kernel_rfl) (by kernel_rfl) rfl rfl ?_
          refine TA.ite (b := decide (((s.List.length : Nat) : Int) = (0 : Int))) (fun H33 => ?_) (fun H33 => ?_)
          · refine TA.off (listed' := #[true, true, true, true, true, true, false, false, false, false, false, false]) 5 [0] rfl (Gd.at 4 false 54 (decide (((s.List.length : Nat) : Int) = (0 : Int))) rfl rfl rfl (beq_tf H33)) rfl rfl (by kernel_rfl) (by kernel_rfl) (by kernel_rfl) rfl rfl ?_
            refine TA.off (listed' := #[true, true, true, true, true, true, true, false, false, false, false, false]) 6 [0] rfl (Gd.at 4 false 54 (decide (((s.List.length : Nat) : Int) = (0 : Int))) rfl rfl rfl (beq_tf H33)) rfl rfl (by kernel_rfl) (by kernel_rfl) (by kernel_rfl) rfl rfl ?_
            refine TA.off (listed' := #[true, true, true, true, true, true, true, true, false, false, false, false]) 7 [0] rfl (Gd.at 4 false 54 (decide (((s.List.length : Nat) : Int) = (0 : Int))) rfl rfl rfl (beq_tf H33)) rfl rfl (by kernel_rfl) (by kernel_rfl) (by kernel_rfl) rfl rfl ?_
            refine TA.off (listed' := #[true, true, true, true, true, true, true, true, true, false, false, false]) 8 [0] rfl (Gd.at 4 false 54 (decide (((s.List.length : Nat) : Int) = (0 : Int))) rfl rfl rfl (beq_tf H33)) rfl rfl (by kernel_rfl) (by kernel_rfl) (by kernel_rfl) rfl rfl ?_
            refine TA.off (listed' := #[true, true, true, true, true, true, true, true, true, true, false, false]) 9 [0] rfl (Gd.at 4 false 54 (decide (((s.List.length : Nat) : Int) = (0 : Int))) rfl rfl rfl (beq_tf H33)) rfl rfl (by kernel_rfl) (by kernel_rfl) (by kernel_rfl) rfl rfl ?_
            refine TA.y (listed' := #[true, true, true, true, true, true, true, true, true, true, true, false]) 10 [0] rfl (Y.pick_t H33 rfl rfl) rfl rfl rfl (by kernel_rfl) (by kernel_rfl) (by kernel_rfl) rfl rfl ?_
            refine TA.y (listed' := #[true, true, true, true, true, true, true, true, true, true, true, true]) 11 [0] rfl (Y.assign rfl) rfl rfl rfl (by kernel_rfl) (by kernel_rfl) (by kernel_rfl) rfl rfl ?_
            refine TA.nil (by kernel_rfl) ?_
            exact TE.jb_go () [] ⟨rfl, trivial⟩ rfl
          · refine TA.y (listed' := #[true, true, true, true, true, true, false, false, false, false, false, false]) 5 [0] rfl (Y.load_box (v := .agg #[.int .i64 s.Size, V_s1]) 0 kk51 rfl rfl rfl) (Gd.at 4 false 54 (decide (((s.List.length : Nat) : Int) = (0 : Int))) rfl rfl rfl (beq_ff H33)) rfl rfl (by kernel_rfl) (by kernel_rfl) (by kernel_rfl) rfl rfl ?_
            refine TA.y (listed' := #[true, true, true, true, true, true, false, true, false, false, false, false]) 7 [0] rfl (Y.field_box kf51_0 rfl rfl) (Gd.at 4 false 54 (decide (((s.List.length : Nat) : Int) = (0 : Int))) rfl rfl rfl (beq_ff H33)) rfl rfl (by kernel_rfl) (by kernel_rfl) (by kernel_rfl) rfl rfl ?_
            refine TA.y (listed' := #[true, true, true, true, true, true, false, true, true, false, false, false]) 8 [0] rfl (Y.load_box (v := .int .i64 s.Size) 0 kk3 rfl rfl rfl) (Gd.at 4 false 54 (decide (((s.List.length : Nat) : Int) = (0 : Int))) rfl rfl rfl (beq_ff H33)) rfl rfl (by kernel_rfl) (by kernel_rfl) (by kernel_rfl) rfl rfl ?_
            refine TA.bind fun R34 H35 => ?_
            refine TA.one 6 (by kernel_rfl) ?_
            refine TX.ef (listed' := #[true, true, true, true, true, true, true, true, true, false, false, false]) [0] rfl (Ef.call (rest := [.box B1 51 [.int .i64 s.Size, V_s1]]) [0] (impl_needOf_con s V_s1 R34 H35) kc62 rfl rfl ⟨(Base.can HB_V_s1), trivial⟩) (Gd.at 4 false 54 (decide (((s.List.length : Nat) : Int) = (0 : Int))) rfl rfl rfl (beq_ff H33)) rfl rfl rfl (fun _ => rfl) (fun _ => ?_)
            refine TA.y (listed' := #[true, true, true, true, true, true, true, true, true, true, false, false]) 9 [0] rfl (Y.leq rfl rfl) (Gd.at 4 false 54 (decide (((s.List.length : Nat) : Int) = (0 : Int))) rfl rfl rfl (beq_ff H33)) rfl rfl (by kernel_rfl) (by kernel_rfl) (by kernel_rfl) rfl rfl ?_
            refine TA.y (listed' := #[true, true, true, true, true, true, true, true, true, true, true, false]) 10 [0] rfl (Y.pick_f H33 rfl rfl) rfl rfl rfl (by kernel_rfl) (by kernel_rfl) (by kernel_rfl) rfl rfl ?_
            refine TA.y (listed' := #[true, true, true, true, true, true, true, true, true, true, true, true]) 11 [0] rfl (Y.assign rfl) rfl rfl rfl (by kernel_rfl) (by kernel_rfl) (by kernel_rfl) rfl rfl ?_
            refine TA.nil (by kernel_rfl) ?_
            exact TE.jb_go () [] ⟨rfl, trivial⟩ rfl
        · refine TE.next ?_
          refine TW.ret ?_
          exact TE.leaf fun _ _ hf_ hs_ => ret_any (rs := [.tmp 2]) (vs := [.bool T31]) (.inl rfl) rfl ⟨rfl, trivial⟩ hf_ hs_ ⟨(), rfl, hs_.pulls [] rfl⟩

/-- slices.Clone[[]loop.example/g00950/impl.Share,loop.example/g00950/impl.Share] -/
noncomputable def slices_Clone_21618 (s : List Share) : Option (List Share) :=
  (app 16 ([] : List Share) s).bind fun E4 =>
  some E4

theorem slices_Clone_21618_con (s : List Share) (V_s0 : Value) (r : List Share) (hm : slices_Clone_21618 s = some r) :
    Con Try.prog 82 [V_s0] [] [(V_s0, lc s)] (fun X : Value => X) (fun X => [.own X (lc r)]) := by
  refine Con.intro (args := [V_s0]) (n := 8) (val := fun _ (X : Value) => X) (post := fun r X => [.own X (lc r)]) (m := slices_Clone_21618 s) Try.func82 rfl rfl rfl hm ?_
  intro w S hrd
  have HB_V_s0 := hrd _ (.head _)
  clear hrd
  unfold slices_Clone_21618
  refine TW.seq ?_
  refine TW.region ?_
  refine TO.y (Y.assign rfl) rfl rfl rfl ?_
  refine TO.nil ?_
  refine TE.next ?_
  refine TW.seq ?_
  refine TW.seq ?_
  refine TW.region ?_
  refine TO.y (Y.move rfl) rfl rfl rfl ?_
  refine TO.y (Y.nileq ke49 (Base.can HB_V_s0) rfl rfl) rfl rfl rfl ?_
  refine TO.nil ?_
  refine TE.next ?_
  refine TW.cond_nil (Base.can HB_V_s0) rfl (fun hnil_ => ?_) ?_
  · subst hnil_
    show TW _ _ _ (some ([])) _ _ _ _ _
    refine TW.seq ?_
    refine TW.region ?_
    refine TO.y (Y.assign rfl) rfl rfl rfl ?_
    refine TO.nil ?_
    refine TE.next ?_
    refine TW.ret ?_
    refine TE.then_ret ?_
    exact TE.leaf fun _ _ hf_ hs_ => ret_any (rs := [.tmp 2]) (vs := [.slice none 0 0]) (.inl rfl) rfl ⟨rfl, trivial⟩ hf_ hs_ ⟨(.slice none 0 0), rfl, (hs_.nilItem 2).pulls [0] rfl⟩
  · refine TW.skip ?_
    refine TE.next ?_
    refine TW.seq ?_
    refine TW.region ?_
    refine TO.ef (Ef.buildSlice (α := Share) (Vs := []) ([] : List Share) ke49 kz59 rfl rfl rfl rfl rfl) rfl rfl rfl (fun B2 => ?_)
    refine TO.y (Y.move rfl) rfl rfl rfl ?_
    refine TO.bind fun E4 H5 => ?_
    refine TO.ef (Ef.append (α := Share) (is' := []) [0] H5 ke49 kz59 rfl rfl rfl rfl rfl (Base.can HB_V_s0)) rfl rfl rfl (fun V3 => ?_)
    refine TO.y (Y.assign rfl) rfl rfl rfl ?_
    refine TO.nil ?_
    refine TE.next ?_
    refine TW.ret ?_
    exact TE.leaf fun _ _ hf_ hs_ => ret_any (rs := [.tmp 2]) (vs := [V3]) (.inl rfl) rfl ⟨rfl, trivial⟩ hf_ hs_ ⟨V3, rfl, hs_.pulls [0] rfl⟩

/-- loop.example/g00950/impl.copyShares -/
noncomputable def impl_copyShares (s : Shares) : Option Shares :=
  (slices_Clone_21618 s.List).bind fun R3 =>
  some ({ Size := s.Size, List := R3 : Shares })

theorem impl_copyShares_con (s : Shares) (V_s1 : Value) (r : Shares) (hm : impl_copyShares s = some r) :
    Con Try.prog 56 [.agg #[.int .i64 s.Size, V_s1]] [] [(V_s1, lc s.List)] (fun X : Value => .agg #[.int .i64 r.Size, X]) (fun X => [.own X (lc r.List)]) := by
  refine Con.intro (args := [.agg #[.int .i64 s.Size, V_s1]]) (n := 9) (val := fun r (X : Value) => .agg #[.int .i64 r.Size, X]) (post := fun r X => [.own X (lc r.List)]) (m := impl_copyShares s) Try.func56 rfl rfl rfl hm ?_
  intro w S hrd
  have HB_V_s1 := hrd _ (.head _)
  clear hrd
  unfold impl_copyShares
  refine TW.seq ?_
  refine TW.region ?_
  refine TO.ef (Ef.box rfl (Cel.agg ⟨(One.plain rfl), (One.can (Base.can HB_V_s1)), trivial⟩)) rfl rfl rfl (fun B1 => ?_)
  refine TO.ef (Ef.alloc kz51 rfl) rfl rfl rfl (fun B2 => ?_)
  refine TO.nil ?_
  refine TE.next ?_
  refine TW.seq ?_
  refine TW.draw (isH := [.box B1 51 [.int .i64 s.Size, V_s1]]) hMix ?_
  refine TA.y (listed' := #[true, false, false, false, false, false, false]) 0 [1] rfl (Y.field_box kf51_0 rfl rfl) rfl rfl rfl (by kernel_rfl) (by kernel_rfl) (by kernel_rfl) rfl rfl ?_
  refine TA.y (listed' := #[true, true, false, false, false, false, false]) 1 [1] rfl (Y.load_box (v := .int .i64 s.Size) 0 kk3 rfl rfl rfl) rfl rfl rfl (by kernel_rfl) (by kernel_rfl) (by kernel_rfl) rfl rfl ?_
  refine TA.y (listed' := #[true, true, true, false, false, false, false]) 2 [1] rfl (Y.field_box kf51_1 rfl rfl) rfl rfl rfl (by kernel_rfl) (by kernel_rfl) (by kernel_rfl) rfl rfl ?_
  refine TA.y (listed' := #[true, true, true, true, false, false, false]) 3 [1] rfl (Y.load_box (v := V_s1) 0 kk49 rfl rfl rfl) rfl rfl rfl (by kernel_rfl) (by kernel_rfl) (by kernel_rfl) rfl rfl ?_
  refine TA.bind fun R3 H4 => ?_
  refine TA.one 4 (by kernel_rfl) ?_
  refine TX.ef (listed' := #[true, true, true, true, true, false, false]) [2] rfl (Ef.call (rest := [.box B2 51 [.int .i64 (0 : Int), .slice none 0 0], .box B1 51 [.int .i64 s.Size, V_s1]]) [0, 0] (slices_Clone_21618_con s.List V_s1 R3 H4) kc82 rfl rfl ⟨(Base.can HB_V_s1), trivial⟩) rfl rfl rfl rfl (fun _ => rfl) (fun Y5 => ?_)
  refine TA.one 5 (by kernel_rfl) ?_
  refine TX.y (listed' := #[true, true, true, true, true, true, false]) [2] rfl (Y.build (cells := [.int .i64 s.Size, Y5]) [(0, [.int .i64 s.Size]), (1, [Y5])] kp51 kz51 ⟨rfl, ⟨_, rfl, (Cel.plain rfl rfl)⟩, ⟨rfl, ⟨_, rfl, (Cel.one (One.can (Can.own 0 rfl)))⟩, trivial⟩⟩ rfl) rfl rfl rfl rfl rfl ?_
  refine TA.one 6 (by kernel_rfl) ?_
  refine TX.ef0 (listed' := #[true, true, true, true, true, true, true]) [2] rfl (Ef.store_box (us := [.int .i64 s.Size, Y5]) (vs' := [.int .i64 s.Size, Y5]) (is' := [.own Y5 (lc R3), .box B2 51 [.int .i64 s.Size, Y5], .box B1 51 [.int .i64 s.Size, V_s1]]) 1 kk51 rfl rfl rfl (Cel.agg ⟨(One.plain rfl), (One.can (Can.own 0 rfl)), trivial⟩) rfl rfl rfl rfl) rfl rfl rfl (fun _ => rfl) (fun _ => ?_)
  refine TA.nil (by kernel_rfl) ?_
  refine TE.next ?_
  refine TW.ret ?_
  exact TE.leaf fun _ _ hf_ hs_ => ret_any (rs := [.cell 2 51]) (vs := [.agg #[.int .i64 s.Size, Y5]]) (.inl rfl) rfl (RV.cell 1 rfl rfl kk51 rfl trivial) hf_ hs_ ⟨Y5, rfl, hs_.pulls [0] rfl⟩

/-- loop.example/g00950/impl.shareAt -/
noncomputable def impl_shareAt (s : Shares) (tenant : Int) : Option (Int × Bool) :=
  bindC (loopO (fun (S2 : Int) => (if (decide (S2 < ((s.List.length : Nat) : Int))) = true then ((idx s.List S2).bind fun E9 =>
  some (decide (E9.Tenant < tenant)))
  else (some false)).bind (fun (T6 : Bool) =>
  if T6 = true then (some (.go (IntKind.i64.wrap (S2 + (1 : Int)))))
  else (some (.done (.go S2)))))
  (0 : Int))
  (fun (T4 : Int) => (if (decide (T4 < ((s.List.length : Nat) : Int))) = true then ((idx s.List T4).bind fun E15 =>
  some (decide (E15.Tenant = tenant)))
  else (some false)).bind (fun (T12 : Bool) =>
  some (T4, T12)))

theorem impl_shareAt_con (s : Shares) (tenant : Int) (V_s1 : Value) (r : Int × Bool) (hm : impl_shareAt s tenant = some r) :
    Con Try.prog 57 [.agg #[.int .i64 s.Size, V_s1], .int .i64 tenant] [] [(V_s1, lc s.List)] (fun _ : Unit => .tuple #[.int .i64 r.1, .bool r.2]) (fun _ => []) := by
  refine Con.intro (args := [.agg #[.int .i64 s.Size, V_s1], .int .i64 tenant]) (n := 40) (val := fun r (_ : Unit) => .tuple #[.int .i64 r.1, .bool r.2]) (post := fun _ _ => []) (m := impl_shareAt s tenant) Try.func57 rfl rfl rfl hm ?_
  intro w S hrd
  have HB_V_s1 := hrd _ (.head _)
  clear hrd
  unfold impl_shareAt
  refine TW.seq ?_
  refine TW.region ?_
  refine TO.ef (Ef.box rfl (Cel.agg ⟨(One.plain rfl), (One.can (Base.can HB_V_s1)), trivial⟩)) rfl rfl rfl (fun B1 => ?_)
  refine TO.y (Y.assign rfl) rfl rfl rfl ?_
  refine TO.y (Y.assign rfl) rfl rfl rfl ?_
  refine TO.nil ?_
  refine TE.next ?_
  refine TW.seq ?_
  refine TW.region ?_
  refine TO.y (Y.assign rfl) rfl rfl rfl ?_
  refine TO.nil ?_
  refine TE.next ?_
  refine TW.seq ?_
  refine TW.joinX (τ := Int) (X := Unit) (fun T _ => [(1, .int .i64 tenant), (2, .pointer (some ⟨B1, 0, none⟩)), (6, .int .i64 T)]) (fun _ _ => [.box B1 51 [.int .i64 s.Size, V_s1]]) ?_ (fun T4 X5 => ?_)
  · refine TW.block ?_
    refine TW.loopX (σ := Int) (X := Unit) (fun T _ => [(1, .int .i64 tenant), (2, .pointer (some ⟨B1, 0, none⟩)), (6, .int .i64 T)]) (fun _ _ => [.box B1 51 [.int .i64 s.Size, V_s1]]) () [0] ⟨rfl, rfl, rfl, trivial⟩ rfl (fun S2 X3 => ?_)
    refine TW.seq ?_
    refine TW.seq ?_
    refine TW.joinBX (τ := Bool) (X := Unit) (fun T _ => [(1, .int .i64 tenant), (2, .pointer (some ⟨B1, 0, none⟩)), (6, .int .i64 S2), (21, .bool T)]) (fun _ _ => [.box B1 51 [.int .i64 s.Size, V_s1]]) ?_ (fun T6 X7 => ?_)
    · refine TW.region ?_
      refine TO.y (Y.move rfl) rfl rfl rfl ?_
      refine TO.y (Y.field_box kf51_1 rfl rfl) rfl rfl rfl ?_
      refine TO.y (Y.load_box (v := V_s1) 0 kk49 rfl rfl rfl) rfl rfl rfl ?_
      refine TO.y (Y.len (l := s.List) ke49 (Base.can HB_V_s1) rfl) rfl rfl rfl ?_
      refine TO.y (Y.lss rfl rfl) rfl rfl rfl ?_
      refine TO.y (Y.move rfl) rfl rfl rfl ?_
      refine TO.ite (b := decide (S2 < ((s.List.length : Nat) : Int))) (fun H8 => ?_) (fun H8 => ?_)
      · refine TO.y (Y.field_box kf51_1 rfl rfl) (Gd.at 5 true 12 (decide (S2 < ((s.List.length : Nat) : Int))) rfl rfl rfl (beq_tt H8)) rfl rfl ?_
        refine TO.y (Y.load_box (v := V_s1) 0 kk49 rfl rfl rfl) (Gd.at 5 true 12 (decide (S2 < ((s.List.length : Nat) : Int))) rfl rfl rfl (beq_tt H8)) rfl rfl ?_
        refine TO.y (Y.move rfl) (Gd.at 5 true 12 (decide (S2 < ((s.List.length : Nat) : Int))) rfl rfl rfl (beq_tt H8)) rfl rfl ?_
        refine TO.bind fun E9 H10 => ?_
        refine TO.y (Y.index ke49 (Base.can HB_V_s1) H10 rfl rfl) (Gd.at 5 true 12 (decide (S2 < ((s.List.length : Nat) : Int))) rfl rfl rfl (beq_tt H8)) rfl rfl ?_
        refine TO.y (Y.field_el kf59_0 (Base.can HB_V_s1) (idx_get H10).2.2 rfl rfl) (Gd.at 5 true 12 (decide (S2 < ((s.List.length : Nat) : Int))) rfl rfl rfl (beq_tt H8)) rfl rfl ?_
        refine TO.y (Y.load_el (us := [.int .i64 E9.Tenant]) (u := .int .i64 E9.Tenant) kk3 rfl (Base.can HB_V_s1) (idx_get H10).2.2 rfl rfl rfl rfl rfl) (Gd.at 5 true 12 (decide (S2 < ((s.List.length : Nat) : Int))) rfl rfl rfl (beq_tt H8)) rfl rfl ?_
        refine TO.y (Y.move rfl) (Gd.at 5 true 12 (decide (S2 < ((s.List.length : Nat) : Int))) rfl rfl rfl (beq_tt H8)) rfl rfl ?_
        refine TO.y (Y.lss rfl rfl) (Gd.at 5 true 12 (decide (S2 < ((s.List.length : Nat) : Int))) rfl rfl rfl (beq_tt H8)) rfl rfl ?_
        refine TO.y (Y.pick_t H8 rfl rfl) rfl rfl rfl ?_
        refine TO.nil ?_
        exact TE.jb_go () [0] ⟨rfl, rfl, rfl, rfl, trivial⟩ rfl
      · refine TO.off (Gd.at 5 true 12 (decide (S2 < ((s.List.length : Nat) : Int))) rfl rfl rfl (beq_ft H8)) rfl rfl ?_
        refine TO.off (Gd.at 5 true 12 (decide (S2 < ((s.List.length : Nat) : Int))) rfl rfl rfl (beq_ft H8)) rfl rfl ?_
        refine TO.off (Gd.at 5 true 12 (decide (S2 < ((s.List.length : Nat) : Int))) rfl rfl rfl (beq_ft H8)) rfl rfl ?_
        refine TO.off (Gd.at 5 true 12 (decide (S2 < ((s.List.length : Nat) : Int))) rfl rfl rfl (beq_ft H8)) rfl rfl ?_
        refine TO.off (Gd.at 5 true 12 (decide (S2 < ((s.List.length : Nat) : Int))) rfl rfl rfl (beq_ft H8)) rfl rfl ?_
        refine TO.off (Gd.at 5 true 12 (decide (S2 < ((s.List.length : Nat) : Int))) rfl rfl rfl (beq_ft H8)) rfl rfl ?_
        refine TO.off (Gd.at 5 true 12 (decide (S2 < ((s.List.length : Nat) : Int))) rfl rfl rfl (beq_ft H8)) rfl rfl ?_
        refine TO.off (Gd.at 5 true 12 (decide (S2 < ((s.List.length : Nat) : Int))) rfl rfl rfl (beq_ft H8)) rfl rfl ?_
        refine TO.y (Y.pick_f H8 rfl rfl) rfl rfl rfl ?_
        refine TO.nil ?_
        exact TE.jb_go () [0] ⟨rfl, rfl, rfl, rfl, trivial⟩ rfl
    · refine TE.next ?_
      refine TW.cond rfl (fun H11 => ?_) (fun H11 => ?_)
      · refine TW.skip ?_
        refine TE.next ?_
        refine TW.block ?_
        refine TW.region ?_
        refine TO.y (Y.move rfl) rfl rfl rfl ?_
        refine TO.y (Y.add rfl rfl) rfl rfl rfl ?_
        refine TO.y (Y.assign rfl) rfl rfl rfl ?_
        refine TO.nil ?_
        refine TE.block_normal ?_
        exact TE.lp_go () [0] ⟨rfl, rfl, rfl, trivial⟩ rfl
      · refine TW.exit ?_
        refine TE.then_exit ?_
        refine TE.lp_exit ?_
        refine TE.block_exit ?_
        exact TE.jn_go () [0] ⟨rfl, rfl, rfl, trivial⟩ rfl
  · refine TE.next ?_
    refine TW.seq ?_
    refine TW.joinBX (τ := Bool) (X := Unit) (fun T _ => [(4, .int .i64 T4), (5, .bool T)]) (fun _ _ => []) ?_ (fun T12 X13 => ?_)
    · refine TW.draw (isH := [.box B1 51 [.int .i64 s.Size, V_s1]]) hMix ?_
      refine TA.y (listed' := #[true, false, false, false, false, false, false, false, false, false, false, false, false, false, false, false, false, false]) 0 [0] rfl (Y.move rfl) rfl rfl rfl (by kernel_rfl) (by kernel_rfl) (by kernel_rfl) rfl rfl ?_
      refine TA.y (listed' := #[true, true, false, false, false, false, false, false, false, false, false, false, false, false, false, false, false, false]) 1 [0] rfl (Y.move rfl) rfl rfl rfl (by kernel_rfl) (by kernel_rfl) (by kernel_rfl) rfl rfl ?_
      refine TA.y (listed' := #[true, true, true, false, false, false, false, false, false, false, false, false, false, false, false, false, false, false]) 2 [0] rfl (Y.field_box kf51_1 rfl rfl) rfl rfl rfl (by kernel_rfl) (by kernel_rfl) (by kernel_rfl) rfl rfl ?_
      refine TA.y (listed' := #[true, true, true, true, false, false, false, false, false, false, false, false, false, false, false, false, false, false]) 3 [0] rfl (Y.load_box (v := V_s1) 0 kk49 rfl rfl rfl) rfl rfl rfl (by kernel_rfl) (by kernel_rfl) (by kernel_rfl) rfl rfl ?_
      refine TA.y (listed' := #[true, true, true, true, true, false, false, false, false, false, false, false, false, false, false, false, false, false]) 4 [0] rfl (Y.len (l := s.List) ke49 (Base.can HB_V_s1) rfl) rfl rfl rfl (by kernel_rfl) (by kernel_rfl) (by kernel_rfl) rfl rfl ?_
      refine TA.y (listed' := #[true, true, true, true, true, true, false, false, false, false, false, false, false, false, false, false, false, false]) 5 [0] rfl (Y.lss rfl rfl) rfl rfl rfl (by kernel_rfl) (by kernel_rfl) (by kernel_rfl) rfl rfl ?_
      refine TA.y (listed' := #[true, true, true, true, true, true, true, false, false, false, false, false, false, false, false, false, false, false]) 6 [0] rfl (Y.move rfl) rfl rfl rfl (by kernel_rfl) (by kernel_rfl) (by kernel_rfl) rfl rfl ?_
      refine TA.ite (b := decide (T4 < ((s.List.length : Nat) : Int))) (fun H14 => ?_) (fun H14 => ?_)
      · refine TA.y (listed' := #[true, true, true, true, true, true, true, true, false, false, false, false, false, false, false, false, false, false]) 7 [0] rfl (Y.field_box kf51_1 rfl rfl) (Gd.at 6 true 30 (decide (T4 < ((s.List.length : Nat) : Int))) rfl rfl rfl (beq_tt H14)) rfl rfl (by kernel_rfl) (by kernel_rfl) (by kernel_rfl) rfl rfl ?_
        refine TA.y (listed' := #[true, true, true, true, true, true, true, true, true, false, false, false, false, false, false, false, false, false]) 8 [0] rfl (Y.load_box (v := V_s1) 0 kk49 rfl rfl rfl) (Gd.at 6 true 30 (decide (T4 < ((s.List.length : Nat) : Int))) rfl rfl rfl (beq_tt H14)) rfl rfl (by kernel_rfl) (by kernel_rfl) (by kernel_rfl) rfl rfl ?_
        refine TA.y (listed' := #[true, true, true, true, true, true, true, true, true, true, false, false, false, false, false, false, false, false]) 9 [0] rfl (Y.move rfl) (Gd.at 6 true 30 (decide (T4 < ((s.List.length : Nat) : Int))) rfl rfl rfl (beq_tt H14)) rfl rfl (by kernel_rfl) (by kernel_rfl) (by kernel_rfl) rfl rfl ?_
        refine TA.bind fun E15 H16 => ?_
        refine TA.y (listed' := #[true, true, true, true, true, true, true, true, true, true, true, false, false, false, false, false, false, false]) 10 [0] rfl (Y.index ke49 (Base.can HB_V_s1) H16 rfl rfl) (Gd.at 6 true 30 (decide (T4 < ((s.List.length : Nat) : Int))) rfl rfl rfl (beq_tt H14)) rfl rfl (by kernel_rfl) (by kernel_rfl) (by kernel_rfl) rfl rfl ?_
        refine TA.y (listed' := #[true, true, true, true, true, true, true, true, true, true, true, true, false, false, false, false, false, false]) 11 [0] rfl (Y.field_el kf59_0 (Base.can HB_V_s1) (idx_get H16).2.2 rfl rfl) (Gd.at 6 true 30 (decide (T4 < ((s.List.length : Nat) : Int))) rfl rfl rfl (beq_tt H14)) rfl rfl (by kernel_rfl) (by kernel_rfl) (by kernel_rfl) rfl rfl ?_
        refine TA.y (listed' := #[true, true, true, true, true, true, true, true, true, true, true, true, true, false, false, false, false, false]) 12 [0] rfl (Y.load_el (us := [.int .i64 E15.Tenant]) (u := .int .i64 E15.Tenant) kk3 rfl (Base.can HB_V_s1) (idx_get H16).2.2 rfl rfl rfl rfl rfl) (Gd.at 6 true 30 (decide (T4 < ((s.List.length : Nat) : Int))) rfl rfl rfl (beq_tt H14)) rfl rfl (by kernel_rfl) (by kernel_rfl) (by kernel_rfl) rfl rfl ?_
        refine TA.y (listed' := #[true, true, true, true, true, true, true, true, true, true, true, true, true, true, false, false, false, false]) 13 [0] rfl (Y.move rfl) (Gd.at 6 true 30 (decide (T4 < ((s.List.length : Nat) : Int))) rfl rfl rfl (beq_tt H14)) rfl rfl (by kernel_rfl) (by kernel_rfl) (by kernel_rfl) rfl rfl ?_
        refine TA.y (listed' := #[true, true, true, true, true, true, true, true, true, true, true, true, true, true, true, false, false, false]) 14 [0] rfl (Y.eql rfl rfl) (Gd.at 6 true 30 (decide (T4 < ((s.List.length : Nat) : Int))) rfl rfl rfl (beq_tt H14)) rfl rfl (by kernel_rfl) (by kernel_rfl) (by kernel_rfl) rfl rfl ?_
        refine TA.y (listed' := #[true, true, true, true, true, true, true, true, true, true, true, true, true, true, true, true, false, false]) 15 [0] rfl (Y.pick_t H14 rfl rfl) rfl rfl rfl (by kernel_rfl) (by kernel_rfl) (by kernel_rfl) rfl rfl ?_
        refine TA.y (listed' := #[true, true, true, true, true, true, true, true, true, true, true, true, true, true, true, true, true, false]) 16 [0] rfl (Y.assign rfl) rfl rfl rfl (by kernel_rfl) (by kernel_rfl) (by kernel_rfl) rfl rfl ?_
        refine TA.y (listed' := #[true, true, true, true, true, true, true, true, true, true, true, true, true, true, true, true, true, true]) 17 [0] rfl (Y.assign rfl) rfl rfl rfl (by kernel_rfl) (by kernel_rfl) (by kernel_rfl) rfl rfl ?_
        refine TA.nil (by kernel_rfl) ?_
        exact TE.jb_go () [] ⟨rfl, rfl, trivial⟩ rfl
      · refine TA.off (listed' := #[true, true, true, true, true, true, true, true, false, false, false, false, false, false, false, false, false, false]) 7 [0] rfl (Gd.at 6 true 30 (decide (T4 < ((s.List.length : Nat) : Int))) rfl rfl rfl (beq_ft H14)) rfl rfl (by kernel_rfl) (by kernel_rfl) (by kernel_rfl) rfl rfl ?_
        refine TA.off (listed' := #[true, true, true, true, true, true, true, true, true, false, false, false, false, false, false, false, false, false]) 8 [0] rfl (Gd.at 6 true 30 (decide (T4 < ((s.List.length : Nat) : Int))) rfl rfl rfl (beq_ft H14)) rfl rfl (by kernel_rfl) (by kernel_rfl) (by kernel_rfl) rfl rfl ?_
        refine TA.off (listed' := #[true, true, true, true, true, true, true, true, true, true, false, false, false, false, false, false, false, false]) 9 [0] rfl (Gd.at 6 true 30 (decide (T4 < ((s.List.length : Nat) : Int))) rfl rfl rfl (beq_ft H14)) rfl rfl (by kernel_rfl) (by kernel_rfl) (by kernel_rfl) rfl rfl ?_
        refine TA.off (listed' := #[true, true, true, true, true, true, true, true, true, true, true, false, false, false, false, false, false, false]) 10 [0] rfl (Gd.at 6 true 30 (decide (T4 < ((s.List.length : Nat) : Int))) rfl rfl rfl (beq_ft H14)) rfl rfl (by kernel_rfl) (by kernel_rfl) (by kernel_rfl) rfl rfl ?_
        refine TA.off (listed' := #[true, true, true, true, true, true, true, true, true, true, true, true, false, false, false, false, false, false]) 11 [0] rfl (Gd.at 6 true 30 (decide (T4 < ((s.List.length : Nat) : Int))) rfl rfl rfl (beq_ft H14)) rfl rfl (by kernel_rfl) (by kernel_rfl) (by kernel_rfl) rfl rfl ?_
        refine TA.off (listed' := #[true, true, true, true, true, true, true, true, true, true, true, true, true, false, false, false, false, false]) 12 [0] rfl (Gd.at 6 true 30 (decide (T4 < ((s.List.length : Nat) : Int))) rfl rfl rfl (beq_ft H14)) rfl rfl (by kernel_rfl) (by kernel_rfl) (by kernel_rfl) rfl rfl ?_
        refine TA.off (listed' := #[true, true, true, true, true, true, true, true, true, true, true, true, true, true, false, false, false, false]) 13 [0] rfl (Gd.at 6 true 30 (decide (T4 < ((s.List.length : Nat) : Int))) rfl rfl rfl (beq_ft H14)) rfl rfl (by kernel_rfl) (by kernel_rfl) (by kernel_rfl) rfl rfl ?_
        refine TA.off (listed' := #[true, true, true, true, true, true, true, true, true, true, true, true, true, true, true, false, false, false]) 14 [0] rfl (Gd.at 6 true 30 (decide (T4 < ((s.List.length : Nat) : Int))) rfl rfl rfl (beq_ft H14)) rfl rfl (by kernel_rfl) (by kernel_rfl) (by kernel_rfl) rfl rfl ?_
        refine TA.y (listed' := #[true, true, true, true, true, true, true, true, true, true, true, true, true, true, true, true, false, false]) 15 [0] rfl (Y.pick_f H14 rfl rfl) rfl rfl rfl (by kernel_rfl) (by kernel_rfl) (by kernel_rfl) rfl rfl ?_
        refine TA.y (listed' := #[true, true, true, true, true, true, true, true, true, true, true, true, true, true, true, true, true, false]) 16 [0] rfl (Y.assign rfl) rfl rfl rfl (by kernel_rfl) (by kernel_rfl) (by kernel_rfl) rfl rfl ?_
        refine TA.y (listed' := #[true, true, true, true, true, true, true, true, true, true, true, true, true, true, true, true, true, true]) 17 [0] rfl (Y.assign rfl) rfl rfl rfl (by kernel_rfl) (by kernel_rfl) (by kernel_rfl) rfl rfl ?_
        refine TA.nil (by kernel_rfl) ?_
        exact TE.jb_go () [] ⟨rfl, rfl, trivial⟩ rfl
    · refine TE.next ?_
      refine TW.ret ?_
      exact TE.leaf fun _ _ hf_ hs_ => ret_any (rs := [.tmp 4, .tmp 5]) (vs := [.int .i64 T4, .bool T12]) (.inl rfl) rfl ⟨rfl, ⟨rfl, trivial⟩⟩ hf_ hs_ ⟨(), rfl, hs_.pulls [] rfl⟩

/-- slices.Reverse[[]loop.example/g00950/impl.Share,loop.example/g00950/impl.Share] -/
noncomputable def slices_Reverse_21618 (s : List Share) : Option (List Share) :=
  bindC (loopO (fun (S1 : Int × Int × List Share) => if (decide (S1.1 < S1.2.1)) = true then ((idx S1.2.2 S1.2.1).bind fun E6 =>
  (idx S1.2.2 S1.1).bind fun E8 =>
  (idx (S1.2.2.set S1.1.toNat E6) S1.2.1).bind fun E10 =>
  some (.go (IntKind.i64.wrap (S1.1 + (1 : Int)), IntKind.i64.wrap (S1.2.1 - (1 : Int)), ((S1.2.2.set S1.1.toNat E6).set S1.2.1.toNat E8))))
  else (some (.done (.go S1.2.2))))
  ((0 : Int), IntKind.i64.wrap (((s.length : Nat) : Int) - (1 : Int)), s))
  (fun (T3 : List Share) => some T3)

theorem slices_Reverse_21618_con (s : List Share) (V_s0 : Value) (r : List Share) (hm : slices_Reverse_21618 s = some r) :
    Con Try.prog 99 [V_s0] [.own V_s0 (lc s)] [] (fun _ : Unit => .tuple #[]) (fun _ => [.own V_s0 (lc r)]) := by
  refine Con.intro (args := [V_s0]) (n := 28) (val := fun _ (_ : Unit) => .tuple #[]) (post := fun r _ => [.own V_s0 (lc r)]) (m := slices_Reverse_21618 s) Try.func99 rfl rfl rfl hm ?_
  intro w S _
  unfold slices_Reverse_21618
  refine TW.seq ?_
  refine TW.region ?_
  refine TO.y (Y.move rfl) rfl rfl rfl ?_
  refine TO.y (Y.len (l := s) ke49 (Can.own 0 rfl) rfl) rfl rfl rfl ?_
  refine TO.y (Y.sub rfl rfl) rfl rfl rfl ?_
  refine TO.y (Y.assign rfl) rfl rfl rfl ?_
  refine TO.y (Y.assign rfl) rfl rfl rfl ?_
  refine TO.nil ?_
  refine TE.next ?_
  refine TW.joinX (τ := List Share) (X := Unit) (fun _ _ => []) (fun T _ => [.own V_s0 (lc T)]) ?_ (fun T3 X4 => ?_)
  · refine TW.block ?_
    refine TW.loopX (σ := Int × Int × List Share) (X := Unit) (fun T _ => [(0, V_s0), (2, .int .i64 T.1), (3, .int .i64 T.2.1)]) (fun T _ => [.own V_s0 (lc T.2.2)]) () [0] ⟨rfl, rfl, rfl, trivial⟩ rfl (fun S1 X2 => ?_)
    refine TW.seq ?_
    refine TW.seq ?_
    refine TW.region ?_
    refine TO.y (Y.move rfl) rfl rfl rfl ?_
    refine TO.y (Y.move rfl) rfl rfl rfl ?_
    refine TO.y (Y.lss rfl rfl) rfl rfl rfl ?_
    refine TO.nil ?_
    refine TE.next ?_
    refine TW.cond rfl (fun H5 => ?_) (fun H5 => ?_)
    · refine TW.skip ?_
      refine TE.next ?_
      refine TW.seq ?_
      refine TW.block ?_
      refine TW.bind fun E6 H7 => ?_
      refine TW.bind fun E8 H9 => ?_
      refine TW.bind fun E10 H11 => ?_
      refine TW.joinU (X := Unit) (fun _ _ => [(0, V_s0), (2, .int .i64 S1.1), (3, .int .i64 S1.2.1)]) (fun _ _ => [.own V_s0 (lc ((S1.2.2.set S1.1.toNat E6).set S1.2.1.toNat E8))]) ?_ (fun _ X13 => ?_)
      · refine TW.draw (isH := []) hMix ?_
        refine TA.y (listed' := #[true, false, false, false, false, false, false, false, false, false, false, false, false, false, false, false]) 0 [] rfl (Y.move rfl) rfl rfl rfl (by kernel_rfl) (by kernel_rfl) (by kernel_rfl) rfl rfl ?_
        refine TA.y (listed' := #[true, true, false, false, false, false, false, false, false, false, false, false, false, false, false, false]) 1 [] rfl (Y.move rfl) rfl rfl rfl (by kernel_rfl) (by kernel_rfl) (by kernel_rfl) rfl rfl ?_
        refine TA.y (listed' := #[true, true, true, false, false, false, false, false, false, false, false, false, false, false, false, false]) 2 [] rfl (Y.move rfl) rfl rfl rfl (by kernel_rfl) (by kernel_rfl) (by kernel_rfl) rfl rfl ?_
        refine TA.y (listed' := #[true, true, true, true, false, false, false, false, false, false, false, false, false, false, false, false]) 3 [] rfl (Y.move rfl) rfl rfl rfl (by kernel_rfl) (by kernel_rfl) (by kernel_rfl) rfl rfl ?_
        refine TA.y (listed' := #[true, true, true, true, true, false, false, false, false, false, false, false, false, false, false, false]) 4 [] rfl (Y.move rfl) rfl rfl rfl (by kernel_rfl) (by kernel_rfl) (by kernel_rfl) rfl rfl ?_
        refine TA.y (listed' := #[true, true, true, true, true, true, false, false, false, false, false, false, false, false, false, false]) 5 [] rfl (Y.move rfl) rfl rfl rfl (by kernel_rfl) (by kernel_rfl) (by kernel_rfl) rfl rfl ?_
        refine TA.y (listed' := #[true, true, true, true, true, true, false, false, true, false, false, false, false, false, false, false]) 8 [] rfl (Y.move rfl) rfl rfl rfl (by kernel_rfl) (by kernel_rfl) (by kernel_rfl) rfl rfl ?_
        refine TA.y (listed' := #[true, true, true, true, true, true, false, false, true, true, false, false, false, false, false, false]) 9 [] rfl (Y.move rfl) rfl rfl rfl (by kernel_rfl) (by kernel_rfl) (by kernel_rfl) rfl rfl ?_
        refine TA.two 6 10 (by kernel_rfl) ?_ ?_
        · refine TX.y (listed' := #[true, true, true, true, true, true, true, false, true, true, false, false, false, false, false, false]) [] rfl (Y.index ke49 (Can.own 0 rfl) H7 rfl rfl) rfl rfl rfl rfl rfl ?_
          refine TA.two 7 10 (by kernel_rfl) ?_ ?_
          · refine TX.y (listed' := #[true, true, true, true, true, true, true, true, true, true, false, false, false, false, false, false]) [] rfl (Y.load_el (us := [.int .i64 E6.Tenant, .int .i64 E6.Quota]) (u := .agg #[.int .i64 E6.Tenant, .int .i64 E6.Quota]) kk59 rfl (Can.own 0 rfl) (idx_get H7).2.2 rfl rfl rfl rfl rfl) rfl rfl rfl rfl rfl ?_
            refine TA.one 10 (by kernel_rfl) ?_
            refine TX.y (listed' := #[true, true, true, true, true, true, true, true, true, true, true, false, false, false, false, false]) [] rfl (Y.index ke49 (Can.own 0 rfl) H9 rfl rfl) rfl rfl rfl rfl rfl ?_
            refine TA.one 11 (by kernel_rfl) ?_
            refine TX.y (listed' := #[true, true, true, true, true, true, true, true, true, true, true, true, false, false, false, false]) [] rfl (Y.load_el (us := [.int .i64 E8.Tenant, .int .i64 E8.Quota]) (u := .agg #[.int .i64 E8.Tenant, .int .i64 E8.Quota]) kk59 rfl (Can.own 0 rfl) (idx_get H9).2.2 rfl rfl rfl rfl rfl) rfl rfl rfl rfl rfl ?_
            refine TA.one 12 (by kernel_rfl) ?_
            refine TX.y (listed' := #[true, true, true, true, true, true, true, true, true, true, true, true, true, false, false, false]) [] rfl (Y.index ke49 (Can.own 0 rfl) H9 rfl rfl) rfl rfl rfl rfl rfl ?_
            refine TA.one 13 (by kernel_rfl) ?_
            refine TX.ef0 (listed' := #[true, true, true, true, true, true, true, true, true, true, true, true, true, true, false, false]) [] rfl (Ef.store_el (us := [.int .i64 E6.Tenant, .int .i64 E6.Quota]) (is' := [.own V_s0 (lc (S1.2.2.set S1.1.toNat E6))]) E6 0 kk59 rfl rfl (idx_get H9).2.2 rfl rfl (Cel.plain rfl rfl) rfl rfl rfl rfl) rfl rfl rfl (fun _ => rfl) (fun _ => ?_)
            refine TA.one 14 (by kernel_rfl) ?_
            refine TX.y (listed' := #[true, true, true, true, true, true, true, true, true, true, true, true, true, true, true, false]) [] rfl (Y.index ke49 (Can.own 0 rfl) H11 rfl rfl) rfl rfl rfl rfl rfl ?_
            refine TA.one 15 (by kernel_rfl) ?_
            refine TX.ef0 (listed' := #[true, true, true, true, true, true, true, true, true, true, true, true, true, true, true, true]) [] rfl (Ef.store_el (us := [.int .i64 E8.Tenant, .int .i64 E8.Quota]) (is' := [.own V_s0 (lc ((S1.2.2.set S1.1.toNat E6).set S1.2.1.toNat E8))]) E8 0 kk59 rfl rfl (idx_get H11).2.2 rfl rfl (Cel.plain rfl rfl) rfl rfl rfl rfl) rfl rfl rfl (fun _ => rfl) (fun _ => ?_)
            refine TA.nil (by kernel_rfl) ?_
            exact TE.jb_go () [0] ⟨rfl, rfl, rfl, trivial⟩ rfl
          · refine TX.y (listed' := #[true, true, true, true, true, true, true, false, true, true, true, false, false, false, false, false]) [] rfl (Y.index ke49 (Can.own 0 rfl) H9 rfl rfl) rfl rfl rfl rfl rfl ?_
            refine TA.two 7 11 (by kernel_rfl) ?_ ?_
            · refine TX.y (listed' := #[true, true, true, true, true, true, true, true, true, true, true, false, false, false, false, false]) [] rfl (Y.load_el (us := [.int .i64 E6.Tenant, .int .i64 E6.Quota]) (u := .agg #[.int .i64 E6.Tenant, .int .i64 E6.Quota]) kk59 rfl (Can.own 0 rfl) (idx_get H7).2.2 rfl rfl rfl rfl rfl) rfl rfl rfl rfl rfl ?_
              refine TA.one 11 (by kernel_rfl) ?_
              refine TX.y (listed' := #[true, true, true, true, true, true, true, true, true, true, true, true, false, false, false, false]) [] rfl (Y.load_el (us := [.int .i64 E8.Tenant, .int .i64 E8.Quota]) (u := .agg #[.int .i64 E8.Tenant, .int .i64 E8.Quota]) kk59 rfl (Can.own 0 rfl) (idx_get H9).2.2 rfl rfl rfl rfl rfl) rfl rfl rfl rfl rfl ?_
              refine TA.one 12 (by kernel_rfl) ?_
              refine TX.y (listed' := #[true, true, true, true, true, true, true, true, true, true, true, true, true, false, false, false]) [] rfl (Y.index ke49 (Can.own 0 rfl) H9 rfl rfl) rfl rfl rfl rfl rfl ?_
              refine TA.one 13 (by kernel_rfl) ?_
              refine TX.ef0 (listed' := #[true, true, true, true, true, true, true, true, true, true, true, true, true, true, false, false]) [] rfl (Ef.store_el (us := [.int .i64 E6.Tenant, .int .i64 E6.Quota]) (is' := [.own V_s0 (lc (S1.2.2.set S1.1.toNat E6))]) E6 0 kk59 rfl rfl (idx_get H9).2.2 rfl rfl (Cel.plain rfl rfl) rfl rfl rfl rfl) rfl rfl rfl (fun _ => rfl) (fun _ => ?_)
              refine TA.one 14 (by kernel_rfl) ?_
              refine TX.y (listed' := #[true, true, true, true, true, true, true, true, true, true, true, true, true, true, true, false]) [] rfl (Y.index ke49 (Can.own 0 rfl) H11 rfl rfl) rfl rfl rfl rfl rfl ?_
              refine TA.one 15 (by kernel_rfl) ?_
              refine TX.ef0 (listed' := #[true, true, true, true, true, true, true, true, true, true, true, true, true, true, true, true]) [] rfl (Ef.store_el (us := [.int .i64 E8.Tenant, .int .i64 E8.Quota]) (is' := [.own V_s0 (lc ((S1.2.2.set S1.1.toNat E6).set S1.2.1.toNat E8))]) E8 0 kk59 rfl rfl (idx_get H11).2.2 rfl rfl (Cel.plain rfl rfl) rfl rfl rfl rfl) rfl rfl rfl (fun _ => rfl) (fun _ => ?_)
              refine TA.nil (by kernel_rfl) ?_
              exact TE.jb_go () [0] ⟨rfl, rfl, rfl, trivial⟩ rfl
            · refine TX.y (listed' := #[true, true, true, true, true, true, true, false, true, true, true, true, false, false, false, false]) [] rfl (Y.load_el (us := [.int .i64 E8.Tenant, .int .i64 E8.Quota]) (u := .agg #[.int .i64 E8.Tenant, .int .i64 E8.Quota]) kk59 rfl (Can.own 0 rfl) (idx_get H9).2.2 rfl rfl rfl rfl rfl) rfl rfl rfl rfl rfl ?_
              refine TA.one 7 (by kernel_rfl) ?_
              refine TX.y (listed' := #[true, true, true, true, true, true, true, true, true, true, true, true, false, false, false, false]) [] rfl (Y.load_el (us := [.int .i64 E6.Tenant, .int .i64 E6.Quota]) (u := .agg #[.int .i64 E6.Tenant, .int .i64 E6.Quota]) kk59 rfl (Can.own 0 rfl) (idx_get H7).2.2 rfl rfl rfl rfl rfl) rfl rfl rfl rfl rfl ?_
              refine TA.one 12 (by kernel_rfl) ?_
              refine TX.y (listed' := #[true, true, true, true, true, true, true, true, true, true, true, true, true, false, false, false]) [] rfl (Y.index ke49 (Can.own 0 rfl) H9 rfl rfl) rfl rfl rfl rfl rfl ?_
              refine TA.one 13 (by kernel_rfl) ?_
              refine TX.ef0 (listed' := #[true, true, true, true, true, true, true, true, true, true, true, true, true, true, false, false]) [] rfl (Ef.store_el (us := [.int .i64 E6.Tenant, .int .i64 E6.Quota]) (is' := [.own V_s0 (lc (S1.2.2.set S1.1.toNat E6))]) E6 0 kk59 rfl rfl (idx_get H9).2.2 rfl rfl (Cel.plain rfl rfl) rfl rfl rfl rfl) rfl rfl rfl (fun _ => rfl) (fun _ => ?_)
              refine TA.one 14 (by kernel_rfl) ?_
              refine TX.y (listed' := #[true, true, true, true, true, true, true, true, true, true, true, true, true, true, true, false]) [] rfl (Y.index ke49 (Can.own 0 rfl) H11 rfl rfl) rfl rfl rfl rfl rfl ?_
              refine TA.one 15 (by kernel_rfl) ?_
              refine TX.ef0 (listed' := #[true, true, true, true, true, true, true, true, true, true, true, true, true, true, true, true]) [] rfl (Ef.store_el (us := [.int .i64 E8.Tenant, .int .i64 E8.Quota]) (is' := [.own V_s0 (lc ((S1.2.2.set S1.1.toNat E6).set S1.2.1.toNat E8))]) E8 0 kk59 rfl rfl (idx_get H11).2.2 rfl rfl (Cel.plain rfl rfl) rfl rfl rfl rfl) rfl rfl rfl (fun _ => rfl) (fun _ => ?_)
              refine TA.nil (by kernel_rfl) ?_
              exact TE.jb_go () [0] ⟨rfl, rfl, rfl, trivial⟩ rfl
        · refine TX.y (listed' := #[true, true, true, true, true, true, false, false, true, true, true, false, false, false, false, false]) [] rfl (Y.index ke49 (Can.own 0 rfl) H9 rfl rfl) rfl rfl rfl rfl rfl ?_
          refine TA.two 6 11 (by kernel_rfl) ?_ ?_
          · refine TX.y (listed' := #[true, true, true, true, true, true, true, false, true, true, true, false, false, false, false, false]) [] rfl (Y.index ke49 (Can.own 0 rfl) H7 rfl rfl) rfl rfl rfl rfl rfl ?_
            refine TA.two 7 11 (by kernel_rfl) ?_ ?_
            · refine TX.y (listed' := #[true, true, true, true, true, true, true, true, true, true, true, false, false, false, false, false]) [] rfl (Y.load_el (us := [.int .i64 E6.Tenant, .int .i64 E6.Quota]) (u := .agg #[.int .i64 E6.Tenant, .int .i64 E6.Quota]) kk59 rfl (Can.own 0 rfl) (idx_get H7).2.2 rfl rfl rfl rfl rfl) rfl rfl rfl rfl rfl ?_
              refine TA.one 11 (by kernel_rfl) ?_
              refine TX.y (listed' := #[true, true, true, true, true, true, true, true, true, true, true, true, false, false, false, false]) [] rfl (Y.load_el (us := [.int .i64 E8.Tenant, .int .i64 E8.Quota]) (u := .agg #[.int .i64 E8.Tenant, .int .i64 E8.Quota]) kk59 rfl (Can.own 0 rfl) (idx_get H9).2.2 rfl rfl rfl rfl rfl) rfl rfl rfl rfl rfl ?_
              refine TA.one 12 (by kernel_rfl) ?_
              refine TX.y (listed' := #[true, true, true, true, true, true, true, true, true, true, true, true, true, false, false, false]) [] rfl (Y.index ke49 (Can.own 0 rfl) H9 rfl rfl) rfl rfl rfl rfl rfl ?_
              refine TA.one 13 (by kernel_rfl) ?_
              refine TX.ef0 (listed' := #[true, true, true, true, true, true, true, true, true, true, true, true, true, true, false, false]) [] rfl (Ef.store_el (us := [.int .i64 E6.Tenant, .int .i64 E6.Quota]) (is' := [.own V_s0 (lc (S1.2.2.set S1.1.toNat E6))]) E6 0 kk59 rfl rfl (idx_get H9).2.2 rfl rfl (Cel.plain rfl rfl) rfl rfl rfl rfl) rfl rfl rfl (fun _ => rfl) (fun _ => ?_)
              refine TA.one 14 (by kernel_rfl) ?_
              refine TX.y (listed' := #[true, true, true, true, true, true, true, true, true, true, true, true, true, true, true, false]) [] rfl (Y.index ke49 (Can.own 0 rfl) H11 rfl rfl) rfl rfl rfl rfl rfl ?_
              refine TA.one 15 (by kernel_rfl) ?_
              refine TX.ef0 (listed' := #[true, true, true, true, true, true, true, true, true, true, true, true, true, true, true, true]) [] rfl (Ef.store_el (us := [.int .i64 E8.Tenant, .int .i64 E8.Quota]) (is' := [.own V_s0 (lc ((S1.2.2.set S1.1.toNat E6).set S1.2.1.toNat E8))]) E8 0 kk59 rfl rfl (idx_get H11).2.2 rfl rfl (Cel.plain rfl rfl) rfl rfl rfl rfl) rfl rfl rfl (fun _ => rfl) (fun _ => ?_)
              refine TA.nil (by kernel_rfl) ?_
              exact TE.jb_go () [0] ⟨rfl, rfl, rfl, trivial⟩ rfl
            · refine TX.y (listed' := #[true, true, true, true, true, true, true, false, true, true, true, true, false, false, false, false]) [] rfl (Y.load_el (us := [.int .i64 E8.Tenant, .int .i64 E8.Quota]) (u := .agg #[.int .i64 E8.Tenant, .int .i64 E8.Quota]) kk59 rfl (Can.own 0 rfl) (idx_get H9).2.2 rfl rfl rfl rfl rfl) rfl rfl rfl rfl rfl ?_
              refine TA.one 7 (by kernel_rfl) ?_
              refine TX.y (listed' := #[true, true, true, true, true, true, true, true, true, true, true, true, false, false, false, false]) [] rfl (Y.load_el (us := [.int .i64 E6.Tenant, .int .i64 E6.Quota]) (u := .agg #[.int .i64 E6.Tenant, .int .i64 E6.Quota]) kk59 rfl (Can.own 0 rfl) (idx_get H7).2.2 rfl rfl rfl rfl rfl) rfl rfl rfl rfl rfl ?_
              refine TA.one 12 (by kernel_rfl) ?_
              refine TX.y (listed' := #[true, true, true, true, true, true, true, true, true, true, true, true, true, false, false, false]) [] rfl (Y.index ke49 (Can.own 0 rfl) H9 rfl rfl) rfl rfl rfl rfl rfl ?_
              refine TA.one 13 (by kernel_rfl) ?_
              refine TX.ef0 (listed' := #[true, true, true, true, true, true, true, true, true, true, true, true, true, true, false, false]) [] rfl (Ef.store_el (us := [.int .i64 E6.Tenant, .int .i64 E6.Quota]) (is' := [.own V_s0 (lc (S1.2.2.set S1.1.toNat E6))]) E6 0 kk59 rfl rfl (idx_get H9).2.2 rfl rfl (Cel.plain rfl rfl) rfl rfl rfl rfl) rfl rfl rfl (fun _ => rfl) (fun _ => ?_)
              refine TA.one 14 (by kernel_rfl) ?_
              refine TX.y (listed' := #[true, true, true, true, true, true, true, true, true, true, true, true, true, true, true, false]) [] rfl (Y.index ke49 (Can.own 0 rfl) H11 rfl rfl) rfl rfl rfl rfl rfl ?_
              refine TA.one 15 (by kernel_rfl) ?_
              refine TX.ef0 (listed' := #[true, true, true, true, true, true, true, true, true, true, true, true, true, true, true, true]) [] rfl (Ef.store_el (us := [.int .i64 E8.Tenant, .int .i64 E8.Quota]) (is' := [.own V_s0 (lc ((S1.2.2.set S1.1.toNat E6).set S1.2.1.toNat E8))]) E8 0 kk59 rfl rfl (idx_get H11).2.2 rfl rfl (Cel.plain rfl rfl) rfl rfl rfl rfl) rfl rfl rfl (fun _ => rfl) (fun _ => ?_)
              refine TA.nil (by kernel_rfl) ?_
              exact TE.jb_go () [0] ⟨rfl, rfl, rfl, trivial⟩ rfl
          · refine TX.y (listed' := #[true, true, true, true, true, true, false, false, true, true, true, true, false, false, false, false]) [] rfl (Y.load_el (us := [.int .i64 E8.Tenant, .int .i64 E8.Quota]) (u := .agg #[.int .i64 E8.Tenant, .int .i64 E8.Quota]) kk59 rfl (Can.own 0 rfl) (idx_get H9).2.2 rfl rfl rfl rfl rfl) rfl rfl rfl rfl rfl ?_
            refine TA.one 6 (by kernel_rfl) ?_
            refine TX.y (listed' := #[true, true, true, true, true, true, true, false, true, true, true, true, false, false, false, false]) [] rfl (Y.index ke49 (Can.own 0 rfl) H7 rfl rfl) rfl rfl rfl rfl rfl ?_
            refine TA.one 7 (by kernel_rfl) ?_
            refine TX.y (listed' := #[true, true, true, true, true, true, true, true, true, true, true, true, false, false, false, false]) [] rfl (Y.load_el (us := [.int .i64 E6.Tenant, .int .i64 E6.Quota]) (u := .agg #[.int .i64 E6.Tenant, .int .i64 E6.Quota]) kk59 rfl (Can.own 0 rfl) (idx_get H7).2.2 rfl rfl rfl rfl rfl) rfl rfl rfl rfl rfl ?_
            refine TA.one 12 (by kernel_rfl) ?_
            refine TX.y (listed' := #[true, true, true, true, true, true, true, true, true, true, true, true, true, false, false, false]) [] rfl (Y.index ke49 (Can.own 0 rfl) H9 rfl rfl) rfl rfl rfl rfl rfl ?_
            refine TA.one 13 (by kernel_rfl) ?_
            refine TX.ef0 (listed' := #[true, true, true, true, true, true, true, true, true, true, true, true, true, true, false, false]) [] rfl (Ef.store_el (us := [.int .i64 E6.Tenant, .int .i64 E6.Quota]) (is' := [.own V_s0 (lc (S1.2.2.set S1.1.toNat E6))]) E6 0 kk59 rfl rfl (idx_get H9).2.2 rfl rfl (Cel.plain rfl rfl) rfl rfl rfl rfl) rfl rfl rfl (fun _ => rfl) (fun _ => ?_)
            refine TA.one 14 (by kernel_rfl) ?_
            refine TX.y (listed' := #[true, true, true, true, true, true, true, true, true, true, true, true, true, true, true, false]) [] rfl (Y.index ke49 (Can.own 0 rfl) H11 rfl rfl) rfl rfl rfl rfl rfl ?_
            refine TA.one 15 (by kernel_rfl) ?_
            refine TX.ef0 (listed' := #[true, true, true, true, true, true, true, true, true, true, true, true, true, true, true, true]) [] rfl (Ef.store_el (us := [.int .i64 E8.Tenant, .int .i64 E8.Quota]) (is' := [.own V_s0 (lc ((S1.2.2.set S1.1.toNat E6).set S1.2.1.toNat E8))]) E8 0 kk59 rfl rfl (idx_get H11).2.2 rfl rfl (Cel.plain rfl rfl) rfl rfl rfl rfl) rfl rfl rfl (fun _ => rfl) (fun _ => ?_)
            refine TA.nil (by kernel_rfl) ?_
            exact TE.jb_go () [0] ⟨rfl, rfl, rfl, trivial⟩ rfl
      · refine TE.block_normal ?_
        refine TE.next ?_
        refine TW.region ?_
        refine TO.y (Y.move rfl) rfl rfl rfl ?_
        refine TO.y (Y.add rfl rfl) rfl rfl rfl ?_
        refine TO.y (Y.move rfl) rfl rfl rfl ?_
        refine TO.y (Y.sub rfl rfl) rfl rfl rfl ?_
        refine TO.y (Y.assign rfl) rfl rfl rfl ?_
        refine TO.y (Y.assign rfl) rfl rfl rfl ?_
        refine TO.nil ?_
        exact TE.lp_go () [0] ⟨rfl, rfl, rfl, trivial⟩ rfl
    · refine TW.exit ?_
      refine TE.then_exit ?_
      refine TE.lp_exit ?_
      refine TE.block_exit ?_
      exact TE.jn_go () [0] trivial rfl
  · exact TE.leaf fun _ _ hf_ hs_ => ret_any (rs := []) (vs := []) (.inr rfl) rfl trivial hf_ hs_ ⟨(), rfl, hs_.pulls [0] rfl⟩

/-- slices.Insert[[]loop.example/g00950/impl.Share,loop.example/g00950/impl.Share] -/
noncomputable def slices_Insert_21618 (s : List Share) (i : Int) (v : List Share) : Option (List Share) := ins 16 s i v

theorem slices_Insert_21618_con (s : List Share) (i : Int) (v : List Share) (V_s0 V_v0 : Value) (r : List Share) (hm : slices_Insert_21618 s i v = some r) :
    Con Try.prog 58 [V_s0, .int .i64 i, V_v0] [.own V_s0 (lc s), .own V_v0 (lc v)] [] (fun X : Value => X) (fun X => [.own X (lc r)]) := by
  refine Con.intro (args := [V_s0, .int .i64 i, V_v0]) (n := 95) (val := fun _ (X : Value) => X) (post := fun r X => [.own X (lc r)]) (m := slices_Insert_21618 s i v) Try.func58 rfl rfl rfl hm ?_
  intro w S _
  unfold slices_Insert_21618
  refine TW.known fun r0 hr0 => ?_
  obtain ⟨h0, h1, h2, h3, rfl⟩ := ins_eq hr0
  obtain ⟨I, rfl⟩ := Int.eq_ofNat_of_zero_le h0
  rw [Int.toNat_natCast]
  have h1n : I ≤ s.length := by omega
  clear hr0 hm
  have wr : ∀ q : Nat, q ≤ 4611686018427387904 → IntKind.i64.wrap (q : Int) = (q : Int) := fun q hq => by rw [IntKind.wrap_i64]; omega
  have wr2 : ∀ a b : Nat, a + b ≤ 4611686018427387904 → IntKind.i64.wrap ((a : Int) + (b : Int)) = ((a + b : Nat) : Int) := fun a b hq => by rw [IntKind.wrap_i64]; omega
  obtain ⟨z0, hpc⟩ : ∃ z, piece s (I : Int) ((s.length : Nat) : Int) = some z := ⟨_, if_pos ⟨by omega, by omega, by omega⟩⟩
  refine TW.seq ?_
  refine TW.region ?_
  refine TO.y (Y.assign rfl) rfl rfl rfl ?_
  refine TO.nil ?_
  refine TE.next ?_
  refine TW.seq ?_
  refine TW.region ?_
  refine TO.y (Y.move rfl) rfl rfl rfl ?_
  refine TO.y (Y.move rfl) rfl rfl rfl ?_
  refine TO.y (Y.subs hpc ke49 (Can.own 0 rfl) rfl ⟨_, rfl⟩ rfl) rfl rfl rfl ?_
  refine TO.nil ?_
  refine TE.next ?_
  refine TW.seq ?_
  refine TW.region ?_
  refine TO.y (Y.move rfl) rfl rfl rfl ?_
  refine TO.y (Y.len (l := v) ke49 (Can.own 1 rfl) rfl) rfl rfl rfl ?_
  refine TO.y (Y.assign rfl) rfl rfl rfl ?_
  refine TO.nil ?_
  refine TE.next ?_
  refine TW.seq ?_
  refine TW.seq ?_
  refine TW.region ?_
  refine TO.y (Y.move rfl) rfl rfl rfl ?_
  refine TO.y (Y.eql rfl rfl) rfl rfl rfl ?_
  refine TO.nil ?_
  refine TE.next ?_
  by_cases hm0 : v = []
  · subst hm0
    rw [show s.take I ++ ([] ++ s.drop I) = s by simp]
    refine TW.cond_t rfl (by simp) ?_
    refine TW.seq ?_
    refine TW.region ?_
    refine TO.y (Y.move rfl) rfl rfl rfl ?_
    refine TO.y (Y.assign rfl) rfl rfl rfl ?_
    refine TO.nil ?_
    refine TE.next ?_
    refine TW.ret ?_
    refine TE.then_ret ?_
    exact TE.leaf fun _ _ hf_ hs_ => ret_any (rs := [.tmp 6]) (vs := [V_s0]) (.inl rfl) rfl ⟨rfl, trivial⟩ hf_ hs_ ⟨V_s0, rfl, hs_.pulls [0] rfl⟩
  · have hm1 : 0 < v.length := List.length_pos_iff.2 hm0
    refine TW.cond_f rfl (decide_eq_false (by omega)) ?_
    refine TW.skip ?_
    refine TE.next ?_
    refine TW.seq ?_
    refine TW.region ?_
    refine TO.y (Y.move rfl) rfl rfl rfl ?_
    refine TO.y (Y.len (l := s) ke49 (Can.own 0 rfl) rfl) rfl rfl rfl ?_
    refine TO.y (Y.assign rfl) rfl rfl rfl ?_
    refine TO.nil ?_
    refine TE.next ?_
    refine TW.seq ?_
    refine TW.seq ?_
    refine TW.region ?_
    refine TO.y (Y.move rfl) rfl rfl rfl ?_
    refine TO.y (Y.move rfl) rfl rfl rfl ?_
    refine TO.y (Y.eql rfl rfl) rfl rfl rfl ?_
    refine TO.nil ?_
    refine TE.next ?_
    by_cases hin : I = s.length
    · have happ : app 16 s v = some (s ++ v) := by unfold app; rw [if_pos ⟨h2, by omega⟩]
      rw [show s.take I ++ (v ++ s.drop I) = s ++ v by rw [hin]; simp]
      refine TW.cond_t rfl (decide_eq_true (by omega)) ?_
      refine TW.seq ?_
      refine TW.region ?_
      refine TO.y (Y.move rfl) rfl rfl rfl ?_
      refine TO.y (Y.move rfl) rfl rfl rfl ?_
      refine TO.ef (Ef.appN (α := Share) (is' := []) [0, 0] happ ke49 kz59 rfl rfl rfl rfl rfl) rfl rfl rfl (fun X => ?_)
      refine TO.y (Y.assign rfl) rfl rfl rfl ?_
      refine TO.nil ?_
      refine TE.next ?_
      refine TW.ret ?_
      refine TE.then_ret ?_
      exact TE.leaf fun _ _ hf_ hs_ => ret_any (rs := [.tmp 6]) (vs := [X]) (.inl rfl) rfl ⟨rfl, trivial⟩ hf_ hs_ ⟨X, rfl, hs_.pulls [0] rfl⟩
    · refine TW.cond_f rfl (decide_eq_false (by omega)) ?_
      refine TW.skip ?_
      refine TE.next ?_
      refine TW.openRows (α := Share) (by omega) hm1 ?_
      intro b cap e cur b2 cap2 e2 cur2 hV hU hbb hc1 hc2 hc3 hc4 hl1 hl2 ho1 ho2
      subst hV hU
      have hsz : Enc.sz Share = 2 := rfl
      rw [hsz] at hl1 hl2 ho1 ho2
      have e1 := wr2 s.length v.length h3
      refine TW.seq ?_
      refine TW.seq ?_
      refine TW.region ?_
      refine TO.y (Y.move rfl) rfl rfl rfl ?_
      refine TO.y (Y.move rfl) rfl rfl rfl ?_
      refine TO.y (Y.add rfl rfl) rfl rfl rfl ?_
      refine TO.y (Y.move rfl) rfl rfl rfl ?_
      refine TO.y (Y.capRaw ke49 rfl) rfl rfl rfl ?_
      refine TO.y (Y.gtr rfl rfl) rfl rfl rfl ?_
      refine TO.nil ?_
      refine TE.next ?_
      by_cases hroom : cap < s.length + v.length
      · refine TW.cond_t rfl (by rw [e1]; exact decide_eq_true (by omega)) ?_
        refine TW.seq ?_
        refine TW.region ?_
        refine TO.y (Y.move rfl) rfl rfl rfl ?_
        refine TO.y (Y.move rfl) rfl rfl rfl ?_
        refine TO.y (Y.toRaw (hi := I) ke49 (by omega) rfl rfl rfl) rfl rfl rfl ?_
        refine TO.y (Y.move rfl) rfl rfl rfl ?_
        refine TO.y (Y.move rfl) rfl rfl rfl ?_
        refine TO.y (Y.add rfl rfl) rfl rfl rfl ?_
        refine TO.y (Y.move rfl) rfl rfl rfl ?_
        refine TO.y (Y.sub rfl rfl) rfl rfl rfl ?_
        have e2 : IntKind.i64.wrap (IntKind.i64.wrap ((s.length : Int) + (v.length : Int)) - (I : Int)) = ((s.length + v.length - I : Nat) : Int) := by rw [e1, IntKind.wrap_i64]; omega
        refine TO.ef (Ef.rawGrow (N := s.length + v.length) (q := s.length + v.length - I) 0 ke49 ki3 kz59 rfl rfl rfl rfl rfl e2 (by omega) (by omega) hl1 (by omega) hroom (by omega) h2) rfl rfl rfl (fun X => ?_)
        refine TO.y (Y.assign rfl) rfl rfl rfl ?_
        refine TO.nil ?_
        refine TE.next ?_
        obtain ⟨⟨⟨g, gc⟩, ge, zs⟩, hz1, hz2, hz3⟩ := X
        dsimp only at hz1 hz2 hz3 ⊢
        obtain ⟨q1, q2, q3, q4, q5, q6⟩ := insA (G := gc) (zs := zs) h1n hc1 hc3 hl1 hl2 hz1 hz2
        have m1 : 0 + I * 2 + v.length * 2 ≤ gc * 2 := by omega
        have m2 : 0 + (I + v.length) * 2 + (s.length - I) * 2 ≤ gc * 2 := by omega
        have m3 : 0 + v.length * 2 ≤ cap2 * 2 := by omega
        have m4 : 0 + I * 2 + (s.length - I) * 2 ≤ cap * 2 := by omega
        refine TW.seq ?_
        refine TW.region ?_
        refine TO.y (Y.move rfl) rfl rfl rfl ?_
        refine TO.y (Y.move rfl) rfl rfl rfl ?_
        refine TO.y (Y.fromRaw (lo := I) ke49 (by omega) (by omega) rfl rfl rfl) rfl rfl rfl ?_
        refine TO.y (Y.move rfl) rfl rfl rfl ?_
        refine TO.ef (Ef.rawCopy (sl := v.length) 0 2 ke49 rfl rfl rfl rfl (by omega) (by rw [q3]; exact m1) (by rw [hl2]; exact m3) (by rw [List.drop_zero]; exact ho2) rfl) rfl rfl rfl (fun _ => ?_)
        refine TO.nil ?_
        refine TE.next ?_
        refine TW.seq ?_
        refine TW.draw (isH := []) hMix ?_
        refine TA.y (listed' := #[true, false, false, false, false, false, false, false, false]) 0 [] rfl (Y.move rfl) rfl rfl rfl (by kernel_rfl) (by kernel_rfl) (by kernel_rfl) rfl rfl ?_
        refine TA.y (listed' := #[true, true, false, false, false, false, false, false, false]) 1 [] rfl (Y.move rfl) rfl rfl rfl (by kernel_rfl) (by kernel_rfl) (by kernel_rfl) rfl rfl ?_
        refine TA.y (listed' := #[true, true, true, false, false, false, false, false, false]) 2 [] rfl (Y.move rfl) rfl rfl rfl (by kernel_rfl) (by kernel_rfl) (by kernel_rfl) rfl rfl ?_
        refine TA.y (listed' := #[true, true, true, true, false, false, false, false, false]) 3 [] rfl (Y.add rfl rfl) rfl rfl rfl (by kernel_rfl) (by kernel_rfl) (by kernel_rfl) rfl rfl ?_
        refine TA.y (listed' := #[true, true, true, true, true, false, false, false, false]) 4 [] rfl (Y.fromRaw (lo := I + v.length) ke49 (by omega) (by omega) (wr2 I v.length (by omega)) rfl rfl) rfl rfl rfl (by kernel_rfl) (by kernel_rfl) (by kernel_rfl) rfl rfl ?_
        refine TA.y (listed' := #[true, true, true, true, true, true, false, false, false]) 5 [] rfl (Y.move rfl) rfl rfl rfl (by kernel_rfl) (by kernel_rfl) (by kernel_rfl) rfl rfl ?_
        refine TA.y (listed' := #[true, true, true, true, true, true, true, false, false]) 6 [] rfl (Y.move rfl) rfl rfl rfl (by kernel_rfl) (by kernel_rfl) (by kernel_rfl) rfl rfl ?_
        refine TA.y (listed' := #[true, true, true, true, true, true, true, true, false]) 7 [] rfl (Y.fromRaw (lo := I) ke49 (by omega) (by omega) rfl rfl rfl) rfl rfl rfl (by kernel_rfl) (by kernel_rfl) (by kernel_rfl) rfl rfl ?_
        refine TA.one 8 (by kernel_rfl) ?_
        refine TX.ef (listed' := #[true, true, true, true, true, true, true, true, true]) [] rfl (Ef.rawCopy (sl := s.length - I) 0 1 ke49 rfl rfl rfl rfl (by omega) (by rw [q4]; exact m2) (by rw [hl1]; exact m4) (ins_one ho1 h1n) rfl) rfl rfl rfl rfl (fun _ => rfl) (fun _ => ?_)
        refine TA.nil (by kernel_rfl) ?_
        refine TE.next ?_
        refine TW.seq ?_
        refine TW.region ?_
        refine TO.y (Y.move rfl) rfl rfl rfl ?_
        refine TO.y (Y.assign rfl) rfl rfl rfl ?_
        refine TO.nil ?_
        refine TE.next ?_
        refine TW.ret ?_
        refine TE.then_ret ?_
        refine TE.ghost (Gh.fold (α := Share) (l := s) (k := v) (i := I) [0, 2, 2, 0, 0] rfl h1n hz2 hz3 q5 q6) (fun _ => ?_)
        exact TE.leaf fun _ _ hf_ hs_ => ret_any (rs := [.tmp 6]) (vs := [.slice (some ⟨g, 0, none⟩) (s.length + v.length) gc]) (.inl rfl) rfl ⟨rfl, trivial⟩ hf_ hs_ ⟨(.slice (some ⟨g, 0, none⟩) (s.length + v.length) gc), rfl, hs_.pulls [0] rfl⟩
      · refine TW.cond_f rfl (by rw [e1]; exact decide_eq_false (by omega)) ?_
        refine TW.skip ?_
        refine TE.next ?_
        refine TW.seq ?_
        refine TW.region ?_
        refine TO.y (Y.move rfl) rfl rfl rfl ?_
        refine TO.y (Y.move rfl) rfl rfl rfl ?_
        refine TO.y (Y.move rfl) rfl rfl rfl ?_
        refine TO.y (Y.add rfl rfl) rfl rfl rfl ?_
        refine TO.y (Y.toRaw (hi := s.length + v.length) ke49 (by omega) e1 rfl rfl) rfl rfl rfl ?_
        refine TO.y (Y.assign rfl) rfl rfl rfl ?_
        refine TO.nil ?_
        refine TE.next ?_
        obtain ⟨q1, q2, q3, q4, q5⟩ := insB h1n (by omega) hc3 hl1 hl2
        have m1 : 0 + I * 2 + v.length * 2 ≤ cap * 2 := by omega
        have m2 : 0 + (I + v.length) * 2 + (s.length - I) * 2 ≤ cap * 2 := by omega
        have m3 : 0 + v.length * 2 ≤ cap2 * 2 := by omega
        have m4 : 0 + I * 2 + (s.length - I) * 2 ≤ cap * 2 := by omega
        have hne : cur ≠ [] := by intro e; rw [e] at hl1; simp at hl1; omega
        refine TW.seq ?_
        refine TW.seq ?_
        refine TW.region ?_
        refine TO.y (Y.move rfl) rfl rfl rfl ?_
        refine TO.y (Y.move rfl) rfl rfl rfl ?_
        refine TO.y (Y.move rfl) rfl rfl rfl ?_
        refine TO.y (Y.move rfl) rfl rfl rfl ?_
        refine TO.y (Y.add rfl rfl) rfl rfl rfl ?_
        refine TO.y (Y.fromRaw (lo := I + v.length) ke49 (by omega) (by omega) (wr2 I v.length (by omega)) rfl rfl) rfl rfl rfl ?_
        refine TO.ef (Ef.overlaps (tr := 4) 1 0 Try.func83 (by kernel_rfl) (by kernel_rfl) (by kernel_rfl) (by kernel_rfl) ke49 rfl rfl (Ne.symm hbb) rfl rfl hne) rfl rfl rfl (fun _ => ?_)
        refine TO.y (Y.not rfl) rfl rfl rfl ?_
        refine TO.nil ?_
        refine TE.next ?_
        refine TW.cond_true rfl ?_
        refine TW.seq ?_
        refine TW.draw (isH := []) hMix ?_
        refine TA.y (listed' := #[true, false, false, false, false, false, false, false, false]) 0 [] rfl (Y.move rfl) rfl rfl rfl (by kernel_rfl) (by kernel_rfl) (by kernel_rfl) rfl rfl ?_
        refine TA.y (listed' := #[true, true, false, false, false, false, false, false, false]) 1 [] rfl (Y.move rfl) rfl rfl rfl (by kernel_rfl) (by kernel_rfl) (by kernel_rfl) rfl rfl ?_
        refine TA.y (listed' := #[true, true, true, false, false, false, false, false, false]) 2 [] rfl (Y.move rfl) rfl rfl rfl (by kernel_rfl) (by kernel_rfl) (by kernel_rfl) rfl rfl ?_
        refine TA.y (listed' := #[true, true, true, true, false, false, false, false, false]) 3 [] rfl (Y.add rfl rfl) rfl rfl rfl (by kernel_rfl) (by kernel_rfl) (by kernel_rfl) rfl rfl ?_
        refine TA.y (listed' := #[true, true, true, true, true, false, false, false, false]) 4 [] rfl (Y.fromRaw (lo := I + v.length) ke49 (by omega) (by omega) (wr2 I v.length (by omega)) rfl rfl) rfl rfl rfl (by kernel_rfl) (by kernel_rfl) (by kernel_rfl) rfl rfl ?_
        refine TA.y (listed' := #[true, true, true, true, true, true, false, false, false]) 5 [] rfl (Y.move rfl) rfl rfl rfl (by kernel_rfl) (by kernel_rfl) (by kernel_rfl) rfl rfl ?_
        refine TA.y (listed' := #[true, true, true, true, true, true, true, false, false]) 6 [] rfl (Y.move rfl) rfl rfl rfl (by kernel_rfl) (by kernel_rfl) (by kernel_rfl) rfl rfl ?_
        refine TA.y (listed' := #[true, true, true, true, true, true, true, true, false]) 7 [] rfl (Y.fromRaw (lo := I) ke49 (by omega) (by omega) rfl rfl rfl) rfl rfl rfl (by kernel_rfl) (by kernel_rfl) (by kernel_rfl) rfl rfl ?_
        refine TA.one 8 (by kernel_rfl) ?_
        refine TX.ef (listed' := #[true, true, true, true, true, true, true, true, true]) [] rfl (Ef.rawCopy (sl := s.length - I) 0 0 ke49 rfl rfl rfl rfl (by omega) (by rw [hl1]; exact m2) (by rw [hl1]; exact m4) (ins_one ho1 h1n) rfl) rfl rfl rfl rfl (fun _ => rfl) (fun _ => ?_)
        refine TA.nil (by kernel_rfl) ?_
        refine TE.next ?_
        refine TW.seq ?_
        refine TW.region ?_
        refine TO.y (Y.move rfl) rfl rfl rfl ?_
        refine TO.y (Y.move rfl) rfl rfl rfl ?_
        refine TO.y (Y.fromRaw (lo := I) ke49 (by omega) (by omega) rfl rfl rfl) rfl rfl rfl ?_
        refine TO.y (Y.move rfl) rfl rfl rfl ?_
        refine TO.ef (Ef.rawCopy (sl := v.length) 0 1 ke49 rfl rfl rfl rfl (by omega) (by rw [q3]; exact m1) (by rw [hl2]; exact m3) (by rw [List.drop_zero]; exact ho2) rfl) rfl rfl rfl (fun _ => ?_)
        refine TO.nil ?_
        refine TE.next ?_
        refine TW.seq ?_
        refine TW.region ?_
        refine TO.y (Y.move rfl) rfl rfl rfl ?_
        refine TO.y (Y.assign rfl) rfl rfl rfl ?_
        refine TO.nil ?_
        refine TE.next ?_
        refine TW.ret ?_
        refine TE.then_ret ?_
        refine TE.ghost (Gh.fold (α := Share) (l := s) (k := v) (i := I) [0, 1, 1, 0] rfl h1n (by omega) hc2 q4 q5) (fun _ => ?_)
        exact TE.leaf fun _ _ hf_ hs_ => ret_any (rs := [.tmp 6]) (vs := [.slice (some ⟨b, 0, none⟩) (s.length + v.length) cap]) (.inl rfl) rfl ⟨rfl, trivial⟩ hf_ hs_ ⟨(.slice (some ⟨b, 0, none⟩) (s.length + v.length) cap), rfl, hs_.pulls [0] rfl⟩

/-- loop.example/g00950/impl.ShareSet -/
noncomputable def impl_ShareSet (s : Shares) (tenant : Int) (quota : Int) : Option (Shares × Bool) :=
  (impl_SharesOk s).bind fun R3 =>
  if (!R3) = true then (some ({ Size := (0 : Int), List := ([] : List Share) : Shares }, false))
  else ((impl_copyShares s).bind fun R8 =>
  (impl_shareAt s tenant).bind fun R12 =>
  bindC (if R12.2 = true then ((idx R8.List R12.1).bind fun E19 =>
  some (.go (R8.List.set R12.1.toNat ({ Tenant := tenant, Quota := quota : Share }))))
  else ((slices_Insert_21618 R8.List R12.1 ([{ Tenant := tenant, Quota := quota : Share }])).bind fun R22 =>
  some (.go R22)))
  (fun (T16 : List Share) => (impl_SharesOk ({ Size := R8.Size, List := T16 : Shares })).bind fun R25 =>
  if (!R25) = true then (some (R8, false))
  else (some ({ Size := R8.Size, List := T16 : Shares }, true))))

theorem impl_ShareSet_con (s : Shares) (tenant : Int) (quota : Int) (V_s1 : Value) (r : Shares × Bool) (hm : impl_ShareSet s tenant quota = some r) :
    Con Try.prog 23 [.agg #[.int .i64 s.Size, V_s1], .int .i64 tenant, .int .i64 quota] [] [(V_s1, lc s.List)] (fun X : Value => .tuple #[.agg #[.int .i64 r.1.Size, X], .bool r.2]) (fun X => [.own X (lc r.1.List)]) := by
  refine Con.intro (args := [.agg #[.int .i64 s.Size, V_s1], .int .i64 tenant, .int .i64 quota]) (n := 46) (val := fun r (X : Value) => .tuple #[.agg #[.int .i64 r.1.Size, X], .bool r.2]) (post := fun r X => [.own X (lc r.1.List)]) (m := impl_ShareSet s tenant quota) Try.func23 rfl rfl rfl hm ?_
  intro w S hrd
  have HB_V_s1 := hrd _ (.head _)
  clear hrd
  unfold impl_ShareSet
  refine TW.seq ?_
  refine TW.region ?_
  refine TO.ef (Ef.box rfl (Cel.agg ⟨(One.plain rfl), (One.can (Base.can HB_V_s1)), trivial⟩)) rfl rfl rfl (fun B1 => ?_)
  refine TO.ef (Ef.alloc kz51 rfl) rfl rfl rfl (fun B2 => ?_)
  refine TO.y (Y.assign rfl) rfl rfl rfl ?_
  refine TO.nil ?_
  refine TE.next ?_
  refine TW.seq ?_
  refine TW.seq ?_
  refine TW.region ?_
  refine TO.y (Y.load_box (v := .agg #[.int .i64 s.Size, V_s1]) 1 kk51 rfl rfl rfl) rfl rfl rfl ?_
  refine TO.bind fun R3 H4 => ?_
  refine TO.ef (Ef.call (rest := [.box B2 51 [.int .i64 (0 : Int), .slice none 0 0], .box B1 51 [.int .i64 s.Size, V_s1]]) [0, 0] (impl_SharesOk_con s V_s1 R3 H4) kc55 rfl rfl ⟨(Base.can HB_V_s1), trivial⟩) rfl rfl rfl (fun _ => ?_)
  refine TO.y (Y.not rfl) rfl rfl rfl ?_
  refine TO.nil ?_
  refine TE.next ?_
  refine TW.cond rfl (fun H6 => ?_) (fun H6 => ?_)
  · refine TW.seq ?_
    refine TW.region ?_
    refine TO.y (Y.build (cells := [.int .i64 (0 : Int), .slice none 0 0]) [] kp51 kz51 trivial rfl) rfl rfl rfl ?_
    refine TO.ef0 (Ef.store_box (us := [.int .i64 (0 : Int), .slice none 0 0]) (vs' := [.int .i64 (0 : Int), .slice none 0 0]) (is' := [.box B2 51 [.int .i64 (0 : Int), .slice none 0 0], .box B1 51 [.int .i64 s.Size, V_s1]]) 0 kk51 rfl rfl rfl (Cel.plain rfl rfl) rfl rfl rfl rfl) rfl rfl (fun _ => ?_)
    refine TO.y (Y.assign rfl) rfl rfl rfl ?_
    refine TO.nil ?_
    refine TE.next ?_
    refine TW.ret ?_
    refine TE.then_ret ?_
    exact TE.leaf fun _ _ hf_ hs_ => ret_any (rs := [.cell 6 51, .tmp 7]) (vs := [.agg #[.int .i64 (0 : Int), .slice none 0 0], .bool false]) (.inl rfl) rfl (RV.cell 0 rfl rfl kk51 rfl ⟨rfl, trivial⟩) hf_ hs_ ⟨(.slice none 0 0), rfl, (hs_.nilItem 2).pulls [0] rfl⟩
  · refine TW.skip ?_
    refine TE.next ?_
    refine TW.seq ?_
    refine TW.region ?_
    refine TO.y (Y.load_box (v := .agg #[.int .i64 s.Size, V_s1]) 1 kk51 rfl rfl rfl) rfl rfl rfl ?_
    refine TO.bind fun R8 H9 => ?_
    refine TO.ef (Ef.call (rest := [.box B2 51 [.int .i64 (0 : Int), .slice none 0 0], .box B1 51 [.int .i64 s.Size, V_s1]]) [0, 0] (impl_copyShares_con s V_s1 R8 H9) kc56 rfl rfl ⟨(Base.can HB_V_s1), trivial⟩) rfl rfl rfl (fun Y10 => ?_)
    refine TO.ef (Ef.alloc kz51 rfl) rfl rfl rfl (fun B11 => ?_)
    refine TO.ef0 (Ef.store_box (us := [.int .i64 R8.Size, Y10]) (vs' := [.int .i64 R8.Size, Y10]) (is' := [.box B11 51 [.int .i64 R8.Size, Y10], .own Y10 (lc R8.List), .box B2 51 [.int .i64 (0 : Int), .slice none 0 0], .box B1 51 [.int .i64 s.Size, V_s1]]) 0 kk51 rfl rfl rfl (Cel.agg ⟨(One.plain rfl), (One.can (Can.own 1 rfl)), trivial⟩) rfl rfl rfl rfl) rfl rfl (fun _ => ?_)
    refine TO.nil ?_
    refine TE.next ?_
    refine TW.seq ?_
    refine TW.region ?_
    refine TO.y (Y.load_box (v := .agg #[.int .i64 s.Size, V_s1]) 3 kk51 rfl rfl rfl) rfl rfl rfl ?_
    refine TO.y (Y.move rfl) rfl rfl rfl ?_
    refine TO.bind fun R12 H13 => ?_
    refine TO.ef (Ef.call (rest := [.box B11 51 [.int .i64 R8.Size, Y10], .own Y10 (lc R8.List), .box B2 51 [.int .i64 (0 : Int), .slice none 0 0], .box B1 51 [.int .i64 s.Size, V_s1]]) [0, 0, 0, 0] (impl_shareAt_con s tenant V_s1 R12 H13) kc57 rfl rfl ⟨(Base.can HB_V_s1), trivial⟩) rfl rfl rfl (fun _ => ?_)
    refine TO.y (Y.move rfl) rfl rfl rfl ?_
    refine TO.y (Y.extract rfl rfl) rfl rfl rfl ?_
    refine TO.y (Y.extract rfl rfl) rfl rfl rfl ?_
    refine TO.y (Y.assign rfl) rfl rfl rfl ?_
    refine TO.y (Y.assign rfl) rfl rfl rfl ?_
    refine TO.nil ?_
    refine TE.next ?_
    refine TW.seq ?_
    refine TW.region ?_
    refine TO.y (Y.move rfl) rfl rfl rfl ?_
    refine TO.y (Y.move rfl) rfl rfl rfl ?_
    refine TO.y (Y.build (cells := [.int .i64 tenant, .int .i64 quota]) [(0, [.int .i64 tenant]), (1, [.int .i64 quota])] kp59 kz59 ⟨rfl, ⟨_, rfl, (Cel.plain rfl rfl)⟩, ⟨rfl, ⟨_, rfl, (Cel.plain rfl rfl)⟩, trivial⟩⟩ rfl) rfl rfl rfl ?_
    refine TO.ef (Ef.alloc kz59 rfl) rfl rfl rfl (fun B15 => ?_)
    refine TO.ef0 (Ef.store_box (us := [.int .i64 tenant, .int .i64 quota]) (vs' := [.int .i64 tenant, .int .i64 quota]) (is' := [.box B15 59 [.int .i64 tenant, .int .i64 quota], .box B11 51 [.int .i64 R8.Size, Y10], .own Y10 (lc R8.List), .box B2 51 [.int .i64 (0 : Int), .slice none 0 0], .box B1 51 [.int .i64 s.Size, V_s1]]) 0 kk59 rfl rfl rfl (Cel.plain rfl rfl) rfl rfl rfl rfl) rfl rfl (fun _ => ?_)
    refine TO.nil ?_
    refine TE.next ?_
    refine TW.seq ?_
    refine TW.seq ?_
    refine TW.region ?_
    refine TO.y (Y.move rfl) rfl rfl rfl ?_
    refine TO.nil ?_
    refine TE.next ?_
    refine TW.joinX (τ := List Share) (X := Value) (fun _ _ => [(3, .pointer (some ⟨B1, 0, none⟩)), (6, .pointer (some ⟨B2, 0, none⟩)), (8, .pointer (some ⟨B11, 0, none⟩))]) (fun T X => [.box B1 51 [.int .i64 s.Size, V_s1], .box B2 51 [.int .i64 (0 : Int), .slice none 0 0], .box B11 51 [.int .i64 R8.Size, X], .own X (lc T)]) ?_ (fun T16 X17 => ?_)
    · refine TW.cond rfl (fun H18 => ?_) (fun H18 => ?_)
      · refine TW.region ?_
        refine TO.y (Y.field_box kf51_1 rfl rfl) rfl rfl rfl ?_
        refine TO.y (Y.load_box (v := Y10) 1 kk49 rfl rfl rfl) rfl rfl rfl ?_
        refine TO.y (Y.move rfl) rfl rfl rfl ?_
        refine TO.y (Y.load_box (v := .agg #[.int .i64 tenant, .int .i64 quota]) 0 kk59 rfl rfl rfl) rfl rfl rfl ?_
        refine TO.bind fun E19 H20 => ?_
        refine TO.y (Y.index ke49 (Can.own 2 rfl) H20 rfl rfl) rfl rfl rfl ?_
        refine TO.ef0 (Ef.store_el (us := [.int .i64 tenant, .int .i64 quota]) (is' := [.box B15 59 [.int .i64 tenant, .int .i64 quota], .box B11 51 [.int .i64 R8.Size, Y10], .own Y10 (lc (R8.List.set R12.1.toNat ({ Tenant := tenant, Quota := quota : Share }))), .box B2 51 [.int .i64 (0 : Int), .slice none 0 0], .box B1 51 [.int .i64 s.Size, V_s1]]) ({ Tenant := tenant, Quota := quota : Share }) 2 kk59 rfl rfl (idx_get H20).2.2 rfl rfl (Cel.plain rfl rfl) rfl rfl rfl rfl) rfl rfl (fun _ => ?_)
        refine TO.nil ?_
        exact TE.jn_go Y10 [4, 3, 1, 1] ⟨rfl, rfl, rfl, trivial⟩ rfl
      · refine TW.region ?_
        refine TO.y (Y.field_box kf51_1 rfl rfl) rfl rfl rfl ?_
        refine TO.y (Y.load_box (v := Y10) 1 kk49 rfl rfl rfl) rfl rfl rfl ?_
        refine TO.y (Y.move rfl) rfl rfl rfl ?_
        refine TO.y (Y.load_box (v := .agg #[.int .i64 tenant, .int .i64 quota]) 0 kk59 rfl rfl rfl) rfl rfl rfl ?_
        refine TO.ef (Ef.buildSlice (α := Share) (Vs := [.agg #[.int .i64 tenant, .int .i64 quota]]) [{ Tenant := tenant, Quota := quota : Share }] ke49 kz59 rfl rfl rfl rfl rfl) rfl rfl rfl (fun B21 => ?_)
        refine TO.bind fun R22 H23 => ?_
        refine TO.ef (Ef.call (rest := [.box B15 59 [.int .i64 tenant, .int .i64 quota], .box B11 51 [.int .i64 R8.Size, Y10], .box B2 51 [.int .i64 (0 : Int), .slice none 0 0], .box B1 51 [.int .i64 s.Size, V_s1]]) [3, 0, 0, 0, 0, 0] (slices_Insert_21618_con R8.List R12.1 ([{ Tenant := tenant, Quota := quota : Share }]) Y10 (.slice (some ⟨B21, 0, none⟩) 1 1) R22 H23) kc58 rfl rfl trivial) rfl rfl rfl (fun Y24 => ?_)
        refine TO.y (Y.field_box kf51_1 rfl rfl) rfl rfl rfl ?_
        refine TO.ef0 (Ef.store_box (us := [Y24]) (vs' := [.int .i64 R8.Size, Y24]) (is' := [.own Y24 (lc R22), .box B15 59 [.int .i64 tenant, .int .i64 quota], .box B11 51 [.int .i64 R8.Size, Y24], .box B2 51 [.int .i64 (0 : Int), .slice none 0 0], .box B1 51 [.int .i64 s.Size, V_s1]]) 2 kk49 rfl rfl rfl (Cel.one (One.can (Can.own 0 rfl))) rfl rfl rfl rfl) rfl rfl (fun _ => ?_)
        refine TO.nil ?_
        exact TE.jn_go Y24 [4, 3, 2, 0] ⟨rfl, rfl, rfl, trivial⟩ rfl
    · refine TE.next ?_
      refine TW.seq ?_
      refine TW.seq ?_
      refine TW.region ?_
      refine TO.y (Y.load_box (v := .agg #[.int .i64 R8.Size, X17]) 2 kk51 rfl rfl rfl) rfl rfl rfl ?_
      refine TO.bind fun R25 H26 => ?_
      refine TO.ef (Ef.call (rest := [.box B1 51 [.int .i64 s.Size, V_s1], .box B2 51 [.int .i64 (0 : Int), .slice none 0 0], .box B11 51 [.int .i64 R8.Size, X17], .own X17 (lc T16)]) [0, 0, 0, 0] (impl_SharesOk_con ({ Size := R8.Size, List := T16 : Shares }) X17 R25 H26) kc55 rfl rfl ⟨(Can.own 3 rfl), trivial⟩) rfl rfl rfl (fun _ => ?_)
      refine TO.y (Y.not rfl) rfl rfl rfl ?_
      refine TO.nil ?_
      refine TE.next ?_
      refine TW.cond rfl (fun H28 => ?_) (fun H28 => ?_)
      · refine TW.seq ?_
        refine TW.region ?_
        refine TO.y (Y.load_box (v := .agg #[.int .i64 s.Size, V_s1]) 0 kk51 rfl rfl rfl) rfl rfl rfl ?_
        refine TO.ef (Ef.call (rest := [.box B1 51 [.int .i64 s.Size, V_s1], .box B2 51 [.int .i64 (0 : Int), .slice none 0 0], .box B11 51 [.int .i64 R8.Size, X17], .own X17 (lc T16)]) [0, 0, 0, 0] (impl_copyShares_con s V_s1 R8 H9) kc56 rfl rfl ⟨(Base.can HB_V_s1), trivial⟩) rfl rfl rfl (fun Y29 => ?_)
        refine TO.ef0 (Ef.store_box (us := [.int .i64 R8.Size, Y29]) (vs' := [.int .i64 R8.Size, Y29]) (is' := [.own Y29 (lc R8.List), .box B1 51 [.int .i64 s.Size, V_s1], .box B2 51 [.int .i64 R8.Size, Y29], .box B11 51 [.int .i64 R8.Size, X17], .own X17 (lc T16)]) 2 kk51 rfl rfl rfl (Cel.agg ⟨(One.plain rfl), (One.can (Can.own 0 rfl)), trivial⟩) rfl rfl rfl rfl) rfl rfl (fun _ => ?_)
        refine TO.y (Y.assign rfl) rfl rfl rfl ?_
        refine TO.nil ?_
        refine TE.next ?_
        refine TW.ret ?_
        refine TE.then_ret ?_
        exact TE.leaf fun _ _ hf_ hs_ => ret_any (rs := [.cell 6 51, .tmp 7]) (vs := [.agg #[.int .i64 R8.Size, Y29], .bool false]) (.inl rfl) rfl (RV.cell 2 rfl rfl kk51 rfl ⟨rfl, trivial⟩) hf_ hs_ ⟨Y29, rfl, hs_.pulls [0] rfl⟩
      · refine TW.skip ?_
        refine TE.next ?_
        refine TW.seq ?_
        refine TW.region ?_
        refine TO.y (Y.load_box (v := .agg #[.int .i64 R8.Size, X17]) 2 kk51 rfl rfl rfl) rfl rfl rfl ?_
        refine TO.ef0 (Ef.store_box (us := [.int .i64 R8.Size, X17]) (vs' := [.int .i64 R8.Size, X17]) (is' := [.box B1 51 [.int .i64 s.Size, V_s1], .box B2 51 [.int .i64 R8.Size, X17], .box B11 51 [.int .i64 R8.Size, X17], .own X17 (lc T16)]) 1 kk51 rfl rfl rfl (Cel.agg ⟨(One.plain rfl), (One.can (Can.own 3 rfl)), trivial⟩) rfl rfl rfl rfl) rfl rfl (fun _ => ?_)
        refine TO.y (Y.assign rfl) rfl rfl rfl ?_
        refine TO.nil ?_
        refine TE.next ?_
        refine TW.ret ?_
        exact TE.leaf fun _ _ hf_ hs_ => ret_any (rs := [.cell 6 51, .tmp 7]) (vs := [.agg #[.int .i64 R8.Size, X17], .bool true]) (.inl rfl) rfl (RV.cell 1 rfl rfl kk51 rfl ⟨rfl, trivial⟩) hf_ hs_ ⟨X17, rfl, hs_.pulls [3] rfl⟩

/-- loop.example/g00950/impl.ShareLeft -/
noncomputable def impl_ShareLeft (s : Shares) : Option Int :=
  (impl_SharesOk s).bind fun R2 =>
  if (!R2) = true then (some (0 : Int))
  else ((impl_needOf s).bind fun R6 =>
  some (goMax (IntKind.i64.wrap (s.Size - R6)) (0 : Int)))

theorem impl_ShareLeft_con (s : Shares) (V_s1 : Value) (r : Int) (hm : impl_ShareLeft s = some r) :
    Con Try.prog 26 [.agg #[.int .i64 s.Size, V_s1]] [] [(V_s1, lc s.List)] (fun _ : Unit => .int .i64 r) (fun _ => []) := by
  refine Con.intro (args := [.agg #[.int .i64 s.Size, V_s1]]) (n := 12) (val := fun r (_ : Unit) => .int .i64 r) (post := fun _ _ => []) (m := impl_ShareLeft s) Try.func26 rfl rfl rfl hm ?_
  intro w S hrd
  have HB_V_s1 := hrd _ (.head _)
  clear hrd
  unfold impl_ShareLeft
  refine TW.seq ?_
  refine TW.region ?_
  refine TO.ef (Ef.box rfl (Cel.agg ⟨(One.plain rfl), (One.can (Base.can HB_V_s1)), trivial⟩)) rfl rfl rfl (fun B1 => ?_)
  refine TO.y (Y.assign rfl) rfl rfl rfl ?_
  refine TO.nil ?_
  refine TE.next ?_
  refine TW.seq ?_
  refine TW.seq ?_
  refine TW.region ?_
  refine TO.y (Y.load_box (v := .agg #[.int .i64 s.Size, V_s1]) 0 kk51 rfl rfl rfl) rfl rfl rfl ?_
  refine TO.bind fun R2 H3 => ?_
  refine TO.ef (Ef.call (rest := [.box B1 51 [.int .i64 s.Size, V_s1]]) [0] (impl_SharesOk_con s V_s1 R2 H3) kc55 rfl rfl ⟨(Base.can HB_V_s1), trivial⟩) rfl rfl rfl (fun _ => ?_)
  refine TO.y (Y.not rfl) rfl rfl rfl ?_
  refine TO.nil ?_
  refine TE.next ?_
  refine TW.cond rfl (fun H5 => ?_) (fun H5 => ?_)
  · refine TW.seq ?_
    refine TW.region ?_
    refine TO.y (Y.assign rfl) rfl rfl rfl ?_
    refine TO.nil ?_
    refine TE.next ?_
    refine TW.ret ?_
    refine TE.then_ret ?_
    exact TE.leaf fun _ _ hf_ hs_ => ret_any (rs := [.tmp 2]) (vs := [.int .i64 (0 : Int)]) (.inl rfl) rfl ⟨rfl, trivial⟩ hf_ hs_ ⟨(), rfl, hs_.pulls [] rfl⟩
  · refine TW.skip ?_
    refine TE.next ?_
    refine TW.seq ?_
    refine TW.draw (isH := [.box B1 51 [.int .i64 s.Size, V_s1]]) hMix ?_
    refine TA.y (listed' := #[true, false, false, false, false, false, false]) 0 [0] rfl (Y.field_box kf51_0 rfl rfl) rfl rfl rfl (by kernel_rfl) (by kernel_rfl) (by kernel_rfl) rfl rfl ?_
    refine TA.y (listed' := #[true, true, false, false, false, false, false]) 1 [0] rfl (Y.load_box (v := .int .i64 s.Size) 0 kk3 rfl rfl rfl) rfl rfl rfl (by kernel_rfl) (by kernel_rfl) (by kernel_rfl) rfl rfl ?_
    refine TA.y (listed' := #[true, true, true, false, false, false, false]) 2 [0] rfl (Y.load_box (v := .agg #[.int .i64 s.Size, V_s1]) 0 kk51 rfl rfl rfl) rfl rfl rfl (by kernel_rfl) (by kernel_rfl) (by kernel_rfl) rfl rfl ?_
    refine TA.bind fun R6 H7 => ?_
    refine TA.one 3 (by kernel_rfl) ?_
    refine TX.ef (listed' := #[true, true, true, true, false, false, false]) [0] rfl (Ef.call (rest := [.box B1 51 [.int .i64 s.Size, V_s1]]) [0] (impl_needOf_con s V_s1 R6 H7) kc62 rfl rfl ⟨(Base.can HB_V_s1), trivial⟩) rfl rfl rfl rfl (fun _ => rfl) (fun _ => ?_)
    refine TA.y (listed' := #[true, true, true, true, true, false, false]) 4 [0] rfl (Y.sub rfl rfl) rfl rfl rfl (by kernel_rfl) (by kernel_rfl) (by kernel_rfl) rfl rfl ?_
    refine TA.y (listed' := #[true, true, true, true, true, true, false]) 5 [0] rfl (Y.max2 rfl rfl) rfl rfl rfl (by kernel_rfl) (by kernel_rfl) (by kernel_rfl) rfl rfl ?_
    refine TA.y (listed' := #[true, true, true, true, true, true, true]) 6 [0] rfl (Y.assign rfl) rfl rfl rfl (by kernel_rfl) (by kernel_rfl) (by kernel_rfl) rfl rfl ?_
    refine TA.nil (by kernel_rfl) ?_
    refine TE.next ?_
    refine TW.ret ?_
    exact TE.leaf fun _ _ hf_ hs_ => ret_any (rs := [.tmp 2]) (vs := [.int .i64 (goMax (IntKind.i64.wrap (s.Size - R6)) (0 : Int))]) (.inl rfl) rfl ⟨rfl, trivial⟩ hf_ hs_ ⟨(), rfl, hs_.pulls [] rfl⟩

/-- loop.example/g00950/spec.DrawShareDrop -/
noncomputable def spec_DrawShareDrop (code : List UInt8) : Option (Shares × Int) :=
  (spec_l1New code).bind fun R2 =>
  (spec_l19Some ({ b := code, i := R2.i, h := R2.h : L1Cur })).bind fun R5 =>
  (spec_l1Below ({ b := code, i := R5.2.i, h := R5.2.h : L1Cur }) (6 : Int)).bind fun R9 =>
  some (R5.1, IntKind.i64.wrap ((1 : Int) + R9.1))

theorem spec_DrawShareDrop_con (code : List UInt8) (V_code0 : Value) (r : Shares × Int) (hm : spec_DrawShareDrop code = some r) :
    Con Try.prog 29 [V_code0] [] [(V_code0, lc code)] (fun X : Value => .tuple #[.agg #[.int .i64 r.1.Size, X], .int .i64 r.2]) (fun X => [.own X (lc r.1.List)]) := by
  refine Con.intro (args := [V_code0]) (n := 14) (val := fun r (X : Value) => .tuple #[.agg #[.int .i64 r.1.Size, X], .int .i64 r.2]) (post := fun r X => [.own X (lc r.1.List)]) (m := spec_DrawShareDrop code) Try.func29 rfl rfl rfl hm ?_
  intro w S hrd
  have HB_V_code0 := hrd _ (.head _)
  clear hrd
  unfold spec_DrawShareDrop
  refine TW.seq ?_
  refine TW.region ?_
  refine TO.ef (Ef.alloc kz51 rfl) rfl rfl rfl (fun B1 => ?_)
  refine TO.y (Y.assign rfl) rfl rfl rfl ?_
  refine TO.nil ?_
  refine TE.next ?_
  refine TW.seq ?_
  refine TW.region ?_
  refine TO.y (Y.move rfl) rfl rfl rfl ?_
  refine TO.bind fun R2 H3 => ?_
  refine TO.ef (Ef.call (rest := [.box B1 51 [.int .i64 (0 : Int), .slice none 0 0]]) [0] (spec_l1New_con code V_code0 R2 H3) kc32 rfl rfl ⟨(Base.can HB_V_code0), trivial⟩) rfl rfl rfl (fun Y4 => ?_)
  refine TO.y (Y.assign rfl) rfl rfl rfl ?_
  refine TO.nil ?_
  refine TE.next ?_
  refine TW.seq ?_
  refine TW.region ?_
  refine TO.y (Y.move rfl) rfl rfl rfl ?_
  refine TO.bind fun R5 H6 => ?_
  refine TO.ef (Ef.call (rest := [.box B1 51 [.int .i64 (0 : Int), .slice none 0 0]]) [0, 0] (spec_l19Some_con ({ b := code, i := R2.i, h := R2.h : L1Cur }) V_code0 Y4 R5 H6) kc53 rfl rfl ⟨(Base.can HB_V_code0), trivial⟩) rfl rfl rfl (fun Y7 => ?_)
  refine TO.ef (Ef.alloc kz51 rfl) rfl rfl rfl (fun B8 => ?_)
  refine TO.ef0 (Ef.store_box (us := [.int .i64 R5.1.Size, Y7]) (vs' := [.int .i64 R5.1.Size, Y7]) (is' := [.box B8 51 [.int .i64 R5.1.Size, Y7], .box Y4 94 [V_code0, .int .i64 R5.2.i, .int .i64 R5.2.h], .own Y7 (lc R5.1.List), .box B1 51 [.int .i64 (0 : Int), .slice none 0 0]]) 0 kk51 rfl rfl rfl (Cel.agg ⟨(One.plain rfl), (One.can (Can.own 2 rfl)), trivial⟩) rfl rfl rfl rfl) rfl rfl (fun _ => ?_)
  refine TO.nil ?_
  refine TE.next ?_
  refine TW.seq ?_
  refine TW.draw (isH := [.box B8 51 [.int .i64 R5.1.Size, Y7], .own Y7 (lc R5.1.List)]) hMix ?_
  refine TA.y (listed' := #[true, false, false, false, false, false]) 0 [0, 1] rfl (Y.load_box (v := .agg #[.int .i64 R5.1.Size, Y7]) 0 kk51 rfl rfl rfl) rfl rfl rfl (by kernel_rfl) (by kernel_rfl) (by kernel_rfl) rfl rfl ?_
  refine TA.y (listed' := #[true, true, false, false, false, false]) 1 [0, 1] rfl (Y.move rfl) rfl rfl rfl (by kernel_rfl) (by kernel_rfl) (by kernel_rfl) rfl rfl ?_
  refine TA.bind fun R9 H10 => ?_
  refine TA.one 2 (by kernel_rfl) ?_
  refine TX.ef (listed' := #[true, true, true, false, false, false]) [1, 1] rfl (Ef.call (rest := [.box B8 51 [.int .i64 R5.1.Size, Y7], .own Y7 (lc R5.1.List), .box B1 51 [.int .i64 (0 : Int), .slice none 0 0]]) [1, 0, 0, 0] (spec_l1Below_con ({ b := code, i := R5.2.i, h := R5.2.h : L1Cur }) (6 : Int) V_code0 Y4 R9 H10) kc64 rfl rfl ⟨(Base.can HB_V_code0), trivial⟩) rfl rfl rfl rfl (fun _ => rfl) (fun _ => ?_)
  refine TA.y (listed' := #[true, true, true, true, false, false]) 3 [1, 1] rfl (Y.add rfl rfl) rfl rfl rfl (by kernel_rfl) (by kernel_rfl) (by kernel_rfl) rfl rfl ?_
  refine TA.one 4 (by kernel_rfl) ?_
  refine TX.ef0 (listed' := #[true, true, true, true, true, false]) [1, 1] rfl (Ef.store_box (us := [.int .i64 R5.1.Size, Y7]) (vs' := [.int .i64 R5.1.Size, Y7]) (is' := [.box Y4 94 [V_code0, .int .i64 R9.2.i, .int .i64 R9.2.h], .box B8 51 [.int .i64 R5.1.Size, Y7], .own Y7 (lc R5.1.List), .box B1 51 [.int .i64 R5.1.Size, Y7]]) 3 kk51 rfl rfl rfl (Cel.agg ⟨(One.plain rfl), (One.can (Can.own 2 rfl)), trivial⟩) rfl rfl rfl rfl) rfl rfl rfl (fun _ => rfl) (fun _ => ?_)
  refine TA.y (listed' := #[true, true, true, true, true, true]) 5 [1, 1] rfl (Y.assign rfl) rfl rfl rfl (by kernel_rfl) (by kernel_rfl) (by kernel_rfl) rfl rfl ?_
  refine TA.nil (by kernel_rfl) ?_
  refine TE.next ?_
  refine TW.ret ?_
  exact TE.leaf fun _ _ hf_ hs_ => ret_any (rs := [.cell 2 51, .tmp 3]) (vs := [.agg #[.int .i64 R5.1.Size, Y7], .int .i64 (IntKind.i64.wrap ((1 : Int) + R9.1))]) (.inl rfl) rfl (RV.cell 3 rfl rfl kk51 rfl ⟨rfl, trivial⟩) hf_ hs_ ⟨Y7, rfl, hs_.pulls [2] rfl⟩

/-- slices.Delete[[]loop.example/g00950/impl.Share,loop.example/g00950/impl.Share] -/
noncomputable def slices_Delete_21618 (s : List Share) (i : Int) (j : Int) : Option (List Share) :=
  (piece s i j).bind fun E1 =>
  if (decide (i = j)) = true then (some s)
  else ((piece s (0 : Int) i).bind fun E5 =>
  (piece s j ((s.length : Nat) : Int)).bind fun E7 =>
  some (E5 ++ E7))

theorem slices_Delete_21618_con (s : List Share) (i : Int) (j : Int) (V_s0 : Value) (r : List Share) (hm : slices_Delete_21618 s i j = some r) :
    Con Try.prog 65 [V_s0, .int .i64 i, .int .i64 j] [.own V_s0 (lc s)] [] (fun X : Value => X) (fun X => [.own X (lc r)]) := by
  refine Con.intro (args := [V_s0, .int .i64 i, .int .i64 j]) (n := 33) (val := fun _ (X : Value) => X) (post := fun r X => [.own X (lc r)]) (m := slices_Delete_21618 s i j) Try.func65 rfl rfl rfl hm ?_
  intro w S _
  unfold slices_Delete_21618
  refine TW.seq ?_
  refine TW.region ?_
  refine TO.y (Y.assign rfl) rfl rfl rfl ?_
  refine TO.nil ?_
  refine TE.next ?_
  refine TW.seq ?_
  refine TW.region ?_
  refine TO.y (Y.move rfl) rfl rfl rfl ?_
  refine TO.y (Y.move rfl) rfl rfl rfl ?_
  refine TO.y (Y.move rfl) rfl rfl rfl ?_
  refine TO.y (Y.move rfl) rfl rfl rfl ?_
  refine TO.y (Y.len (l := s) ke49 (Can.own 0 rfl) rfl) rfl rfl rfl ?_
  refine TO.bind fun E1 H2 => ?_
  refine TO.fact (Can.cap (Can.own 0 rfl)) fun H3 => ?_
  refine TO.y (Y.subs3 H2 ke49 (Can.own 0 rfl) rfl rfl rfl rfl) rfl rfl rfl ?_
  refine TO.nil ?_
  refine TE.next ?_
  refine TW.seq ?_
  refine TW.seq ?_
  refine TW.region ?_
  refine TO.y (Y.move rfl) rfl rfl rfl ?_
  refine TO.y (Y.move rfl) rfl rfl rfl ?_
  refine TO.y (Y.eql rfl rfl) rfl rfl rfl ?_
  refine TO.nil ?_
  refine TE.next ?_
  refine TW.cond rfl (fun H4 => ?_) (fun H4 => ?_)
  · refine TW.seq ?_
    refine TW.region ?_
    refine TO.y (Y.move rfl) rfl rfl rfl ?_
    refine TO.y (Y.assign rfl) rfl rfl rfl ?_
    refine TO.nil ?_
    refine TE.next ?_
    refine TW.ret ?_
    refine TE.then_ret ?_
    exact TE.leaf fun _ _ hf_ hs_ => ret_any (rs := [.tmp 6]) (vs := [V_s0]) (.inl rfl) rfl ⟨rfl, trivial⟩ hf_ hs_ ⟨V_s0, rfl, hs_.pulls [0] rfl⟩
  · refine TW.skip ?_
    refine TE.next ?_
    refine TW.seq ?_
    refine TW.region ?_
    refine TO.y (Y.move rfl) rfl rfl rfl ?_
    refine TO.y (Y.len (l := s) ke49 (Can.own 0 rfl) rfl) rfl rfl rfl ?_
    refine TO.y (Y.assign rfl) rfl rfl rfl ?_
    refine TO.nil ?_
    refine TE.next ?_
    refine TW.seq ?_
    refine TW.bind fun E5 H6 => ?_
    refine TW.bind fun E7 H8 => ?_
    refine TW.joinU (X := Unit) (fun _ _ => [(0, delV V_s0 (E5 ++ E7).length), (7, .int .i64 ((s.length : Nat) : Int))]) (fun _ _ => [.own (delV V_s0 (E5 ++ E7).length) (lc (E5 ++ E7))]) ?_ (fun _ X10 => ?_)
    · refine TW.draw (isH := []) hMix ?_
      refine TA.y (listed' := #[true, false, false, false, false, false, false, false]) 0 [] rfl (Y.move rfl) rfl rfl rfl (by kernel_rfl) (by kernel_rfl) (by kernel_rfl) rfl rfl ?_
      refine TA.y (listed' := #[true, true, false, false, false, false, false, false]) 1 [] rfl (Y.move rfl) rfl rfl rfl (by kernel_rfl) (by kernel_rfl) (by kernel_rfl) rfl rfl ?_
      refine TA.y (listed' := #[true, true, false, true, false, false, false, false]) 3 [] rfl (Y.move rfl) rfl rfl rfl (by kernel_rfl) (by kernel_rfl) (by kernel_rfl) rfl rfl ?_
      refine TA.y (listed' := #[true, true, false, true, true, false, false, false]) 4 [] rfl (Y.move rfl) rfl rfl rfl (by kernel_rfl) (by kernel_rfl) (by kernel_rfl) rfl rfl ?_
      refine TA.two 2 5 (by kernel_rfl) ?_ ?_
      · refine TX.y (listed' := #[true, true, true, true, true, false, false, false]) [] rfl (Y.subs H6 ke49 (Can.own 0 rfl) rfl rfl ⟨_, rfl⟩) rfl rfl rfl rfl rfl ?_
        refine TA.one 5 (by kernel_rfl) ?_
        refine TX.y (listed' := #[true, true, true, true, true, true, false, false]) [] rfl (Y.subs H8 ke49 (Can.own 0 rfl) rfl ⟨_, rfl⟩ rfl) rfl rfl rfl rfl rfl ?_
        refine TA.one 6 (by kernel_rfl) ?_
        refine TX.ef (listed' := #[true, true, true, true, true, true, true, false]) [] rfl (Ef.del (α := Share) (is' := []) [0] H2 H6 H8 ke49 rfl rfl rfl rfl) rfl rfl rfl rfl (fun _ => rfl) (fun _ => ?_)
        refine TA.y (listed' := #[true, true, true, true, true, true, true, true]) 7 [] rfl (Y.assign rfl) rfl rfl rfl (by kernel_rfl) (by kernel_rfl) (by kernel_rfl) rfl rfl ?_
        refine TA.nil (by kernel_rfl) ?_
        exact TE.jb_go () [0] ⟨rfl, rfl, trivial⟩ rfl
      · refine TX.y (listed' := #[true, true, false, true, true, true, false, false]) [] rfl (Y.subs H8 ke49 (Can.own 0 rfl) rfl ⟨_, rfl⟩ rfl) rfl rfl rfl rfl rfl ?_
        refine TA.one 2 (by kernel_rfl) ?_
        refine TX.y (listed' := #[true, true, true, true, true, true, false, false]) [] rfl (Y.subs H6 ke49 (Can.own 0 rfl) rfl rfl ⟨_, rfl⟩) rfl rfl rfl rfl rfl ?_
        refine TA.one 6 (by kernel_rfl) ?_
        refine TX.ef (listed' := #[true, true, true, true, true, true, true, false]) [] rfl (Ef.del (α := Share) (is' := []) [0] H2 H6 H8 ke49 rfl rfl rfl rfl) rfl rfl rfl rfl (fun _ => rfl) (fun _ => ?_)
        refine TA.y (listed' := #[true, true, true, true, true, true, true, true]) 7 [] rfl (Y.assign rfl) rfl rfl rfl (by kernel_rfl) (by kernel_rfl) (by kernel_rfl) rfl rfl ?_
        refine TA.nil (by kernel_rfl) ?_
        exact TE.jb_go () [0] ⟨rfl, rfl, trivial⟩ rfl
    · refine TE.next ?_
      refine TW.seq ?_
      refine TW.region ?_
      refine TO.y (Y.move rfl) rfl rfl rfl ?_
      refine TO.y (Y.move rfl) rfl rfl rfl ?_
      refine TO.y (Y.len (l := (E5 ++ E7)) ke49 (Can.own 0 rfl) rfl) rfl rfl rfl ?_
      refine TO.y (Y.move rfl) rfl rfl rfl ?_
      refine TO.y (Y.tail (hi := s.length) H3 (del_le H2 H6 H8) ke49 rfl rfl rfl) rfl rfl rfl ?_
      refine TO.ef0 (Ef.clearTail (k := 0) H3 (del_le H2 H6 H8) ke49 kz59 rfl rfl rfl rfl) rfl rfl (fun _ => ?_)
      refine TO.nil ?_
      refine TE.next ?_
      refine TW.seq ?_
      refine TW.region ?_
      refine TO.y (Y.move rfl) rfl rfl rfl ?_
      refine TO.y (Y.assign rfl) rfl rfl rfl ?_
      refine TO.nil ?_
      refine TE.next ?_
      refine TW.ret ?_
      exact TE.leaf fun _ _ hf_ hs_ => ret_any (rs := [.tmp 6]) (vs := [delV V_s0 (E5 ++ E7).length]) (.inl rfl) rfl ⟨rfl, trivial⟩ hf_ hs_ ⟨(delV V_s0 (E5 ++ E7).length), rfl, hs_.pulls [0] rfl⟩

/-- loop.example/g00950/impl.ShareDrop -/
noncomputable def impl_ShareDrop (s : Shares) (tenant : Int) : Option (Shares × Bool) :=
  (impl_SharesOk s).bind fun R3 =>
  if (!R3) = true then (some ({ Size := (0 : Int), List := ([] : List Share) : Shares }, false))
  else ((impl_copyShares s).bind fun R8 =>
  (impl_shareAt s tenant).bind fun R12 =>
  if (!R12.2) = true then (some (R8, false))
  else ((slices_Delete_21618 R8.List R12.1 (IntKind.i64.wrap (R12.1 + (1 : Int)))).bind fun R16 =>
  some ({ Size := R8.Size, List := R16 : Shares }, true)))

theorem impl_ShareDrop_con (s : Shares) (tenant : Int) (V_s1 : Value) (r : Shares × Bool) (hm : impl_ShareDrop s tenant = some r) :
    Con Try.prog 30 [.agg #[.int .i64 s.Size, V_s1], .int .i64 tenant] [] [(V_s1, lc s.List)] (fun X : Value => .tuple #[.agg #[.int .i64 r.1.Size, X], .bool r.2]) (fun X => [.own X (lc r.1.List)]) := by
  refine Con.intro (args := [.agg #[.int .i64 s.Size, V_s1], .int .i64 tenant]) (n := 32) (val := fun r (X : Value) => .tuple #[.agg #[.int .i64 r.1.Size, X], .bool r.2]) (post := fun r X => [.own X (lc r.1.List)]) (m := impl_ShareDrop s tenant) Try.func30 rfl rfl rfl hm ?_
  intro w S hrd
  have HB_V_s1 := hrd _ (.head _)
  clear hrd
  unfold impl_ShareDrop
  refine TW.seq ?_
  refine TW.region ?_
  refine TO.ef (Ef.box rfl (Cel.agg ⟨(One.plain rfl), (One.can (Base.can HB_V_s1)), trivial⟩)) rfl rfl rfl (fun B1 => ?_)
  refine TO.ef (Ef.alloc kz51 rfl) rfl rfl rfl (fun B2 => ?_)
  refine TO.y (Y.assign rfl) rfl rfl rfl ?_
  refine TO.nil ?_
  refine TE.next ?_
  refine TW.seq ?_
  refine TW.seq ?_
  refine TW.region ?_
  refine TO.y (Y.load_box (v := .agg #[.int .i64 s.Size, V_s1]) 1 kk51 rfl rfl rfl) rfl rfl rfl ?_
  refine TO.bind fun R3 H4 => ?_
  refine TO.ef (Ef.call (rest := [.box B2 51 [.int .i64 (0 : Int), .slice none 0 0], .box B1 51 [.int .i64 s.Size, V_s1]]) [0, 0] (impl_SharesOk_con s V_s1 R3 H4) kc55 rfl rfl ⟨(Base.can HB_V_s1), trivial⟩) rfl rfl rfl (fun _ => ?_)
  refine TO.y (Y.not rfl) rfl rfl rfl ?_
  refine TO.nil ?_
  refine TE.next ?_
  refine TW.cond rfl (fun H6 => ?_) (fun H6 => ?_)
  · refine TW.seq ?_
    refine TW.region ?_
    refine TO.y (Y.build (cells := [.int .i64 (0 : Int), .slice none 0 0]) [] kp51 kz51 trivial rfl) rfl rfl rfl ?_
    refine TO.ef0 (Ef.store_box (us := [.int .i64 (0 : Int), .slice none 0 0]) (vs' := [.int .i64 (0 : Int), .slice none 0 0]) (is' := [.box B2 51 [.int .i64 (0 : Int), .slice none 0 0], .box B1 51 [.int .i64 s.Size, V_s1]]) 0 kk51 rfl rfl rfl (Cel.plain rfl rfl) rfl rfl rfl rfl) rfl rfl (fun _ => ?_)
    refine TO.y (Y.assign rfl) rfl rfl rfl ?_
    refine TO.nil ?_
    refine TE.next ?_
    refine TW.ret ?_
    refine TE.then_ret ?_
    exact TE.leaf fun _ _ hf_ hs_ => ret_any (rs := [.cell 4 51, .tmp 5]) (vs := [.agg #[.int .i64 (0 : Int), .slice none 0 0], .bool false]) (.inl rfl) rfl (RV.cell 0 rfl rfl kk51 rfl ⟨rfl, trivial⟩) hf_ hs_ ⟨(.slice none 0 0), rfl, (hs_.nilItem 2).pulls [0] rfl⟩
  · refine TW.skip ?_
    refine TE.next ?_
    refine TW.seq ?_
    refine TW.region ?_
    refine TO.y (Y.load_box (v := .agg #[.int .i64 s.Size, V_s1]) 1 kk51 rfl rfl rfl) rfl rfl rfl ?_
    refine TO.bind fun R8 H9 => ?_
    refine TO.ef (Ef.call (rest := [.box B2 51 [.int .i64 (0 : Int), .slice none 0 0], .box B1 51 [.int .i64 s.Size, V_s1]]) [0, 0] (impl_copyShares_con s V_s1 R8 H9) kc56 rfl rfl ⟨(Base.can HB_V_s1), trivial⟩) rfl rfl rfl (fun Y10 => ?_)
    refine TO.ef (Ef.alloc kz51 rfl) rfl rfl rfl (fun B11 => ?_)
    refine TO.ef0 (Ef.store_box (us := [.int .i64 R8.Size, Y10]) (vs' := [.int .i64 R8.Size, Y10]) (is' := [.box B11 51 [.int .i64 R8.Size, Y10], .own Y10 (lc R8.List), .box B2 51 [.int .i64 (0 : Int), .slice none 0 0], .box B1 51 [.int .i64 s.Size, V_s1]]) 0 kk51 rfl rfl rfl (Cel.agg ⟨(One.plain rfl), (One.can (Can.own 1 rfl)), trivial⟩) rfl rfl rfl rfl) rfl rfl (fun _ => ?_)
    refine TO.nil ?_
    refine TE.next ?_
    refine TW.seq ?_
    refine TW.region ?_
    refine TO.y (Y.load_box (v := .agg #[.int .i64 s.Size, V_s1]) 3 kk51 rfl rfl rfl) rfl rfl rfl ?_
    refine TO.y (Y.move rfl) rfl rfl rfl ?_
    refine TO.bind fun R12 H13 => ?_
    refine TO.ef (Ef.call (rest := [.box B11 51 [.int .i64 R8.Size, Y10], .own Y10 (lc R8.List), .box B2 51 [.int .i64 (0 : Int), .slice none 0 0], .box B1 51 [.int .i64 s.Size, V_s1]]) [0, 0, 0, 0] (impl_shareAt_con s tenant V_s1 R12 H13) kc57 rfl rfl ⟨(Base.can HB_V_s1), trivial⟩) rfl rfl rfl (fun _ => ?_)
    refine TO.y (Y.move rfl) rfl rfl rfl ?_
    refine TO.y (Y.extract rfl rfl) rfl rfl rfl ?_
    refine TO.y (Y.extract rfl rfl) rfl rfl rfl ?_
    refine TO.y (Y.assign rfl) rfl rfl rfl ?_
    refine TO.y (Y.assign rfl) rfl rfl rfl ?_
    refine TO.nil ?_
    refine TE.next ?_
    refine TW.seq ?_
    refine TW.seq ?_
    refine TW.region ?_
    refine TO.y (Y.move rfl) rfl rfl rfl ?_
    refine TO.y (Y.not rfl) rfl rfl rfl ?_
    refine TO.nil ?_
    refine TE.next ?_
    refine TW.cond rfl (fun H15 => ?_) (fun H15 => ?_)
    · refine TW.seq ?_
      refine TW.region ?_
      refine TO.y (Y.load_box (v := .agg #[.int .i64 R8.Size, Y10]) 0 kk51 rfl rfl rfl) rfl rfl rfl ?_
      refine TO.ef0 (Ef.store_box (us := [.int .i64 R8.Size, Y10]) (vs' := [.int .i64 R8.Size, Y10]) (is' := [.box B11 51 [.int .i64 R8.Size, Y10], .own Y10 (lc R8.List), .box B2 51 [.int .i64 R8.Size, Y10], .box B1 51 [.int .i64 s.Size, V_s1]]) 2 kk51 rfl rfl rfl (Cel.agg ⟨(One.plain rfl), (One.can (Can.own 1 rfl)), trivial⟩) rfl rfl rfl rfl) rfl rfl (fun _ => ?_)
      refine TO.y (Y.assign rfl) rfl rfl rfl ?_
      refine TO.nil ?_
      refine TE.next ?_
      refine TW.ret ?_
      refine TE.then_ret ?_
      exact TE.leaf fun _ _ hf_ hs_ => ret_any (rs := [.cell 4 51, .tmp 5]) (vs := [.agg #[.int .i64 R8.Size, Y10], .bool false]) (.inl rfl) rfl (RV.cell 2 rfl rfl kk51 rfl ⟨rfl, trivial⟩) hf_ hs_ ⟨Y10, rfl, hs_.pulls [1] rfl⟩
    · refine TW.skip ?_
      refine TE.next ?_
      refine TW.seq ?_
      refine TW.region ?_
      refine TO.y (Y.field_box kf51_1 rfl rfl) rfl rfl rfl ?_
      refine TO.y (Y.load_box (v := Y10) 0 kk49 rfl rfl rfl) rfl rfl rfl ?_
      refine TO.y (Y.move rfl) rfl rfl rfl ?_
      refine TO.y (Y.move rfl) rfl rfl rfl ?_
      refine TO.y (Y.add rfl rfl) rfl rfl rfl ?_
      refine TO.bind fun R16 H17 => ?_
      refine TO.ef (Ef.call (rest := [.box B11 51 [.int .i64 R8.Size, Y10], .box B2 51 [.int .i64 (0 : Int), .slice none 0 0], .box B1 51 [.int .i64 s.Size, V_s1]]) [1, 0, 0, 0] (slices_Delete_21618_con R8.List R12.1 (IntKind.i64.wrap (R12.1 + (1 : Int))) Y10 R16 H17) kc65 rfl rfl trivial) rfl rfl rfl (fun Y18 => ?_)
      refine TO.y (Y.field_box kf51_1 rfl rfl) rfl rfl rfl ?_
      refine TO.ef0 (Ef.store_box (us := [Y18]) (vs' := [.int .i64 R8.Size, Y18]) (is' := [.own Y18 (lc R16), .box B11 51 [.int .i64 R8.Size, Y18], .box B2 51 [.int .i64 (0 : Int), .slice none 0 0], .box B1 51 [.int .i64 s.Size, V_s1]]) 1 kk49 rfl rfl rfl (Cel.one (One.can (Can.own 0 rfl))) rfl rfl rfl rfl) rfl rfl (fun _ => ?_)
      refine TO.nil ?_
      refine TE.next ?_
      refine TW.seq ?_
      refine TW.region ?_
      refine TO.y (Y.load_box (v := .agg #[.int .i64 R8.Size, Y18]) 1 kk51 rfl rfl rfl) rfl rfl rfl ?_
      refine TO.ef0 (Ef.store_box (us := [.int .i64 R8.Size, Y18]) (vs' := [.int .i64 R8.Size, Y18]) (is' := [.own Y18 (lc R16), .box B11 51 [.int .i64 R8.Size, Y18], .box B2 51 [.int .i64 R8.Size, Y18], .box B1 51 [.int .i64 s.Size, V_s1]]) 2 kk51 rfl rfl rfl (Cel.agg ⟨(One.plain rfl), (One.can (Can.own 0 rfl)), trivial⟩) rfl rfl rfl rfl) rfl rfl (fun _ => ?_)
      refine TO.y (Y.assign rfl) rfl rfl rfl ?_
      refine TO.nil ?_
      refine TE.next ?_
      refine TW.ret ?_
      exact TE.leaf fun _ _ hf_ hs_ => ret_any (rs := [.cell 4 51, .tmp 5]) (vs := [.agg #[.int .i64 R8.Size, Y18], .bool true]) (.inl rfl) rfl (RV.cell 2 rfl rfl kk51 rfl ⟨rfl, trivial⟩) hf_ hs_ ⟨Y18, rfl, hs_.pulls [0] rfl⟩

/-- loop.example/g00950/spec.ShareDrop -/
noncomputable def spec_ShareDrop (s : Shares) (tenant : Int) : Option (Shares × Bool) :=
  (spec_SharesOk s).bind fun R3 =>
  if (!R3) = true then (some ({ Size := (0 : Int), List := ([] : List Share) : Shares }, false))
  else (bindC (loopO (fun (S9 : Int × List Share) => if (decide (S9.1 < ((s.List.length : Nat) : Int))) = true then ((idx s.List S9.1).bind fun E14 =>
  bindC (if (!(decide (E14.Tenant = tenant))) = true then ((app 16 S9.2 ([E14])).bind fun E22 =>
  some (.go E22))
  else (some (.go S9.2)))
  (fun (T16 : List Share) => some (.go (IntKind.i64.wrap (S9.1 + (1 : Int)), T16))))
  else (some (.done (.go S9.2))))
  ((0 : Int), ([] : List Share)))
  (fun (T11 : List Share) => if (decide (((T11.length : Nat) : Int) = ((s.List.length : Nat) : Int))) = true then ((spec_l19Copy s).bind fun R28 =>
  some (R28, false))
  else (some ({ Size := s.Size, List := T11 : Shares }, true))))

theorem spec_ShareDrop_con (s : Shares) (tenant : Int) (V_s1 : Value) (r : Shares × Bool) (hm : spec_ShareDrop s tenant = some r) :
    Con Try.prog 31 [.agg #[.int .i64 s.Size, V_s1], .int .i64 tenant] [] [(V_s1, lc s.List)] (fun X : Value => .tuple #[.agg #[.int .i64 r.1.Size, X], .bool r.2]) (fun X => [.own X (lc r.1.List)]) := by
  refine Con.intro (args := [.agg #[.int .i64 s.Size, V_s1], .int .i64 tenant]) (n := 50) (val := fun r (X : Value) => .tuple #[.agg #[.int .i64 r.1.Size, X], .bool r.2]) (post := fun r X => [.own X (lc r.1.List)]) (m := spec_ShareDrop s tenant) Try.func31 rfl rfl rfl hm ?_
  intro w S hrd
  have HB_V_s1 := hrd _ (.head _)
  clear hrd
  unfold spec_ShareDrop
  refine TW.seq ?_
  refine TW.region ?_
  refine TO.ef (Ef.box rfl (Cel.agg ⟨(One.plain rfl), (One.can (Base.can HB_V_s1)), trivial⟩)) rfl rfl rfl (fun B1 => ?_)
  refine TO.ef (Ef.alloc kz51 rfl) rfl rfl rfl (fun B2 => ?_)
  refine TO.y (Y.assign rfl) rfl rfl rfl ?_
  refine TO.nil ?_
  refine TE.next ?_
  refine TW.seq ?_
  refine TW.seq ?_
  refine TW.region ?_
  refine TO.y (Y.load_box (v := .agg #[.int .i64 s.Size, V_s1]) 1 kk51 rfl rfl rfl) rfl rfl rfl ?_
  refine TO.bind fun R3 H4 => ?_
  refine TO.ef (Ef.call (rest := [.box B2 51 [.int .i64 (0 : Int), .slice none 0 0], .box B1 51 [.int .i64 s.Size, V_s1]]) [0, 0] (spec_SharesOk_con s V_s1 R3 H4) kc25 rfl rfl ⟨(Base.can HB_V_s1), trivial⟩) rfl rfl rfl (fun _ => ?_)
  refine TO.y (Y.not rfl) rfl rfl rfl ?_
  refine TO.nil ?_
  refine TE.next ?_
  refine TW.cond rfl (fun H6 => ?_) (fun H6 => ?_)
  · refine TW.seq ?_
    refine TW.region ?_
    refine TO.y (Y.build (cells := [.int .i64 (0 : Int), .slice none 0 0]) [] kp51 kz51 trivial rfl) rfl rfl rfl ?_
    refine TO.ef0 (Ef.store_box (us := [.int .i64 (0 : Int), .slice none 0 0]) (vs' := [.int .i64 (0 : Int), .slice none 0 0]) (is' := [.box B2 51 [.int .i64 (0 : Int), .slice none 0 0], .box B1 51 [.int .i64 s.Size, V_s1]]) 0 kk51 rfl rfl rfl (Cel.plain rfl rfl) rfl rfl rfl rfl) rfl rfl (fun _ => ?_)
    refine TO.y (Y.assign rfl) rfl rfl rfl ?_
    refine TO.nil ?_
    refine TE.next ?_
    refine TW.ret ?_
    refine TE.then_ret ?_
    exact TE.leaf fun _ _ hf_ hs_ => ret_any (rs := [.cell 4 51, .tmp 5]) (vs := [.agg #[.int .i64 (0 : Int), .slice none 0 0], .bool false]) (.inl rfl) rfl (RV.cell 0 rfl rfl kk51 rfl ⟨rfl, trivial⟩) hf_ hs_ ⟨(.slice none 0 0), rfl, (hs_.nilItem 2).pulls [0] rfl⟩
  · refine TW.skip ?_
    refine TE.next ?_
    refine TW.seq ?_
    refine TW.region ?_
    refine TO.y (Y.field_box kf51_0 rfl rfl) rfl rfl rfl ?_
    refine TO.y (Y.load_box (v := .int .i64 s.Size) 1 kk3 rfl rfl rfl) rfl rfl rfl ?_
    refine TO.y (Y.build (cells := [.int .i64 s.Size, .slice none 0 0]) [(0, [.int .i64 s.Size])] kp51 kz51 ⟨rfl, ⟨_, rfl, (Cel.plain rfl rfl)⟩, trivial⟩ rfl) rfl rfl rfl ?_
    refine TO.ef (Ef.alloc kz51 rfl) rfl rfl rfl (fun B8 => ?_)
    refine TO.ef0 (Ef.store_box (us := [.int .i64 s.Size, .slice none 0 0]) (vs' := [.int .i64 s.Size, .slice none 0 0]) (is' := [.box B8 51 [.int .i64 s.Size, .slice none 0 0], .box B2 51 [.int .i64 (0 : Int), .slice none 0 0], .box B1 51 [.int .i64 s.Size, V_s1]]) 0 kk51 rfl rfl rfl (Cel.plain rfl rfl) rfl rfl rfl rfl) rfl rfl (fun _ => ?_)
    refine TO.nil ?_
    refine TE.next ?_
    refine TW.seq ?_
    refine TW.seq ?_
    refine TW.region ?_
    refine TO.y (Y.assign rfl) rfl rfl rfl ?_
    refine TO.nil ?_
    refine TE.next ?_
    refine TW.joinX (τ := List Share) (X := Value) (fun _ _ => [(2, .pointer (some ⟨B1, 0, none⟩)), (4, .pointer (some ⟨B2, 0, none⟩)), (6, .pointer (some ⟨B8, 0, none⟩))]) (fun T X => [.box B1 51 [.int .i64 s.Size, V_s1], .box B2 51 [.int .i64 (0 : Int), .slice none 0 0], .box B8 51 [.int .i64 s.Size, X], .own X (lc T)]) ?_ (fun T11 X12 => ?_)
    · refine TW.block ?_
      refine TW.nilItem 2 ?_
      refine TW.loopX (σ := Int × List Share) (X := Value) (fun T _ => [(1, .int .i64 tenant), (2, .pointer (some ⟨B1, 0, none⟩)), (4, .pointer (some ⟨B2, 0, none⟩)), (6, .pointer (some ⟨B8, 0, none⟩)), (7, .int .i64 T.1)]) (fun T X => [.box B1 51 [.int .i64 s.Size, V_s1], .box B2 51 [.int .i64 (0 : Int), .slice none 0 0], .box B8 51 [.int .i64 s.Size, X], .own X (lc T.2)]) (.slice none 0 0) [3, 2, 1, 0] ⟨rfl, rfl, rfl, rfl, rfl, trivial⟩ rfl (fun S9 X10 => ?_)
      refine TW.seq ?_
      refine TW.seq ?_
      refine TW.region ?_
      refine TO.y (Y.move rfl) rfl rfl rfl ?_
      refine TO.y (Y.field_box kf51_1 rfl rfl) rfl rfl rfl ?_
      refine TO.y (Y.load_box (v := V_s1) 0 kk49 rfl rfl rfl) rfl rfl rfl ?_
      refine TO.y (Y.len (l := s.List) ke49 (Base.can HB_V_s1) rfl) rfl rfl rfl ?_
      refine TO.y (Y.lss rfl rfl) rfl rfl rfl ?_
      refine TO.nil ?_
      refine TE.next ?_
      refine TW.cond rfl (fun H13 => ?_) (fun H13 => ?_)
      · refine TW.skip ?_
        refine TE.next ?_
        refine TW.seq ?_
        refine TW.block ?_
        refine TW.seq ?_
        refine TW.region ?_
        refine TO.y (Y.field_box kf51_1 rfl rfl) rfl rfl rfl ?_
        refine TO.y (Y.load_box (v := V_s1) 0 kk49 rfl rfl rfl) rfl rfl rfl ?_
        refine TO.y (Y.move rfl) rfl rfl rfl ?_
        refine TO.bind fun E14 H15 => ?_
        refine TO.y (Y.index ke49 (Base.can HB_V_s1) H15 rfl rfl) rfl rfl rfl ?_
        refine TO.y (Y.field_el kf59_0 (Base.can HB_V_s1) (idx_get H15).2.2 rfl rfl) rfl rfl rfl ?_
        refine TO.y (Y.load_el (us := [.int .i64 E14.Tenant]) (u := .int .i64 E14.Tenant) kk3 rfl (Base.can HB_V_s1) (idx_get H15).2.2 rfl rfl rfl rfl rfl) rfl rfl rfl ?_
        refine TO.y (Y.move rfl) rfl rfl rfl ?_
        refine TO.y (Y.neq rfl rfl) rfl rfl rfl ?_
        refine TO.nil ?_
        refine TE.next ?_
        refine TW.joinX (τ := List Share) (X := Value) (fun _ _ => [(1, .int .i64 tenant), (2, .pointer (some ⟨B1, 0, none⟩)), (4, .pointer (some ⟨B2, 0, none⟩)), (6, .pointer (some ⟨B8, 0, none⟩)), (7, .int .i64 S9.1)]) (fun T X => [.box B1 51 [.int .i64 s.Size, V_s1], .box B2 51 [.int .i64 (0 : Int), .slice none 0 0], .box B8 51 [.int .i64 s.Size, X], .own X (lc T)]) ?_ (fun T16 X17 => ?_)
        · refine TW.cond rfl (fun H18 => ?_) (fun H18 => ?_)
          · refine TW.bind fun E22 H23 => ?_
            refine TW.joinU (X := Value) (fun _ _ => [(1, .int .i64 tenant), (2, .pointer (some ⟨B1, 0, none⟩)), (4, .pointer (some ⟨B2, 0, none⟩)), (6, .pointer (some ⟨B8, 0, none⟩)), (7, .int .i64 S9.1)]) (fun _ X => [.box B1 51 [.int .i64 s.Size, V_s1], .box B2 51 [.int .i64 (0 : Int), .slice none 0 0], .box B8 51 [.int .i64 s.Size, X], .own X (lc E22)]) ?_ (fun _ X25 => ?_)
            · refine TW.draw (isH := [.box B1 51 [.int .i64 s.Size, V_s1], .box B2 51 [.int .i64 (0 : Int), .slice none 0 0]]) hMix ?_
              refine TA.y (listed' := #[true, false, false, false, false, false, false, false, false, false, false]) 0 [0, 0] rfl (Y.field_box kf51_1 rfl rfl) rfl rfl rfl (by kernel_rfl) (by kernel_rfl) (by kernel_rfl) rfl rfl ?_
              refine TA.y (listed' := #[true, false, true, false, false, false, false, false, false, false, false]) 2 [0, 0] rfl (Y.field_box kf51_1 rfl rfl) rfl rfl rfl (by kernel_rfl) (by kernel_rfl) (by kernel_rfl) rfl rfl ?_
              refine TA.y (listed' := #[true, false, true, true, false, false, false, false, false, false, false]) 3 [0, 0] rfl (Y.load_box (v := V_s1) 0 kk49 rfl rfl rfl) rfl rfl rfl (by kernel_rfl) (by kernel_rfl) (by kernel_rfl) rfl rfl ?_
              refine TA.y (listed' := #[true, false, true, true, true, false, false, false, false, false, false]) 4 [0, 0] rfl (Y.move rfl) rfl rfl rfl (by kernel_rfl) (by kernel_rfl) (by kernel_rfl) rfl rfl ?_
              refine TA.y (listed' := #[true, false, true, true, true, true, false, false, false, false, false]) 5 [0, 0] rfl (Y.index ke49 (Base.can HB_V_s1) H15 rfl rfl) rfl rfl rfl (by kernel_rfl) (by kernel_rfl) (by kernel_rfl) rfl rfl ?_
              refine TA.y (listed' := #[true, false, true, true, true, true, true, false, false, false, false]) 6 [0, 0] rfl (Y.load_el (us := [.int .i64 E14.Tenant, .int .i64 E14.Quota]) (u := .agg #[.int .i64 E14.Tenant, .int .i64 E14.Quota]) kk59 rfl (Base.can HB_V_s1) (idx_get H15).2.2 rfl rfl rfl rfl rfl) rfl rfl rfl (by kernel_rfl) (by kernel_rfl) (by kernel_rfl) rfl rfl ?_
              refine TA.two 1 7 (by kernel_rfl) ?_ ?_
              · refine TX.y (listed' := #[true, true, true, true, true, true, true, false, false, false, false]) [0, 0] rfl (Y.load_box (v := X10) 2 kk49 rfl rfl rfl) rfl rfl rfl rfl rfl ?_
                refine TA.one 7 (by kernel_rfl) ?_
                refine TX.ef (listed' := #[true, true, true, true, true, true, true, true, false, false, false]) [1, 1] rfl (Ef.buildSlice (α := Share) (Vs := [.agg #[.int .i64 E14.Tenant, .int .i64 E14.Quota]]) [E14] ke49 kz59 rfl rfl rfl rfl rfl) rfl rfl rfl rfl (fun _ => rfl) (fun B27 => ?_)
                refine TA.one 8 (by kernel_rfl) ?_
                refine TX.ef (listed' := #[true, true, true, true, true, true, true, true, true, false, false]) [2, 2] rfl (Ef.append (α := Share) (is' := [.own (.slice (some ⟨B27, 0, none⟩) 1 1) (lc ([E14])), .box B1 51 [.int .i64 s.Size, V_s1], .box B2 51 [.int .i64 (0 : Int), .slice none 0 0], .box B8 51 [.int .i64 s.Size, X10]]) [4, 0, 0, 0, 0] H23 ke49 kz59 rfl rfl rfl rfl rfl (Can.own 0 rfl)) rfl rfl rfl rfl (fun _ => rfl) (fun V28 => ?_)
                refine TA.y (listed' := #[true, true, true, true, true, true, true, true, true, true, false]) 9 [2, 2] rfl (Y.field_box kf51_1 rfl rfl) rfl rfl rfl (by kernel_rfl) (by kernel_rfl) (by kernel_rfl) rfl rfl ?_
                refine TA.one 10 (by kernel_rfl) ?_
                refine TX.ef0 (listed' := #[true, true, true, true, true, true, true, true, true, true, true]) [2, 2] rfl (Ef.store_box (us := [V28]) (vs' := [.int .i64 s.Size, V28]) (is' := [.own V28 (lc E22), .own (.slice (some ⟨B27, 0, none⟩) 1 1) (lc ([E14])), .box B1 51 [.int .i64 s.Size, V_s1], .box B2 51 [.int .i64 (0 : Int), .slice none 0 0], .box B8 51 [.int .i64 s.Size, V28]]) 4 kk49 rfl rfl rfl (Cel.one (One.can (Can.own 0 rfl))) rfl rfl rfl rfl) rfl rfl rfl (fun _ => rfl) (fun _ => ?_)
                refine TA.nil (by kernel_rfl) ?_
                exact TE.jb_go V28 [2, 2, 2, 0] ⟨rfl, rfl, rfl, rfl, rfl, trivial⟩ rfl
              · refine TX.ef (listed' := #[true, false, true, true, true, true, true, true, false, false, false]) [1, 1] rfl (Ef.buildSlice (α := Share) (Vs := [.agg #[.int .i64 E14.Tenant, .int .i64 E14.Quota]]) [E14] ke49 kz59 rfl rfl rfl rfl rfl) rfl rfl rfl rfl (fun _ => rfl) (fun B26 => ?_)
                refine TA.one 1 (by kernel_rfl) ?_
                refine TX.y (listed' := #[true, true, true, true, true, true, true, true, false, false, false]) [1, 1] rfl (Y.load_box (v := X10) 3 kk49 rfl rfl rfl) rfl rfl rfl rfl rfl ?_
                refine TA.one 8 (by kernel_rfl) ?_
                refine TX.ef (listed' := #[true, true, true, true, true, true, true, true, true, false, false]) [2, 2] rfl (Ef.append (α := Share) (is' := [.own (.slice (some ⟨B26, 0, none⟩) 1 1) (lc ([E14])), .box B1 51 [.int .i64 s.Size, V_s1], .box B2 51 [.int .i64 (0 : Int), .slice none 0 0], .box B8 51 [.int .i64 s.Size, X10]]) [4, 0, 0, 0, 0] H23 ke49 kz59 rfl rfl rfl rfl rfl (Can.own 0 rfl)) rfl rfl rfl rfl (fun _ => rfl) (fun V27 => ?_)
                refine TA.y (listed' := #[true, true, true, true, true, true, true, true, true, true, false]) 9 [2, 2] rfl (Y.field_box kf51_1 rfl rfl) rfl rfl rfl (by kernel_rfl) (by kernel_rfl) (by kernel_rfl) rfl rfl ?_
                refine TA.one 10 (by kernel_rfl) ?_
                refine TX.ef0 (listed' := #[true, true, true, true, true, true, true, true, true, true, true]) [2, 2] rfl (Ef.store_box (us := [V27]) (vs' := [.int .i64 s.Size, V27]) (is' := [.own V27 (lc E22), .own (.slice (some ⟨B26, 0, none⟩) 1 1) (lc ([E14])), .box B1 51 [.int .i64 s.Size, V_s1], .box B2 51 [.int .i64 (0 : Int), .slice none 0 0], .box B8 51 [.int .i64 s.Size, V27]]) 4 kk49 rfl rfl rfl (Cel.one (One.can (Can.own 0 rfl))) rfl rfl rfl rfl) rfl rfl rfl (fun _ => rfl) (fun _ => ?_)
                refine TA.nil (by kernel_rfl) ?_
                exact TE.jb_go V27 [2, 2, 2, 0] ⟨rfl, rfl, rfl, rfl, rfl, trivial⟩ rfl
            · exact TE.jn_go X25 [0, 0, 0, 0] ⟨rfl, rfl, rfl, rfl, rfl, trivial⟩ rfl
          · refine TW.skip ?_
            exact TE.jn_go X10 [0, 0, 0, 0] ⟨rfl, rfl, rfl, rfl, rfl, trivial⟩ rfl
        · refine TE.block_normal ?_
          refine TE.next ?_
          refine TW.region ?_
          refine TO.y (Y.move rfl) rfl rfl rfl ?_
          refine TO.y (Y.add rfl rfl) rfl rfl rfl ?_
          refine TO.y (Y.assign rfl) rfl rfl rfl ?_
          refine TO.nil ?_
          exact TE.lp_go X17 [0, 0, 0, 0] ⟨rfl, rfl, rfl, rfl, rfl, trivial⟩ rfl
      · refine TW.exit ?_
        refine TE.then_exit ?_
        refine TE.lp_exit ?_
        refine TE.block_exit ?_
        exact TE.jn_go X10 [0, 0, 0, 0] ⟨rfl, rfl, rfl, trivial⟩ rfl
    · refine TE.next ?_
      refine TW.seq ?_
      refine TW.seq ?_
      refine TW.region ?_
      refine TO.y (Y.field_box kf51_1 rfl rfl) rfl rfl rfl ?_
      refine TO.y (Y.load_box (v := X12) 2 kk49 rfl rfl rfl) rfl rfl rfl ?_
      refine TO.y (Y.len (l := T11) ke49 (Can.own 3 rfl) rfl) rfl rfl rfl ?_
      refine TO.y (Y.field_box kf51_1 rfl rfl) rfl rfl rfl ?_
      refine TO.y (Y.load_box (v := V_s1) 0 kk49 rfl rfl rfl) rfl rfl rfl ?_
      refine TO.y (Y.len (l := s.List) ke49 (Base.can HB_V_s1) rfl) rfl rfl rfl ?_
      refine TO.y (Y.eql rfl rfl) rfl rfl rfl ?_
      refine TO.nil ?_
      refine TE.next ?_
      refine TW.cond rfl (fun H27 => ?_) (fun H27 => ?_)
      · refine TW.seq ?_
        refine TW.region ?_
        refine TO.y (Y.load_box (v := .agg #[.int .i64 s.Size, V_s1]) 0 kk51 rfl rfl rfl) rfl rfl rfl ?_
        refine TO.bind fun R28 H29 => ?_
        refine TO.ef (Ef.call (rest := [.box B1 51 [.int .i64 s.Size, V_s1], .box B2 51 [.int .i64 (0 : Int), .slice none 0 0], .box B8 51 [.int .i64 s.Size, X12], .own X12 (lc T11)]) [0, 0, 0, 0] (spec_l19Copy_con s V_s1 R28 H29) kc59 rfl rfl ⟨(Base.can HB_V_s1), trivial⟩) rfl rfl rfl (fun Y30 => ?_)
        refine TO.ef0 (Ef.store_box (us := [.int .i64 R28.Size, Y30]) (vs' := [.int .i64 R28.Size, Y30]) (is' := [.own Y30 (lc R28.List), .box B1 51 [.int .i64 s.Size, V_s1], .box B2 51 [.int .i64 R28.Size, Y30], .box B8 51 [.int .i64 s.Size, X12], .own X12 (lc T11)]) 2 kk51 rfl rfl rfl (Cel.agg ⟨(One.plain rfl), (One.can (Can.own 0 rfl)), trivial⟩) rfl rfl rfl rfl) rfl rfl (fun _ => ?_)
        refine TO.y (Y.assign rfl) rfl rfl rfl ?_
        refine TO.nil ?_
        refine TE.next ?_
        refine TW.ret ?_
        refine TE.then_ret ?_
        exact TE.leaf fun _ _ hf_ hs_ => ret_any (rs := [.cell 4 51, .tmp 5]) (vs := [.agg #[.int .i64 R28.Size, Y30], .bool false]) (.inl rfl) rfl (RV.cell 2 rfl rfl kk51 rfl ⟨rfl, trivial⟩) hf_ hs_ ⟨Y30, rfl, hs_.pulls [0] rfl⟩
      · refine TW.skip ?_
        refine TE.next ?_
        refine TW.seq ?_
        refine TW.region ?_
        refine TO.y (Y.load_box (v := .agg #[.int .i64 s.Size, X12]) 2 kk51 rfl rfl rfl) rfl rfl rfl ?_
        refine TO.ef0 (Ef.store_box (us := [.int .i64 s.Size, X12]) (vs' := [.int .i64 s.Size, X12]) (is' := [.box B1 51 [.int .i64 s.Size, V_s1], .box B2 51 [.int .i64 s.Size, X12], .box B8 51 [.int .i64 s.Size, X12], .own X12 (lc T11)]) 1 kk51 rfl rfl rfl (Cel.agg ⟨(One.plain rfl), (One.can (Can.own 3 rfl)), trivial⟩) rfl rfl rfl rfl) rfl rfl (fun _ => ?_)
        refine TO.y (Y.assign rfl) rfl rfl rfl ?_
        refine TO.nil ?_
        refine TE.next ?_
        refine TW.ret ?_
        exact TE.leaf fun _ _ hf_ hs_ => ret_any (rs := [.cell 4 51, .tmp 5]) (vs := [.agg #[.int .i64 s.Size, X12], .bool true]) (.inl rfl) rfl (RV.cell 1 rfl rfl kk51 rfl ⟨rfl, trivial⟩) hf_ hs_ ⟨X12, rfl, hs_.pulls [3] rfl⟩

end Go.Proofs.Ytahennbogdbnmaa
