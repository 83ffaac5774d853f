/-
  The functions that a law reaches, each as a pure function, with the proof that the program computes it, and the step from a pure law to the given statement. Conditions: none.
-/
import Derived.Test.YtnfejohfdkoibaaG2
set_option linter.unusedVariables false
set_option maxRecDepth 100000
set_option maxHeartbeats 4000000
namespace Go.Proofs.Ytnfejohfdkoibaa
open Go Sl

/-- slices.SortStableFunc[[]loop.example/g00950/impl.Ent,loop.example/g00950/impl.Ent] -/
noncomputable def slices_SortStableFunc_94167_at_impl_compareEnts (x : List Ent) : Option (List Ent) :=
  (slices_stableCmpFunc_57869_at_impl_compareEnts x ((x.length : Nat) : Int)).bind fun R1 =>
  some R1

theorem slices_SortStableFunc_94167_at_impl_compareEnts_con (x : List Ent) (V_x0 : Value) (r : List Ent) (hm : slices_SortStableFunc_94167_at_impl_compareEnts x = some r) :
    Con Try.prog 58 [V_x0, .func (.func 59) #[] #[]] [.own V_x0 (lc x)] [] (fun _ : Unit => .tuple #[]) (fun _ => [.own V_x0 (lc r)]) := by
  refine Con.intro (args := [V_x0, .func (.func 59) #[] #[]]) (n := 9) (val := fun _ (_ : Unit) => .tuple #[]) (post := fun r _ => [.own V_x0 (lc r)]) (m := slices_SortStableFunc_94167_at_impl_compareEnts x) Try.func58 rfl rfl rfl hm ?_
  intro w S _
  unfold slices_SortStableFunc_94167_at_impl_compareEnts
  refine TW.region ?_
  refine TO.y (Y.move rfl) rfl rfl rfl ?_
  refine TO.y (Y.move rfl) rfl rfl rfl ?_
  refine TO.y (Y.len (l := x) ke30 (Can.own 0 rfl) rfl) rfl rfl rfl ?_
  refine TO.y (Y.move rfl) rfl rfl rfl ?_
  refine TO.bind fun R1 H2 => ?_
  refine TO.ef (Ef.call (rest := []) [0] (slices_stableCmpFunc_57869_at_impl_compareEnts_con x ((x.length : Nat) : Int) V_x0 R1 H2) kc66 rfl rfl trivial) rfl rfl rfl (fun _ => ?_)
  refine TO.nil ?_
  exact TE.leaf fun _ _ hf_ hs_ => ret_any (rs := []) (vs := []) (.inr rfl) rfl trivial hf_ hs_ ⟨(), rfl, hs_.pulls [0] rfl⟩

/-- loop.example/g00950/impl.merged$1 -/
noncomputable def impl_merged_1 (a : Ent) (b : Ent) : Option Bool :=
  (if (decide (a.Key = b.Key)) = true then (some (decide (a.Seq = b.Seq)))
  else (some false)).bind (fun (T3 : Bool) =>
  some T3)

theorem impl_merged_1_con (a : Ent) (b : Ent)  (r : Bool) (hm : impl_merged_1 a b = some r) :
    Con Try.prog 62 [.agg #[strV a.Key, .int .i64 a.Seq, .bool a.Del, strV a.Val], .agg #[strV b.Key, .int .i64 b.Seq, .bool b.Del, strV b.Val]] [] [] (fun _ : Unit => .bool r) (fun _ => []) := by
  refine Con.intro (args := [.agg #[strV a.Key, .int .i64 a.Seq, .bool a.Del, strV a.Val], .agg #[strV b.Key, .int .i64 b.Seq, .bool b.Del, strV b.Val]]) (n := 17) (val := fun r (_ : Unit) => .bool r) (post := fun _ _ => []) (m := impl_merged_1 a b) Try.func62 rfl rfl rfl hm ?_
  intro w S _
  unfold impl_merged_1
  refine TW.seq ?_
  refine TW.region ?_
  refine TO.ef (Ef.box rfl (Cel.plain rfl rfl)) rfl rfl rfl (fun B1 => ?_)
  refine TO.ef (Ef.box rfl (Cel.plain rfl rfl)) rfl rfl rfl (fun B2 => ?_)
  refine TO.y (Y.assign rfl) rfl rfl rfl ?_
  refine TO.nil ?_
  refine TE.next ?_
  refine TW.seq ?_
  refine TW.joinBX (τ := Bool) (X := Unit) (fun T _ => [(4, .bool T)]) (fun _ _ => []) ?_ (fun T3 X4 => ?_)
  ·refine TW.region ?_
   refine TO.y (Y.field_box kf48_0 rfl rfl) rfl rfl rfl ?_
   refine TO.y (Y.load_box (v := strV a.Key) 1 kk9 rfl rfl rfl) rfl rfl rfl ?_
   refine TO.y (Y.field_box kf48_0 rfl rfl) rfl rfl rfl ?_
   refine TO.y (Y.load_box (v := strV b.Key) 0 kk9 rfl rfl rfl) rfl rfl rfl ?_
   refine TO.y (Y.seql rfl rfl) rfl rfl rfl ?_
   refine TO.y (Y.move rfl) rfl rfl rfl ?_
   refine TO.ite (b := decide (a.Key = b.Key)) (fun H5 => ?_) (fun H5 => ?_)
   ·refine TO.y (Y.field_box kf48_1 rfl rfl) (Gd.at 5 true 10 (decide (a.Key = b.Key)) rfl rfl rfl (beq_tt H5)) rfl rfl ?_
    refine TO.y (Y.load_box (v := .int .i64 a.Seq) 1 kk3 rfl rfl rfl) (Gd.at 5 true 10 (decide (a.Key = b.Key)) rfl rfl rfl (beq_tt H5)) rfl rfl ?_
    refine TO.y (Y.field_box kf48_1 rfl rfl) (Gd.at 5 true 10 (decide (a.Key = b.Key)) rfl rfl rfl (beq_tt H5)) rfl rfl ?_
    refine TO.y (Y.load_box (v := .int .i64 b.Seq) 0 kk3 rfl rfl rfl) (Gd.at 5 true 10 (decide (a.Key = b.Key)) rfl rfl rfl (beq_tt H5)) rfl rfl ?_
    refine TO.y (Y.eql rfl rfl) (Gd.at 5 true 10 (decide (a.Key = b.Key)) rfl rfl rfl (beq_tt H5)) rfl rfl ?_
    refine TO.y (Y.pick_t H5 rfl rfl) rfl rfl rfl ?_
    refine TO.y (Y.assign rfl) rfl rfl rfl ?_
    refine TO.nil ?_
    exact TE.jb_go () [] ⟨rfl, trivial⟩ rfl
   refine TO.off (Gd.at 5 true 10 (decide (a.Key = b.Key)) rfl rfl rfl (beq_ft H5)) rfl rfl ?_
   refine TO.off (Gd.at 5 true 10 (decide (a.Key = b.Key)) rfl rfl rfl (beq_ft H5)) rfl rfl ?_
   refine TO.off (Gd.at 5 true 10 (decide (a.Key = b.Key)) rfl rfl rfl (beq_ft H5)) rfl rfl ?_
   refine TO.off (Gd.at 5 true 10 (decide (a.Key = b.Key)) rfl rfl rfl (beq_ft H5)) rfl rfl ?_
   refine TO.off (Gd.at 5 true 10 (decide (a.Key = b.Key)) rfl rfl rfl (beq_ft H5)) rfl rfl ?_
   refine TO.y (Y.pick_f H5 rfl rfl) rfl rfl rfl ?_
   refine TO.y (Y.assign rfl) rfl rfl rfl ?_
   refine TO.nil ?_
   exact TE.jb_go () [] ⟨rfl, trivial⟩ rfl
  refine TE.next ?_
  refine TW.ret ?_
  exact TE.leaf fun _ _ hf_ hs_ => ret_any (rs := [.tmp 4]) (vs := [.bool T3]) (.inl rfl) rfl ⟨rfl, trivial⟩ hf_ hs_ ⟨(), rfl, hs_.pulls [] rfl⟩

/-- slices.CompactFunc[[]loop.example/g00950/impl.Ent,loop.example/g00950/impl.Ent] -/
noncomputable def slices_CompactFunc_94167_at_impl_merged_1 (s : List Ent) : Option (List Ent) :=
  if (decide (((s.length : Nat) : Int) < (2 : Int))) = true then (some s)
  else (bindC (loopO (fun (S2 : Int) => if (decide (S2 < ((s.length : Nat) : Int))) = true then ((idx s S2).bind fun E7 =>
  (idx s (IntKind.i64.wrap (S2 - (1 : Int)))).bind fun E9 =>
  (impl_merged_1 E7 E9).bind fun R11 =>
  if R11 = true then ((piece s S2 ((s.length : Nat) : Int)).bind fun E15 =>
  bindC (loopO (fun (S17 : Int × Int × List Ent) => (piece S17.2.2 S2 ((s.length : Nat) : Int)).bind fun E21 =>
  if (decide (S17.2.1 < ((E21.length : Nat) : Int))) = true then ((idx E21 S17.2.1).bind fun E24 =>
  (idx E21 (IntKind.i64.wrap (S17.2.1 - (1 : Int)))).bind fun E26 =>
  (impl_merged_1 E24 E26).bind fun R28 =>
  bindC (if (!R28) = true then ((idx S17.2.2 S17.1).bind fun E34 =>
  some (.go (IntKind.i64.wrap (S17.1 + (1 : Int)), (S17.2.2.set S17.1.toNat E24))))
  else (some (.go (S17.1, S17.2.2))))
  (fun (T31 : Int × List Ent) => some (.go (T31.1, IntKind.i64.wrap (S17.2.1 + (1 : Int)), T31.2))))
  else (some (.done (.go (S17.1, S17.2.2)))))
  (S2, (1 : Int), s))
  (fun (T19 : Int × List Ent) => (piece T19.2 T19.1 ((T19.2.length : Nat) : Int)).bind fun E36 =>
  (piece T19.2 (0 : Int) T19.1).bind fun E38 =>
  some (.done (.done E38))))
  else (some (.go (IntKind.i64.wrap (S2 + (1 : Int))))))
  else (some (.done (.go ()))))
  (1 : Int))
  (fun (T4 : Unit) => some s))

theorem slices_CompactFunc_94167_at_impl_merged_1_con (s : List Ent) (V_s0 : Value) (r : List Ent) (hm : slices_CompactFunc_94167_at_impl_merged_1 s = some r) :
    Con Try.prog 61 [V_s0, .func (.func 62) #[] #[]] [.own V_s0 (lc s)] [] (fun X : Value => X) (fun X => [.own X (lc r)]) := by
  refine Con.intro (args := [V_s0, .func (.func 62) #[] #[]]) (n := 66) (val := fun _ (X : Value) => X) (post := fun r X => [.own X (lc r)]) (m := slices_CompactFunc_94167_at_impl_merged_1 s) Try.func61 rfl rfl rfl hm ?_
  intro w S _
  unfold slices_CompactFunc_94167_at_impl_merged_1
  refine TW.seq ?_
  refine TW.region ?_
  refine TO.y (Y.assign rfl) rfl rfl rfl ?_
  refine TO.nil ?_
  refine TE.next ?_
  refine TW.seq ?_
  refine TW.seq ?_
  refine TW.region ?_
  refine TO.y (Y.move rfl) rfl rfl rfl ?_
  refine TO.y (Y.len (l := s) ke30 (Can.own 0 rfl) rfl) rfl rfl rfl ?_
  refine TO.y (Y.lss rfl rfl) rfl rfl rfl ?_
  refine TO.nil ?_
  refine TE.next ?_
  refine TW.cond rfl (fun H1 => ?_) (fun H1 => ?_)
  ·refine TW.seq ?_
   refine TW.region ?_
   refine TO.y (Y.move rfl) rfl rfl rfl ?_
   refine TO.y (Y.assign rfl) rfl rfl rfl ?_
   refine TO.nil ?_
   refine TE.next ?_
   refine TW.ret ?_
   refine TE.then_ret ?_
   exact TE.leaf fun _ _ hf_ hs_ => ret_any (rs := [.tmp 4]) (vs := [V_s0]) (.inl rfl) rfl ⟨rfl, trivial⟩ hf_ hs_ ⟨V_s0, rfl, hs_.pulls [0] rfl⟩
  refine TW.skip ?_
  refine TE.next ?_
  refine TW.seq ?_
  refine TW.seq ?_
  refine TW.region ?_
  refine TO.y (Y.assign rfl) rfl rfl rfl ?_
  refine TO.nil ?_
  refine TE.next ?_
  refine TW.joinX (τ := Unit) (X := Unit) (fun _ _ => [(0, V_s0)]) (fun _ _ => [.own V_s0 (lc s)]) ?_ (fun T4 X5 => ?_)
  ·refine TW.block ?_
   refine TW.loopX (σ := Int) (X := Unit) (fun T _ => [(0, V_s0), (1, .func (.func 62) #[] #[]), (5, .int .i64 T)]) (fun _ _ => [.own V_s0 (lc s)]) () [0] ⟨rfl, rfl, rfl, trivial⟩ rfl (fun S2 X3 => ?_)
   refine TW.seq ?_
   refine TW.seq ?_
   refine TW.region ?_
   refine TO.y (Y.move rfl) rfl rfl rfl ?_
   refine TO.y (Y.move rfl) rfl rfl rfl ?_
   refine TO.y (Y.len (l := s) ke30 (Can.own 0 rfl) rfl) rfl rfl rfl ?_
   refine TO.y (Y.lss rfl rfl) rfl rfl rfl ?_
   refine TO.nil ?_
   refine TE.next ?_
   refine TW.cond rfl (fun H6 => ?_) (fun H6 => ?_)
   ·refine TW.skip ?_
    refine TE.next ?_
    refine TW.seq ?_
    refine TW.block ?_
    refine TW.seq ?_
    refine TW.draw (isH := [.own V_s0 (lc s)]) hMix ?_
    refine TA.y 0 [0] rfl (Y.move rfl) rfl rfl rfl (by kernel_rfl) rfl ?_
    refine TA.y 1 [0] rfl (Y.move rfl) rfl rfl rfl (by kernel_rfl) rfl ?_
    refine TA.y 2 [0] rfl (Y.move rfl) rfl rfl rfl (by kernel_rfl) rfl ?_
    refine TA.bind fun E7 H8 => ?_
    refine TA.y 3 [0] rfl (Y.index ke30 (Can.own 0 rfl) H8 rfl rfl) rfl rfl rfl (by kernel_rfl) rfl ?_
    refine TA.y 4 [0] rfl (Y.load_el (us := [strV E7.Key, .int .i64 E7.Seq, .bool E7.Del, strV E7.Val]) (u := .agg #[strV E7.Key, .int .i64 E7.Seq, .bool E7.Del, strV E7.Val]) kk48 rfl (Can.own 0 rfl) (idx_get H8).2.2 rfl rfl rfl rfl rfl) rfl rfl rfl (by kernel_rfl) rfl ?_
    refine TA.y 5 [0] rfl (Y.move rfl) rfl rfl rfl (by kernel_rfl) rfl ?_
    refine TA.y 6 [0] rfl (Y.move rfl) rfl rfl rfl (by kernel_rfl) rfl ?_
    refine TA.y 7 [0] rfl (Y.sub rfl rfl) rfl rfl rfl (by kernel_rfl) rfl ?_
    refine TA.bind fun E9 H10 => ?_
    refine TA.y 8 [0] rfl (Y.index ke30 (Can.own 0 rfl) H10 rfl rfl) rfl rfl rfl (by kernel_rfl) rfl ?_
    refine TA.y 9 [0] rfl (Y.load_el (us := [strV E9.Key, .int .i64 E9.Seq, .bool E9.Del, strV E9.Val]) (u := .agg #[strV E9.Key, .int .i64 E9.Seq, .bool E9.Del, strV E9.Val]) kk48 rfl (Can.own 0 rfl) (idx_get H10).2.2 rfl rfl rfl rfl rfl) rfl rfl rfl (by kernel_rfl) rfl ?_
    refine TA.bind fun R11 H12 => ?_
    refine TA.one 10 (by kernel_rfl) ?_
    refine TX.ef [0] rfl (Ef.callv (rest := [.own V_s0 (lc s)]) [0] (impl_merged_1_con E7 E9  R11 H12) kc62 rfl rfl rfl rfl trivial) rfl rfl rfl (fun _ => rfl) (fun _ => ?_)
    refine TA.nil (by kernel_rfl) ?_
    refine TE.next ?_
    refine TW.cond rfl (fun H14 => ?_) (fun H14 => ?_)
    ·refine TW.seq ?_
     refine TW.region ?_
     refine TO.y (Y.move rfl) rfl rfl rfl ?_
     refine TO.y (Y.move rfl) rfl rfl rfl ?_
     refine TO.bind fun E15 H16 => ?_
     refine TO.y (Y.subs H16 ke30 (Can.own 0 rfl) rfl ⟨_, rfl⟩ rfl) rfl rfl rfl ?_
     refine TO.y (Y.assign rfl) rfl rfl rfl ?_
     refine TO.nil ?_
     refine TE.next ?_
     refine TW.seq ?_
     refine TW.seq ?_
     refine TW.region ?_
     refine TO.y (Y.assign rfl) rfl rfl rfl ?_
     refine TO.nil ?_
     refine TE.next ?_
     refine TW.joinX (τ := Int × List Ent) (X := Unit) (fun T _ => [(0, V_s0), (5, .int .i64 T.1)]) (fun T _ => [.own V_s0 (lc T.2)]) ?_ (fun T19 X20 => ?_)
     ·refine TW.block ?_
      refine TW.loopX (σ := Int × Int × List Ent) (X := Unit) (fun T _ => [(0, V_s0), (1, .func (.func 62) #[] #[]), (5, .int .i64 T.1), (6, subV V_s0 4 S2.toNat (((s.length : Nat) : Int).toNat - S2.toNat)), (7, .int .i64 T.2.1)]) (fun T _ => [.own V_s0 (lc T.2.2)]) () [0] ⟨rfl, rfl, rfl, rfl, rfl, trivial⟩ rfl (fun S17 X18 => ?_)
      refine TW.seq ?_
      refine TW.seq ?_
      refine TW.region ?_
      refine TO.y (Y.move rfl) rfl rfl rfl ?_
      refine TO.y (Y.move rfl) rfl rfl rfl ?_
      refine TO.bind fun E21 H22 => ?_
      refine TO.y (Y.len (l := E21) ke30 (Can.sub H22 rfl (Can.own 0 rfl)) rfl) rfl rfl rfl ?_
      refine TO.y (Y.lss rfl rfl) rfl rfl rfl ?_
      refine TO.nil ?_
      refine TE.next ?_
      refine TW.cond rfl (fun H23 => ?_) (fun H23 => ?_)
      ·refine TW.skip ?_
       refine TE.next ?_
       refine TW.seq ?_
       refine TW.block ?_
       refine TW.seq ?_
       refine TW.draw (isH := [.own V_s0 (lc S17.2.2)]) hMix ?_
       refine TA.y 0 [0] rfl (Y.move rfl) rfl rfl rfl (by kernel_rfl) rfl ?_
       refine TA.y 1 [0] rfl (Y.move rfl) rfl rfl rfl (by kernel_rfl) rfl ?_
       refine TA.y 2 [0] rfl (Y.move rfl) rfl rfl rfl (by kernel_rfl) rfl ?_
       refine TA.bind fun E24 H25 => ?_
       refine TA.y 3 [0] rfl (Y.index ke30 (Can.sub H22 rfl (Can.own 0 rfl)) H25 rfl rfl) rfl rfl rfl (by kernel_rfl) rfl ?_
       refine TA.y 4 [0] rfl (Y.load_el (us := [strV E24.Key, .int .i64 E24.Seq, .bool E24.Del, strV E24.Val]) (u := .agg #[strV E24.Key, .int .i64 E24.Seq, .bool E24.Del, strV E24.Val]) kk48 rfl (Can.sub H22 rfl (Can.own 0 rfl)) (idx_get H25).2.2 rfl rfl rfl rfl rfl) rfl rfl rfl (by kernel_rfl) rfl ?_
       refine TA.y 5 [0] rfl (Y.move rfl) rfl rfl rfl (by kernel_rfl) rfl ?_
       refine TA.y 6 [0] rfl (Y.move rfl) rfl rfl rfl (by kernel_rfl) rfl ?_
       refine TA.y 7 [0] rfl (Y.sub rfl rfl) rfl rfl rfl (by kernel_rfl) rfl ?_
       refine TA.bind fun E26 H27 => ?_
       refine TA.y 8 [0] rfl (Y.index ke30 (Can.sub H22 rfl (Can.own 0 rfl)) H27 rfl rfl) rfl rfl rfl (by kernel_rfl) rfl ?_
       refine TA.y 9 [0] rfl (Y.load_el (us := [strV E26.Key, .int .i64 E26.Seq, .bool E26.Del, strV E26.Val]) (u := .agg #[strV E26.Key, .int .i64 E26.Seq, .bool E26.Del, strV E26.Val]) kk48 rfl (Can.sub H22 rfl (Can.own 0 rfl)) (idx_get H27).2.2 rfl rfl rfl rfl rfl) rfl rfl rfl (by kernel_rfl) rfl ?_
       refine TA.bind fun R28 H29 => ?_
       refine TA.one 10 (by kernel_rfl) ?_
       refine TX.ef [0] rfl (Ef.callv (rest := [.own V_s0 (lc S17.2.2)]) [0] (impl_merged_1_con E24 E26  R28 H29) kc62 rfl rfl rfl rfl trivial) rfl rfl rfl (fun _ => rfl) (fun _ => ?_)
       refine TA.y 11 [0] rfl (Y.not rfl) rfl rfl rfl (by kernel_rfl) rfl ?_
       refine TA.nil (by kernel_rfl) ?_
       refine TE.next ?_
       refine TW.joinX (τ := Int × List Ent) (X := Unit) (fun T _ => [(0, V_s0), (1, .func (.func 62) #[] #[]), (5, .int .i64 T.1), (6, subV V_s0 4 S2.toNat (((s.length : Nat) : Int).toNat - S2.toNat)), (7, .int .i64 S17.2.1)]) (fun T _ => [.own V_s0 (lc T.2)]) ?_ (fun T31 X32 => ?_)
       ·refine TW.cond rfl (fun H33 => ?_) (fun H33 => ?_)
        ·refine TW.seq ?_
         refine TW.region ?_
         refine TO.y (Y.move rfl) rfl rfl rfl ?_
         refine TO.y (Y.move rfl) rfl rfl rfl ?_
         refine TO.y (Y.move rfl) rfl rfl rfl ?_
         refine TO.y (Y.move rfl) rfl rfl rfl ?_
         refine TO.y (Y.index ke30 (Can.sub H22 rfl (Can.own 0 rfl)) H25 rfl rfl) rfl rfl rfl ?_
         refine TO.y (Y.load_el (us := [strV E24.Key, .int .i64 E24.Seq, .bool E24.Del, strV E24.Val]) (u := .agg #[strV E24.Key, .int .i64 E24.Seq, .bool E24.Del, strV E24.Val]) kk48 rfl (Can.sub H22 rfl (Can.own 0 rfl)) (idx_get H25).2.2 rfl rfl rfl rfl rfl) rfl rfl rfl ?_
         refine TO.bind fun E34 H35 => ?_
         refine TO.y (Y.index ke30 (Can.own 0 rfl) H35 rfl rfl) rfl rfl rfl ?_
         refine TO.ef0 (Ef.store_el (us := [strV E24.Key, .int .i64 E24.Seq, .bool E24.Del, strV E24.Val]) (is' := [.own V_s0 (lc (S17.2.2.set S17.1.toNat E24))]) E24 0 kk48 rfl rfl (idx_get H35).2.2 rfl rfl (Cel.plain rfl rfl) rfl rfl rfl rfl) rfl rfl (fun _ => ?_)
         refine TO.nil ?_
         refine TE.next ?_
         refine TW.region ?_
         refine TO.y (Y.move rfl) rfl rfl rfl ?_
         refine TO.y (Y.add rfl rfl) rfl rfl rfl ?_
         refine TO.y (Y.assign rfl) rfl rfl rfl ?_
         refine TO.nil ?_
         exact TE.jn_go () [0] ⟨rfl, rfl, rfl, rfl, rfl, trivial⟩ rfl
        refine TW.skip ?_
        exact TE.jn_go () [0] ⟨rfl, rfl, rfl, rfl, rfl, trivial⟩ rfl
       refine TE.block_normal ?_
       refine TE.next ?_
       refine TW.region ?_
       refine TO.y (Y.move rfl) rfl rfl rfl ?_
       refine TO.y (Y.add rfl rfl) rfl rfl rfl ?_
       refine TO.y (Y.assign rfl) rfl rfl rfl ?_
       refine TO.nil ?_
       exact TE.lp_go () [0] ⟨rfl, rfl, rfl, rfl, rfl, trivial⟩ rfl
      refine TW.exit ?_
      refine TE.then_exit ?_
      refine TE.lp_exit ?_
      refine TE.block_exit ?_
      exact TE.jn_go () [0] ⟨rfl, rfl, trivial⟩ rfl
     refine TE.next ?_
     refine TW.seq ?_
     refine TW.region ?_
     refine TO.y (Y.move rfl) rfl rfl rfl ?_
     refine TO.y (Y.move rfl) rfl rfl rfl ?_
     refine TO.bind fun E36 H37 => ?_
     refine TO.y (Y.subs H37 ke30 (Can.own 0 rfl) rfl ⟨_, rfl⟩ rfl) rfl rfl rfl ?_
     refine TO.bind fun E38 H39 => ?_
     refine TO.ef0 (Ef.clearView (i := 0) (is' := [.own (subV V_s0 4 (0 : Int).toNat (T19.1.toNat - (0 : Int).toNat)) (lc E38)]) H39 ke30 kz48 rfl rfl rfl rfl rfl rfl) rfl rfl (fun _ => ?_)
     refine TO.nil ?_
     refine TE.next ?_
     refine TW.seq ?_
     refine TW.region ?_
     refine TO.y (Y.move rfl) rfl rfl rfl ?_
     refine TO.y (Y.move rfl) rfl rfl rfl ?_
     refine TO.y (Y.sub_again (i := 0) rfl (piece_eq H39).2.1 ke30 rfl rfl) rfl rfl rfl ?_
     refine TO.y (Y.assign rfl) rfl rfl rfl ?_
     refine TO.nil ?_
     refine TE.next ?_
     refine TW.ret ?_
     refine TE.block_ret ?_
     refine TE.then_ret ?_
     refine TE.lp_ret ?_
     refine TE.block_ret ?_
     refine TE.jn_done ?_
     refine TE.then_ret ?_
     exact TE.leaf fun _ _ hf_ hs_ => ret_any (rs := [.tmp 4]) (vs := [subV V_s0 4 (0 : Int).toNat (T19.1.toNat - (0 : Int).toNat)]) (.inl rfl) rfl ⟨rfl, trivial⟩ hf_ hs_ ⟨(subV V_s0 4 (0 : Int).toNat (T19.1.toNat - (0 : Int).toNat)), rfl, hs_.pulls [0] rfl⟩
    refine TW.skip ?_
    refine TE.block_normal ?_
    refine TE.next ?_
    refine TW.region ?_
    refine TO.y (Y.move rfl) rfl rfl rfl ?_
    refine TO.y (Y.add rfl rfl) rfl rfl rfl ?_
    refine TO.y (Y.assign rfl) rfl rfl rfl ?_
    refine TO.nil ?_
    exact TE.lp_go () [0] ⟨rfl, rfl, rfl, trivial⟩ rfl
   refine TW.exit ?_
   refine TE.then_exit ?_
   refine TE.lp_exit ?_
   refine TE.block_exit ?_
   exact TE.jn_go () [0] ⟨rfl, trivial⟩ rfl
  refine TE.next ?_
  refine TW.seq ?_
  refine TW.region ?_
  refine TO.y (Y.move rfl) rfl rfl rfl ?_
  refine TO.y (Y.assign rfl) rfl rfl rfl ?_
  refine TO.nil ?_
  refine TE.next ?_
  refine TW.ret ?_
  exact TE.leaf fun _ _ hf_ hs_ => ret_any (rs := [.tmp 4]) (vs := [V_s0]) (.inl rfl) rfl ⟨rfl, trivial⟩ hf_ hs_ ⟨V_s0, rfl, hs_.pulls [0] rfl⟩

/-- loop.example/g00950/impl.merged -/
noncomputable def impl_merged (l : List (List Ent)) : Option (List Ent) :=
  (slices_Concat_94167 l).bind fun R1 =>
  (slices_SortStableFunc_94167_at_impl_compareEnts R1).bind fun R4 =>
  (slices_CompactFunc_94167_at_impl_merged_1 R4).bind fun R7 =>
  (slices_Clip_94167 R7).bind fun R10 =>
  some R10

theorem impl_merged_con (l : List (List Ent)) (V_l0 : Value) (r : List Ent) (hm : impl_merged l = some r) :
    Con Try.prog 50 [V_l0] [] [(V_l0, lc l)] (fun X : Value => X) (fun X => [.own X (lc r)]) := by
  refine Con.intro (args := [V_l0]) (n := 11) (val := fun _ (X : Value) => X) (post := fun r X => [.own X (lc r)]) (m := impl_merged l) Try.func50 rfl rfl rfl hm ?_
  intro w S hrd
  have HB_V_l0 := hrd _ (.head _)
  clear hrd
  unfold impl_merged
  refine TW.seq ?_
  refine TW.region ?_
  refine TO.y (Y.assign rfl) rfl rfl rfl ?_
  refine TO.nil ?_
  refine TE.next ?_
  refine TW.seq ?_
  refine TW.region ?_
  refine TO.y (Y.move rfl) rfl rfl rfl ?_
  refine TO.bind fun R1 H2 => ?_
  refine TO.ef (Ef.call (rest := []) [] (slices_Concat_94167_con l V_l0 R1 H2) kc57 rfl rfl ⟨(Base.can HB_V_l0), trivial⟩) rfl rfl rfl (fun Y3 => ?_)
  refine TO.y (Y.assign rfl) rfl rfl rfl ?_
  refine TO.nil ?_
  refine TE.next ?_
  refine TW.seq ?_
  refine TW.region ?_
  refine TO.y (Y.move rfl) rfl rfl rfl ?_
  refine TO.bind fun R4 H5 => ?_
  refine TO.ef (Ef.call (rest := []) [0] (slices_SortStableFunc_94167_at_impl_compareEnts_con R1 Y3 R4 H5) kc58 rfl rfl trivial) rfl rfl rfl (fun _ => ?_)
  refine TO.nil ?_
  refine TE.next ?_
  refine TW.seq ?_
  refine TW.region ?_
  refine TO.y (Y.move rfl) rfl rfl rfl ?_
  refine TO.bind fun R7 H8 => ?_
  refine TO.ef (Ef.call (rest := []) [0] (slices_CompactFunc_94167_at_impl_merged_1_con R4 Y3 R7 H8) kc61 rfl rfl trivial) rfl rfl rfl (fun Y9 => ?_)
  refine TO.bind fun R10 H11 => ?_
  refine TO.ef (Ef.call (rest := []) [0] (slices_Clip_94167_con R7 Y9 R10 H11) kc60 rfl rfl trivial) rfl rfl rfl (fun Y12 => ?_)
  refine TO.y (Y.assign rfl) rfl rfl rfl ?_
  refine TO.nil ?_
  refine TE.next ?_
  refine TW.ret ?_
  exact TE.leaf fun _ _ hf_ hs_ => ret_any (rs := [.tmp 2]) (vs := [Y12]) (.inl rfl) rfl ⟨rfl, trivial⟩ hf_ hs_ ⟨Y12, rfl, hs_.pulls [0] rfl⟩

/-- (*loop.example/g00950/impl.Eng).all -/
noncomputable def impl_Eng_all (e : Eng) : Option (List Ent) :=
  (app 24 ([e.Mem]) e.Tables).bind fun E6 =>
  (impl_merged E6).bind fun R8 =>
  some R8

theorem impl_Eng_all_con (e : Eng) (V_e0 : Value) (V_e1 : Value) (V_e3 : Value) (B_e : Nat) (r : List Ent) (hm : impl_Eng_all e = some r) :
    Con Try.prog 32 [.pointer (some ⟨B_e, 0, none⟩)] [.box B_e 33 [V_e0, V_e1, .int .i64 e.Seq, V_e3]] [(V_e0, lc e.Mem), (V_e1, lc e.Tables), (V_e3, lc e.Snaps)] (fun X : Value => X) (fun X => [.box B_e 33 [V_e0, V_e1, .int .i64 e.Seq, V_e3], .own X (lc r)]) := by
  refine Con.intro (args := [.pointer (some ⟨B_e, 0, none⟩)]) (n := 14) (val := fun _ (X : Value) => X) (post := fun r X => [.box B_e 33 [V_e0, V_e1, .int .i64 e.Seq, V_e3], .own X (lc r)]) (m := impl_Eng_all e) Try.func32 rfl rfl rfl hm ?_
  intro w S hrd
  have HB_V_e0 := hrd _ (.head _)
  have HB_V_e1 := hrd _ (.tail _ (.head _))
  have HB_V_e3 := hrd _ (.tail _ (.tail _ (.head _)))
  clear hrd
  unfold impl_Eng_all
  refine TW.seq ?_
  refine TW.region ?_
  refine TO.y (Y.assign rfl) rfl rfl rfl ?_
  refine TO.nil ?_
  refine TE.next ?_
  refine TW.seq ?_
  refine TW.draw (isH := [.box B_e 33 [V_e0, V_e1, .int .i64 e.Seq, V_e3]]) hMix ?_
  refine TA.y 0 [0] rfl (Y.move rfl) rfl rfl rfl (by kernel_rfl) rfl ?_
  refine TA.y 1 [0] rfl (Y.nilCheck rfl) rfl rfl rfl (by kernel_rfl) rfl ?_
  refine TA.y 2 [0] rfl (Y.field_box kf33_0 rfl rfl) rfl rfl rfl (by kernel_rfl) rfl ?_
  refine TA.y 3 [0] rfl (Y.load_box (v := V_e0) 0 kk30 rfl rfl rfl) rfl rfl rfl (by kernel_rfl) rfl ?_
  refine TA.y 5 [0] rfl (Y.move rfl) rfl rfl rfl (by kernel_rfl) rfl ?_
  refine TA.y 6 [0] rfl (Y.nilCheck rfl) rfl rfl rfl (by kernel_rfl) rfl ?_
  refine TA.y 7 [0] rfl (Y.field_box kf33_1 rfl rfl) rfl rfl rfl (by kernel_rfl) rfl ?_
  refine TA.y 8 [0] rfl (Y.load_box (v := V_e1) 0 kk31 rfl rfl rfl) rfl rfl rfl (by kernel_rfl) rfl ?_
  refine TA.one 4 (by kernel_rfl) ?_
  refine TX.ef [1] rfl (Ef.buildSliceR (Vs := [V_e0]) [[V_e0]] [.raw V_e0] ke31 kz30 rfl rfl rfl rfl rfl ⟨(Cel.one (One.can (Base.can HB_V_e0))), trivial⟩ rfl) rfl rfl rfl (fun _ => rfl) (fun B1 => ?_)
  refine TA.conv (is' := [.own (.slice (some ⟨B1, 0, none⟩) 1 1) (lc ([Sv.mk V_e0 (Base.oneCell HB_V_e0)] : List Sv)), .box B_e 33 [V_e0, V_e1, .int .i64 e.Seq, V_e3]]) (fun _ h_ => h_) ?_
  refine TA.bind fun E6 H7 => ?_
  obtain ⟨W3, Q4, Q5⟩ := Base.rows (fun _ => rfl) HB_V_e1
  refine TA.one 9 (by kernel_rfl) ?_
  refine TX.ef [1] rfl (Ef.append (α := Sv) (is' := [.box B_e 33 [V_e0, V_e1, .int .i64 e.Seq, V_e3]]) [0, 0] (app_rows H7 (Bases.one HB_V_e0).length Q4.length) ke31 kz30 rfl rfl rfl rfl rfl (Base.can Q5)) rfl rfl rfl (fun _ => rfl) (fun V2 => ?_)
  refine TA.bind fun R8 H9 => ?_
  refine TA.one 10 (by kernel_rfl) ?_
  refine TX.ef [2] rfl (Ef.call (rest := [.own V2 (lc (([Sv.mk V_e0 (Base.oneCell HB_V_e0)] ++ W3) : List Sv)), .box B_e 33 [V_e0, V_e1, .int .i64 e.Seq, V_e3]]) [0, 0] (impl_merged_con E6 V2 R8 H9) kc50 rfl rfl ⟨(Can.rows (fun _ => rfl) 0 rfl (Bases.app H7 (Bases.one HB_V_e0) Q4)), trivial⟩) rfl rfl rfl (fun _ => rfl) (fun Y10 => ?_)
  refine TA.y 11 [2] rfl (Y.assign rfl) rfl rfl rfl (by kernel_rfl) rfl ?_
  refine TA.nil (by kernel_rfl) ?_
  refine TE.next ?_
  refine TW.ret ?_
  exact TE.leaf fun _ _ hf_ hs_ => ret_any (rs := [.tmp 2]) (vs := [Y10]) (.inl rfl) rfl ⟨rfl, trivial⟩ hf_ hs_ ⟨Y10, rfl, hs_.pulls [2, 0] rfl⟩

/-- loop.example/g00950/impl.get -/
noncomputable def impl_get (l : List Ent) (key : List UInt8) (seq : Int) : Option (Ent × Bool) :=
  bindC (loopO (fun (S2 : Int) => if (decide (S2 < ((l.length : Nat) : Int))) = true then ((idx l S2).bind fun E7 =>
  (if (decide (E7.Key = key)) = true then (some (decide (E7.Seq ≤ seq)))
  else (some false)).bind (fun (T10 : Bool) =>
  if T10 = true then (some (.done (.done (E7, true))))
  else (some (.go (IntKind.i64.wrap (S2 + (1 : Int)))))))
  else (some (.done (.go ()))))
  (0 : Int))
  (fun (T4 : Unit) => some ({ Key := [], Seq := (0 : Int), Del := false, Val := [] : Ent }, false))

theorem impl_get_con (l : List Ent) (key : List UInt8) (seq : Int) (V_l0 : Value) (r : Ent × Bool) (hm : impl_get l key seq = some r) :
    Con Try.prog 48 [V_l0, strV key, .int .i64 seq] [] [(V_l0, lc l)] (fun _ : Unit => .tuple #[.agg #[strV r.1.Key, .int .i64 r.1.Seq, .bool r.1.Del, strV r.1.Val], .bool r.2]) (fun _ => []) := by
  refine Con.intro (args := [V_l0, strV key, .int .i64 seq]) (n := 29) (val := fun r (_ : Unit) => .tuple #[.agg #[strV r.1.Key, .int .i64 r.1.Seq, .bool r.1.Del, strV r.1.Val], .bool r.2]) (post := fun _ _ => []) (m := impl_get l key seq) Try.func48 rfl rfl rfl hm ?_
  intro w S hrd
  have HB_V_l0 := hrd _ (.head _)
  clear hrd
  unfold impl_get
  refine TW.seq ?_
  refine TW.region ?_
  refine TO.ef (Ef.alloc kz48 rfl) rfl rfl rfl (fun B1 => ?_)
  refine TO.y (Y.assign rfl) rfl rfl rfl ?_
  refine TO.nil ?_
  refine TE.next ?_
  refine TW.seq ?_
  refine TW.seq ?_
  refine TW.region ?_
  refine TO.y (Y.move rfl) rfl rfl rfl ?_
  refine TO.y (Y.len (l := l) ke30 (Base.can HB_V_l0) rfl) rfl rfl rfl ?_
  refine TO.y (Y.move rfl) rfl rfl rfl ?_
  refine TO.nil ?_
  refine TE.next ?_
  refine TW.joinX (τ := Unit) (X := Unit) (fun _ _ => [(6, .pointer (some ⟨B1, 0, none⟩))]) (fun _ _ => [.box B1 48 [strV ([]), .int .i64 (0 : Int), .bool false, strV ([])]]) ?_ (fun T4 X5 => ?_)
  ·refine TW.block ?_
   refine TW.loopX (σ := Int) (X := Unit) (fun T _ => [(1, strV key), (2, .int .i64 seq), (6, .pointer (some ⟨B1, 0, none⟩)), (10, V_l0), (11, .int .i64 ((l.length : Nat) : Int)), (12, .int .i64 T)]) (fun _ _ => [.box B1 48 [strV ([]), .int .i64 (0 : Int), .bool false, strV ([])]]) () [0] ⟨rfl, rfl, rfl, rfl, rfl, rfl, trivial⟩ rfl (fun S2 X3 => ?_)
   refine TW.seq ?_
   refine TW.region ?_
   refine TO.y (Y.lss rfl rfl) rfl rfl rfl ?_
   refine TO.nil ?_
   refine TE.next ?_
   refine TW.seq ?_
   refine TW.cond rfl (fun H6 => ?_) (fun H6 => ?_)
   ·refine TW.skip ?_
    refine TE.next ?_
    refine TW.seq ?_
    refine TW.block ?_
    refine TW.seq ?_
    refine TW.region ?_
    refine TO.bind fun E7 H8 => ?_
    refine TO.y (Y.index ke30 (Base.can HB_V_l0) H8 rfl rfl) rfl rfl rfl ?_
    refine TO.y (Y.load_el (us := [strV E7.Key, .int .i64 E7.Seq, .bool E7.Del, strV E7.Val]) (u := .agg #[strV E7.Key, .int .i64 E7.Seq, .bool E7.Del, strV E7.Val]) kk48 rfl (Base.can HB_V_l0) (idx_get H8).2.2 rfl rfl rfl rfl rfl) rfl rfl rfl ?_
    refine TO.ef (Ef.alloc kz48 rfl) rfl rfl rfl (fun B9 => ?_)
    refine TO.ef0 (Ef.store_box (us := [strV E7.Key, .int .i64 E7.Seq, .bool E7.Del, strV E7.Val]) (vs' := [strV E7.Key, .int .i64 E7.Seq, .bool E7.Del, strV E7.Val]) (is' := [.box B9 48 [strV E7.Key, .int .i64 E7.Seq, .bool E7.Del, strV E7.Val], .box B1 48 [strV ([]), .int .i64 (0 : Int), .bool false, strV ([])]]) 0 kk48 rfl rfl rfl (Cel.plain rfl rfl) rfl rfl rfl rfl) rfl rfl (fun _ => ?_)
    refine TO.nil ?_
    refine TE.next ?_
    refine TW.seq ?_
    refine TW.joinBX (τ := Bool) (X := Unit) (fun T _ => [(1, strV key), (2, .int .i64 seq), (6, .pointer (some ⟨B1, 0, none⟩)), (9, .pointer (some ⟨B9, 0, none⟩)), (10, V_l0), (11, .int .i64 ((l.length : Nat) : Int)), (12, .int .i64 S2), (25, .bool T)]) (fun _ _ => [.box B1 48 [strV ([]), .int .i64 (0 : Int), .bool false, strV ([])], .box B9 48 [strV E7.Key, .int .i64 E7.Seq, .bool E7.Del, strV E7.Val]]) ?_ (fun T10 X11 => ?_)
    ·refine TW.region ?_
     refine TO.y (Y.field_box kf48_0 rfl rfl) rfl rfl rfl ?_
     refine TO.y (Y.load_box (v := strV E7.Key) 0 kk9 rfl rfl rfl) rfl rfl rfl ?_
     refine TO.y (Y.move rfl) rfl rfl rfl ?_
     refine TO.y (Y.seql rfl rfl) rfl rfl rfl ?_
     refine TO.y (Y.move rfl) rfl rfl rfl ?_
     refine TO.ite (b := decide (E7.Key = key)) (fun H12 => ?_) (fun H12 => ?_)
     ·refine TO.y (Y.field_box kf48_1 rfl rfl) (Gd.at 4 true 20 (decide (E7.Key = key)) rfl rfl rfl (beq_tt H12)) rfl rfl ?_
      refine TO.y (Y.load_box (v := .int .i64 E7.Seq) 0 kk3 rfl rfl rfl) (Gd.at 4 true 20 (decide (E7.Key = key)) rfl rfl rfl (beq_tt H12)) rfl rfl ?_
      refine TO.y (Y.move rfl) (Gd.at 4 true 20 (decide (E7.Key = key)) rfl rfl rfl (beq_tt H12)) rfl rfl ?_
      refine TO.y (Y.leq rfl rfl) (Gd.at 4 true 20 (decide (E7.Key = key)) rfl rfl rfl (beq_tt H12)) rfl rfl ?_
      refine TO.y (Y.pick_t H12 rfl rfl) rfl rfl rfl ?_
      refine TO.nil ?_
      exact TE.jb_go () [1, 0] ⟨rfl, rfl, rfl, rfl, rfl, rfl, rfl, rfl, trivial⟩ rfl
     refine TO.off (Gd.at 4 true 20 (decide (E7.Key = key)) rfl rfl rfl (beq_ft H12)) rfl rfl ?_
     refine TO.off (Gd.at 4 true 20 (decide (E7.Key = key)) rfl rfl rfl (beq_ft H12)) rfl rfl ?_
     refine TO.off (Gd.at 4 true 20 (decide (E7.Key = key)) rfl rfl rfl (beq_ft H12)) rfl rfl ?_
     refine TO.off (Gd.at 4 true 20 (decide (E7.Key = key)) rfl rfl rfl (beq_ft H12)) rfl rfl ?_
     refine TO.y (Y.pick_f H12 rfl rfl) rfl rfl rfl ?_
     refine TO.nil ?_
     exact TE.jb_go () [1, 0] ⟨rfl, rfl, rfl, rfl, rfl, rfl, rfl, rfl, trivial⟩ rfl
    refine TE.next ?_
    refine TW.cond rfl (fun H13 => ?_) (fun H13 => ?_)
    ·refine TW.seq ?_
     refine TW.region ?_
     refine TO.y (Y.load_box (v := .agg #[strV E7.Key, .int .i64 E7.Seq, .bool E7.Del, strV E7.Val]) 1 kk48 rfl rfl rfl) rfl rfl rfl ?_
     refine TO.ef0 (Ef.store_box (us := [strV E7.Key, .int .i64 E7.Seq, .bool E7.Del, strV E7.Val]) (vs' := [strV E7.Key, .int .i64 E7.Seq, .bool E7.Del, strV E7.Val]) (is' := [.box B1 48 [strV E7.Key, .int .i64 E7.Seq, .bool E7.Del, strV E7.Val], .box B9 48 [strV E7.Key, .int .i64 E7.Seq, .bool E7.Del, strV E7.Val]]) 0 kk48 rfl rfl rfl (Cel.plain rfl rfl) rfl rfl rfl rfl) rfl rfl (fun _ => ?_)
     refine TO.y (Y.assign rfl) rfl rfl rfl ?_
     refine TO.nil ?_
     refine TE.next ?_
     refine TW.ret ?_
     refine TE.block_ret ?_
     refine TE.then_ret ?_
     refine TE.lp_ret ?_
     refine TE.block_ret ?_
     refine TE.jn_done ?_
     refine TE.then_ret ?_
     exact TE.leaf fun _ _ hf_ hs_ => ret_any (rs := [.cell 6 48, .tmp 7]) (vs := [.agg #[strV E7.Key, .int .i64 E7.Seq, .bool E7.Del, strV E7.Val], .bool true]) (.inl rfl) rfl (RV.cell 0 rfl rfl kk48 rfl ⟨rfl, trivial⟩) hf_ hs_ ⟨(), rfl, hs_.pulls [] rfl⟩
    refine TW.skip ?_
    refine TE.block_normal ?_
    refine TE.next ?_
    refine TW.region ?_
    refine TO.y (Y.add rfl rfl) rfl rfl rfl ?_
    refine TO.y (Y.move rfl) rfl rfl rfl ?_
    refine TO.nil ?_
    exact TE.lp_go () [0] ⟨rfl, rfl, rfl, rfl, rfl, rfl, trivial⟩ rfl
   refine TW.exit ?_
   refine TE.then_exit ?_
   refine TE.lp_exit ?_
   refine TE.block_exit ?_
   exact TE.jn_go () [0] ⟨rfl, trivial⟩ rfl
  refine TE.next ?_
  refine TW.seq ?_
  refine TW.region ?_
  refine TO.y (Y.build (cells := [strV ([]), .int .i64 (0 : Int), .bool false, strV ([])]) [] kp48 kz48 trivial rfl) rfl rfl rfl ?_
  refine TO.ef0 (Ef.store_box (us := [strV ([]), .int .i64 (0 : Int), .bool false, strV ([])]) (vs' := [strV ([]), .int .i64 (0 : Int), .bool false, strV ([])]) (is' := [.box B1 48 [strV ([]), .int .i64 (0 : Int), .bool false, strV ([])]]) 0 kk48 rfl rfl rfl (Cel.plain rfl rfl) rfl rfl rfl rfl) rfl rfl (fun _ => ?_)
  refine TO.y (Y.assign rfl) rfl rfl rfl ?_
  refine TO.nil ?_
  refine TE.next ?_
  refine TW.ret ?_
  exact TE.leaf fun _ _ hf_ hs_ => ret_any (rs := [.cell 6 48, .tmp 7]) (vs := [.agg #[strV ([]), .int .i64 (0 : Int), .bool false, strV ([])], .bool false]) (.inl rfl) rfl (RV.cell 0 rfl rfl kk48 rfl ⟨rfl, trivial⟩) hf_ hs_ ⟨(), rfl, hs_.pulls [] rfl⟩

/-- (*loop.example/g00950/impl.Eng).value -/
noncomputable def impl_Eng_value (e : Eng) (key : List UInt8) (seq : Int) : Option (List UInt8 × Bool) :=
  (impl_Eng_all e).bind fun R1 =>
  (impl_get R1 key seq).bind fun R4 =>
  (if (!R4.2) = true then (some true)
  else (some R4.1.Del)).bind (fun (T8 : Bool) =>
  if T8 = true then (some ([], false))
  else (some (R4.1.Val, true)))

theorem impl_Eng_value_con (e : Eng) (key : List UInt8) (seq : Int) (V_e0 : Value) (V_e1 : Value) (V_e3 : Value) (B_e : Nat) (r : List UInt8 × Bool) (hm : impl_Eng_value e key seq = some r) :
    Con Try.prog 26 [.pointer (some ⟨B_e, 0, none⟩), strV key, .int .i64 seq] [.box B_e 33 [V_e0, V_e1, .int .i64 e.Seq, V_e3]] [(V_e0, lc e.Mem), (V_e1, lc e.Tables), (V_e3, lc e.Snaps)] (fun _ : Unit => .tuple #[strV r.1, .bool r.2]) (fun _ => [.box B_e 33 [V_e0, V_e1, .int .i64 e.Seq, V_e3]]) := by
  refine Con.intro (args := [.pointer (some ⟨B_e, 0, none⟩), strV key, .int .i64 seq]) (n := 26) (val := fun r (_ : Unit) => .tuple #[strV r.1, .bool r.2]) (post := fun _ _ => [.box B_e 33 [V_e0, V_e1, .int .i64 e.Seq, V_e3]]) (m := impl_Eng_value e key seq) Try.func26 rfl rfl rfl hm ?_
  intro w S hrd
  have HB_V_e0 := hrd _ (.head _)
  have HB_V_e1 := hrd _ (.tail _ (.head _))
  have HB_V_e3 := hrd _ (.tail _ (.tail _ (.head _)))
  clear hrd
  unfold impl_Eng_value
  refine TW.seq ?_
  refine TW.region ?_
  refine TO.y (Y.assign rfl) rfl rfl rfl ?_
  refine TO.y (Y.assign rfl) rfl rfl rfl ?_
  refine TO.nil ?_
  refine TE.next ?_
  refine TW.seq ?_
  refine TW.region ?_
  refine TO.y (Y.move rfl) rfl rfl rfl ?_
  refine TO.bind fun R1 H2 => ?_
  refine TO.ef (Ef.call (rest := []) [0] (impl_Eng_all_con e V_e0 V_e1 V_e3 B_e R1 H2) kc32 rfl rfl ⟨(Base.can HB_V_e0), (Base.can HB_V_e1), (Base.can HB_V_e3), trivial⟩) rfl rfl rfl (fun Y3 => ?_)
  refine TO.y (Y.move rfl) rfl rfl rfl ?_
  refine TO.y (Y.move rfl) rfl rfl rfl ?_
  refine TO.bind fun R4 H5 => ?_
  refine TO.ef (Ef.call (rest := [.box B_e 33 [V_e0, V_e1, .int .i64 e.Seq, V_e3], .own Y3 (lc R1)]) [0, 0] (impl_get_con R1 key seq Y3 R4 H5) kc48 rfl rfl ⟨(Can.own 1 rfl), trivial⟩) rfl rfl rfl (fun _ => ?_)
  refine TO.y (Y.move rfl) rfl rfl rfl ?_
  refine TO.y (Y.extract rfl rfl) rfl rfl rfl ?_
  refine TO.y (Y.extract rfl rfl) rfl rfl rfl ?_
  refine TO.ef (Ef.alloc kz48 rfl) rfl rfl rfl (fun B7 => ?_)
  refine TO.ef0 (Ef.store_box (us := [strV R4.1.Key, .int .i64 R4.1.Seq, .bool R4.1.Del, strV R4.1.Val]) (vs' := [strV R4.1.Key, .int .i64 R4.1.Seq, .bool R4.1.Del, strV R4.1.Val]) (is' := [.box B7 48 [strV R4.1.Key, .int .i64 R4.1.Seq, .bool R4.1.Del, strV R4.1.Val], .box B_e 33 [V_e0, V_e1, .int .i64 e.Seq, V_e3], .own Y3 (lc R1)]) 0 kk48 rfl rfl rfl (Cel.plain rfl rfl) rfl rfl rfl rfl) rfl rfl (fun _ => ?_)
  refine TO.y (Y.assign rfl) rfl rfl rfl ?_
  refine TO.nil ?_
  refine TE.next ?_
  refine TW.seq ?_
  refine TW.seq ?_
  refine TW.joinBX (τ := Bool) (X := Unit) (fun T _ => [(8, .pointer (some ⟨B7, 0, none⟩)), (23, .bool T)]) (fun _ _ => [.box B7 48 [strV R4.1.Key, .int .i64 R4.1.Seq, .bool R4.1.Del, strV R4.1.Val], .box B_e 33 [V_e0, V_e1, .int .i64 e.Seq, V_e3]]) ?_ (fun T8 X9 => ?_)
  ·refine TW.region ?_
   refine TO.y (Y.move rfl) rfl rfl rfl ?_
   refine TO.y (Y.not rfl) rfl rfl rfl ?_
   refine TO.y (Y.move rfl) rfl rfl rfl ?_
   refine TO.ite (b := !R4.2) (fun H10 => ?_) (fun H10 => ?_)
   ·refine TO.off (Gd.at 2 false 20 (!R4.2) rfl rfl rfl (beq_tf H10)) rfl rfl ?_
    refine TO.off (Gd.at 2 false 20 (!R4.2) rfl rfl rfl (beq_tf H10)) rfl rfl ?_
    refine TO.y (Y.pick_t H10 rfl rfl) rfl rfl rfl ?_
    refine TO.nil ?_
    exact TE.jb_go () [0, 0] ⟨rfl, rfl, trivial⟩ rfl
   refine TO.y (Y.field_box kf48_2 rfl rfl) (Gd.at 2 false 20 (!R4.2) rfl rfl rfl (beq_ff H10)) rfl rfl ?_
   refine TO.y (Y.load_box (v := .bool R4.1.Del) 0 kk4 rfl rfl rfl) (Gd.at 2 false 20 (!R4.2) rfl rfl rfl (beq_ff H10)) rfl rfl ?_
   refine TO.y (Y.pick_f H10 rfl rfl) rfl rfl rfl ?_
   refine TO.nil ?_
   exact TE.jb_go () [0, 0] ⟨rfl, rfl, trivial⟩ rfl
  refine TE.next ?_
  refine TW.cond rfl (fun H11 => ?_) (fun H11 => ?_)
  ·refine TW.seq ?_
   refine TW.region ?_
   refine TO.y (Y.assign rfl) rfl rfl rfl ?_
   refine TO.y (Y.assign rfl) rfl rfl rfl ?_
   refine TO.nil ?_
   refine TE.next ?_
   refine TW.ret ?_
   refine TE.then_ret ?_
   exact TE.leaf fun _ _ hf_ hs_ => ret_any (rs := [.tmp 6, .tmp 7]) (vs := [strV ([]), .bool false]) (.inl rfl) rfl ⟨rfl, ⟨rfl, trivial⟩⟩ hf_ hs_ ⟨(), rfl, hs_.pulls [1] rfl⟩
  refine TW.skip ?_
  refine TE.next ?_
  refine TW.seq ?_
  refine TW.region ?_
  refine TO.y (Y.field_box kf48_3 rfl rfl) rfl rfl rfl ?_
  refine TO.y (Y.load_box (v := strV R4.1.Val) 0 kk9 rfl rfl rfl) rfl rfl rfl ?_
  refine TO.y (Y.assign rfl) rfl rfl rfl ?_
  refine TO.y (Y.assign rfl) rfl rfl rfl ?_
  refine TO.nil ?_
  refine TE.next ?_
  refine TW.ret ?_
  exact TE.leaf fun _ _ hf_ hs_ => ret_any (rs := [.tmp 6, .tmp 7]) (vs := [strV R4.1.Val, .bool true]) (.inl rfl) rfl ⟨rfl, ⟨rfl, trivial⟩⟩ hf_ hs_ ⟨(), rfl, hs_.pulls [1] rfl⟩

/-- loop.example/g00950/impl.EngGet -/
noncomputable def impl_EngGet (e : Eng) (key : List UInt8) (seq : Int) : Option (List UInt8 × Bool) :=
  (impl_EngOk e).bind fun R2 =>
  if (!R2) = true then (some ([], false))
  else ((impl_Eng_value e key seq).bind fun R6 =>
  some (R6.1, R6.2))

theorem impl_EngGet_con (e : Eng) (key : List UInt8) (seq : Int) (V_e0 : Value) (V_e1 : Value) (V_e3 : Value) (r : List UInt8 × Bool) (hm : impl_EngGet e key seq = some r) :
    Con Try.prog 8 [.agg #[V_e0, V_e1, .int .i64 e.Seq, V_e3], strV key, .int .i64 seq] [] [(V_e0, lc e.Mem), (V_e1, lc e.Tables), (V_e3, lc e.Snaps)] (fun _ : Unit => .tuple #[strV r.1, .bool r.2]) (fun _ => []) := by
  refine Con.intro (args := [.agg #[V_e0, V_e1, .int .i64 e.Seq, V_e3], strV key, .int .i64 seq]) (n := 16) (val := fun r (_ : Unit) => .tuple #[strV r.1, .bool r.2]) (post := fun _ _ => []) (m := impl_EngGet e key seq) Try.func8 rfl rfl rfl hm ?_
  intro w S hrd
  have HB_V_e0 := hrd _ (.head _)
  have HB_V_e1 := hrd _ (.tail _ (.head _))
  have HB_V_e3 := hrd _ (.tail _ (.tail _ (.head _)))
  clear hrd
  unfold impl_EngGet
  refine TW.seq ?_
  refine TW.region ?_
  refine TO.ef (Ef.box rfl (Cel.agg ⟨(One.can (Base.can HB_V_e0)), (One.can (Base.can HB_V_e1)), (One.plain rfl), (One.can (Base.can HB_V_e3)), trivial⟩)) rfl rfl rfl (fun B1 => ?_)
  refine TO.y (Y.assign rfl) rfl rfl rfl ?_
  refine TO.y (Y.assign rfl) rfl rfl rfl ?_
  refine TO.nil ?_
  refine TE.next ?_
  refine TW.seq ?_
  refine TW.seq ?_
  refine TW.region ?_
  refine TO.y (Y.load_box (v := .agg #[V_e0, V_e1, .int .i64 e.Seq, V_e3]) 0 kk33 rfl rfl rfl) rfl rfl rfl ?_
  refine TO.bind fun R2 H3 => ?_
  refine TO.ef (Ef.call (rest := [.box B1 33 [V_e0, V_e1, .int .i64 e.Seq, V_e3]]) [0] (impl_EngOk_con e V_e0 V_e1 V_e3 R2 H3) kc25 rfl rfl ⟨(Base.can HB_V_e0), (Base.can HB_V_e1), (Base.can HB_V_e3), trivial⟩) rfl rfl rfl (fun _ => ?_)
  refine TO.y (Y.not rfl) rfl rfl rfl ?_
  refine TO.nil ?_
  refine TE.next ?_
  refine TW.cond rfl (fun H5 => ?_) (fun H5 => ?_)
  ·refine TW.seq ?_
   refine TW.region ?_
   refine TO.y (Y.assign rfl) rfl rfl rfl ?_
   refine TO.y (Y.assign rfl) rfl rfl rfl ?_
   refine TO.nil ?_
   refine TE.next ?_
   refine TW.ret ?_
   refine TE.then_ret ?_
   exact TE.leaf fun _ _ hf_ hs_ => ret_any (rs := [.tmp 6, .tmp 7]) (vs := [strV ([]), .bool false]) (.inl rfl) rfl ⟨rfl, ⟨rfl, trivial⟩⟩ hf_ hs_ ⟨(), rfl, hs_.pulls [] rfl⟩
  refine TW.skip ?_
  refine TE.next ?_
  refine TW.seq ?_
  refine TW.region ?_
  refine TO.y (Y.move rfl) rfl rfl rfl ?_
  refine TO.y (Y.move rfl) rfl rfl rfl ?_
  refine TO.bind fun R6 H7 => ?_
  refine TO.ef (Ef.call (rest := []) [0] (impl_Eng_value_con e key seq V_e0 V_e1 V_e3 B1 R6 H7) kc26 rfl rfl ⟨(Base.can HB_V_e0), (Base.can HB_V_e1), (Base.can HB_V_e3), trivial⟩) rfl rfl rfl (fun _ => ?_)
  refine TO.y (Y.extract rfl rfl) rfl rfl rfl ?_
  refine TO.y (Y.extract rfl rfl) rfl rfl rfl ?_
  refine TO.y (Y.assign rfl) rfl rfl rfl ?_
  refine TO.y (Y.assign rfl) rfl rfl rfl ?_
  refine TO.nil ?_
  refine TE.next ?_
  refine TW.ret ?_
  exact TE.leaf fun _ _ hf_ hs_ => ret_any (rs := [.tmp 6, .tmp 7]) (vs := [strV R6.1, .bool R6.2]) (.inl rfl) rfl ⟨rfl, ⟨rfl, trivial⟩⟩ hf_ hs_ ⟨(), rfl, hs_.pulls [] rfl⟩

/-- loop.example/g00950/laws.eqEnt -/
noncomputable def laws_eqEnt (a : Ent) (b : Ent) : Option Bool :=
  if (!(decide (a.Key = b.Key))) = true then (some false)
  else (if (!(decide (a.Seq = b.Seq))) = true then (some false)
  else (if (!(decide (a.Del = b.Del))) = true then (some false)
  else (if (!(decide (a.Val = b.Val))) = true then (some false)
  else (some true))))

theorem laws_eqEnt_con (a : Ent) (b : Ent)  (r : Bool) (hm : laws_eqEnt a b = some r) :
    Con Try.prog 49 [.agg #[strV a.Key, .int .i64 a.Seq, .bool a.Del, strV a.Val], .agg #[strV b.Key, .int .i64 b.Seq, .bool b.Del, strV b.Val]] [] [] (fun _ : Unit => .bool r) (fun _ => []) := by
  refine Con.intro (args := [.agg #[strV a.Key, .int .i64 a.Seq, .bool a.Del, strV a.Val], .agg #[strV b.Key, .int .i64 b.Seq, .bool b.Del, strV b.Val]]) (n := 25) (val := fun r (_ : Unit) => .bool r) (post := fun _ _ => []) (m := laws_eqEnt a b) Try.func49 rfl rfl rfl hm ?_
  intro w S _
  unfold laws_eqEnt
  refine TW.seq ?_
  refine TW.region ?_
  refine TO.ef (Ef.box rfl (Cel.plain rfl rfl)) rfl rfl rfl (fun B1 => ?_)
  refine TO.ef (Ef.box rfl (Cel.plain rfl rfl)) rfl rfl rfl (fun B2 => ?_)
  refine TO.y (Y.assign rfl) rfl rfl rfl ?_
  refine TO.nil ?_
  refine TE.next ?_
  refine TW.seq ?_
  refine TW.seq ?_
  refine TW.region ?_
  refine TO.y (Y.field_box kf48_0 rfl rfl) rfl rfl rfl ?_
  refine TO.y (Y.load_box (v := strV a.Key) 1 kk9 rfl rfl rfl) rfl rfl rfl ?_
  refine TO.y (Y.field_box kf48_0 rfl rfl) rfl rfl rfl ?_
  refine TO.y (Y.load_box (v := strV b.Key) 0 kk9 rfl rfl rfl) rfl rfl rfl ?_
  refine TO.y (Y.sneq rfl rfl) rfl rfl rfl ?_
  refine TO.nil ?_
  refine TE.next ?_
  refine TW.cond rfl (fun H3 => ?_) (fun H3 => ?_)
  ·refine TW.seq ?_
   refine TW.region ?_
   refine TO.y (Y.assign rfl) rfl rfl rfl ?_
   refine TO.nil ?_
   refine TE.next ?_
   refine TW.ret ?_
   refine TE.then_ret ?_
   exact TE.leaf fun _ _ hf_ hs_ => ret_any (rs := [.tmp 4]) (vs := [.bool false]) (.inl rfl) rfl ⟨rfl, trivial⟩ hf_ hs_ ⟨(), rfl, hs_.pulls [] rfl⟩
  refine TW.skip ?_
  refine TE.next ?_
  refine TW.seq ?_
  refine TW.seq ?_
  refine TW.region ?_
  refine TO.y (Y.field_box kf48_1 rfl rfl) rfl rfl rfl ?_
  refine TO.y (Y.load_box (v := .int .i64 a.Seq) 1 kk3 rfl rfl rfl) rfl rfl rfl ?_
  refine TO.y (Y.field_box kf48_1 rfl rfl) rfl rfl rfl ?_
  refine TO.y (Y.load_box (v := .int .i64 b.Seq) 0 kk3 rfl rfl rfl) rfl rfl rfl ?_
  refine TO.y (Y.neq rfl rfl) rfl rfl rfl ?_
  refine TO.nil ?_
  refine TE.next ?_
  refine TW.cond rfl (fun H4 => ?_) (fun H4 => ?_)
  ·refine TW.seq ?_
   refine TW.region ?_
   refine TO.y (Y.assign rfl) rfl rfl rfl ?_
   refine TO.nil ?_
   refine TE.next ?_
   refine TW.ret ?_
   refine TE.then_ret ?_
   exact TE.leaf fun _ _ hf_ hs_ => ret_any (rs := [.tmp 4]) (vs := [.bool false]) (.inl rfl) rfl ⟨rfl, trivial⟩ hf_ hs_ ⟨(), rfl, hs_.pulls [] rfl⟩
  refine TW.skip ?_
  refine TE.next ?_
  refine TW.seq ?_
  refine TW.seq ?_
  refine TW.region ?_
  refine TO.y (Y.field_box kf48_2 rfl rfl) rfl rfl rfl ?_
  refine TO.y (Y.load_box (v := .bool a.Del) 1 kk4 rfl rfl rfl) rfl rfl rfl ?_
  refine TO.y (Y.field_box kf48_2 rfl rfl) rfl rfl rfl ?_
  refine TO.y (Y.load_box (v := .bool b.Del) 0 kk4 rfl rfl rfl) rfl rfl rfl ?_
  refine TO.y (Y.neb kb4 rfl rfl) rfl rfl rfl ?_
  refine TO.nil ?_
  refine TE.next ?_
  refine TW.cond rfl (fun H5 => ?_) (fun H5 => ?_)
  ·refine TW.seq ?_
   refine TW.region ?_
   refine TO.y (Y.assign rfl) rfl rfl rfl ?_
   refine TO.nil ?_
   refine TE.next ?_
   refine TW.ret ?_
   refine TE.then_ret ?_
   exact TE.leaf fun _ _ hf_ hs_ => ret_any (rs := [.tmp 4]) (vs := [.bool false]) (.inl rfl) rfl ⟨rfl, trivial⟩ hf_ hs_ ⟨(), rfl, hs_.pulls [] rfl⟩
  refine TW.skip ?_
  refine TE.next ?_
  refine TW.seq ?_
  refine TW.seq ?_
  refine TW.region ?_
  refine TO.y (Y.field_box kf48_3 rfl rfl) rfl rfl rfl ?_
  refine TO.y (Y.load_box (v := strV a.Val) 1 kk9 rfl rfl rfl) rfl rfl rfl ?_
  refine TO.y (Y.field_box kf48_3 rfl rfl) rfl rfl rfl ?_
  refine TO.y (Y.load_box (v := strV b.Val) 0 kk9 rfl rfl rfl) rfl rfl rfl ?_
  refine TO.y (Y.sneq rfl rfl) rfl rfl rfl ?_
  refine TO.nil ?_
  refine TE.next ?_
  refine TW.cond rfl (fun H6 => ?_) (fun H6 => ?_)
  ·refine TW.seq ?_
   refine TW.region ?_
   refine TO.y (Y.assign rfl) rfl rfl rfl ?_
   refine TO.nil ?_
   refine TE.next ?_
   refine TW.ret ?_
   refine TE.then_ret ?_
   exact TE.leaf fun _ _ hf_ hs_ => ret_any (rs := [.tmp 4]) (vs := [.bool false]) (.inl rfl) rfl ⟨rfl, trivial⟩ hf_ hs_ ⟨(), rfl, hs_.pulls [] rfl⟩
  refine TW.skip ?_
  refine TE.next ?_
  refine TW.seq ?_
  refine TW.region ?_
  refine TO.y (Y.assign rfl) rfl rfl rfl ?_
  refine TO.nil ?_
  refine TE.next ?_
  refine TW.ret ?_
  exact TE.leaf fun _ _ hf_ hs_ => ret_any (rs := [.tmp 4]) (vs := [.bool true]) (.inl rfl) rfl ⟨rfl, trivial⟩ hf_ hs_ ⟨(), rfl, hs_.pulls [] rfl⟩

/-- loop.example/g00950/laws.eqEntS -/
noncomputable def laws_eqEntS (a : List Ent) (b : List Ent) : Option Bool :=
  if (!(decide (((a.length : Nat) : Int) = ((b.length : Nat) : Int)))) = true then (some false)
  else (bindC (loopO (fun (S2 : Int) => if (decide (S2 < ((a.length : Nat) : Int))) = true then ((idx a S2).bind fun E7 =>
  (idx b S2).bind fun E9 =>
  (laws_eqEnt E7 E9).bind fun R11 =>
  if (!R11) = true then (some (.done (.done false)))
  else (some (.go (IntKind.i64.wrap (S2 + (1 : Int))))))
  else (some (.done (.go ()))))
  (0 : Int))
  (fun (T4 : Unit) => some true))

theorem laws_eqEntS_con (a : List Ent) (b : List Ent) (V_a0 : Value) (V_b0 : Value) (r : Bool) (hm : laws_eqEntS a b = some r) :
    Con Try.prog 27 [V_a0, V_b0] [] [(V_a0, lc a), (V_b0, lc b)] (fun _ : Unit => .bool r) (fun _ => []) := by
  refine Con.intro (args := [V_a0, V_b0]) (n := 27) (val := fun r (_ : Unit) => .bool r) (post := fun _ _ => []) (m := laws_eqEntS a b) Try.func27 rfl rfl rfl hm ?_
  intro w S hrd
  have HB_V_a0 := hrd _ (.head _)
  have HB_V_b0 := hrd _ (.tail _ (.head _))
  clear hrd
  unfold laws_eqEntS
  refine TW.seq ?_
  refine TW.region ?_
  refine TO.y (Y.assign rfl) rfl rfl rfl ?_
  refine TO.nil ?_
  refine TE.next ?_
  refine TW.seq ?_
  refine TW.seq ?_
  refine TW.region ?_
  refine TO.y (Y.move rfl) rfl rfl rfl ?_
  refine TO.y (Y.len (l := a) ke30 (Base.can HB_V_a0) rfl) rfl rfl rfl ?_
  refine TO.y (Y.move rfl) rfl rfl rfl ?_
  refine TO.y (Y.len (l := b) ke30 (Base.can HB_V_b0) rfl) rfl rfl rfl ?_
  refine TO.y (Y.neq rfl rfl) rfl rfl rfl ?_
  refine TO.nil ?_
  refine TE.next ?_
  refine TW.cond rfl (fun H1 => ?_) (fun H1 => ?_)
  ·refine TW.seq ?_
   refine TW.region ?_
   refine TO.y (Y.assign rfl) rfl rfl rfl ?_
   refine TO.nil ?_
   refine TE.next ?_
   refine TW.ret ?_
   refine TE.then_ret ?_
   exact TE.leaf fun _ _ hf_ hs_ => ret_any (rs := [.tmp 4]) (vs := [.bool false]) (.inl rfl) rfl ⟨rfl, trivial⟩ hf_ hs_ ⟨(), rfl, hs_.pulls [] rfl⟩
  refine TW.skip ?_
  refine TE.next ?_
  refine TW.seq ?_
  refine TW.seq ?_
  refine TW.region ?_
  refine TO.y (Y.assign rfl) rfl rfl rfl ?_
  refine TO.nil ?_
  refine TE.next ?_
  refine TW.joinX (τ := Unit) (X := Unit) (fun _ _ => []) (fun _ _ => []) ?_ (fun T4 X5 => ?_)
  ·refine TW.block ?_
   refine TW.loopX (σ := Int) (X := Unit) (fun T _ => [(0, V_a0), (1, V_b0), (5, .int .i64 T)]) (fun _ _ => []) () [] ⟨rfl, rfl, rfl, trivial⟩ rfl (fun S2 X3 => ?_)
   refine TW.seq ?_
   refine TW.seq ?_
   refine TW.region ?_
   refine TO.y (Y.move rfl) rfl rfl rfl ?_
   refine TO.y (Y.move rfl) rfl rfl rfl ?_
   refine TO.y (Y.len (l := a) ke30 (Base.can HB_V_a0) rfl) rfl rfl rfl ?_
   refine TO.y (Y.lss rfl rfl) rfl rfl rfl ?_
   refine TO.nil ?_
   refine TE.next ?_
   refine TW.cond rfl (fun H6 => ?_) (fun H6 => ?_)
   ·refine TW.skip ?_
    refine TE.next ?_
    refine TW.seq ?_
    refine TW.block ?_
    refine TW.seq ?_
    refine TW.draw (isH := []) hMix ?_
    refine TA.y 0 [] rfl (Y.move rfl) rfl rfl rfl (by kernel_rfl) rfl ?_
    refine TA.y 1 [] rfl (Y.move rfl) rfl rfl rfl (by kernel_rfl) rfl ?_
    refine TA.bind fun E7 H8 => ?_
    refine TA.y 2 [] rfl (Y.index ke30 (Base.can HB_V_a0) H8 rfl rfl) rfl rfl rfl (by kernel_rfl) rfl ?_
    refine TA.y 3 [] rfl (Y.load_el (us := [strV E7.Key, .int .i64 E7.Seq, .bool E7.Del, strV E7.Val]) (u := .agg #[strV E7.Key, .int .i64 E7.Seq, .bool E7.Del, strV E7.Val]) kk48 rfl (Base.can HB_V_a0) (idx_get H8).2.2 rfl rfl rfl rfl rfl) rfl rfl rfl (by kernel_rfl) rfl ?_
    refine TA.y 4 [] rfl (Y.move rfl) rfl rfl rfl (by kernel_rfl) rfl ?_
    refine TA.y 5 [] rfl (Y.move rfl) rfl rfl rfl (by kernel_rfl) rfl ?_
    refine TA.bind fun E9 H10 => ?_
    refine TA.y 6 [] rfl (Y.index ke30 (Base.can HB_V_b0) H10 rfl rfl) rfl rfl rfl (by kernel_rfl) rfl ?_
    refine TA.y 7 [] rfl (Y.load_el (us := [strV E9.Key, .int .i64 E9.Seq, .bool E9.Del, strV E9.Val]) (u := .agg #[strV E9.Key, .int .i64 E9.Seq, .bool E9.Del, strV E9.Val]) kk48 rfl (Base.can HB_V_b0) (idx_get H10).2.2 rfl rfl rfl rfl rfl) rfl rfl rfl (by kernel_rfl) rfl ?_
    refine TA.bind fun R11 H12 => ?_
    refine TA.one 8 (by kernel_rfl) ?_
    refine TX.ef [] rfl (Ef.call (rest := []) [] (laws_eqEnt_con E7 E9  R11 H12) kc49 rfl rfl trivial) rfl rfl rfl (fun _ => rfl) (fun _ => ?_)
    refine TA.y 9 [] rfl (Y.not rfl) rfl rfl rfl (by kernel_rfl) rfl ?_
    refine TA.nil (by kernel_rfl) ?_
    refine TE.next ?_
    refine TW.cond rfl (fun H14 => ?_) (fun H14 => ?_)
    ·refine TW.seq ?_
     refine TW.region ?_
     refine TO.y (Y.assign rfl) rfl rfl rfl ?_
     refine TO.nil ?_
     refine TE.next ?_
     refine TW.ret ?_
     refine TE.block_ret ?_
     refine TE.then_ret ?_
     refine TE.lp_ret ?_
     refine TE.block_ret ?_
     refine TE.jn_done ?_
     refine TE.then_ret ?_
     exact TE.leaf fun _ _ hf_ hs_ => ret_any (rs := [.tmp 4]) (vs := [.bool false]) (.inl rfl) rfl ⟨rfl, trivial⟩ hf_ hs_ ⟨(), rfl, hs_.pulls [] rfl⟩
    refine TW.skip ?_
    refine TE.block_normal ?_
    refine TE.next ?_
    refine TW.region ?_
    refine TO.y (Y.move rfl) rfl rfl rfl ?_
    refine TO.y (Y.add rfl rfl) rfl rfl rfl ?_
    refine TO.y (Y.assign rfl) rfl rfl rfl ?_
    refine TO.nil ?_
    exact TE.lp_go () [] ⟨rfl, rfl, rfl, trivial⟩ rfl
   refine TW.exit ?_
   refine TE.then_exit ?_
   refine TE.lp_exit ?_
   refine TE.block_exit ?_
   exact TE.jn_go () [] trivial rfl
  refine TE.next ?_
  refine TW.seq ?_
  refine TW.region ?_
  refine TO.y (Y.assign rfl) rfl rfl rfl ?_
  refine TO.nil ?_
  refine TE.next ?_
  refine TW.ret ?_
  exact TE.leaf fun _ _ hf_ hs_ => ret_any (rs := [.tmp 4]) (vs := [.bool true]) (.inl rfl) rfl ⟨rfl, trivial⟩ hf_ hs_ ⟨(), rfl, hs_.pulls [] rfl⟩

/-- loop.example/g00950/laws.eqEntSS -/
noncomputable def laws_eqEntSS (a : List (List Ent)) (b : List (List Ent)) : Option Bool :=
  if (!(decide (((a.length : Nat) : Int) = ((b.length : Nat) : Int)))) = true then (some false)
  else (bindC (loopO (fun (S2 : Int) => if (decide (S2 < ((a.length : Nat) : Int))) = true then ((idx a S2).bind fun E7 =>
  (idx b S2).bind fun E10 =>
  (laws_eqEntS E7 E10).bind fun R13 =>
  if (!R13) = true then (some (.done (.done false)))
  else (some (.go (IntKind.i64.wrap (S2 + (1 : Int))))))
  else (some (.done (.go ()))))
  (0 : Int))
  (fun (T4 : Unit) => some true))

theorem laws_eqEntSS_con (a : List (List Ent)) (b : List (List Ent)) (V_a0 : Value) (V_b0 : Value) (r : Bool) (hm : laws_eqEntSS a b = some r) :
    Con Try.prog 28 [V_a0, V_b0] [] [(V_a0, lc a), (V_b0, lc b)] (fun _ : Unit => .bool r) (fun _ => []) := by
  refine Con.intro (args := [V_a0, V_b0]) (n := 27) (val := fun r (_ : Unit) => .bool r) (post := fun _ _ => []) (m := laws_eqEntSS a b) Try.func28 rfl rfl rfl hm ?_
  intro w S hrd
  have HB_V_a0 := hrd _ (.head _)
  have HB_V_b0 := hrd _ (.tail _ (.head _))
  clear hrd
  unfold laws_eqEntSS
  refine TW.seq ?_
  refine TW.region ?_
  refine TO.y (Y.assign rfl) rfl rfl rfl ?_
  refine TO.nil ?_
  refine TE.next ?_
  refine TW.seq ?_
  refine TW.seq ?_
  refine TW.region ?_
  refine TO.y (Y.move rfl) rfl rfl rfl ?_
  refine TO.y (Y.len (l := a) ke31 (Base.can HB_V_a0) rfl) rfl rfl rfl ?_
  refine TO.y (Y.move rfl) rfl rfl rfl ?_
  refine TO.y (Y.len (l := b) ke31 (Base.can HB_V_b0) rfl) rfl rfl rfl ?_
  refine TO.y (Y.neq rfl rfl) rfl rfl rfl ?_
  refine TO.nil ?_
  refine TE.next ?_
  refine TW.cond rfl (fun H1 => ?_) (fun H1 => ?_)
  ·refine TW.seq ?_
   refine TW.region ?_
   refine TO.y (Y.assign rfl) rfl rfl rfl ?_
   refine TO.nil ?_
   refine TE.next ?_
   refine TW.ret ?_
   refine TE.then_ret ?_
   exact TE.leaf fun _ _ hf_ hs_ => ret_any (rs := [.tmp 4]) (vs := [.bool false]) (.inl rfl) rfl ⟨rfl, trivial⟩ hf_ hs_ ⟨(), rfl, hs_.pulls [] rfl⟩
  refine TW.skip ?_
  refine TE.next ?_
  refine TW.seq ?_
  refine TW.seq ?_
  refine TW.region ?_
  refine TO.y (Y.assign rfl) rfl rfl rfl ?_
  refine TO.nil ?_
  refine TE.next ?_
  refine TW.joinX (τ := Unit) (X := Unit) (fun _ _ => []) (fun _ _ => []) ?_ (fun T4 X5 => ?_)
  ·refine TW.block ?_
   refine TW.loopX (σ := Int) (X := Unit) (fun T _ => [(0, V_a0), (1, V_b0), (5, .int .i64 T)]) (fun _ _ => []) () [] ⟨rfl, rfl, rfl, trivial⟩ rfl (fun S2 X3 => ?_)
   refine TW.seq ?_
   refine TW.seq ?_
   refine TW.region ?_
   refine TO.y (Y.move rfl) rfl rfl rfl ?_
   refine TO.y (Y.move rfl) rfl rfl rfl ?_
   refine TO.y (Y.len (l := a) ke31 (Base.can HB_V_a0) rfl) rfl rfl rfl ?_
   refine TO.y (Y.lss rfl rfl) rfl rfl rfl ?_
   refine TO.nil ?_
   refine TE.next ?_
   refine TW.cond rfl (fun H6 => ?_) (fun H6 => ?_)
   ·refine TW.skip ?_
    refine TE.next ?_
    refine TW.seq ?_
    refine TW.block ?_
    refine TW.seq ?_
    refine TW.draw (isH := []) hMix ?_
    refine TA.y 0 [] rfl (Y.move rfl) rfl rfl rfl (by kernel_rfl) rfl ?_
    refine TA.y 1 [] rfl (Y.move rfl) rfl rfl rfl (by kernel_rfl) rfl ?_
    refine TA.bind fun E7 H8 => ?_
    refine TA.y 2 [] rfl (Y.index ke31 (Base.can HB_V_a0) H8 rfl rfl) rfl rfl rfl (by kernel_rfl) rfl ?_
    have Q9 : Base w S (elv w V_a0 (S2.toNat * 1 + 0)) (lc E7) := Base.el HB_V_a0 (idx_get H8).2.2 rfl rfl
    refine TA.y 3 [] rfl (Y.load_base (α := List Ent) (u := (elv w V_a0 (S2.toNat * 1 + 0))) kk30 rfl HB_V_a0 (idx_get H8).2.2 rfl rfl rfl rfl rfl) rfl rfl rfl (by kernel_rfl) rfl ?_
    refine TA.y 4 [] rfl (Y.move rfl) rfl rfl rfl (by kernel_rfl) rfl ?_
    refine TA.y 5 [] rfl (Y.move rfl) rfl rfl rfl (by kernel_rfl) rfl ?_
    refine TA.bind fun E10 H11 => ?_
    refine TA.y 6 [] rfl (Y.index ke31 (Base.can HB_V_b0) H11 rfl rfl) rfl rfl rfl (by kernel_rfl) rfl ?_
    have Q12 : Base w S (elv w V_b0 (S2.toNat * 1 + 0)) (lc E10) := Base.el HB_V_b0 (idx_get H11).2.2 rfl rfl
    refine TA.y 7 [] rfl (Y.load_base (α := List Ent) (u := (elv w V_b0 (S2.toNat * 1 + 0))) kk30 rfl HB_V_b0 (idx_get H11).2.2 rfl rfl rfl rfl rfl) rfl rfl rfl (by kernel_rfl) rfl ?_
    refine TA.bind fun R13 H14 => ?_
    refine TA.one 8 (by kernel_rfl) ?_
    refine TX.ef [] rfl (Ef.call (rest := []) [] (laws_eqEntS_con E7 E10 (elv w V_a0 (S2.toNat * 1 + 0)) (elv w V_b0 (S2.toNat * 1 + 0)) R13 H14) kc27 rfl rfl ⟨(Base.can Q9), (Base.can Q12), trivial⟩) rfl rfl rfl (fun _ => rfl) (fun _ => ?_)
    refine TA.y 9 [] rfl (Y.not rfl) rfl rfl rfl (by kernel_rfl) rfl ?_
    refine TA.nil (by kernel_rfl) ?_
    refine TE.next ?_
    refine TW.cond rfl (fun H16 => ?_) (fun H16 => ?_)
    ·refine TW.seq ?_
     refine TW.region ?_
     refine TO.y (Y.assign rfl) rfl rfl rfl ?_
     refine TO.nil ?_
     refine TE.next ?_
     refine TW.ret ?_
     refine TE.block_ret ?_
     refine TE.then_ret ?_
     refine TE.lp_ret ?_
     refine TE.block_ret ?_
     refine TE.jn_done ?_
     refine TE.then_ret ?_
     exact TE.leaf fun _ _ hf_ hs_ => ret_any (rs := [.tmp 4]) (vs := [.bool false]) (.inl rfl) rfl ⟨rfl, trivial⟩ hf_ hs_ ⟨(), rfl, hs_.pulls [] rfl⟩
    refine TW.skip ?_
    refine TE.block_normal ?_
    refine TE.next ?_
    refine TW.region ?_
    refine TO.y (Y.move rfl) rfl rfl rfl ?_
    refine TO.y (Y.add rfl rfl) rfl rfl rfl ?_
    refine TO.y (Y.assign rfl) rfl rfl rfl ?_
    refine TO.nil ?_
    exact TE.lp_go () [] ⟨rfl, rfl, rfl, trivial⟩ rfl
   refine TW.exit ?_
   refine TE.then_exit ?_
   refine TE.lp_exit ?_
   refine TE.block_exit ?_
   exact TE.jn_go () [] trivial rfl
  refine TE.next ?_
  refine TW.seq ?_
  refine TW.region ?_
  refine TO.y (Y.assign rfl) rfl rfl rfl ?_
  refine TO.nil ?_
  refine TE.next ?_
  refine TW.ret ?_
  exact TE.leaf fun _ _ hf_ hs_ => ret_any (rs := [.tmp 4]) (vs := [.bool true]) (.inl rfl) rfl ⟨rfl, trivial⟩ hf_ hs_ ⟨(), rfl, hs_.pulls [] rfl⟩

/-- loop.example/g00950/laws.eqIntS -/
noncomputable def laws_eqIntS (a : List Int) (b : List Int) : Option Bool :=
  if (!(decide (((a.length : Nat) : Int) = ((b.length : Nat) : Int)))) = true then (some false)
  else (bindC (loopO (fun (S2 : Int) => if (decide (S2 < ((a.length : Nat) : Int))) = true then ((idx a S2).bind fun E7 =>
  (idx b S2).bind fun E9 =>
  if (!(decide (E7 = E9))) = true then (some (.done (.done false)))
  else (some (.go (IntKind.i64.wrap (S2 + (1 : Int))))))
  else (some (.done (.go ()))))
  (0 : Int))
  (fun (T4 : Unit) => some true))

theorem laws_eqIntS_con (a : List Int) (b : List Int) (V_a0 : Value) (V_b0 : Value) (r : Bool) (hm : laws_eqIntS a b = some r) :
    Con Try.prog 29 [V_a0, V_b0] [] [(V_a0, lc a), (V_b0, lc b)] (fun _ : Unit => .bool r) (fun _ => []) := by
  refine Con.intro (args := [V_a0, V_b0]) (n := 26) (val := fun r (_ : Unit) => .bool r) (post := fun _ _ => []) (m := laws_eqIntS a b) Try.func29 rfl rfl rfl hm ?_
  intro w S hrd
  have HB_V_a0 := hrd _ (.head _)
  have HB_V_b0 := hrd _ (.tail _ (.head _))
  clear hrd
  unfold laws_eqIntS
  refine TW.seq ?_
  refine TW.region ?_
  refine TO.y (Y.assign rfl) rfl rfl rfl ?_
  refine TO.nil ?_
  refine TE.next ?_
  refine TW.seq ?_
  refine TW.seq ?_
  refine TW.region ?_
  refine TO.y (Y.move rfl) rfl rfl rfl ?_
  refine TO.y (Y.len (l := a) ke24 (Base.can HB_V_a0) rfl) rfl rfl rfl ?_
  refine TO.y (Y.move rfl) rfl rfl rfl ?_
  refine TO.y (Y.len (l := b) ke24 (Base.can HB_V_b0) rfl) rfl rfl rfl ?_
  refine TO.y (Y.neq rfl rfl) rfl rfl rfl ?_
  refine TO.nil ?_
  refine TE.next ?_
  refine TW.cond rfl (fun H1 => ?_) (fun H1 => ?_)
  ·refine TW.seq ?_
   refine TW.region ?_
   refine TO.y (Y.assign rfl) rfl rfl rfl ?_
   refine TO.nil ?_
   refine TE.next ?_
   refine TW.ret ?_
   refine TE.then_ret ?_
   exact TE.leaf fun _ _ hf_ hs_ => ret_any (rs := [.tmp 4]) (vs := [.bool false]) (.inl rfl) rfl ⟨rfl, trivial⟩ hf_ hs_ ⟨(), rfl, hs_.pulls [] rfl⟩
  refine TW.skip ?_
  refine TE.next ?_
  refine TW.seq ?_
  refine TW.seq ?_
  refine TW.region ?_
  refine TO.y (Y.assign rfl) rfl rfl rfl ?_
  refine TO.nil ?_
  refine TE.next ?_
  refine TW.joinX (τ := Unit) (X := Unit) (fun _ _ => []) (fun _ _ => []) ?_ (fun T4 X5 => ?_)
  ·refine TW.block ?_
   refine TW.loopX (σ := Int) (X := Unit) (fun T _ => [(0, V_a0), (1, V_b0), (5, .int .i64 T)]) (fun _ _ => []) () [] ⟨rfl, rfl, rfl, trivial⟩ rfl (fun S2 X3 => ?_)
   refine TW.seq ?_
   refine TW.seq ?_
   refine TW.region ?_
   refine TO.y (Y.move rfl) rfl rfl rfl ?_
   refine TO.y (Y.move rfl) rfl rfl rfl ?_
   refine TO.y (Y.len (l := a) ke24 (Base.can HB_V_a0) rfl) rfl rfl rfl ?_
   refine TO.y (Y.lss rfl rfl) rfl rfl rfl ?_
   refine TO.nil ?_
   refine TE.next ?_
   refine TW.cond rfl (fun H6 => ?_) (fun H6 => ?_)
   ·refine TW.skip ?_
    refine TE.next ?_
    refine TW.seq ?_
    refine TW.block ?_
    refine TW.seq ?_
    refine TW.draw (isH := []) hMix ?_
    refine TA.y 0 [] rfl (Y.move rfl) rfl rfl rfl (by kernel_rfl) rfl ?_
    refine TA.y 1 [] rfl (Y.move rfl) rfl rfl rfl (by kernel_rfl) rfl ?_
    refine TA.bind fun E7 H8 => ?_
    refine TA.y 2 [] rfl (Y.index ke24 (Base.can HB_V_a0) H8 rfl rfl) rfl rfl rfl (by kernel_rfl) rfl ?_
    refine TA.y 3 [] rfl (Y.load_el (us := [.int .i64 E7]) (u := .int .i64 E7) kk3 rfl (Base.can HB_V_a0) (idx_get H8).2.2 rfl rfl rfl rfl rfl) rfl rfl rfl (by kernel_rfl) rfl ?_
    refine TA.y 4 [] rfl (Y.move rfl) rfl rfl rfl (by kernel_rfl) rfl ?_
    refine TA.y 5 [] rfl (Y.move rfl) rfl rfl rfl (by kernel_rfl) rfl ?_
    refine TA.bind fun E9 H10 => ?_
    refine TA.y 6 [] rfl (Y.index ke24 (Base.can HB_V_b0) H10 rfl rfl) rfl rfl rfl (by kernel_rfl) rfl ?_
    refine TA.y 7 [] rfl (Y.load_el (us := [.int .i64 E9]) (u := .int .i64 E9) kk3 rfl (Base.can HB_V_b0) (idx_get H10).2.2 rfl rfl rfl rfl rfl) rfl rfl rfl (by kernel_rfl) rfl ?_
    refine TA.y 8 [] rfl (Y.neq rfl rfl) rfl rfl rfl (by kernel_rfl) rfl ?_
    refine TA.nil (by kernel_rfl) ?_
    refine TE.next ?_
    refine TW.cond rfl (fun H11 => ?_) (fun H11 => ?_)
    ·refine TW.seq ?_
     refine TW.region ?_
     refine TO.y (Y.assign rfl) rfl rfl rfl ?_
     refine TO.nil ?_
     refine TE.next ?_
     refine TW.ret ?_
     refine TE.block_ret ?_
     refine TE.then_ret ?_
     refine TE.lp_ret ?_
     refine TE.block_ret ?_
     refine TE.jn_done ?_
     refine TE.then_ret ?_
     exact TE.leaf fun _ _ hf_ hs_ => ret_any (rs := [.tmp 4]) (vs := [.bool false]) (.inl rfl) rfl ⟨rfl, trivial⟩ hf_ hs_ ⟨(), rfl, hs_.pulls [] rfl⟩
    refine TW.skip ?_
    refine TE.block_normal ?_
    refine TE.next ?_
    refine TW.region ?_
    refine TO.y (Y.move rfl) rfl rfl rfl ?_
    refine TO.y (Y.add rfl rfl) rfl rfl rfl ?_
    refine TO.y (Y.assign rfl) rfl rfl rfl ?_
    refine TO.nil ?_
    exact TE.lp_go () [] ⟨rfl, rfl, rfl, trivial⟩ rfl
   refine TW.exit ?_
   refine TE.then_exit ?_
   refine TE.lp_exit ?_
   refine TE.block_exit ?_
   exact TE.jn_go () [] trivial rfl
  refine TE.next ?_
  refine TW.seq ?_
  refine TW.region ?_
  refine TO.y (Y.assign rfl) rfl rfl rfl ?_
  refine TO.nil ?_
  refine TE.next ?_
  refine TW.ret ?_
  exact TE.leaf fun _ _ hf_ hs_ => ret_any (rs := [.tmp 4]) (vs := [.bool true]) (.inl rfl) rfl ⟨rfl, trivial⟩ hf_ hs_ ⟨(), rfl, hs_.pulls [] rfl⟩

/-- loop.example/g00950/laws.eqEng -/
noncomputable def laws_eqEng (a : Eng) (b : Eng) : Option Bool :=
  (laws_eqEntS a.Mem b.Mem).bind fun R3 =>
  if (!R3) = true then (some false)
  else ((laws_eqEntSS a.Tables b.Tables).bind fun R7 =>
  if (!R7) = true then (some false)
  else (if (!(decide (a.Seq = b.Seq))) = true then (some false)
  else ((laws_eqIntS a.Snaps b.Snaps).bind fun R12 =>
  if (!R12) = true then (some false)
  else (some true))))

theorem laws_eqEng_con (a : Eng) (b : Eng) (V_a0 : Value) (V_a1 : Value) (V_a3 : Value) (V_b0 : Value) (V_b1 : Value) (V_b3 : Value) (r : Bool) (hm : laws_eqEng a b = some r) :
    Con Try.prog 9 [.agg #[V_a0, V_a1, .int .i64 a.Seq, V_a3], .agg #[V_b0, V_b1, .int .i64 b.Seq, V_b3]] [] [(V_a0, lc a.Mem), (V_a1, lc a.Tables), (V_a3, lc a.Snaps), (V_b0, lc b.Mem), (V_b1, lc b.Tables), (V_b3, lc b.Snaps)] (fun _ : Unit => .bool r) (fun _ => []) := by
  refine Con.intro (args := [.agg #[V_a0, V_a1, .int .i64 a.Seq, V_a3], .agg #[V_b0, V_b1, .int .i64 b.Seq, V_b3]]) (n := 28) (val := fun r (_ : Unit) => .bool r) (post := fun _ _ => []) (m := laws_eqEng a b) Try.func9 rfl rfl rfl hm ?_
  intro w S hrd
  have HB_V_a0 := hrd _ (.head _)
  have HB_V_a1 := hrd _ (.tail _ (.head _))
  have HB_V_a3 := hrd _ (.tail _ (.tail _ (.head _)))
  have HB_V_b0 := hrd _ (.tail _ (.tail _ (.tail _ (.head _))))
  have HB_V_b1 := hrd _ (.tail _ (.tail _ (.tail _ (.tail _ (.head _)))))
  have HB_V_b3 := hrd _ (.tail _ (.tail _ (.tail _ (.tail _ (.tail _ (.head _))))))
  clear hrd
  unfold laws_eqEng
  refine TW.seq ?_
  refine TW.region ?_
  refine TO.ef (Ef.box rfl (Cel.agg ⟨(One.can (Base.can HB_V_a0)), (One.can (Base.can HB_V_a1)), (One.plain rfl), (One.can (Base.can HB_V_a3)), trivial⟩)) rfl rfl rfl (fun B1 => ?_)
  refine TO.ef (Ef.box rfl (Cel.agg ⟨(One.can (Base.can HB_V_b0)), (One.can (Base.can HB_V_b1)), (One.plain rfl), (One.can (Base.can HB_V_b3)), trivial⟩)) rfl rfl rfl (fun B2 => ?_)
  refine TO.y (Y.assign rfl) rfl rfl rfl ?_
  refine TO.nil ?_
  refine TE.next ?_
  refine TW.seq ?_
  refine TW.seq ?_
  refine TW.region ?_
  refine TO.y (Y.field_box kf33_0 rfl rfl) rfl rfl rfl ?_
  refine TO.y (Y.load_box (v := V_a0) 1 kk30 rfl rfl rfl) rfl rfl rfl ?_
  refine TO.y (Y.field_box kf33_0 rfl rfl) rfl rfl rfl ?_
  refine TO.y (Y.load_box (v := V_b0) 0 kk30 rfl rfl rfl) rfl rfl rfl ?_
  refine TO.bind fun R3 H4 => ?_
  refine TO.ef (Ef.call (rest := [.box B2 33 [V_b0, V_b1, .int .i64 b.Seq, V_b3], .box B1 33 [V_a0, V_a1, .int .i64 a.Seq, V_a3]]) [0, 0] (laws_eqEntS_con a.Mem b.Mem V_a0 V_b0 R3 H4) kc27 rfl rfl ⟨(Base.can HB_V_a0), (Base.can HB_V_b0), trivial⟩) rfl rfl rfl (fun _ => ?_)
  refine TO.y (Y.not rfl) rfl rfl rfl ?_
  refine TO.nil ?_
  refine TE.next ?_
  refine TW.cond rfl (fun H6 => ?_) (fun H6 => ?_)
  ·refine TW.seq ?_
   refine TW.region ?_
   refine TO.y (Y.assign rfl) rfl rfl rfl ?_
   refine TO.nil ?_
   refine TE.next ?_
   refine TW.ret ?_
   refine TE.then_ret ?_
   exact TE.leaf fun _ _ hf_ hs_ => ret_any (rs := [.tmp 4]) (vs := [.bool false]) (.inl rfl) rfl ⟨rfl, trivial⟩ hf_ hs_ ⟨(), rfl, hs_.pulls [] rfl⟩
  refine TW.skip ?_
  refine TE.next ?_
  refine TW.seq ?_
  refine TW.seq ?_
  refine TW.region ?_
  refine TO.y (Y.field_box kf33_1 rfl rfl) rfl rfl rfl ?_
  refine TO.y (Y.load_box (v := V_a1) 1 kk31 rfl rfl rfl) rfl rfl rfl ?_
  refine TO.y (Y.field_box kf33_1 rfl rfl) rfl rfl rfl ?_
  refine TO.y (Y.load_box (v := V_b1) 0 kk31 rfl rfl rfl) rfl rfl rfl ?_
  refine TO.bind fun R7 H8 => ?_
  refine TO.ef (Ef.call (rest := [.box B2 33 [V_b0, V_b1, .int .i64 b.Seq, V_b3], .box B1 33 [V_a0, V_a1, .int .i64 a.Seq, V_a3]]) [0, 0] (laws_eqEntSS_con a.Tables b.Tables V_a1 V_b1 R7 H8) kc28 rfl rfl ⟨(Base.can HB_V_a1), (Base.can HB_V_b1), trivial⟩) rfl rfl rfl (fun _ => ?_)
  refine TO.y (Y.not rfl) rfl rfl rfl ?_
  refine TO.nil ?_
  refine TE.next ?_
  refine TW.cond rfl (fun H10 => ?_) (fun H10 => ?_)
  ·refine TW.seq ?_
   refine TW.region ?_
   refine TO.y (Y.assign rfl) rfl rfl rfl ?_
   refine TO.nil ?_
   refine TE.next ?_
   refine TW.ret ?_
   refine TE.then_ret ?_
   exact TE.leaf fun _ _ hf_ hs_ => ret_any (rs := [.tmp 4]) (vs := [.bool false]) (.inl rfl) rfl ⟨rfl, trivial⟩ hf_ hs_ ⟨(), rfl, hs_.pulls [] rfl⟩
  refine TW.skip ?_
  refine TE.next ?_
  refine TW.seq ?_
  refine TW.seq ?_
  refine TW.region ?_
  refine TO.y (Y.field_box kf33_2 rfl rfl) rfl rfl rfl ?_
  refine TO.y (Y.load_box (v := .int .i64 a.Seq) 1 kk3 rfl rfl rfl) rfl rfl rfl ?_
  refine TO.y (Y.field_box kf33_2 rfl rfl) rfl rfl rfl ?_
  refine TO.y (Y.load_box (v := .int .i64 b.Seq) 0 kk3 rfl rfl rfl) rfl rfl rfl ?_
  refine TO.y (Y.neq rfl rfl) rfl rfl rfl ?_
  refine TO.nil ?_
  refine TE.next ?_
  refine TW.cond rfl (fun H11 => ?_) (fun H11 => ?_)
  ·refine TW.seq ?_
   refine TW.region ?_
   refine TO.y (Y.assign rfl) rfl rfl rfl ?_
   refine TO.nil ?_
   refine TE.next ?_
   refine TW.ret ?_
   refine TE.then_ret ?_
   exact TE.leaf fun _ _ hf_ hs_ => ret_any (rs := [.tmp 4]) (vs := [.bool false]) (.inl rfl) rfl ⟨rfl, trivial⟩ hf_ hs_ ⟨(), rfl, hs_.pulls [] rfl⟩
  refine TW.skip ?_
  refine TE.next ?_
  refine TW.seq ?_
  refine TW.seq ?_
  refine TW.region ?_
  refine TO.y (Y.field_box kf33_3 rfl rfl) rfl rfl rfl ?_
  refine TO.y (Y.load_box (v := V_a3) 1 kk24 rfl rfl rfl) rfl rfl rfl ?_
  refine TO.y (Y.field_box kf33_3 rfl rfl) rfl rfl rfl ?_
  refine TO.y (Y.load_box (v := V_b3) 0 kk24 rfl rfl rfl) rfl rfl rfl ?_
  refine TO.bind fun R12 H13 => ?_
  refine TO.ef (Ef.call (rest := [.box B2 33 [V_b0, V_b1, .int .i64 b.Seq, V_b3], .box B1 33 [V_a0, V_a1, .int .i64 a.Seq, V_a3]]) [0, 0] (laws_eqIntS_con a.Snaps b.Snaps V_a3 V_b3 R12 H13) kc29 rfl rfl ⟨(Base.can HB_V_a3), (Base.can HB_V_b3), trivial⟩) rfl rfl rfl (fun _ => ?_)
  refine TO.y (Y.not rfl) rfl rfl rfl ?_
  refine TO.nil ?_
  refine TE.next ?_
  refine TW.cond rfl (fun H15 => ?_) (fun H15 => ?_)
  ·refine TW.seq ?_
   refine TW.region ?_
   refine TO.y (Y.assign rfl) rfl rfl rfl ?_
   refine TO.nil ?_
   refine TE.next ?_
   refine TW.ret ?_
   refine TE.then_ret ?_
   exact TE.leaf fun _ _ hf_ hs_ => ret_any (rs := [.tmp 4]) (vs := [.bool false]) (.inl rfl) rfl ⟨rfl, trivial⟩ hf_ hs_ ⟨(), rfl, hs_.pulls [] rfl⟩
  refine TW.skip ?_
  refine TE.next ?_
  refine TW.seq ?_
  refine TW.region ?_
  refine TO.y (Y.assign rfl) rfl rfl rfl ?_
  refine TO.nil ?_
  refine TE.next ?_
  refine TW.ret ?_
  exact TE.leaf fun _ _ hf_ hs_ => ret_any (rs := [.tmp 4]) (vs := [.bool true]) (.inl rfl) rfl ⟨rfl, trivial⟩ hf_ hs_ ⟨(), rfl, hs_.pulls [] rfl⟩

/-- loop.example/g00950/laws.FnExactEngGet -/
noncomputable def laws_FnExactEngGet (aE : Eng) (aKey : List UInt8) (aSeq : Int) : Option Bool :=
  if (decide (((aKey.length : Nat) : Int) > (1048576 : Int))) = true then (some true)
  else ((laws_szEng aE (1048576 : Int)).bind fun R3 =>
  if (decide (R3 < (0 : Int))) = true then (some true)
  else ((laws_toEng aE).bind fun R7 =>
  (spec_EngGet R7 aKey aSeq).bind fun R10 =>
  (impl_EngGet R7 aKey aSeq).bind fun R15 =>
  (if (!(decide (R15.1 = R10.1))) = true then (some true)
  else (some (!(decide (R15.2 = R10.2))))).bind (fun (T18 : Bool) =>
  if T18 = true then (some false)
  else ((laws_eqEng R7 R7).bind fun R23 =>
  if (!R23) = true then (some false)
  else (some true)))))

theorem laws_FnExactEngGet_con (aE : Eng) (aKey : List UInt8) (aSeq : Int) (V_aE0 : Value) (V_aE1 : Value) (V_aE3 : Value) (r : Bool) (hm : laws_FnExactEngGet aE aKey aSeq = some r) :
    Con Try.prog 3 [.agg #[V_aE0, V_aE1, .int .i64 aE.Seq, V_aE3], strV aKey, .int .i64 aSeq] [] [(V_aE0, lc aE.Mem), (V_aE1, lc aE.Tables), (V_aE3, lc aE.Snaps)] (fun _ : Unit => .bool r) (fun _ => []) := by
  refine Con.intro (args := [.agg #[V_aE0, V_aE1, .int .i64 aE.Seq, V_aE3], strV aKey, .int .i64 aSeq]) (n := 51) (val := fun r (_ : Unit) => .bool r) (post := fun _ _ => []) (m := laws_FnExactEngGet aE aKey aSeq) Try.func3 rfl rfl rfl hm ?_
  intro w S hrd
  have HB_V_aE0 := hrd _ (.head _)
  have HB_V_aE1 := hrd _ (.tail _ (.head _))
  have HB_V_aE3 := hrd _ (.tail _ (.tail _ (.head _)))
  clear hrd
  unfold laws_FnExactEngGet
  refine TW.seq ?_
  refine TW.region ?_
  refine TO.ef (Ef.box rfl (Cel.agg ⟨(One.can (Base.can HB_V_aE0)), (One.can (Base.can HB_V_aE1)), (One.plain rfl), (One.can (Base.can HB_V_aE3)), trivial⟩)) rfl rfl rfl (fun B1 => ?_)
  refine TO.y (Y.assign rfl) rfl rfl rfl ?_
  refine TO.nil ?_
  refine TE.next ?_
  refine TW.seq ?_
  refine TW.seq ?_
  refine TW.region ?_
  refine TO.y (Y.move rfl) rfl rfl rfl ?_
  refine TO.y (Y.slen ks9 rfl) rfl rfl rfl ?_
  refine TO.y (Y.gtr rfl rfl) rfl rfl rfl ?_
  refine TO.nil ?_
  refine TE.next ?_
  refine TW.cond rfl (fun H2 => ?_) (fun H2 => ?_)
  ·refine TW.seq ?_
   refine TW.region ?_
   refine TO.y (Y.assign rfl) rfl rfl rfl ?_
   refine TO.nil ?_
   refine TE.next ?_
   refine TW.ret ?_
   refine TE.then_ret ?_
   exact TE.leaf fun _ _ hf_ hs_ => ret_any (rs := [.tmp 6]) (vs := [.bool true]) (.inl rfl) rfl ⟨rfl, trivial⟩ hf_ hs_ ⟨(), rfl, hs_.pulls [] rfl⟩
  refine TW.skip ?_
  refine TE.next ?_
  refine TW.seq ?_
  refine TW.region ?_
  refine TO.y (Y.assign rfl) rfl rfl rfl ?_
  refine TO.nil ?_
  refine TE.next ?_
  refine TW.seq ?_
  refine TW.region ?_
  refine TO.y (Y.load_box (v := .agg #[V_aE0, V_aE1, .int .i64 aE.Seq, V_aE3]) 0 kk26 rfl rfl rfl) rfl rfl rfl ?_
  refine TO.y (Y.move rfl) rfl rfl rfl ?_
  refine TO.bind fun R3 H4 => ?_
  refine TO.ef (Ef.call (rest := [.box B1 26 [V_aE0, V_aE1, .int .i64 aE.Seq, V_aE3]]) [0] (laws_szEng_con aE (1048576 : Int) V_aE0 V_aE1 V_aE3 R3 H4) kc5 rfl rfl ⟨(Base.can HB_V_aE0), (Base.can HB_V_aE1), (Base.can HB_V_aE3), trivial⟩) rfl rfl rfl (fun _ => ?_)
  refine TO.y (Y.assign rfl) rfl rfl rfl ?_
  refine TO.nil ?_
  refine TE.next ?_
  refine TW.seq ?_
  refine TW.seq ?_
  refine TW.region ?_
  refine TO.y (Y.move rfl) rfl rfl rfl ?_
  refine TO.y (Y.lss rfl rfl) rfl rfl rfl ?_
  refine TO.nil ?_
  refine TE.next ?_
  refine TW.cond rfl (fun H6 => ?_) (fun H6 => ?_)
  ·refine TW.seq ?_
   refine TW.region ?_
   refine TO.y (Y.assign rfl) rfl rfl rfl ?_
   refine TO.nil ?_
   refine TE.next ?_
   refine TW.ret ?_
   refine TE.then_ret ?_
   exact TE.leaf fun _ _ hf_ hs_ => ret_any (rs := [.tmp 6]) (vs := [.bool true]) (.inl rfl) rfl ⟨rfl, trivial⟩ hf_ hs_ ⟨(), rfl, hs_.pulls [] rfl⟩
  refine TW.skip ?_
  refine TE.next ?_
  refine TW.seq ?_
  refine TW.region ?_
  refine TO.y (Y.load_box (v := .agg #[V_aE0, V_aE1, .int .i64 aE.Seq, V_aE3]) 0 kk26 rfl rfl rfl) rfl rfl rfl ?_
  refine TO.bind fun R7 H8 => ?_
  refine TO.ef (Ef.call (rest := [.box B1 26 [V_aE0, V_aE1, .int .i64 aE.Seq, V_aE3]]) [0] (laws_toEng_con aE V_aE0 V_aE1 V_aE3 R7 H8) kc7 rfl rfl ⟨(Base.can HB_V_aE0), (Base.can HB_V_aE1), (Base.can HB_V_aE3), trivial⟩) rfl rfl rfl (fun Y9 => ?_)
  refine TO.y (Y.move rfl) rfl rfl rfl ?_
  refine TO.y (Y.move rfl) rfl rfl rfl ?_
  refine TO.bind fun R10 H11 => ?_
  refine TO.ef (Ef.call (rest := [.own Y9.1 (lc R7.Mem), .own Y9.2.1 (lc R7.Tables), .own Y9.2.2 (lc R7.Snaps), .box B1 26 [V_aE0, V_aE1, .int .i64 aE.Seq, V_aE3]]) [0, 0, 0, 0] (spec_EngGet_con R7 aKey aSeq Y9.1 Y9.2.1 Y9.2.2 R10 H11) kc6 rfl rfl ⟨(Can.own 0 rfl), (Can.own 1 rfl), (Can.own 2 rfl), trivial⟩) rfl rfl rfl (fun _ => ?_)
  refine TO.y (Y.move rfl) rfl rfl rfl ?_
  refine TO.y (Y.extract rfl rfl) rfl rfl rfl ?_
  refine TO.y (Y.extract rfl rfl) rfl rfl rfl ?_
  refine TO.y (Y.assign rfl) rfl rfl rfl ?_
  refine TO.y (Y.assign rfl) rfl rfl rfl ?_
  refine TO.nil ?_
  refine TE.next ?_
  refine TW.seq ?_
  refine TW.region ?_
  refine TO.y (Y.load_box (v := .agg #[V_aE0, V_aE1, .int .i64 aE.Seq, V_aE3]) 3 kk26 rfl rfl rfl) rfl rfl rfl ?_
  refine TO.ef (Ef.call (rest := [.own Y9.1 (lc R7.Mem), .own Y9.2.1 (lc R7.Tables), .own Y9.2.2 (lc R7.Snaps), .box B1 26 [V_aE0, V_aE1, .int .i64 aE.Seq, V_aE3]]) [0, 0, 0, 0] (laws_toEng_con aE V_aE0 V_aE1 V_aE3 R7 H8) kc7 rfl rfl ⟨(Base.can HB_V_aE0), (Base.can HB_V_aE1), (Base.can HB_V_aE3), trivial⟩) rfl rfl rfl (fun Y13 => ?_)
  refine TO.ef (Ef.alloc kz33 rfl) rfl rfl rfl (fun B14 => ?_)
  refine TO.ef0 (Ef.store_box (us := [Y13.1, Y13.2.1, .int .i64 R7.Seq, Y13.2.2]) (vs' := [Y13.1, Y13.2.1, .int .i64 R7.Seq, Y13.2.2]) (is' := [.box B14 33 [Y13.1, Y13.2.1, .int .i64 R7.Seq, Y13.2.2], .own Y13.1 (lc R7.Mem), .own Y13.2.1 (lc R7.Tables), .own Y13.2.2 (lc R7.Snaps), .own Y9.1 (lc R7.Mem), .own Y9.2.1 (lc R7.Tables), .own Y9.2.2 (lc R7.Snaps), .box B1 26 [V_aE0, V_aE1, .int .i64 aE.Seq, V_aE3]]) 0 kk33 rfl rfl rfl (Cel.agg ⟨(One.can (Can.own 1 rfl)), (One.can (Can.own 2 rfl)), (One.plain rfl), (One.can (Can.own 3 rfl)), trivial⟩) rfl rfl rfl rfl) rfl rfl (fun _ => ?_)
  refine TO.nil ?_
  refine TE.next ?_
  refine TW.seq ?_
  refine TW.region ?_
  refine TO.y (Y.load_box (v := .agg #[Y13.1, Y13.2.1, .int .i64 R7.Seq, Y13.2.2]) 0 kk33 rfl rfl rfl) rfl rfl rfl ?_
  refine TO.y (Y.move rfl) rfl rfl rfl ?_
  refine TO.y (Y.move rfl) rfl rfl rfl ?_
  refine TO.bind fun R15 H16 => ?_
  refine TO.ef (Ef.call (rest := [.box B14 33 [Y13.1, Y13.2.1, .int .i64 R7.Seq, Y13.2.2], .own Y13.1 (lc R7.Mem), .own Y13.2.1 (lc R7.Tables), .own Y13.2.2 (lc R7.Snaps), .own Y9.1 (lc R7.Mem), .own Y9.2.1 (lc R7.Tables), .own Y9.2.2 (lc R7.Snaps), .box B1 26 [V_aE0, V_aE1, .int .i64 aE.Seq, V_aE3]]) [0, 0, 0, 0, 0, 0, 0, 0] (impl_EngGet_con R7 aKey aSeq Y13.1 Y13.2.1 Y13.2.2 R15 H16) kc8 rfl rfl ⟨(Can.own 1 rfl), (Can.own 2 rfl), (Can.own 3 rfl), trivial⟩) rfl rfl rfl (fun _ => ?_)
  refine TO.y (Y.move rfl) rfl rfl rfl ?_
  refine TO.y (Y.extract rfl rfl) rfl rfl rfl ?_
  refine TO.y (Y.extract rfl rfl) rfl rfl rfl ?_
  refine TO.y (Y.assign rfl) rfl rfl rfl ?_
  refine TO.y (Y.assign rfl) rfl rfl rfl ?_
  refine TO.nil ?_
  refine TE.next ?_
  refine TW.seq ?_
  refine TW.seq ?_
  refine TW.joinBX (τ := Bool) (X := Unit) (fun T _ => [(3, .pointer (some ⟨B1, 0, none⟩)), (10, .pointer (some ⟨B14, 0, none⟩)), (45, .bool T)]) (fun _ _ => [.box B1 26 [V_aE0, V_aE1, .int .i64 aE.Seq, V_aE3], .box B14 33 [Y13.1, Y13.2.1, .int .i64 R7.Seq, Y13.2.2], .own Y13.1 (lc R7.Mem), .own Y13.2.1 (lc R7.Tables), .own Y13.2.2 (lc R7.Snaps)]) ?_ (fun T18 X19 => ?_)
  ·refine TW.region ?_
   refine TO.y (Y.move rfl) rfl rfl rfl ?_
   refine TO.y (Y.move rfl) rfl rfl rfl ?_
   refine TO.y (Y.sneq rfl rfl) rfl rfl rfl ?_
   refine TO.y (Y.move rfl) rfl rfl rfl ?_
   refine TO.ite (b := !(decide (R15.1 = R10.1))) (fun H20 => ?_) (fun H20 => ?_)
   ·refine TO.off (Gd.at 3 false 41 (!(decide (R15.1 = R10.1))) rfl rfl rfl (beq_tf H20)) rfl rfl ?_
    refine TO.off (Gd.at 3 false 41 (!(decide (R15.1 = R10.1))) rfl rfl rfl (beq_tf H20)) rfl rfl ?_
    refine TO.off (Gd.at 3 false 41 (!(decide (R15.1 = R10.1))) rfl rfl rfl (beq_tf H20)) rfl rfl ?_
    refine TO.y (Y.pick_t H20 rfl rfl) rfl rfl rfl ?_
    refine TO.nil ?_
    exact TE.jb_go () [7, 0, 0, 0, 0] ⟨rfl, rfl, rfl, trivial⟩ rfl
   refine TO.y (Y.move rfl) (Gd.at 3 false 41 (!(decide (R15.1 = R10.1))) rfl rfl rfl (beq_ff H20)) rfl rfl ?_
   refine TO.y (Y.move rfl) (Gd.at 3 false 41 (!(decide (R15.1 = R10.1))) rfl rfl rfl (beq_ff H20)) rfl rfl ?_
   refine TO.y (Y.neb kb4 rfl rfl) (Gd.at 3 false 41 (!(decide (R15.1 = R10.1))) rfl rfl rfl (beq_ff H20)) rfl rfl ?_
   refine TO.y (Y.pick_f H20 rfl rfl) rfl rfl rfl ?_
   refine TO.nil ?_
   exact TE.jb_go () [7, 0, 0, 0, 0] ⟨rfl, rfl, rfl, trivial⟩ rfl
  refine TE.next ?_
  refine TW.cond rfl (fun H21 => ?_) (fun H21 => ?_)
  ·refine TW.seq ?_
   refine TW.region ?_
   refine TO.y (Y.assign rfl) rfl rfl rfl ?_
   refine TO.nil ?_
   refine TE.next ?_
   refine TW.ret ?_
   refine TE.then_ret ?_
   exact TE.leaf fun _ _ hf_ hs_ => ret_any (rs := [.tmp 6]) (vs := [.bool false]) (.inl rfl) rfl ⟨rfl, trivial⟩ hf_ hs_ ⟨(), rfl, hs_.pulls [] rfl⟩
  refine TW.skip ?_
  refine TE.next ?_
  refine TW.seq ?_
  refine TW.seq ?_
  refine TW.draw (isH := [.box B1 26 [V_aE0, V_aE1, .int .i64 aE.Seq, V_aE3], .box B14 33 [Y13.1, Y13.2.1, .int .i64 R7.Seq, Y13.2.2], .own Y13.1 (lc R7.Mem), .own Y13.2.1 (lc R7.Tables), .own Y13.2.2 (lc R7.Snaps)]) hMix ?_
  refine TA.y 0 [0, 0, 0, 0, 0] rfl (Y.load_box (v := .agg #[Y13.1, Y13.2.1, .int .i64 R7.Seq, Y13.2.2]) 1 kk33 rfl rfl rfl) rfl rfl rfl (by kernel_rfl) rfl ?_
  refine TA.y 1 [0, 0, 0, 0, 0] rfl (Y.load_box (v := .agg #[V_aE0, V_aE1, .int .i64 aE.Seq, V_aE3]) 0 kk26 rfl rfl rfl) rfl rfl rfl (by kernel_rfl) rfl ?_
  refine TA.one 2 (by kernel_rfl) ?_
  refine TX.ef [3, 3, 3, 3, 3] rfl (Ef.call (rest := [.box B1 26 [V_aE0, V_aE1, .int .i64 aE.Seq, V_aE3], .box B14 33 [Y13.1, Y13.2.1, .int .i64 R7.Seq, Y13.2.2], .own Y13.1 (lc R7.Mem), .own Y13.2.1 (lc R7.Tables), .own Y13.2.2 (lc R7.Snaps)]) [0, 0, 0, 0, 0] (laws_toEng_con aE V_aE0 V_aE1 V_aE3 R7 H8) kc7 rfl rfl ⟨(Base.can HB_V_aE0), (Base.can HB_V_aE1), (Base.can HB_V_aE3), trivial⟩) rfl rfl rfl (fun _ => rfl) (fun Y22 => ?_)
  refine TA.bind fun R23 H24 => ?_
  refine TA.one 3 (by kernel_rfl) ?_
  refine TX.ef [3, 3, 3, 3, 3] rfl (Ef.call (rest := [.own Y22.1 (lc R7.Mem), .own Y22.2.1 (lc R7.Tables), .own Y22.2.2 (lc R7.Snaps), .box B1 26 [V_aE0, V_aE1, .int .i64 aE.Seq, V_aE3], .box B14 33 [Y13.1, Y13.2.1, .int .i64 R7.Seq, Y13.2.2], .own Y13.1 (lc R7.Mem), .own Y13.2.1 (lc R7.Tables), .own Y13.2.2 (lc R7.Snaps)]) [0, 0, 0, 0, 0, 0, 0, 0] (laws_eqEng_con R7 R7 Y13.1 Y13.2.1 Y13.2.2 Y22.1 Y22.2.1 Y22.2.2 R23 H24) kc9 rfl rfl ⟨(Can.own 5 rfl), (Can.own 6 rfl), (Can.own 7 rfl), (Can.own 0 rfl), (Can.own 1 rfl), (Can.own 2 rfl), trivial⟩) rfl rfl rfl (fun _ => rfl) (fun _ => ?_)
  refine TA.y 4 [3, 3, 3, 3, 3] rfl (Y.not rfl) rfl rfl rfl (by kernel_rfl) rfl ?_
  refine TA.nil (by kernel_rfl) ?_
  refine TE.next ?_
  refine TW.cond rfl (fun H26 => ?_) (fun H26 => ?_)
  ·refine TW.seq ?_
   refine TW.region ?_
   refine TO.y (Y.assign rfl) rfl rfl rfl ?_
   refine TO.nil ?_
   refine TE.next ?_
   refine TW.ret ?_
   refine TE.then_ret ?_
   exact TE.leaf fun _ _ hf_ hs_ => ret_any (rs := [.tmp 6]) (vs := [.bool false]) (.inl rfl) rfl ⟨rfl, trivial⟩ hf_ hs_ ⟨(), rfl, hs_.pulls [] rfl⟩
  refine TW.skip ?_
  refine TE.next ?_
  refine TW.seq ?_
  refine TW.region ?_
  refine TO.y (Y.assign rfl) rfl rfl rfl ?_
  refine TO.nil ?_
  refine TE.next ?_
  refine TW.ret ?_
  exact TE.leaf fun _ _ hf_ hs_ => ret_any (rs := [.tmp 6]) (vs := [.bool true]) (.inl rfl) rfl ⟨rfl, trivial⟩ hf_ hs_ ⟨(), rfl, hs_.pulls [] rfl⟩

end Go.Proofs.Ytnfejohfdkoibaa
