/-
  The functions that a law reaches, each as a pure function, with the proof that the program computes it, and the step from a pure law to the given statement. Conditions: none.
-/
import Derived.Test.YtfnhaaafggdllaaM2
set_option linter.unusedVariables false
set_option maxRecDepth 100000
set_option maxHeartbeats 4000000
namespace Go.Proofs.Ytfnhaaafggdllaa
open Go Sl

/-- slices.stableCmpFunc[loop.example/g00950/impl.Ent] -/
noncomputable def slices_stableCmpFunc_57869_at_impl_compareEnts (data : List Ent) (n : Int) : Option (List Ent) :=
  bindC (loopO (fun (S1 : Int × Int × List Ent) => if (decide (S1.2.1 ≤ n)) = true then ((slices_insertionSortCmpFunc_57869_at_impl_compareEnts S1.2.2 S1.1 S1.2.1).bind fun R6 =>
  some (.go (S1.2.1, IntKind.i64.wrap (S1.2.1 + (20 : Int)), R6)))
  else (some (.done (.go (S1.1, S1.2.2)))))
  ((0 : Int), (20 : Int), data))
  (fun (T3 : Int × List Ent) => (slices_insertionSortCmpFunc_57869_at_impl_compareEnts T3.2 T3.1 n).bind fun R9 =>
  bindC (loopO (fun (S12 : Int × List Ent) => if (decide (S12.1 < n)) = true then (bindC (loopO (fun (S17 : Int × Int × List Ent) => if (decide (S17.2.1 ≤ n)) = true then ((slices_symMergeCmpFunc_57869_at_impl_compareEnts S17.2.2 S17.1 (IntKind.i64.wrap (S17.1 + S12.1)) S17.2.1).bind fun R22 =>
  some (.go (S17.2.1, IntKind.i64.wrap (S17.2.1 + (IntKind.i64.wrap ((2 : Int) * S12.1))), R22)))
  else (some (.done (.go (S17.1, S17.2.2)))))
  ((0 : Int), IntKind.i64.wrap ((2 : Int) * S12.1), S12.2))
  (fun (T19 : Int × List Ent) => bindC (if (decide (IntKind.i64.wrap (T19.1 + S12.1) < n)) = true then ((slices_symMergeCmpFunc_57869_at_impl_compareEnts T19.2 T19.1 (IntKind.i64.wrap (T19.1 + S12.1)) n).bind fun R28 =>
  some (.go R28))
  else (some (.go T19.2)))
  (fun (T25 : List Ent) => some (.go (IntKind.i64.wrap (S12.1 * (2 : Int)), T25)))))
  else (some (.done (.go S12.2))))
  ((20 : Int), R9))
  (fun (T14 : List Ent) => some T14))

theorem slices_stableCmpFunc_57869_at_impl_compareEnts_con (data : List Ent) (n : Int) (V_data0 : Value) (r : List Ent) (hm : slices_stableCmpFunc_57869_at_impl_compareEnts data n = some r) :
    Con Try.prog 86 [V_data0, .int .i64 n, .func (.func 63) #[] #[]] [.own V_data0 (lc data)] [] (fun _ : Unit => .tuple #[]) (fun _ => [.own V_data0 (lc r)]) := by
  refine Con.intro (args := [V_data0, .int .i64 n, .func (.func 63) #[] #[]]) (n := 63) (val := fun _ (_ : Unit) => .tuple #[]) (post := fun r _ => [.own V_data0 (lc r)]) (m := slices_stableCmpFunc_57869_at_impl_compareEnts data n) Try.func86 rfl rfl rfl hm ?_
  intro w S _
  unfold slices_stableCmpFunc_57869_at_impl_compareEnts
  refine TW.seq ?_
  refine TW.region ?_
  refine TO.y (Y.assign rfl) rfl rfl rfl ?_
  refine TO.nil ?_
  refine TE.next ?_
  refine TW.seq ?_
  refine TW.region ?_
  refine TO.y (Y.move rfl) rfl rfl rfl ?_
  refine TO.y (Y.assign rfl) rfl rfl rfl ?_
  refine TO.y (Y.assign rfl) rfl rfl rfl ?_
  refine TO.nil ?_
  refine TE.next ?_
  refine TW.seq ?_
  refine TW.joinX (τ := Int × List Ent) (X := Unit) (fun T _ => [(0, V_data0), (1, .int .i64 n), (2, .func (.func 63) #[] #[]), (6, .int .i64 (20 : Int)), (7, .int .i64 T.1)]) (fun T _ => [.own V_data0 (lc T.2)]) ?_ (fun T3 X4 => ?_)
  · refine TW.block ?_
    refine TW.loopX (σ := Int × Int × List Ent) (X := Unit) (fun T _ => [(0, V_data0), (1, .int .i64 n), (2, .func (.func 63) #[] #[]), (6, .int .i64 (20 : Int)), (7, .int .i64 T.1), (8, .int .i64 T.2.1)]) (fun T _ => [.own V_data0 (lc T.2.2)]) () [0] ⟨rfl, rfl, rfl, rfl, rfl, rfl, trivial⟩ rfl (fun S1 X2 => ?_)
    refine TW.seq ?_
    refine TW.seq ?_
    refine TW.region ?_
    refine TO.y (Y.move rfl) rfl rfl rfl ?_
    refine TO.y (Y.move rfl) rfl rfl rfl ?_
    refine TO.y (Y.leq rfl rfl) rfl rfl rfl ?_
    refine TO.nil ?_
    refine TE.next ?_
    refine TW.cond rfl (fun H5 => ?_) (fun H5 => ?_)
    · refine TW.skip ?_
      refine TE.next ?_
      refine TW.block ?_
      refine TW.seq ?_
      refine TW.region ?_
      refine TO.y (Y.move rfl) rfl rfl rfl ?_
      refine TO.y (Y.move rfl) rfl rfl rfl ?_
      refine TO.y (Y.move rfl) rfl rfl rfl ?_
      refine TO.y (Y.move rfl) rfl rfl rfl ?_
      refine TO.bind fun R6 H7 => ?_
      refine TO.ef (Ef.call (rest := []) [0] (slices_insertionSortCmpFunc_57869_at_impl_compareEnts_con S1.2.2 S1.1 S1.2.1 V_data0 R6 H7) kc101 rfl rfl trivial) rfl rfl rfl (fun _ => ?_)
      refine TO.nil ?_
      refine TE.next ?_
      refine TW.seq ?_
      refine TW.region ?_
      refine TO.y (Y.move rfl) rfl rfl rfl ?_
      refine TO.y (Y.assign rfl) rfl rfl rfl ?_
      refine TO.nil ?_
      refine TE.next ?_
      refine TW.region ?_
      refine TO.y (Y.move rfl) rfl rfl rfl ?_
      refine TO.y (Y.move rfl) rfl rfl rfl ?_
      refine TO.y (Y.add rfl rfl) rfl rfl rfl ?_
      refine TO.y (Y.assign rfl) rfl rfl rfl ?_
      refine TO.nil ?_
      refine TE.block_normal ?_
      exact TE.lp_go () [0] ⟨rfl, rfl, rfl, rfl, rfl, rfl, trivial⟩ rfl
    · refine TW.exit ?_
      refine TE.then_exit ?_
      refine TE.lp_exit ?_
      refine TE.block_exit ?_
      exact TE.jn_go () [0] ⟨rfl, rfl, rfl, rfl, rfl, trivial⟩ rfl
  · refine TE.next ?_
    refine TW.seq ?_
    refine TW.region ?_
    refine TO.y (Y.move rfl) rfl rfl rfl ?_
    refine TO.y (Y.move rfl) rfl rfl rfl ?_
    refine TO.y (Y.move rfl) rfl rfl rfl ?_
    refine TO.y (Y.move rfl) rfl rfl rfl ?_
    refine TO.bind fun R9 H10 => ?_
    refine TO.ef (Ef.call (rest := []) [0] (slices_insertionSortCmpFunc_57869_at_impl_compareEnts_con T3.2 T3.1 n V_data0 R9 H10) kc101 rfl rfl trivial) rfl rfl rfl (fun _ => ?_)
    refine TO.nil ?_
    refine TE.next ?_
    refine TW.joinX (τ := List Ent) (X := Unit) (fun _ _ => []) (fun T _ => [.own V_data0 (lc T)]) ?_ (fun T14 X15 => ?_)
    · refine TW.block ?_
      refine TW.loopX (σ := Int × List Ent) (X := Unit) (fun T _ => [(0, V_data0), (1, .int .i64 n), (2, .func (.func 63) #[] #[]), (6, .int .i64 T.1)]) (fun T _ => [.own V_data0 (lc T.2)]) () [0] ⟨rfl, rfl, rfl, rfl, trivial⟩ rfl (fun S12 X13 => ?_)
      refine TW.seq ?_
      refine TW.seq ?_
      refine TW.region ?_
      refine TO.y (Y.move rfl) rfl rfl rfl ?_
      refine TO.y (Y.move rfl) rfl rfl rfl ?_
      refine TO.y (Y.lss rfl rfl) rfl rfl rfl ?_
      refine TO.nil ?_
      refine TE.next ?_
      refine TW.cond rfl (fun H16 => ?_) (fun H16 => ?_)
      · refine TW.skip ?_
        refine TE.next ?_
        refine TW.block ?_
        refine TW.seq ?_
        refine TW.region ?_
        refine TO.y (Y.move rfl) rfl rfl rfl ?_
        refine TO.y (Y.mul rfl rfl) rfl rfl rfl ?_
        refine TO.y (Y.assign rfl) rfl rfl rfl ?_
        refine TO.y (Y.assign rfl) rfl rfl rfl ?_
        refine TO.nil ?_
        refine TE.next ?_
        refine TW.seq ?_
        refine TW.joinX (τ := Int × List Ent) (X := Unit) (fun T _ => [(0, V_data0), (1, .int .i64 n), (2, .func (.func 63) #[] #[]), (6, .int .i64 S12.1), (7, .int .i64 T.1)]) (fun T _ => [.own V_data0 (lc T.2)]) ?_ (fun T19 X20 => ?_)
        · refine TW.block ?_
          refine TW.loopX (σ := Int × Int × List Ent) (X := Unit) (fun T _ => [(0, V_data0), (1, .int .i64 n), (2, .func (.func 63) #[] #[]), (6, .int .i64 S12.1), (7, .int .i64 T.1), (8, .int .i64 T.2.1)]) (fun T _ => [.own V_data0 (lc T.2.2)]) () [0] ⟨rfl, rfl, rfl, rfl, rfl, rfl, trivial⟩ rfl (fun S17 X18 => ?_)
          refine TW.seq ?_
          refine TW.seq ?_
          refine TW.region ?_
          refine TO.y (Y.move rfl) rfl rfl rfl ?_
          refine TO.y (Y.move rfl) rfl rfl rfl ?_
          refine TO.y (Y.leq rfl rfl) rfl rfl rfl ?_
          refine TO.nil ?_
          refine TE.next ?_
          refine TW.cond rfl (fun H21 => ?_) (fun H21 => ?_)
          · refine TW.skip ?_
            refine TE.next ?_
            refine TW.block ?_
            refine TW.seq ?_
            refine TW.region ?_
            refine TO.y (Y.move rfl) rfl rfl rfl ?_
            refine TO.y (Y.move rfl) rfl rfl rfl ?_
            refine TO.y (Y.move rfl) rfl rfl rfl ?_
            refine TO.y (Y.move rfl) rfl rfl rfl ?_
            refine TO.y (Y.add rfl rfl) rfl rfl rfl ?_
            refine TO.y (Y.move rfl) rfl rfl rfl ?_
            refine TO.y (Y.move rfl) rfl rfl rfl ?_
            refine TO.bind fun R22 H23 => ?_
            refine TO.ef (Ef.call (rest := []) [0] (slices_symMergeCmpFunc_57869_at_impl_compareEnts_con S17.2.2 S17.1 (IntKind.i64.wrap (S17.1 + S12.1)) S17.2.1 V_data0 R22 H23) kc102 rfl rfl trivial) rfl rfl rfl (fun _ => ?_)
            refine TO.nil ?_
            refine TE.next ?_
            refine TW.seq ?_
            refine TW.region ?_
            refine TO.y (Y.move rfl) rfl rfl rfl ?_
            refine TO.y (Y.assign rfl) rfl rfl rfl ?_
            refine TO.nil ?_
            refine TE.next ?_
            refine TW.region ?_
            refine TO.y (Y.move rfl) rfl rfl rfl ?_
            refine TO.y (Y.move rfl) rfl rfl rfl ?_
            refine TO.y (Y.mul rfl rfl) rfl rfl rfl ?_
            refine TO.y (Y.add rfl rfl) rfl rfl rfl ?_
            refine TO.y (Y.assign rfl) rfl rfl rfl ?_
            refine TO.nil ?_
            refine TE.block_normal ?_
            exact TE.lp_go () [0] ⟨rfl, rfl, rfl, rfl, rfl, rfl, trivial⟩ rfl
          · refine TW.exit ?_
            refine TE.then_exit ?_
            refine TE.lp_exit ?_
            refine TE.block_exit ?_
            exact TE.jn_go () [0] ⟨rfl, rfl, rfl, rfl, rfl, trivial⟩ rfl
        · refine TE.next ?_
          refine TW.seq ?_
          refine TW.seq ?_
          refine TW.region ?_
          refine TO.y (Y.move rfl) rfl rfl rfl ?_
          refine TO.y (Y.move rfl) rfl rfl rfl ?_
          refine TO.y (Y.add rfl rfl) rfl rfl rfl ?_
          refine TO.y (Y.assign rfl) rfl rfl rfl ?_
          refine TO.nil ?_
          refine TE.next ?_
          refine TW.seq ?_
          refine TW.region ?_
          refine TO.y (Y.move rfl) rfl rfl rfl ?_
          refine TO.y (Y.move rfl) rfl rfl rfl ?_
          refine TO.y (Y.lss rfl rfl) rfl rfl rfl ?_
          refine TO.nil ?_
          refine TE.next ?_
          refine TW.joinX (τ := List Ent) (X := Unit) (fun _ _ => [(0, V_data0), (1, .int .i64 n), (2, .func (.func 63) #[] #[]), (6, .int .i64 S12.1)]) (fun T _ => [.own V_data0 (lc T)]) ?_ (fun T25 X26 => ?_)
          · refine TW.cond rfl (fun H27 => ?_) (fun H27 => ?_)
            · refine TW.region ?_
              refine TO.y (Y.move rfl) rfl rfl rfl ?_
              refine TO.y (Y.move rfl) rfl rfl rfl ?_
              refine TO.y (Y.move rfl) rfl rfl rfl ?_
              refine TO.y (Y.move rfl) rfl rfl rfl ?_
              refine TO.y (Y.move rfl) rfl rfl rfl ?_
              refine TO.bind fun R28 H29 => ?_
              refine TO.ef (Ef.call (rest := []) [0] (slices_symMergeCmpFunc_57869_at_impl_compareEnts_con T19.2 T19.1 (IntKind.i64.wrap (T19.1 + S12.1)) n V_data0 R28 H29) kc102 rfl rfl trivial) rfl rfl rfl (fun _ => ?_)
              refine TO.nil ?_
              exact TE.jn_go () [0] ⟨rfl, rfl, rfl, rfl, trivial⟩ rfl
            · refine TW.skip ?_
              exact TE.jn_go () [0] ⟨rfl, rfl, rfl, rfl, trivial⟩ rfl
          · refine TE.next ?_
            refine TW.region ?_
            refine TO.y (Y.move rfl) rfl rfl rfl ?_
            refine TO.y (Y.mul rfl rfl) rfl rfl rfl ?_
            refine TO.y (Y.assign rfl) rfl rfl rfl ?_
            refine TO.nil ?_
            refine TE.block_normal ?_
            exact TE.lp_go () [0] ⟨rfl, rfl, rfl, rfl, trivial⟩ rfl
      · refine TW.exit ?_
        refine TE.then_exit ?_
        refine TE.lp_exit ?_
        refine TE.block_exit ?_
        exact TE.jn_go () [0] trivial rfl
    · exact TE.leaf fun _ _ hf_ hs_ => ret_any (rs := []) (vs := []) (.inr rfl) rfl trivial hf_ hs_ ⟨(), rfl, hs_.pulls [0] rfl⟩

/-- slices.SortStableFunc[[]loop.example/g00950/impl.Ent,loop.example/g00950/impl.Ent] -/
noncomputable def slices_SortStableFunc_94167_at_impl_compareEnts (x : List Ent) : Option (List Ent) :=
  (slices_stableCmpFunc_57869_at_impl_compareEnts x ((x.length : Nat) : Int)).bind fun R1 =>
  some R1

theorem slices_SortStableFunc_94167_at_impl_compareEnts_con (x : List Ent) (V_x0 : Value) (r : List Ent) (hm : slices_SortStableFunc_94167_at_impl_compareEnts x = some r) :
    Con Try.prog 62 [V_x0, .func (.func 63) #[] #[]] [.own V_x0 (lc x)] [] (fun _ : Unit => .tuple #[]) (fun _ => [.own V_x0 (lc r)]) := by
  refine Con.intro (args := [V_x0, .func (.func 63) #[] #[]]) (n := 9) (val := fun _ (_ : Unit) => .tuple #[]) (post := fun r _ => [.own V_x0 (lc r)]) (m := slices_SortStableFunc_94167_at_impl_compareEnts x) Try.func62 rfl rfl rfl hm ?_
  intro w S _
  unfold slices_SortStableFunc_94167_at_impl_compareEnts
  refine TW.region ?_
  refine TO.y (Y.move rfl) rfl rfl rfl ?_
  refine TO.y (Y.move rfl) rfl rfl rfl ?_
  refine TO.y (Y.len (l := x) ke26 (Can.own 0 rfl) rfl) rfl rfl rfl ?_
  refine TO.y (Y.move rfl) rfl rfl rfl ?_
  refine TO.bind fun R1 H2 => ?_
  refine TO.ef (Ef.call (rest := []) [0] (slices_stableCmpFunc_57869_at_impl_compareEnts_con x ((x.length : Nat) : Int) V_x0 R1 H2) kc86 rfl rfl trivial) rfl rfl rfl (fun _ => ?_)
  refine TO.nil ?_
  exact TE.leaf fun _ _ hf_ hs_ => ret_any (rs := []) (vs := []) (.inr rfl) rfl trivial hf_ hs_ ⟨(), rfl, hs_.pulls [0] rfl⟩

/-- loop.example/g00950/impl.merged$1 -/
noncomputable def impl_merged_1 (a : Ent) (b : Ent) : Option Bool :=
  (if (decide (a.Key = b.Key)) = true then (some (decide (a.Seq = b.Seq)))
  else (some false)).bind (fun (T3 : Bool) =>
  some T3)

theorem impl_merged_1_con (a : Ent) (b : Ent)  (r : Bool) (hm : impl_merged_1 a b = some r) :
    Con Try.prog 66 [.agg #[strV a.Key, .int .i64 a.Seq, .bool a.Del, strV a.Val], .agg #[strV b.Key, .int .i64 b.Seq, .bool b.Del, strV b.Val]] [] [] (fun _ : Unit => .bool r) (fun _ => []) := by
  refine Con.intro (args := [.agg #[strV a.Key, .int .i64 a.Seq, .bool a.Del, strV a.Val], .agg #[strV b.Key, .int .i64 b.Seq, .bool b.Del, strV b.Val]]) (n := 17) (val := fun r (_ : Unit) => .bool r) (post := fun _ _ => []) (m := impl_merged_1 a b) Try.func66 rfl rfl rfl hm ?_
  intro w S _
  unfold impl_merged_1
  refine TW.seq ?_
  refine TW.region ?_
  refine TO.ef (Ef.box rfl (Cel.plain rfl rfl)) rfl rfl rfl (fun B1 => ?_)
  refine TO.ef (Ef.box rfl (Cel.plain rfl rfl)) rfl rfl rfl (fun B2 => ?_)
  refine TO.y (Y.assign rfl) rfl rfl rfl ?_
  refine TO.nil ?_
  refine TE.next ?_
  refine TW.seq ?_
  refine TW.joinBX (τ := Bool) (X := Unit) (fun T _ => [(4, .bool T)]) (fun _ _ => []) ?_ (fun T3 X4 => ?_)
  · refine TW.region ?_
    refine TO.y (Y.field_box kf31_0 rfl rfl) rfl rfl rfl ?_
    refine TO.y (Y.load_box (v := strV a.Key) 1 kk9 rfl rfl rfl) rfl rfl rfl ?_
    refine TO.y (Y.field_box kf31_0 rfl rfl) rfl rfl rfl ?_
    refine TO.y (Y.load_box (v := strV b.Key) 0 kk9 rfl rfl rfl) rfl rfl rfl ?_
    refine TO.y (Y.seql rfl rfl) rfl rfl rfl ?_
    refine TO.y (Y.move rfl) rfl rfl rfl ?_
    refine TO.ite (b := decide (a.Key = b.Key)) (fun H5 => ?_) (fun H5 => ?_)
    · refine TO.y (Y.field_box kf31_1 rfl rfl) (Gd.at 5 true 10 (decide (a.Key = b.Key)) rfl rfl rfl (beq_tt H5)) rfl rfl ?_
      refine TO.y (Y.load_box (v := .int .i64 a.Seq) 1 kk3 rfl rfl rfl) (Gd.at 5 true 10 (decide (a.Key = b.Key)) rfl rfl rfl (beq_tt H5)) rfl rfl ?_
      refine TO.y (Y.field_box kf31_1 rfl rfl) (Gd.at 5 true 10 (decide (a.Key = b.Key)) rfl rfl rfl (beq_tt H5)) rfl rfl ?_
      refine TO.y (Y.load_box (v := .int .i64 b.Seq) 0 kk3 rfl rfl rfl) (Gd.at 5 true 10 (decide (a.Key = b.Key)) rfl rfl rfl (beq_tt H5)) rfl rfl ?_
      refine TO.y (Y.eql rfl rfl) (Gd.at 5 true 10 (decide (a.Key = b.Key)) rfl rfl rfl (beq_tt H5)) rfl rfl ?_
      refine TO.y (Y.pick_t H5 rfl rfl) rfl rfl rfl ?_
      refine TO.y (Y.assign rfl) rfl rfl rfl ?_
      refine TO.nil ?_
      exact TE.jb_go () [] ⟨rfl, trivial⟩ rfl
    · refine TO.off (Gd.at 5 true 10 (decide (a.Key = b.Key)) rfl rfl rfl (beq_ft H5)) rfl rfl ?_
      refine TO.off (Gd.at 5 true 10 (decide (a.Key = b.Key)) rfl rfl rfl (beq_ft H5)) rfl rfl ?_
      refine TO.off (Gd.at 5 true 10 (decide (a.Key = b.Key)) rfl rfl rfl (beq_ft H5)) rfl rfl ?_
      refine TO.off (Gd.at 5 true 10 (decide (a.Key = b.Key)) rfl rfl rfl (beq_ft H5)) rfl rfl ?_
      refine TO.off (Gd.at 5 true 10 (decide (a.Key = b.Key)) rfl rfl rfl (beq_ft H5)) rfl rfl ?_
      refine TO.y (Y.pick_f H5 rfl rfl) rfl rfl rfl ?_
      refine TO.y (Y.assign rfl) rfl rfl rfl ?_
      refine TO.nil ?_
      exact TE.jb_go () [] ⟨rfl, trivial⟩ rfl
  · refine TE.next ?_
    refine TW.ret ?_
    exact TE.leaf fun _ _ hf_ hs_ => ret_any (rs := [.tmp 4]) (vs := [.bool T3]) (.inl rfl) rfl ⟨rfl, trivial⟩ hf_ hs_ ⟨(), rfl, hs_.pulls [] rfl⟩

/-- slices.CompactFunc[[]loop.example/g00950/impl.Ent,loop.example/g00950/impl.Ent] -/
noncomputable def slices_CompactFunc_94167_at_impl_merged_1 (s : List Ent) : Option (List Ent) :=
  if (decide (((s.length : Nat) : Int) < (2 : Int))) = true then (some s)
  else (bindC (loopO (fun (S2 : Int) => if (decide (S2 < ((s.length : Nat) : Int))) = true then ((idx s S2).bind fun E7 =>
  (idx s (IntKind.i64.wrap (S2 - (1 : Int)))).bind fun E9 =>
  (impl_merged_1 E7 E9).bind fun R11 =>
  if R11 = true then ((piece s S2 ((s.length : Nat) : Int)).bind fun E15 =>
  bindC (loopO (fun (S17 : Int × Int × List Ent) => (piece S17.2.2 S2 ((s.length : Nat) : Int)).bind fun E21 =>
  if (decide (S17.2.1 < ((E21.length : Nat) : Int))) = true then ((idx E21 S17.2.1).bind fun E24 =>
  (idx E21 (IntKind.i64.wrap (S17.2.1 - (1 : Int)))).bind fun E26 =>
  (impl_merged_1 E24 E26).bind fun R28 =>
  bindC (if (!R28) = true then ((idx S17.2.2 S17.1).bind fun E34 =>
  some (.go (IntKind.i64.wrap (S17.1 + (1 : Int)), (S17.2.2.set S17.1.toNat E24))))
  else (some (.go (S17.1, S17.2.2))))
  (fun (T31 : Int × List Ent) => some (.go (T31.1, IntKind.i64.wrap (S17.2.1 + (1 : Int)), T31.2))))
  else (some (.done (.go (S17.1, S17.2.2)))))
  (S2, (1 : Int), s))
  (fun (T19 : Int × List Ent) => (piece T19.2 T19.1 ((T19.2.length : Nat) : Int)).bind fun E36 =>
  (piece T19.2 (0 : Int) T19.1).bind fun E38 =>
  some (.done (.done E38))))
  else (some (.go (IntKind.i64.wrap (S2 + (1 : Int))))))
  else (some (.done (.go ()))))
  (1 : Int))
  (fun (T4 : Unit) => some s))

theorem slices_CompactFunc_94167_at_impl_merged_1_con (s : List Ent) (V_s0 : Value) (r : List Ent) (hm : slices_CompactFunc_94167_at_impl_merged_1 s = some r) :
    Con Try.prog 65 [V_s0, .func (.func 66) #[] #[]] [.own V_s0 (lc s)] [] (fun X : Value => X) (fun X => [.own X (lc r)]) := by
  refine Con.intro (args := [V_s0, .func (.func 66) #[] #[]]) (n := 66) (val := fun _ (X : Value) => X) (post := fun r X => [.own X (lc r)]) (m := slices_CompactFunc_94167_at_impl_merged_1 s) Try.func65 rfl rfl rfl hm ?_
  intro w S _
  unfold slices_CompactFunc_94167_at_impl_merged_1
  refine TW.seq ?_
  refine TW.region ?_
  refine TO.y (Y.assign rfl) rfl rfl rfl ?_
  refine TO.nil ?_
  refine TE.next ?_
  refine TW.seq ?_
  refine TW.seq ?_
  refine TW.region ?_
  refine TO.y (Y.move rfl) rfl rfl rfl ?_
  refine TO.y (Y.len (l := s) ke26 (Can.own 0 rfl) rfl) rfl rfl rfl ?_
  refine TO.y (Y.lss rfl rfl) rfl rfl rfl ?_
  refine TO.nil ?_
  refine TE.next ?_
  refine TW.cond rfl (fun H1 => ?_) (fun H1 => ?_)
  · refine TW.seq ?_
    refine TW.region ?_
    refine TO.y (Y.move rfl) rfl rfl rfl ?_
    refine TO.y (Y.assign rfl) rfl rfl rfl ?_
    refine TO.nil ?_
    refine TE.next ?_
    refine TW.ret ?_
    refine TE.then_ret ?_
    exact TE.leaf fun _ _ hf_ hs_ => ret_any (rs := [.tmp 4]) (vs := [V_s0]) (.inl rfl) rfl ⟨rfl, trivial⟩ hf_ hs_ ⟨V_s0, rfl, hs_.pulls [0] rfl⟩
  · refine TW.skip ?_
    refine TE.next ?_
    refine TW.seq ?_
    refine TW.seq ?_
    refine TW.region ?_
    refine TO.y (Y.assign rfl) rfl rfl rfl ?_
    refine TO.nil ?_
    refine TE.next ?_
    refine TW.joinX (τ := Unit) (X := Unit) (fun _ _ => [(0, V_s0)]) (fun _ _ => [.own V_s0 (lc s)]) ?_ (fun T4 X5 => ?_)
    · refine TW.block ?_
      refine TW.loopX (σ := Int) (X := Unit) (fun T _ => [(0, V_s0), (1, .func (.func 66) #[] #[]), (5, .int .i64 T)]) (fun _ _ => [.own V_s0 (lc s)]) () [0] ⟨rfl, rfl, rfl, trivial⟩ rfl (fun S2 X3 => ?_)
      refine TW.seq ?_
      refine TW.seq ?_
      refine TW.region ?_
      refine TO.y (Y.move rfl) rfl rfl rfl ?_
      refine TO.y (Y.move rfl) rfl rfl rfl ?_
      refine TO.y (Y.len (l := s) ke26 (Can.own 0 rfl) rfl) rfl rfl rfl ?_
      refine TO.y (Y.lss rfl rfl) rfl rfl rfl ?_
      refine TO.nil ?_
      refine TE.next ?_
      refine TW.cond rfl (fun H6 => ?_) (fun H6 => ?_)
      · refine TW.skip ?_
        refine TE.next ?_
        refine TW.seq ?_
        refine TW.block ?_
        refine TW.seq ?_
        refine TW.draw (isH := [.own V_s0 (lc s)]) hMix ?_
        refine TA.y (listed' := #[true, false, false, false, false, false, false, false, false, false, false]) 0 [0] rfl (Y.move rfl) rfl rfl rfl (by kernel_rfl) (by kernel_rfl) (by kernel_rfl) rfl rfl ?_
        refine TA.y (listed' := #[true, true, false, false, false, false, false, false, false, false, false]) 1 [0] rfl (Y.move rfl) rfl rfl rfl (by kernel_rfl) (by kernel_rfl) (by kernel_rfl) rfl rfl ?_
        refine TA.y (listed' := #[true, true, true, false, false, false, false, false, false, false, false]) 2 [0] rfl (Y.move rfl) rfl rfl rfl (by kernel_rfl) (by kernel_rfl) (by kernel_rfl) rfl rfl ?_
        refine TA.bind fun E7 H8 => ?_
        refine TA.y (listed' := #[true, true, true, true, false, false, false, false, false, false, false]) 3 [0] rfl (Y.index ke26 (Can.own 0 rfl) H8 rfl rfl) rfl rfl rfl (by kernel_rfl) (by kernel_rfl) (by kernel_rfl) rfl rfl ?_
        refine TA.y (listed' := #[true, true, true, true, true, false, false, false, false, false, false]) 4 [0] rfl (Y.load_el (us := [strV E7.Key, .int .i64 E7.Seq, .bool E7.Del, strV E7.Val]) (u := .agg #[strV E7.Key, .int .i64 E7.Seq, .bool E7.Del, strV E7.Val]) kk31 rfl (Can.own 0 rfl) (idx_get H8).2.2 rfl rfl rfl rfl rfl) rfl rfl rfl (by kernel_rfl) (by kernel_rfl) (by kernel_rfl) rfl rfl ?_
        refine TA.y (listed' := #[true, true, true, true, true, true, false, false, false, false, false]) 5 [0] rfl (Y.move rfl) rfl rfl rfl (by kernel_rfl) (by kernel_rfl) (by kernel_rfl) rfl rfl ?_
        refine TA.y (listed' := #[true, true, true, true, true, true, true, false, false, false, false]) 6 [0] rfl (Y.move rfl) rfl rfl rfl (by kernel_rfl) (by kernel_rfl) (by kernel_rfl) rfl rfl ?_
        refine TA.y (listed' := #[true, true, true, true, true, true, true, true, false, false, false]) 7 [0] rfl (Y.sub rfl rfl) rfl rfl rfl (by kernel_rfl) (by kernel_rfl) (by kernel_rfl) rfl rfl ?_
        refine TA.bind fun E9 H10 => ?_
        refine TA.y (listed' := #[true, true, true, true, true, true, true, true, true, false, false]) 8 [0] rfl (Y.index ke26 (Can.own 0 rfl) H10 rfl rfl) rfl rfl rfl (by kernel_rfl) (by kernel_rfl) (by kernel_rfl) rfl rfl ?_
        refine TA.y (listed' := #[true, true, true, true, true, true, true, true, true, true, false]) 9 [0] rfl (Y.load_el (us := [strV E9.Key, .int .i64 E9.Seq, .bool E9.Del, strV E9.Val]) (u := .agg #[strV E9.Key, .int .i64 E9.Seq, .bool E9.Del, strV E9.Val]) kk31 rfl (Can.own 0 rfl) (idx_get H10).2.2 rfl rfl rfl rfl rfl) rfl rfl rfl (by kernel_rfl) (by kernel_rfl) (by kernel_rfl) rfl rfl ?_
        refine TA.bind fun R11 H12 => ?_
        refine TA.one 10 (by kernel_rfl) ?_
        refine TX.ef (listed' := #[true, true, true, true, true, true, true, true, true, true, true]) [0] rfl (Ef.callv (rest := [.own V_s0 (lc s)]) [0] (impl_merged_1_con E7 E9  R11 H12) kc66 rfl rfl rfl rfl trivial) rfl rfl rfl rfl (fun _ => rfl) (fun _ => ?_)
        refine TA.nil (by kernel_rfl) ?_
        refine TE.next ?_
        refine TW.cond rfl (fun H14 => ?_) (fun H14 => ?_)
        · refine TW.seq ?_
          refine TW.region ?_
          refine TO.y (Y.move rfl) rfl rfl rfl ?_
          refine TO.y (Y.move rfl) rfl rfl rfl ?_
          refine TO.bind fun E15 H16 => ?_
          refine TO.y (Y.subs H16 ke26 (Can.own 0 rfl) rfl ⟨_, rfl⟩ rfl) rfl rfl rfl ?_
          refine TO.y (Y.assign rfl) rfl rfl rfl ?_
          refine TO.nil ?_
          refine TE.next ?_
          refine TW.seq ?_
          refine TW.seq ?_
          refine TW.region ?_
          refine TO.y (Y.assign rfl) rfl rfl rfl ?_
          refine TO.nil ?_
          refine TE.next ?_
          refine TW.joinX (τ := Int × List Ent) (X := Unit) (fun T _ => [(0, V_s0), (5, .int .i64 T.1)]) (fun T _ => [.own V_s0 (lc T.2)]) ?_ (fun T19 X20 => ?_)
          · refine TW.block ?_
            refine TW.loopX (σ := Int × Int × List Ent) (X := Unit) (fun T _ => [(0, V_s0), (1, .func (.func 66) #[] #[]), (5, .int .i64 T.1), (6, subV V_s0 4 S2.toNat (((s.length : Nat) : Int).toNat - S2.toNat)), (7, .int .i64 T.2.1)]) (fun T _ => [.own V_s0 (lc T.2.2)]) () [0] ⟨rfl, rfl, rfl, rfl, rfl, trivial⟩ rfl (fun S17 X18 => ?_)
            refine TW.seq ?_
            refine TW.seq ?_
            refine TW.region ?_
            refine TO.y (Y.move rfl) rfl rfl rfl ?_
            refine TO.y (Y.move rfl) rfl rfl rfl ?_
            refine TO.bind fun E21 H22 => ?_
            refine TO.y (Y.len (l := E21) ke26 (Can.sub H22 rfl (Can.own 0 rfl)) rfl) rfl rfl rfl ?_
            refine TO.y (Y.lss rfl rfl) rfl rfl rfl ?_
            refine TO.nil ?_
            refine TE.next ?_
            refine TW.cond rfl (fun H23 => ?_) (fun H23 => ?_)
            · refine TW.skip ?_
              refine TE.next ?_
              refine TW.seq ?_
              refine TW.block ?_
              refine TW.seq ?_
              refine TW.draw (isH := [.own V_s0 (lc S17.2.2)]) hMix ?_
              refine TA.y (listed' := #[true, false, false, false, false, false, false, false, false, false, false, false]) 0 [0] rfl (Y.move rfl) rfl rfl rfl (by kernel_rfl) (by kernel_rfl) (by kernel_rfl) rfl rfl ?_
              refine TA.y (listed' := #[true, true, false, false, false, false, false, false, false, false, false, false]) 1 [0] rfl (Y.move rfl) rfl rfl rfl (by kernel_rfl) (by kernel_rfl) (by kernel_rfl) rfl rfl ?_
              refine TA.y (listed' := #[true, true, true, false, false, false, false, false, false, false, false, false]) 2 [0] rfl (Y.move rfl) rfl rfl rfl (by kernel_rfl) (by kernel_rfl) (by kernel_rfl) rfl rfl ?_
              refine TA.bind fun E24 H25 => ?_
              refine TA.y (listed' := #[true, true, true, true, false, false, false, false, false, false, false, false]) 3 [0] rfl (Y.index ke26 (Can.sub H22 rfl (Can.own 0 rfl)) H25 rfl rfl) rfl rfl rfl (by kernel_rfl) (by kernel_rfl) (by kernel_rfl) rfl rfl ?_
              refine TA.y (listed' := #[true, true, true, true, true, false, false, false, false, false, false, false]) 4 [0] rfl (Y.load_el (us := [strV E24.Key, .int .i64 E24.Seq, .bool E24.Del, strV E24.Val]) (u := .agg #[strV E24.Key, .int .i64 E24.Seq, .bool E24.Del, strV E24.Val]) kk31 rfl (Can.sub H22 rfl (Can.own 0 rfl)) (idx_get H25).2.2 rfl rfl rfl rfl rfl) rfl rfl rfl (by kernel_rfl) (by kernel_rfl) (by kernel_rfl) rfl rfl ?_
              refine TA.y (listed' := #[true, true, true, true, true, true, false, false, false, false, false, false]) 5 [0] rfl (Y.move rfl) rfl rfl rfl (by kernel_rfl) (by kernel_rfl) (by kernel_rfl) rfl rfl ?_
              refine TA.y (listed' := #[true, true, true, true, true, true, true, false, false, false, false, false]) 6 [0] rfl (Y.move rfl) rfl rfl rfl (by kernel_rfl) (by kernel_rfl) (by kernel_rfl) rfl rfl ?_
              refine TA.y (listed' := #[true, true, true, true, true, true, true, true, false, false, false, false]) 7 [0] rfl (Y.sub rfl rfl) rfl rfl rfl (by kernel_rfl) (by kernel_rfl) (by kernel_rfl) rfl rfl ?_
              refine TA.bind fun E26 H27 => ?_
              refine TA.y (listed' := #[true, true, true, true, true, true, true, true, true, false, false, false]) 8 [0] rfl (Y.index ke26 (Can.sub H22 rfl (Can.own 0 rfl)) H27 rfl rfl) rfl rfl rfl (by kernel_rfl) (by kernel_rfl) (by kernel_rfl) rfl rfl ?_
              refine TA.y (listed' := #[true, true, true, true, true, true, true, true, true, true, false, false]) 9 [0] rfl (Y.load_el (us := [strV E26.Key, .int .i64 E26.Seq, .bool E26.Del, strV E26.Val]) (u := .agg #[strV E26.Key, .int .i64 E26.Seq, .bool E26.Del, strV E26.Val]) kk31 rfl (Can.sub H22 rfl (Can.own 0 rfl)) (idx_get H27).2.2 rfl rfl rfl rfl rfl) rfl rfl rfl (by kernel_rfl) (by kernel_rfl) (by kernel_rfl) rfl rfl ?_
              refine TA.bind fun R28 H29 => ?_
              refine TA.one 10 (by kernel_rfl) ?_
              refine TX.ef (listed' := #[true, true, true, true, true, true, true, true, true, true, true, false]) [0] rfl (Ef.callv (rest := [.own V_s0 (lc S17.2.2)]) [0] (impl_merged_1_con E24 E26  R28 H29) kc66 rfl rfl rfl rfl trivial) rfl rfl rfl rfl (fun _ => rfl) (fun _ => ?_)
              refine TA.y (listed' := #[true, true, true, true, true, true, true, true, true, true, true, true]) 11 [0] rfl (Y.not rfl) rfl rfl rfl (by kernel_rfl) (by kernel_rfl) (by kernel_rfl) rfl rfl ?_
              refine TA.nil (by kernel_rfl) ?_
              refine TE.next ?_
              refine TW.joinX (τ := Int × List Ent) (X := Unit) (fun T _ => [(0, V_s0), (1, .func (.func 66) #[] #[]), (5, .int .i64 T.1), (6, subV V_s0 4 S2.toNat (((s.length : Nat) : Int).toNat - S2.toNat)), (7, .int .i64 S17.2.1)]) (fun T _ => [.own V_s0 (lc T.2)]) ?_ (fun T31 X32 => ?_)
              · refine TW.cond rfl (fun H33 => ?_) (fun H33 => ?_)
                · refine TW.seq ?_
                  refine TW.region ?_
                  refine TO.y (Y.move rfl) rfl rfl rfl ?_
                  refine TO.y (Y.move rfl) rfl rfl rfl ?_
                  refine TO.y (Y.move rfl) rfl rfl rfl ?_
                  refine TO.y (Y.move rfl) rfl rfl rfl ?_
                  refine TO.y (Y.index ke26 (Can.sub H22 rfl (Can.own 0 rfl)) H25 rfl rfl) rfl rfl rfl ?_
                  refine TO.y (Y.load_el (us := [strV E24.Key, .int .i64 E24.Seq, .bool E24.Del, strV E24.Val]) (u := .agg #[strV E24.Key, .int .i64 E24.Seq, .bool E24.Del, strV E24.Val]) kk31 rfl (Can.sub H22 rfl (Can.own 0 rfl)) (idx_get H25).2.2 rfl rfl rfl rfl rfl) rfl rfl rfl ?_
                  refine TO.bind fun E34 H35 => ?_
                  refine TO.y (Y.index ke26 (Can.own 0 rfl) H35 rfl rfl) rfl rfl rfl ?_
                  refine TO.ef0 (Ef.store_el (us := [strV E24.Key, .int .i64 E24.Seq, .bool E24.Del, strV E24.Val]) (is' := [.own V_s0 (lc (S17.2.2.set S17.1.toNat E24))]) E24 0 kk31 rfl rfl (idx_get H35).2.2 rfl rfl (Cel.plain rfl rfl) rfl rfl rfl rfl) rfl rfl (fun _ => ?_)
                  refine TO.nil ?_
                  refine TE.next ?_
                  refine TW.region ?_
                  refine TO.y (Y.move rfl) rfl rfl rfl ?_
                  refine TO.y (Y.add rfl rfl) rfl rfl rfl ?_
                  refine TO.y (Y.assign rfl) rfl rfl rfl ?_
                  refine TO.nil ?_
                  exact TE.jn_go () [0] ⟨rfl, rfl, rfl, rfl, rfl, trivial⟩ rfl
                · refine TW.skip ?_
                  exact TE.jn_go () [0] ⟨rfl, rfl, rfl, rfl, rfl, trivial⟩ rfl
              · refine TE.block_normal ?_
                refine TE.next ?_
                refine TW.region ?_
                refine TO.y (Y.move rfl) rfl rfl rfl ?_
                refine TO.y (Y.add rfl rfl) rfl rfl rfl ?_
                refine TO.y (Y.assign rfl) rfl rfl rfl ?_
                refine TO.nil ?_
                exact TE.lp_go () [0] ⟨rfl, rfl, rfl, rfl, rfl, trivial⟩ rfl
            · refine TW.exit ?_
              refine TE.then_exit ?_
              refine TE.lp_exit ?_
              refine TE.block_exit ?_
              exact TE.jn_go () [0] ⟨rfl, rfl, trivial⟩ rfl
          · refine TE.next ?_
            refine TW.seq ?_
            refine TW.region ?_
            refine TO.y (Y.move rfl) rfl rfl rfl ?_
            refine TO.y (Y.move rfl) rfl rfl rfl ?_
            refine TO.bind fun E36 H37 => ?_
            refine TO.y (Y.subs H37 ke26 (Can.own 0 rfl) rfl ⟨_, rfl⟩ rfl) rfl rfl rfl ?_
            refine TO.bind fun E38 H39 => ?_
            refine TO.ef0 (Ef.clearView (i := 0) (is' := [.own (subV V_s0 4 (0 : Int).toNat (T19.1.toNat - (0 : Int).toNat)) (lc E38)]) H39 ke26 kz31 rfl rfl rfl rfl rfl rfl) rfl rfl (fun _ => ?_)
            refine TO.nil ?_
            refine TE.next ?_
            refine TW.seq ?_
            refine TW.region ?_
            refine TO.y (Y.move rfl) rfl rfl rfl ?_
            refine TO.y (Y.move rfl) rfl rfl rfl ?_
            refine TO.y (Y.sub_again (i := 0) rfl (piece_eq H39).2.1 ke26 rfl rfl) rfl rfl rfl ?_
            refine TO.y (Y.assign rfl) rfl rfl rfl ?_
            refine TO.nil ?_
            refine TE.next ?_
            refine TW.ret ?_
            refine TE.block_ret ?_
            refine TE.then_ret ?_
            refine TE.lp_ret ?_
            refine TE.block_ret ?_
            refine TE.jn_done ?_
            refine TE.then_ret ?_
            exact TE.leaf fun _ _ hf_ hs_ => ret_any (rs := [.tmp 4]) (vs := [subV V_s0 4 (0 : Int).toNat (T19.1.toNat - (0 : Int).toNat)]) (.inl rfl) rfl ⟨rfl, trivial⟩ hf_ hs_ ⟨(subV V_s0 4 (0 : Int).toNat (T19.1.toNat - (0 : Int).toNat)), rfl, hs_.pulls [0] rfl⟩
        · refine TW.skip ?_
          refine TE.block_normal ?_
          refine TE.next ?_
          refine TW.region ?_
          refine TO.y (Y.move rfl) rfl rfl rfl ?_
          refine TO.y (Y.add rfl rfl) rfl rfl rfl ?_
          refine TO.y (Y.assign rfl) rfl rfl rfl ?_
          refine TO.nil ?_
          exact TE.lp_go () [0] ⟨rfl, rfl, rfl, trivial⟩ rfl
      · refine TW.exit ?_
        refine TE.then_exit ?_
        refine TE.lp_exit ?_
        refine TE.block_exit ?_
        exact TE.jn_go () [0] ⟨rfl, trivial⟩ rfl
    · refine TE.next ?_
      refine TW.seq ?_
      refine TW.region ?_
      refine TO.y (Y.move rfl) rfl rfl rfl ?_
      refine TO.y (Y.assign rfl) rfl rfl rfl ?_
      refine TO.nil ?_
      refine TE.next ?_
      refine TW.ret ?_
      exact TE.leaf fun _ _ hf_ hs_ => ret_any (rs := [.tmp 4]) (vs := [V_s0]) (.inl rfl) rfl ⟨rfl, trivial⟩ hf_ hs_ ⟨V_s0, rfl, hs_.pulls [0] rfl⟩

/-- loop.example/g00950/impl.merged -/
noncomputable def impl_merged (l : List (List Ent)) : Option (List Ent) :=
  (slices_Concat_94167 l).bind fun R1 =>
  (slices_SortStableFunc_94167_at_impl_compareEnts R1).bind fun R4 =>
  (slices_CompactFunc_94167_at_impl_merged_1 R4).bind fun R7 =>
  (slices_Clip_94167 R7).bind fun R10 =>
  some R10

theorem impl_merged_con (l : List (List Ent)) (V_l0 : Value) (r : List Ent) (hm : impl_merged l = some r) :
    Con Try.prog 34 [V_l0] [] [(V_l0, lc l)] (fun X : Value => X) (fun X => [.own X (lc r)]) := by
  refine Con.intro (args := [V_l0]) (n := 11) (val := fun _ (X : Value) => X) (post := fun r X => [.own X (lc r)]) (m := impl_merged l) Try.func34 rfl rfl rfl hm ?_
  intro w S hrd
  have HB_V_l0 := hrd _ (.head _)
  clear hrd
  unfold impl_merged
  refine TW.seq ?_
  refine TW.region ?_
  refine TO.y (Y.assign rfl) rfl rfl rfl ?_
  refine TO.nil ?_
  refine TE.next ?_
  refine TW.seq ?_
  refine TW.region ?_
  refine TO.y (Y.move rfl) rfl rfl rfl ?_
  refine TO.bind fun R1 H2 => ?_
  refine TO.ef (Ef.call (rest := []) [] (slices_Concat_94167_con l V_l0 R1 H2) kc61 rfl rfl ⟨(Base.can HB_V_l0), trivial⟩) rfl rfl rfl (fun Y3 => ?_)
  refine TO.y (Y.assign rfl) rfl rfl rfl ?_
  refine TO.nil ?_
  refine TE.next ?_
  refine TW.seq ?_
  refine TW.region ?_
  refine TO.y (Y.move rfl) rfl rfl rfl ?_
  refine TO.bind fun R4 H5 => ?_
  refine TO.ef (Ef.call (rest := []) [0] (slices_SortStableFunc_94167_at_impl_compareEnts_con R1 Y3 R4 H5) kc62 rfl rfl trivial) rfl rfl rfl (fun _ => ?_)
  refine TO.nil ?_
  refine TE.next ?_
  refine TW.seq ?_
  refine TW.region ?_
  refine TO.y (Y.move rfl) rfl rfl rfl ?_
  refine TO.bind fun R7 H8 => ?_
  refine TO.ef (Ef.call (rest := []) [0] (slices_CompactFunc_94167_at_impl_merged_1_con R4 Y3 R7 H8) kc65 rfl rfl trivial) rfl rfl rfl (fun Y9 => ?_)
  refine TO.bind fun R10 H11 => ?_
  refine TO.ef (Ef.call (rest := []) [0] (slices_Clip_94167_con R7 Y9 R10 H11) kc64 rfl rfl trivial) rfl rfl rfl (fun Y12 => ?_)
  refine TO.y (Y.assign rfl) rfl rfl rfl ?_
  refine TO.nil ?_
  refine TE.next ?_
  refine TW.ret ?_
  exact TE.leaf fun _ _ hf_ hs_ => ret_any (rs := [.tmp 2]) (vs := [Y12]) (.inl rfl) rfl ⟨rfl, trivial⟩ hf_ hs_ ⟨Y12, rfl, hs_.pulls [0] rfl⟩

/-- loop.example/g00950/impl.MergeEnts -/
noncomputable def impl_MergeEnts (l : List (List Ent)) : Option (List Ent) :=
  ((impl_totalOf l).bind fun R3 =>
  if (decide (R3 > (400 : Int))) = true then (some true)
  else ((impl_allInOrder l).bind fun R7 =>
  some (!R7))).bind (fun (T1 : Bool) =>
  if T1 = true then (some ([]))
  else ((impl_merged l).bind fun R12 =>
  some R12))

theorem impl_MergeEnts_con (l : List (List Ent)) (V_l0 : Value) (r : List Ent) (hm : impl_MergeEnts l = some r) :
    Con Try.prog 9 [V_l0] [] [(V_l0, lc l)] (fun X : Value => X) (fun X => [.own X (lc r)]) := by
  refine Con.intro (args := [V_l0]) (n := 13) (val := fun _ (X : Value) => X) (post := fun r X => [.own X (lc r)]) (m := impl_MergeEnts l) Try.func9 rfl rfl rfl hm ?_
  intro w S hrd
  have HB_V_l0 := hrd _ (.head _)
  clear hrd
  unfold impl_MergeEnts
  refine TW.seq ?_
  refine TW.region ?_
  refine TO.y (Y.assign rfl) rfl rfl rfl ?_
  refine TO.nil ?_
  refine TE.next ?_
  refine TW.seq ?_
  refine TW.seq ?_
  refine TW.joinBX (τ := Bool) (X := Unit) (fun T _ => [(0, V_l0), (10, .bool T)]) (fun _ _ => []) ?_ (fun T1 X2 => ?_)
  · refine TW.region ?_
    refine TO.y (Y.move rfl) rfl rfl rfl ?_
    refine TO.bind fun R3 H4 => ?_
    refine TO.ef (Ef.call (rest := []) [] (impl_totalOf_con l V_l0 R3 H4) kc32 rfl rfl ⟨(Base.can HB_V_l0), trivial⟩) rfl rfl rfl (fun _ => ?_)
    refine TO.y (Y.gtr rfl rfl) rfl rfl rfl ?_
    refine TO.y (Y.move rfl) rfl rfl rfl ?_
    refine TO.ite (b := decide (R3 > (400 : Int))) (fun H6 => ?_) (fun H6 => ?_)
    · refine TO.off (Gd.at 3 false 6 (decide (R3 > (400 : Int))) rfl rfl rfl (beq_tf H6)) rfl rfl ?_
      refine TO.off (Gd.at 3 false 6 (decide (R3 > (400 : Int))) rfl rfl rfl (beq_tf H6)) rfl rfl ?_
      refine TO.off (Gd.at 3 false 6 (decide (R3 > (400 : Int))) rfl rfl rfl (beq_tf H6)) rfl rfl ?_
      refine TO.y (Y.pick_t H6 rfl rfl) rfl rfl rfl ?_
      refine TO.nil ?_
      exact TE.jb_go () [] ⟨rfl, rfl, trivial⟩ rfl
    · refine TO.y (Y.move rfl) (Gd.at 3 false 6 (decide (R3 > (400 : Int))) rfl rfl rfl (beq_ff H6)) rfl rfl ?_
      refine TO.bind fun R7 H8 => ?_
      refine TO.ef (Ef.call (rest := []) [] (impl_allInOrder_con l V_l0 R7 H8) kc33 rfl rfl ⟨(Base.can HB_V_l0), trivial⟩) (Gd.at 3 false 6 (decide (R3 > (400 : Int))) rfl rfl rfl (beq_ff H6)) rfl rfl (fun _ => ?_)
      refine TO.y (Y.not rfl) (Gd.at 3 false 6 (decide (R3 > (400 : Int))) rfl rfl rfl (beq_ff H6)) rfl rfl ?_
      refine TO.y (Y.pick_f H6 rfl rfl) rfl rfl rfl ?_
      refine TO.nil ?_
      exact TE.jb_go () [] ⟨rfl, rfl, trivial⟩ rfl
  · refine TE.next ?_
    refine TW.cond rfl (fun H10 => ?_) (fun H10 => ?_)
    · refine TW.seq ?_
      refine TW.region ?_
      refine TO.y (Y.assign rfl) rfl rfl rfl ?_
      refine TO.nil ?_
      refine TE.next ?_
      refine TW.ret ?_
      refine TE.then_ret ?_
      exact TE.leaf fun _ _ hf_ hs_ => ret_any (rs := [.tmp 2]) (vs := [.slice none 0 0]) (.inl rfl) rfl ⟨rfl, trivial⟩ hf_ hs_ ⟨(.slice none 0 0), rfl, (hs_.nilItem 4).pulls [0] rfl⟩
    · refine TW.skip ?_
      refine TE.next ?_
      refine TW.seq ?_
      refine TW.region ?_
      refine TO.y (Y.move rfl) rfl rfl rfl ?_
      refine TO.bind fun R12 H13 => ?_
      refine TO.ef (Ef.call (rest := []) [] (impl_merged_con l V_l0 R12 H13) kc34 rfl rfl ⟨(Base.can HB_V_l0), trivial⟩) rfl rfl rfl (fun Y14 => ?_)
      refine TO.y (Y.assign rfl) rfl rfl rfl ?_
      refine TO.nil ?_
      refine TE.next ?_
      refine TW.ret ?_
      exact TE.leaf fun _ _ hf_ hs_ => ret_any (rs := [.tmp 2]) (vs := [Y14]) (.inl rfl) rfl ⟨rfl, trivial⟩ hf_ hs_ ⟨Y14, rfl, hs_.pulls [0] rfl⟩

/-- loop.example/g00950/spec.MergeEnts -/
noncomputable def spec_MergeEnts (l : List (List Ent)) : Option (List Ent) :=
  bindC (loopO (fun (S2 : Int × List Ent) => if (decide (S2.1 < ((l.length : Nat) : Int))) = true then (((idx l S2.1).bind fun E9 =>
  (spec_l9Ents E9).bind fun R12 =>
  if (!R12) = true then (some true)
  else (if (decide (((E9.length : Nat) : Int) > (400 : Int))) = true then (some true)
  else (some (decide (((S2.2.length : Nat) : Int) > (400 : Int)))))).bind (fun (T7 : Bool) =>
  if T7 = true then (some (.done (.done ([] : List Ent))))
  else ((idx l S2.1).bind fun E21 =>
  (app 48 ([] : List Ent) E21).bind fun E25 =>
  bindC (loopO (fun (S28 : Int × Int × List Ent) => if (decide (S28.2.1 < ((S2.2.length : Nat) : Int))) = true then (bindC (loopO (fun (S33 : Int × List Ent) => (if (decide (S33.1 < ((E25.length : Nat) : Int))) = true then ((idx E25 S33.1).bind fun E40 =>
  (idx S2.2 S28.2.1).bind fun E42 =>
  (spec_l9Ahead E40 E42).bind fun R44 =>
  some R44)
  else (some false)).bind (fun (T37 : Bool) =>
  if T37 = true then ((idx E25 S33.1).bind fun E48 =>
  (app 48 S33.2 ([E48])).bind fun E52 =>
  some (.go (IntKind.i64.wrap (S33.1 + (1 : Int)), E52)))
  else (some (.done (.go (S33.1, S33.2))))))
  (S28.1, S28.2.2))
  (fun (T35 : Int × List Ent) => (if (decide (T35.1 < ((E25.length : Nat) : Int))) = true then ((idx S2.2 S28.2.1).bind fun E57 =>
  (idx E25 T35.1).bind fun E59 =>
  (spec_l9Ahead E57 E59).bind fun R61 =>
  some (!R61))
  else (some false)).bind (fun (T54 : Bool) =>
  bindC (if T54 = true then (some (.go (IntKind.i64.wrap (T35.1 + (1 : Int)))))
  else (some (.go T35.1)))
  (fun (T64 : Int) => (idx S2.2 S28.2.1).bind fun E67 =>
  (app 48 T35.2 ([E67])).bind fun E71 =>
  some (.go (T64, IntKind.i64.wrap (S28.2.1 + (1 : Int)), E71))))))
  else (some (.done (.go (S28.1, S28.2.2)))))
  ((0 : Int), (0 : Int), ([] : List Ent)))
  (fun (T30 : Int × List Ent) => (piece E25 T30.1 ((E25.length : Nat) : Int)).bind fun E73 =>
  (app 48 T30.2 E73).bind fun E76 =>
  some (.go (IntKind.i64.wrap (S2.1 + (1 : Int)), E76))))))
  else (some (.done (.go S2.2))))
  ((0 : Int), ([] : List Ent)))
  (fun (T4 : List Ent) => bindC (loopO (fun (S78 : Int × Int) => if (decide (S78.2 < ((l.length : Nat) : Int))) = true then ((idx l S78.2).bind fun E83 =>
  some (.go (IntKind.i64.wrap (S78.1 + ((E83.length : Nat) : Int)), IntKind.i64.wrap (S78.2 + (1 : Int)))))
  else (some (.done (.go S78.1))))
  ((0 : Int), (0 : Int)))
  (fun (T80 : Int) => if (decide (T80 > (400 : Int))) = true then (some ([] : List Ent))
  else (some T4)))

theorem spec_MergeEnts_con (l : List (List Ent)) (V_l0 : Value) (r : List Ent) (hm : spec_MergeEnts l = some r) :
    Con Try.prog 11 [V_l0] [] [(V_l0, lc l)] (fun X : Value => X) (fun X => [.own X (lc r)]) := by
  refine Con.intro (args := [V_l0]) (n := 122) (val := fun _ (X : Value) => X) (post := fun r X => [.own X (lc r)]) (m := spec_MergeEnts l) Try.func11 rfl rfl rfl hm ?_
  intro w S hrd
  have HB_V_l0 := hrd _ (.head _)
  clear hrd
  unfold spec_MergeEnts
  refine TW.seq ?_
  refine TW.region ?_
  refine TO.y (Y.assign rfl) rfl rfl rfl ?_
  refine TO.nil ?_
  refine TE.next ?_
  refine TW.seq ?_
  refine TW.region ?_
  refine TO.ef (Ef.buildSlice (α := Ent) (Vs := []) ([] : List Ent) ke26 kz31 rfl rfl rfl rfl rfl) rfl rfl rfl (fun B1 => ?_)
  refine TO.y (Y.assign rfl) rfl rfl rfl ?_
  refine TO.nil ?_
  refine TE.next ?_
  refine TW.seq ?_
  refine TW.seq ?_
  refine TW.region ?_
  refine TO.y (Y.assign rfl) rfl rfl rfl ?_
  refine TO.nil ?_
  refine TE.next ?_
  refine TW.joinX (τ := List Ent) (X := Value) (fun _ X => [(0, V_l0), (3, X)]) (fun T X => [.own X (lc T)]) ?_ (fun T4 X5 => ?_)
  · refine TW.block ?_
    refine TW.loopX (σ := Int × List Ent) (X := Value) (fun T X => [(0, V_l0), (3, X), (4, .int .i64 T.1)]) (fun T X => [.own X (lc T.2)]) (.slice (some ⟨B1, 0, none⟩) 0 0) [0] ⟨rfl, rfl, rfl, trivial⟩ rfl (fun S2 X3 => ?_)
    refine TW.seq ?_
    refine TW.seq ?_
    refine TW.region ?_
    refine TO.y (Y.move rfl) rfl rfl rfl ?_
    refine TO.y (Y.move rfl) rfl rfl rfl ?_
    refine TO.y (Y.len (l := l) ke24 (Base.can HB_V_l0) rfl) rfl rfl rfl ?_
    refine TO.y (Y.lss rfl rfl) rfl rfl rfl ?_
    refine TO.nil ?_
    refine TE.next ?_
    refine TW.cond rfl (fun H6 => ?_) (fun H6 => ?_)
    · refine TW.skip ?_
      refine TE.next ?_
      refine TW.seq ?_
      refine TW.block ?_
      refine TW.seq ?_
      refine TW.seq ?_
      refine TW.joinBX (τ := Bool) (X := Unit) (fun T _ => [(0, V_l0), (3, X3), (4, .int .i64 S2.1), (36, .bool T)]) (fun _ _ => [.own X3 (lc S2.2)]) ?_ (fun T7 X8 => ?_)
      · refine TW.region ?_
        refine TO.y (Y.move rfl) rfl rfl rfl ?_
        refine TO.y (Y.move rfl) rfl rfl rfl ?_
        refine TO.bind fun E9 H10 => ?_
        refine TO.y (Y.index ke24 (Base.can HB_V_l0) H10 rfl rfl) rfl rfl rfl ?_
        have Q11 : Base w S (elv w V_l0 (S2.1.toNat * 1 + 0)) (lc E9) := Base.el HB_V_l0 (idx_get H10).2.2 rfl rfl
        refine TO.y (Y.load_base (α := List Ent) (u := (elv w V_l0 (S2.1.toNat * 1 + 0))) kk26 rfl HB_V_l0 (idx_get H10).2.2 rfl rfl rfl rfl rfl) rfl rfl rfl ?_
        refine TO.bind fun R12 H13 => ?_
        refine TO.ef (Ef.call (rest := [.own X3 (lc S2.2)]) [0] (spec_l9Ents_con E9 (elv w V_l0 (S2.1.toNat * 1 + 0)) R12 H13) kc35 rfl rfl ⟨(Base.can Q11), trivial⟩) rfl rfl rfl (fun _ => ?_)
        refine TO.y (Y.not rfl) rfl rfl rfl ?_
        refine TO.y (Y.move rfl) rfl rfl rfl ?_
        refine TO.ite (b := !R12) (fun H15 => ?_) (fun H15 => ?_)
        · refine TO.off (Gd.at 6 false 24 (!R12) rfl rfl rfl (beq_tf H15)) rfl rfl ?_
          refine TO.off (Gd.at 6 false 24 (!R12) rfl rfl rfl (beq_tf H15)) rfl rfl ?_
          refine TO.off (Gd.at 6 false 24 (!R12) rfl rfl rfl (beq_tf H15)) rfl rfl ?_
          refine TO.off (Gd.at 6 false 24 (!R12) rfl rfl rfl (beq_tf H15)) rfl rfl ?_
          refine TO.off (Gd.at 6 false 24 (!R12) rfl rfl rfl (beq_tf H15)) rfl rfl ?_
          refine TO.off (Gd.at 6 false 24 (!R12) rfl rfl rfl (beq_tf H15)) rfl rfl ?_
          refine TO.y (Y.pick_t H15 rfl rfl) rfl rfl rfl ?_
          refine TO.y (Y.move rfl) rfl rfl rfl ?_
          refine TO.off (Gd.at 14 false 32 true rfl rfl rfl rfl) rfl rfl ?_
          refine TO.off (Gd.at 14 false 32 true rfl rfl rfl rfl) rfl rfl ?_
          refine TO.off (Gd.at 14 false 32 true rfl rfl rfl rfl) rfl rfl ?_
          refine TO.y (Y.pick_t rfl rfl rfl) rfl rfl rfl ?_
          refine TO.nil ?_
          exact TE.jb_go () [0] ⟨rfl, rfl, rfl, rfl, trivial⟩ rfl
        · refine TO.y (Y.move rfl) (Gd.at 6 false 24 (!R12) rfl rfl rfl (beq_ff H15)) rfl rfl ?_
          refine TO.y (Y.move rfl) (Gd.at 6 false 24 (!R12) rfl rfl rfl (beq_ff H15)) rfl rfl ?_
          refine TO.y (Y.index ke24 (Base.can HB_V_l0) H10 rfl rfl) (Gd.at 6 false 24 (!R12) rfl rfl rfl (beq_ff H15)) rfl rfl ?_
          have Q16 : Base w S (elv w V_l0 (S2.1.toNat * 1 + 0)) (lc E9) := Base.el HB_V_l0 (idx_get H10).2.2 rfl rfl
          refine TO.y (Y.load_base (α := List Ent) (u := (elv w V_l0 (S2.1.toNat * 1 + 0))) kk26 rfl HB_V_l0 (idx_get H10).2.2 rfl rfl rfl rfl rfl) (Gd.at 6 false 24 (!R12) rfl rfl rfl (beq_ff H15)) rfl rfl ?_
          refine TO.y (Y.len (l := E9) ke26 (Base.can Q16) rfl) (Gd.at 6 false 24 (!R12) rfl rfl rfl (beq_ff H15)) rfl rfl ?_
          refine TO.y (Y.gtr rfl rfl) (Gd.at 6 false 24 (!R12) rfl rfl rfl (beq_ff H15)) rfl rfl ?_
          refine TO.y (Y.pick_f H15 rfl rfl) rfl rfl rfl ?_
          refine TO.y (Y.move rfl) rfl rfl rfl ?_
          refine TO.ite (b := decide (((E9.length : Nat) : Int) > (400 : Int))) (fun H17 => ?_) (fun H17 => ?_)
          · refine TO.off (Gd.at 14 false 32 (decide (((E9.length : Nat) : Int) > (400 : Int))) rfl rfl rfl (beq_tf H17)) rfl rfl ?_
            refine TO.off (Gd.at 14 false 32 (decide (((E9.length : Nat) : Int) > (400 : Int))) rfl rfl rfl (beq_tf H17)) rfl rfl ?_
            refine TO.off (Gd.at 14 false 32 (decide (((E9.length : Nat) : Int) > (400 : Int))) rfl rfl rfl (beq_tf H17)) rfl rfl ?_
            refine TO.y (Y.pick_t H17 rfl rfl) rfl rfl rfl ?_
            refine TO.nil ?_
            exact TE.jb_go () [0] ⟨rfl, rfl, rfl, rfl, trivial⟩ rfl
          · refine TO.y (Y.move rfl) (Gd.at 14 false 32 (decide (((E9.length : Nat) : Int) > (400 : Int))) rfl rfl rfl (beq_ff H17)) rfl rfl ?_
            refine TO.y (Y.len (l := S2.2) ke26 (Can.own 0 rfl) rfl) (Gd.at 14 false 32 (decide (((E9.length : Nat) : Int) > (400 : Int))) rfl rfl rfl (beq_ff H17)) rfl rfl ?_
            refine TO.y (Y.gtr rfl rfl) (Gd.at 14 false 32 (decide (((E9.length : Nat) : Int) > (400 : Int))) rfl rfl rfl (beq_ff H17)) rfl rfl ?_
            refine TO.y (Y.pick_f H17 rfl rfl) rfl rfl rfl ?_
            refine TO.nil ?_
            exact TE.jb_go () [0] ⟨rfl, rfl, rfl, rfl, trivial⟩ rfl
      · refine TE.next ?_
        refine TW.cond rfl (fun H18 => ?_) (fun H18 => ?_)
        · refine TW.seq ?_
          refine TW.region ?_
          refine TO.ef (Ef.buildSlice (α := Ent) (Vs := []) ([] : List Ent) ke26 kz31 rfl rfl rfl rfl rfl) rfl rfl rfl (fun B19 => ?_)
          refine TO.y (Y.assign rfl) rfl rfl rfl ?_
          refine TO.nil ?_
          refine TE.next ?_
          refine TW.ret ?_
          refine TE.then_ret ?_
          refine TE.block_ret ?_
          refine TE.then_ret ?_
          refine TE.lp_ret ?_
          refine TE.block_ret ?_
          refine TE.jn_done ?_
          refine TE.then_ret ?_
          exact TE.leaf fun _ _ hf_ hs_ => ret_any (rs := [.tmp 2]) (vs := [.slice (some ⟨B19, 0, none⟩) 0 0]) (.inl rfl) rfl ⟨rfl, trivial⟩ hf_ hs_ ⟨(.slice (some ⟨B19, 0, none⟩) 0 0), rfl, hs_.pulls [0] rfl⟩
        · refine TW.skip ?_
          refine TE.next ?_
          refine TW.seq ?_
          refine TW.region ?_
          refine TO.ef (Ef.buildSlice (α := Ent) (Vs := []) ([] : List Ent) ke26 kz31 rfl rfl rfl rfl rfl) rfl rfl rfl (fun B20 => ?_)
          refine TO.y (Y.move rfl) rfl rfl rfl ?_
          refine TO.y (Y.move rfl) rfl rfl rfl ?_
          refine TO.bind fun E21 H22 => ?_
          refine TO.y (Y.index ke24 (Base.can HB_V_l0) H22 rfl rfl) rfl rfl rfl ?_
          have Q23 : Base w S (elv w V_l0 (S2.1.toNat * 1 + 0)) (lc E21) := Base.el HB_V_l0 (idx_get H22).2.2 rfl rfl
          refine TO.y (Y.load_base (α := List Ent) (u := (elv w V_l0 (S2.1.toNat * 1 + 0))) kk26 rfl HB_V_l0 (idx_get H22).2.2 rfl rfl rfl rfl rfl) rfl rfl rfl ?_
          refine TO.bind fun E25 H26 => ?_
          refine TO.ef (Ef.append (α := Ent) (is' := [.own X3 (lc S2.2)]) [0, 0] H26 ke26 kz31 rfl rfl rfl rfl rfl (Base.can Q23)) rfl rfl rfl (fun V24 => ?_)
          refine TO.y (Y.assign rfl) rfl rfl rfl ?_
          refine TO.nil ?_
          refine TE.next ?_
          refine TW.seq ?_
          refine TW.region ?_
          refine TO.ef (Ef.buildSlice (α := Ent) (Vs := []) ([] : List Ent) ke26 kz31 rfl rfl rfl rfl rfl) rfl rfl rfl (fun B27 => ?_)
          refine TO.y (Y.assign rfl) rfl rfl rfl ?_
          refine TO.nil ?_
          refine TE.next ?_
          refine TW.seq ?_
          refine TW.region ?_
          refine TO.y (Y.assign rfl) rfl rfl rfl ?_
          refine TO.nil ?_
          refine TE.next ?_
          refine TW.seq ?_
          refine TW.seq ?_
          refine TW.region ?_
          refine TO.y (Y.assign rfl) rfl rfl rfl ?_
          refine TO.nil ?_
          refine TE.next ?_
          refine TW.joinX (τ := Int × List Ent) (X := Value) (fun T X => [(0, V_l0), (4, .int .i64 S2.1), (5, V24), (6, X), (7, .int .i64 T.1)]) (fun T X => [.own V24 (lc E25), .own X (lc T.2)]) ?_ (fun T30 X31 => ?_)
          · refine TW.block ?_
            refine TW.loopX (σ := Int × Int × List Ent) (X := Value) (fun T X => [(0, V_l0), (3, X3), (4, .int .i64 S2.1), (5, V24), (6, X), (7, .int .i64 T.1), (8, .int .i64 T.2.1)]) (fun T X => [.own X3 (lc S2.2), .own V24 (lc E25), .own X (lc T.2.2)]) (.slice (some ⟨B27, 0, none⟩) 0 0) [2, 1, 0] ⟨rfl, rfl, rfl, rfl, rfl, rfl, rfl, trivial⟩ rfl (fun S28 X29 => ?_)
            refine TW.seq ?_
            refine TW.seq ?_
            refine TW.region ?_
            refine TO.y (Y.move rfl) rfl rfl rfl ?_
            refine TO.y (Y.move rfl) rfl rfl rfl ?_
            refine TO.y (Y.len (l := S2.2) ke26 (Can.own 0 rfl) rfl) rfl rfl rfl ?_
            refine TO.y (Y.lss rfl rfl) rfl rfl rfl ?_
            refine TO.nil ?_
            refine TE.next ?_
            refine TW.cond rfl (fun H32 => ?_) (fun H32 => ?_)
            · refine TW.skip ?_
              refine TE.next ?_
              refine TW.seq ?_
              refine TW.block ?_
              refine TW.seq ?_
              refine TW.joinX (τ := Int × List Ent) (X := Value) (fun T X => [(0, V_l0), (3, X3), (4, .int .i64 S2.1), (5, V24), (6, X), (7, .int .i64 T.1), (8, .int .i64 S28.2.1)]) (fun T X => [.own X3 (lc S2.2), .own V24 (lc E25), .own X (lc T.2)]) ?_ (fun T35 X36 => ?_)
              · refine TW.block ?_
                refine TW.loopX (σ := Int × List Ent) (X := Value) (fun T X => [(0, V_l0), (3, X3), (4, .int .i64 S2.1), (5, V24), (6, X), (7, .int .i64 T.1), (8, .int .i64 S28.2.1)]) (fun T X => [.own X3 (lc S2.2), .own V24 (lc E25), .own X (lc T.2)]) X29 [0, 0, 0] ⟨rfl, rfl, rfl, rfl, rfl, rfl, rfl, trivial⟩ rfl (fun S33 X34 => ?_)
                refine TW.seq ?_
                refine TW.seq ?_
                refine TW.joinBX (τ := Bool) (X := Unit) (fun T _ => [(0, V_l0), (3, X3), (4, .int .i64 S2.1), (5, V24), (6, X34), (7, .int .i64 S33.1), (8, .int .i64 S28.2.1), (65, .bool T)]) (fun _ _ => [.own X3 (lc S2.2), .own V24 (lc E25), .own X34 (lc S33.2)]) ?_ (fun T37 X38 => ?_)
                · refine TW.draw (isH := [.own X3 (lc S2.2), .own V24 (lc E25), .own X34 (lc S33.2)]) hMix ?_
                  refine TA.y (listed' := #[true, false, false, false, false, false, false, false, false, false, false, false, false, false, false]) 0 [0, 0, 0] rfl (Y.move rfl) rfl rfl rfl (by kernel_rfl) (by kernel_rfl) (by kernel_rfl) rfl rfl ?_
                  refine TA.y (listed' := #[true, true, false, false, false, false, false, false, false, false, false, false, false, false, false]) 1 [0, 0, 0] rfl (Y.move rfl) rfl rfl rfl (by kernel_rfl) (by kernel_rfl) (by kernel_rfl) rfl rfl ?_
                  refine TA.y (listed' := #[true, true, true, false, false, false, false, false, false, false, false, false, false, false, false]) 2 [0, 0, 0] rfl (Y.len (l := E25) ke26 (Can.own 1 rfl) rfl) rfl rfl rfl (by kernel_rfl) (by kernel_rfl) (by kernel_rfl) rfl rfl ?_
                  refine TA.y (listed' := #[true, true, true, true, false, false, false, false, false, false, false, false, false, false, false]) 3 [0, 0, 0] rfl (Y.lss rfl rfl) rfl rfl rfl (by kernel_rfl) (by kernel_rfl) (by kernel_rfl) rfl rfl ?_
                  refine TA.y (listed' := #[true, true, true, true, true, false, false, false, false, false, false, false, false, false, false]) 4 [0, 0, 0] rfl (Y.move rfl) rfl rfl rfl (by kernel_rfl) (by kernel_rfl) (by kernel_rfl) rfl rfl ?_
                  refine TA.ite (b := decide (S33.1 < ((E25.length : Nat) : Int))) (fun H39 => ?_) (fun H39 => ?_)
                  · refine TA.y (listed' := #[true, true, true, true, true, true, false, false, false, false, false, false, false, false, false]) 5 [0, 0, 0] rfl (Y.move rfl) (Gd.at 4 true 55 (decide (S33.1 < ((E25.length : Nat) : Int))) rfl rfl rfl (beq_tt H39)) rfl rfl (by kernel_rfl) (by kernel_rfl) (by kernel_rfl) rfl rfl ?_
                    refine TA.y (listed' := #[true, true, true, true, true, true, true, false, false, false, false, false, false, false, false]) 6 [0, 0, 0] rfl (Y.move rfl) (Gd.at 4 true 55 (decide (S33.1 < ((E25.length : Nat) : Int))) rfl rfl rfl (beq_tt H39)) rfl rfl (by kernel_rfl) (by kernel_rfl) (by kernel_rfl) rfl rfl ?_
                    refine TA.bind fun E40 H41 => ?_
                    refine TA.y (listed' := #[true, true, true, true, true, true, true, true, false, false, false, false, false, false, false]) 7 [0, 0, 0] rfl (Y.index ke26 (Can.own 1 rfl) H41 rfl rfl) (Gd.at 4 true 55 (decide (S33.1 < ((E25.length : Nat) : Int))) rfl rfl rfl (beq_tt H39)) rfl rfl (by kernel_rfl) (by kernel_rfl) (by kernel_rfl) rfl rfl ?_
                    refine TA.y (listed' := #[true, true, true, true, true, true, true, true, true, false, false, false, false, false, false]) 8 [0, 0, 0] rfl (Y.load_el (us := [strV E40.Key, .int .i64 E40.Seq, .bool E40.Del, strV E40.Val]) (u := .agg #[strV E40.Key, .int .i64 E40.Seq, .bool E40.Del, strV E40.Val]) kk31 rfl (Can.own 1 rfl) (idx_get H41).2.2 rfl rfl rfl rfl rfl) (Gd.at 4 true 55 (decide (S33.1 < ((E25.length : Nat) : Int))) rfl rfl rfl (beq_tt H39)) rfl rfl (by kernel_rfl) (by kernel_rfl) (by kernel_rfl) rfl rfl ?_
                    refine TA.y (listed' := #[true, true, true, true, true, true, true, true, true, true, false, false, false, false, false]) 9 [0, 0, 0] rfl (Y.move rfl) (Gd.at 4 true 55 (decide (S33.1 < ((E25.length : Nat) : Int))) rfl rfl rfl (beq_tt H39)) rfl rfl (by kernel_rfl) (by kernel_rfl) (by kernel_rfl) rfl rfl ?_
                    refine TA.y (listed' := #[true, true, true, true, true, true, true, true, true, true, true, false, false, false, false]) 10 [0, 0, 0] rfl (Y.move rfl) (Gd.at 4 true 55 (decide (S33.1 < ((E25.length : Nat) : Int))) rfl rfl rfl (beq_tt H39)) rfl rfl (by kernel_rfl) (by kernel_rfl) (by kernel_rfl) rfl rfl ?_
                    refine TA.bind fun E42 H43 => ?_
                    refine TA.y (listed' := #[true, true, true, true, true, true, true, true, true, true, true, true, false, false, false]) 11 [0, 0, 0] rfl (Y.index ke26 (Can.own 0 rfl) H43 rfl rfl) (Gd.at 4 true 55 (decide (S33.1 < ((E25.length : Nat) : Int))) rfl rfl rfl (beq_tt H39)) rfl rfl (by kernel_rfl) (by kernel_rfl) (by kernel_rfl) rfl rfl ?_
                    refine TA.y (listed' := #[true, true, true, true, true, true, true, true, true, true, true, true, true, false, false]) 12 [0, 0, 0] rfl (Y.load_el (us := [strV E42.Key, .int .i64 E42.Seq, .bool E42.Del, strV E42.Val]) (u := .agg #[strV E42.Key, .int .i64 E42.Seq, .bool E42.Del, strV E42.Val]) kk31 rfl (Can.own 0 rfl) (idx_get H43).2.2 rfl rfl rfl rfl rfl) (Gd.at 4 true 55 (decide (S33.1 < ((E25.length : Nat) : Int))) rfl rfl rfl (beq_tt H39)) rfl rfl (by kernel_rfl) (by kernel_rfl) (by kernel_rfl) rfl rfl ?_
                    refine TA.bind fun R44 H45 => ?_
                    refine TA.one 13 (by kernel_rfl) ?_
                    refine TX.ef (listed' := #[true, true, true, true, true, true, true, true, true, true, true, true, true, true, false]) [0, 0, 0] rfl (Ef.call (rest := [.own X3 (lc S2.2), .own V24 (lc E25), .own X34 (lc S33.2)]) [0, 0, 0] (spec_l9Ahead_con E40 E42  R44 H45) kc36 rfl rfl trivial) (Gd.at 4 true 55 (decide (S33.1 < ((E25.length : Nat) : Int))) rfl rfl rfl (beq_tt H39)) rfl rfl rfl (fun _ => rfl) (fun _ => ?_)
                    refine TA.y (listed' := #[true, true, true, true, true, true, true, true, true, true, true, true, true, true, true]) 14 [0, 0, 0] rfl (Y.pick_t H39 rfl rfl) rfl rfl rfl (by kernel_rfl) (by kernel_rfl) (by kernel_rfl) rfl rfl ?_
                    refine TA.nil (by kernel_rfl) ?_
                    exact TE.jb_go () [0, 0, 0] ⟨rfl, rfl, rfl, rfl, rfl, rfl, rfl, rfl, trivial⟩ rfl
                  · refine TA.off (listed' := #[true, true, true, true, true, true, false, false, false, false, false, false, false, false, false]) 5 [0, 0, 0] rfl (Gd.at 4 true 55 (decide (S33.1 < ((E25.length : Nat) : Int))) rfl rfl rfl (beq_ft H39)) rfl rfl (by kernel_rfl) (by kernel_rfl) (by kernel_rfl) rfl rfl ?_
                    refine TA.off (listed' := #[true, true, true, true, true, true, true, false, false, false, false, false, false, false, false]) 6 [0, 0, 0] rfl (Gd.at 4 true 55 (decide (S33.1 < ((E25.length : Nat) : Int))) rfl rfl rfl (beq_ft H39)) rfl rfl (by kernel_rfl) (by kernel_rfl) (by kernel_rfl) rfl rfl ?_
                    refine TA.off (listed' := #[true, true, true, true, true, true, true, true, false, false, false, false, false, false, false]) 7 [0, 0, 0] rfl (Gd.at 4 true 55 (decide (S33.1 < ((E25.length : Nat) : Int))) rfl rfl rfl (beq_ft H39)) rfl rfl (by kernel_rfl) (by kernel_rfl) (by kernel_rfl) rfl rfl ?_
                    refine TA.off (listed' := #[true, true, true, true, true, true, true, true, true, false, false, false, false, false, false]) 8 [0, 0, 0] rfl (Gd.at 4 true 55 (decide (S33.1 < ((E25.length : Nat) : Int))) rfl rfl rfl (beq_ft H39)) rfl rfl (by kernel_rfl) (by kernel_rfl) (by kernel_rfl) rfl rfl ?_
                    refine TA.off (listed' := #[true, true, true, true, true, true, true, true, true, true, false, false, false, false, false]) 9 [0, 0, 0] rfl (Gd.at 4 true 55 (decide (S33.1 < ((E25.length : Nat) : Int))) rfl rfl rfl (beq_ft H39)) rfl rfl (by kernel_rfl) (by kernel_rfl) (by kernel_rfl) rfl rfl ?_
                    refine TA.off (listed' := #[true, true, true, true, true, true, true, true, true, true, true, false, false, false, false]) 10 [0, 0, 0] rfl (Gd.at 4 true 55 (decide (S33.1 < ((E25.length : Nat) : Int))) rfl rfl rfl (beq_ft H39)) rfl rfl (by kernel_rfl) (by kernel_rfl) (by kernel_rfl) rfl rfl ?_
                    refine TA.off (listed' := #[true, true, true, true, true, true, true, true, true, true, true, true, false, false, false]) 11 [0, 0, 0] rfl (Gd.at 4 true 55 (decide (S33.1 < ((E25.length : Nat) : Int))) rfl rfl rfl (beq_ft H39)) rfl rfl (by kernel_rfl) (by kernel_rfl) (by kernel_rfl) rfl rfl ?_
                    refine TA.off (listed' := #[true, true, true, true, true, true, true, true, true, true, true, true, true, false, false]) 12 [0, 0, 0] rfl (Gd.at 4 true 55 (decide (S33.1 < ((E25.length : Nat) : Int))) rfl rfl rfl (beq_ft H39)) rfl rfl (by kernel_rfl) (by kernel_rfl) (by kernel_rfl) rfl rfl ?_
                    refine TA.off (listed' := #[true, true, true, true, true, true, true, true, true, true, true, true, true, true, false]) 13 [0, 0, 0] rfl (Gd.at 4 true 55 (decide (S33.1 < ((E25.length : Nat) : Int))) rfl rfl rfl (beq_ft H39)) rfl rfl (by kernel_rfl) (by kernel_rfl) (by kernel_rfl) rfl rfl ?_
                    refine TA.y (listed' := #[true, true, true, true, true, true, true, true, true, true, true, true, true, true, true]) 14 [0, 0, 0] rfl (Y.pick_f H39 rfl rfl) rfl rfl rfl (by kernel_rfl) (by kernel_rfl) (by kernel_rfl) rfl rfl ?_
                    refine TA.nil (by kernel_rfl) ?_
                    exact TE.jb_go () [0, 0, 0] ⟨rfl, rfl, rfl, rfl, rfl, rfl, rfl, rfl, trivial⟩ rfl
                · refine TE.next ?_
                  refine TW.cond rfl (fun H47 => ?_) (fun H47 => ?_)
                  · refine TW.skip ?_
                    refine TE.next ?_
                    refine TW.block ?_
                    refine TW.seq ?_
                    refine TW.region ?_
                    refine TO.y (Y.move rfl) rfl rfl rfl ?_
                    refine TO.y (Y.move rfl) rfl rfl rfl ?_
                    refine TO.y (Y.move rfl) rfl rfl rfl ?_
                    refine TO.bind fun E48 H49 => ?_
                    refine TO.y (Y.index ke26 (Can.own 1 rfl) H49 rfl rfl) rfl rfl rfl ?_
                    refine TO.y (Y.load_el (us := [strV E48.Key, .int .i64 E48.Seq, .bool E48.Del, strV E48.Val]) (u := .agg #[strV E48.Key, .int .i64 E48.Seq, .bool E48.Del, strV E48.Val]) kk31 rfl (Can.own 1 rfl) (idx_get H49).2.2 rfl rfl rfl rfl rfl) rfl rfl rfl ?_
                    refine TO.ef (Ef.buildSlice (α := Ent) (Vs := [.agg #[strV E48.Key, .int .i64 E48.Seq, .bool E48.Del, strV E48.Val]]) [E48] ke26 kz31 rfl rfl rfl rfl rfl) rfl rfl rfl (fun B50 => ?_)
                    refine TO.bind fun E52 H53 => ?_
                    refine TO.ef (Ef.append (α := Ent) (is' := [.own (.slice (some ⟨B50, 0, none⟩) 1 1) (lc ([E48])), .own X3 (lc S2.2), .own V24 (lc E25)]) [3, 0, 0, 0] H53 ke26 kz31 rfl rfl rfl rfl rfl (Can.own 0 rfl)) rfl rfl rfl (fun V51 => ?_)
                    refine TO.y (Y.assign rfl) rfl rfl rfl ?_
                    refine TO.nil ?_
                    refine TE.next ?_
                    refine TW.region ?_
                    refine TO.y (Y.move rfl) rfl rfl rfl ?_
                    refine TO.y (Y.add rfl rfl) rfl rfl rfl ?_
                    refine TO.y (Y.assign rfl) rfl rfl rfl ?_
                    refine TO.nil ?_
                    refine TE.block_normal ?_
                    exact TE.lp_go V51 [2, 2, 0] ⟨rfl, rfl, rfl, rfl, rfl, rfl, rfl, trivial⟩ rfl
                  · refine TW.exit ?_
                    refine TE.then_exit ?_
                    refine TE.lp_exit ?_
                    refine TE.block_exit ?_
                    exact TE.jn_go X34 [0, 0, 0] ⟨rfl, rfl, rfl, rfl, rfl, rfl, rfl, trivial⟩ rfl
              · refine TE.next ?_
                refine TW.seq ?_
                refine TW.seq ?_
                refine TW.joinBX (τ := Bool) (X := Unit) (fun T _ => [(0, V_l0), (3, X3), (4, .int .i64 S2.1), (5, V24), (6, X36), (7, .int .i64 T35.1), (8, .int .i64 S28.2.1), (90, .bool T)]) (fun _ _ => [.own X3 (lc S2.2), .own V24 (lc E25), .own X36 (lc T35.2)]) ?_ (fun T54 X55 => ?_)
                · refine TW.draw (isH := [.own X3 (lc S2.2), .own V24 (lc E25), .own X36 (lc T35.2)]) hMix ?_
                  refine TA.y (listed' := #[true, false, false, false, false, false, false, false, false, false, false, false, false, false, false, false]) 0 [0, 0, 0] rfl (Y.move rfl) rfl rfl rfl (by kernel_rfl) (by kernel_rfl) (by kernel_rfl) rfl rfl ?_
                  refine TA.y (listed' := #[true, true, false, false, false, false, false, false, false, false, false, false, false, false, false, false]) 1 [0, 0, 0] rfl (Y.move rfl) rfl rfl rfl (by kernel_rfl) (by kernel_rfl) (by kernel_rfl) rfl rfl ?_
                  refine TA.y (listed' := #[true, true, true, false, false, false, false, false, false, false, false, false, false, false, false, false]) 2 [0, 0, 0] rfl (Y.len (l := E25) ke26 (Can.own 1 rfl) rfl) rfl rfl rfl (by kernel_rfl) (by kernel_rfl) (by kernel_rfl) rfl rfl ?_
                  refine TA.y (listed' := #[true, true, true, true, false, false, false, false, false, false, false, false, false, false, false, false]) 3 [0, 0, 0] rfl (Y.lss rfl rfl) rfl rfl rfl (by kernel_rfl) (by kernel_rfl) (by kernel_rfl) rfl rfl ?_
                  refine TA.y (listed' := #[true, true, true, true, true, false, false, false, false, false, false, false, false, false, false, false]) 4 [0, 0, 0] rfl (Y.move rfl) rfl rfl rfl (by kernel_rfl) (by kernel_rfl) (by kernel_rfl) rfl rfl ?_
                  refine TA.ite (b := decide (T35.1 < ((E25.length : Nat) : Int))) (fun H56 => ?_) (fun H56 => ?_)
                  · refine TA.y (listed' := #[true, true, true, true, true, true, false, false, false, false, false, false, false, false, false, false]) 5 [0, 0, 0] rfl (Y.move rfl) (Gd.at 4 true 79 (decide (T35.1 < ((E25.length : Nat) : Int))) rfl rfl rfl (beq_tt H56)) rfl rfl (by kernel_rfl) (by kernel_rfl) (by kernel_rfl) rfl rfl ?_
                    refine TA.y (listed' := #[true, true, true, true, true, true, true, false, false, false, false, false, false, false, false, false]) 6 [0, 0, 0] rfl (Y.move rfl) (Gd.at 4 true 79 (decide (T35.1 < ((E25.length : Nat) : Int))) rfl rfl rfl (beq_tt H56)) rfl rfl (by kernel_rfl) (by kernel_rfl) (by kernel_rfl) rfl rfl ?_
                    refine TA.bind fun E57 H58 => ?_
                    refine TA.y (listed' := #[true, true, true, true, true, true, true, true, false, false, false, false, false, false, false, false]) 7 [0, 0, 0] rfl (Y.index ke26 (Can.own 0 rfl) H58 rfl rfl) (Gd.at 4 true 79 (decide (T35.1 < ((E25.length : Nat) : Int))) rfl rfl rfl (beq_tt H56)) rfl rfl (by kernel_rfl) (by kernel_rfl) (by kernel_rfl) rfl rfl ?_
                    refine TA.y (listed' := #[true, true, true, true, true, true, true, true, true, false, false, false, false, false, false, false]) 8 [0, 0, 0] rfl (Y.load_el (us := [strV E57.Key, .int .i64 E57.Seq, .bool E57.Del, strV E57.Val]) (u := .agg #[strV E57.Key, .int .i64 E57.Seq, .bool E57.Del, strV E57.Val]) kk31 rfl (Can.own 0 rfl) (idx_get H58).2.2 rfl rfl rfl rfl rfl) (Gd.at 4 true 79 (decide (T35.1 < ((E25.length : Nat) : Int))) rfl rfl rfl (beq_tt H56)) rfl rfl (by kernel_rfl) (by kernel_rfl) (by kernel_rfl) rfl rfl ?_
                    refine TA.y (listed' := #[true, true, true, true, true, true, true, true, true, true, false, false, false, false, false, false]) 9 [0, 0, 0] rfl (Y.move rfl) (Gd.at 4 true 79 (decide (T35.1 < ((E25.length : Nat) : Int))) rfl rfl rfl (beq_tt H56)) rfl rfl (by kernel_rfl) (by kernel_rfl) (by kernel_rfl) rfl rfl ?_
                    refine TA.y (listed' := #[true, true, true, true, true, true, true, true, true, true, true, false, false, false, false, false]) 10 [0, 0, 0] rfl (Y.move rfl) (Gd.at 4 true 79 (decide (T35.1 < ((E25.length : Nat) : Int))) rfl rfl rfl (beq_tt H56)) rfl rfl (by kernel_rfl) (by kernel_rfl) (by kernel_rfl) rfl rfl ?_
                    refine TA.bind fun E59 H60 => ?_
                    refine TA.y (listed' := #[true, true, true, true, true, true, true, true, true, true, true, true, false, false, false, false]) 11 [0, 0, 0] rfl (Y.index ke26 (Can.own 1 rfl) H60 rfl rfl) (Gd.at 4 true 79 (decide (T35.1 < ((E25.length : Nat) : Int))) rfl rfl rfl (beq_tt H56)) rfl rfl (by kernel_rfl) (by kernel_rfl) (by kernel_rfl) rfl rfl ?_
                    refine TA.y (listed' := #[true, true, true, true, true, true, true, true, true, true, true, true, true, false, false, false]) 12 [0, 0, 0] rfl (Y.load_el (us := [strV E59.Key, .int .i64 E59.Seq, .bool E59.Del, strV E59.Val]) (u := .agg #[strV E59.Key, .int .i64 E59.Seq, .bool E59.Del, strV E59.Val]) kk31 rfl (Can.own 1 rfl) (idx_get H60).2.2 rfl rfl rfl rfl rfl) (Gd.at 4 true 79 (decide (T35.1 < ((E25.length : Nat) : Int))) rfl rfl rfl (beq_tt H56)) rfl rfl (by kernel_rfl) (by kernel_rfl) (by kernel_rfl) rfl rfl ?_
                    refine TA.bind fun R61 H62 => ?_
                    refine TA.one 13 (by kernel_rfl) ?_
                    refine TX.ef (listed' := #[true, true, true, true, true, true, true, true, true, true, true, true, true, true, false, false]) [0, 0, 0] rfl (Ef.call (rest := [.own X3 (lc S2.2), .own V24 (lc E25), .own X36 (lc T35.2)]) [0, 0, 0] (spec_l9Ahead_con E57 E59  R61 H62) kc36 rfl rfl trivial) (Gd.at 4 true 79 (decide (T35.1 < ((E25.length : Nat) : Int))) rfl rfl rfl (beq_tt H56)) rfl rfl rfl (fun _ => rfl) (fun _ => ?_)
                    refine TA.y (listed' := #[true, true, true, true, true, true, true, true, true, true, true, true, true, true, true, false]) 14 [0, 0, 0] rfl (Y.not rfl) (Gd.at 4 true 79 (decide (T35.1 < ((E25.length : Nat) : Int))) rfl rfl rfl (beq_tt H56)) rfl rfl (by kernel_rfl) (by kernel_rfl) (by kernel_rfl) rfl rfl ?_
                    refine TA.y (listed' := #[true, true, true, true, true, true, true, true, true, true, true, true, true, true, true, true]) 15 [0, 0, 0] rfl (Y.pick_t H56 rfl rfl) rfl rfl rfl (by kernel_rfl) (by kernel_rfl) (by kernel_rfl) rfl rfl ?_
                    refine TA.nil (by kernel_rfl) ?_
                    exact TE.jb_go () [0, 0, 0] ⟨rfl, rfl, rfl, rfl, rfl, rfl, rfl, rfl, trivial⟩ rfl
                  · refine TA.off (listed' := #[true, true, true, true, true, true, false, false, false, false, false, false, false, false, false, false]) 5 [0, 0, 0] rfl (Gd.at 4 true 79 (decide (T35.1 < ((E25.length : Nat) : Int))) rfl rfl rfl (beq_ft H56)) rfl rfl (by kernel_rfl) (by kernel_rfl) (by kernel_rfl) rfl rfl ?_
                    refine TA.off (listed' := #[true, true, true, true, true, true, true, false, false, false, false, false, false, false, false, false]) 6 [0, 0, 0] rfl (Gd.at 4 true 79 (decide (T35.1 < ((E25.length : Nat) : Int))) rfl rfl rfl (beq_ft H56)) rfl rfl (by kernel_rfl) (by kernel_rfl) (by kernel_rfl) rfl rfl ?_
                    refine TA.off (listed' := #[true, true, true, true, true, true, true, true, false, false, false, false, false, false, false, false]) 7 [0, 0, 0] rfl (Gd.at 4 true 79 (decide (T35.1 < ((E25.length : Nat) : Int))) rfl rfl rfl (beq_ft H56)) rfl rfl (by kernel_rfl) (by kernel_rfl) (by kernel_rfl) rfl rfl ?_
                    refine TA.off (listed' := #[true, true, true, true, true, true, true, true, true, false, false, false, false, false, false, false]) 8 [0, 0, 0] rfl (Gd.at 4 true 79 (decide (T35.1 < ((E25.length : Nat) : Int))) rfl rfl rfl (beq_ft H56)) rfl rfl (by kernel_rfl) (by kernel_rfl) (by kernel_rfl) rfl rfl ?_
                    refine TA.off (listed' := #[true, true, true, true, true, true, true, true, true, true, false, false, false, false, false, false]) 9 [0, 0, 0] rfl (Gd.at 4 true 79 (decide (T35.1 < ((E25.length : Nat) : Int))) rfl rfl rfl (beq_ft H56)) rfl rfl (by kernel_rfl) (by kernel_rfl) (by kernel_rfl) rfl rfl ?_
                    refine TA.off (listed' := #[true, true, true, true, true, true, true, true, true, true, true, false, false, false, false, false]) 10 [0, 0, 0] rfl (Gd.at 4 true 79 (decide (T35.1 < ((E25.length : Nat) : Int))) rfl rfl rfl (beq_ft H56)) rfl rfl (by kernel_rfl) (by kernel_rfl) (by kernel_rfl) rfl rfl ?_
                    refine TA.off (listed' := #[true, true, true, true, true, true, true, true, true, true, true, true, false, false, false, false]) 11 [0, 0, 0] rfl (Gd.at 4 true 79 (decide (T35.1 < ((E25.length : Nat) : Int))) rfl rfl rfl (beq_ft H56)) rfl rfl (by kernel_rfl) (by kernel_rfl) (by kernel_rfl) rfl rfl ?_
                    refine TA.off (listed' := #[true, true, true, true, true, true, true, true, true, true, true, true, true, false, false, false]) 12 [0, 0, 0] rfl (Gd.at 4 true 79 (decide (T35.1 < ((E25.length : Nat) : Int))) rfl rfl rfl (beq_ft H56)) rfl rfl (by kernel_rfl) (by kernel_rfl) (by kernel_rfl) rfl rfl ?_
                    refine TA.off (listed' := #[true, true, true, true, true, true, true, true, true, true, true, true, true, true, false, false]) 13 [0, 0, 0] rfl (Gd.at 4 true 79 (decide (T35.1 < ((E25.length : Nat) : Int))) rfl rfl rfl (beq_ft H56)) rfl rfl (by kernel_rfl) (by kernel_rfl) (by kernel_rfl) rfl rfl ?_
                    refine TA.off (listed' := #[true, true, true, true, true, true, true, true, true, true, true, true, true, true, true, false]) 14 [0, 0, 0] rfl (Gd.at 4 true 79 (decide (T35.1 < ((E25.length : Nat) : Int))) rfl rfl rfl (beq_ft H56)) rfl rfl (by kernel_rfl) (by kernel_rfl) (by kernel_rfl) rfl rfl ?_
                    refine TA.y (listed' := #[true, true, true, true, true, true, true, true, true, true, true, true, true, true, true, true]) 15 [0, 0, 0] rfl (Y.pick_f H56 rfl rfl) rfl rfl rfl (by kernel_rfl) (by kernel_rfl) (by kernel_rfl) rfl rfl ?_
                    refine TA.nil (by kernel_rfl) ?_
                    exact TE.jb_go () [0, 0, 0] ⟨rfl, rfl, rfl, rfl, rfl, rfl, rfl, rfl, trivial⟩ rfl
                · refine TE.next ?_
                  refine TW.joinX (τ := Int) (X := Unit) (fun T _ => [(0, V_l0), (3, X3), (4, .int .i64 S2.1), (5, V24), (6, X36), (7, .int .i64 T), (8, .int .i64 S28.2.1)]) (fun _ _ => [.own X3 (lc S2.2), .own V24 (lc E25), .own X36 (lc T35.2)]) ?_ (fun T64 X65 => ?_)
                  · refine TW.cond rfl (fun H66 => ?_) (fun H66 => ?_)
                    · refine TW.region ?_
                      refine TO.y (Y.move rfl) rfl rfl rfl ?_
                      refine TO.y (Y.add rfl rfl) rfl rfl rfl ?_
                      refine TO.y (Y.assign rfl) rfl rfl rfl ?_
                      refine TO.nil ?_
                      exact TE.jn_go () [0, 0, 0] ⟨rfl, rfl, rfl, rfl, rfl, rfl, rfl, trivial⟩ rfl
                    · refine TW.skip ?_
                      exact TE.jn_go () [0, 0, 0] ⟨rfl, rfl, rfl, rfl, rfl, rfl, rfl, trivial⟩ rfl
                  · refine TE.next ?_
                    refine TW.region ?_
                    refine TO.y (Y.move rfl) rfl rfl rfl ?_
                    refine TO.y (Y.move rfl) rfl rfl rfl ?_
                    refine TO.y (Y.move rfl) rfl rfl rfl ?_
                    refine TO.bind fun E67 H68 => ?_
                    refine TO.y (Y.index ke26 (Can.own 0 rfl) H68 rfl rfl) rfl rfl rfl ?_
                    refine TO.y (Y.load_el (us := [strV E67.Key, .int .i64 E67.Seq, .bool E67.Del, strV E67.Val]) (u := .agg #[strV E67.Key, .int .i64 E67.Seq, .bool E67.Del, strV E67.Val]) kk31 rfl (Can.own 0 rfl) (idx_get H68).2.2 rfl rfl rfl rfl rfl) rfl rfl rfl ?_
                    refine TO.ef (Ef.buildSlice (α := Ent) (Vs := [.agg #[strV E67.Key, .int .i64 E67.Seq, .bool E67.Del, strV E67.Val]]) [E67] ke26 kz31 rfl rfl rfl rfl rfl) rfl rfl rfl (fun B69 => ?_)
                    refine TO.bind fun E71 H72 => ?_
                    refine TO.ef (Ef.append (α := Ent) (is' := [.own (.slice (some ⟨B69, 0, none⟩) 1 1) (lc ([E67])), .own X3 (lc S2.2), .own V24 (lc E25)]) [3, 0, 0, 0] H72 ke26 kz31 rfl rfl rfl rfl rfl (Can.own 0 rfl)) rfl rfl rfl (fun V70 => ?_)
                    refine TO.y (Y.assign rfl) rfl rfl rfl ?_
                    refine TO.nil ?_
                    refine TE.block_normal ?_
                    refine TE.next ?_
                    refine TW.region ?_
                    refine TO.y (Y.move rfl) rfl rfl rfl ?_
                    refine TO.y (Y.add rfl rfl) rfl rfl rfl ?_
                    refine TO.y (Y.assign rfl) rfl rfl rfl ?_
                    refine TO.nil ?_
                    exact TE.lp_go V70 [2, 2, 0] ⟨rfl, rfl, rfl, rfl, rfl, rfl, rfl, trivial⟩ rfl
            · refine TW.exit ?_
              refine TE.then_exit ?_
              refine TE.lp_exit ?_
              refine TE.block_exit ?_
              exact TE.jn_go X29 [1, 1] ⟨rfl, rfl, rfl, rfl, rfl, trivial⟩ rfl
          · refine TE.next ?_
            refine TW.region ?_
            refine TO.y (Y.move rfl) rfl rfl rfl ?_
            refine TO.y (Y.move rfl) rfl rfl rfl ?_
            refine TO.y (Y.move rfl) rfl rfl rfl ?_
            refine TO.bind fun E73 H74 => ?_
            refine TO.y (Y.subs H74 ke26 (Can.own 0 rfl) rfl ⟨_, rfl⟩ rfl) rfl rfl rfl ?_
            refine TO.bind fun E76 H77 => ?_
            refine TO.ef (Ef.append (α := Ent) (is' := [.own V24 (lc E25)]) [1, 0] H77 ke26 kz31 rfl rfl rfl rfl rfl (Can.sub H74 rfl (Can.own 0 rfl))) rfl rfl rfl (fun V75 => ?_)
            refine TO.y (Y.assign rfl) rfl rfl rfl ?_
            refine TO.nil ?_
            refine TE.block_normal ?_
            refine TE.next ?_
            refine TW.region ?_
            refine TO.y (Y.move rfl) rfl rfl rfl ?_
            refine TO.y (Y.add rfl rfl) rfl rfl rfl ?_
            refine TO.y (Y.assign rfl) rfl rfl rfl ?_
            refine TO.nil ?_
            exact TE.lp_go V75 [0] ⟨rfl, rfl, rfl, trivial⟩ rfl
    · refine TW.exit ?_
      refine TE.then_exit ?_
      refine TE.lp_exit ?_
      refine TE.block_exit ?_
      exact TE.jn_go X3 [0] ⟨rfl, rfl, trivial⟩ rfl
  · refine TE.next ?_
    refine TW.seq ?_
    refine TW.region ?_
    refine TO.y (Y.assign rfl) rfl rfl rfl ?_
    refine TO.nil ?_
    refine TE.next ?_
    refine TW.seq ?_
    refine TW.seq ?_
    refine TW.region ?_
    refine TO.y (Y.assign rfl) rfl rfl rfl ?_
    refine TO.nil ?_
    refine TE.next ?_
    refine TW.joinX (τ := Int) (X := Unit) (fun T _ => [(3, X5), (9, .int .i64 T)]) (fun _ _ => [.own X5 (lc T4)]) ?_ (fun T80 X81 => ?_)
    · refine TW.block ?_
      refine TW.loopX (σ := Int × Int) (X := Unit) (fun T _ => [(0, V_l0), (3, X5), (9, .int .i64 T.1), (10, .int .i64 T.2)]) (fun _ _ => [.own X5 (lc T4)]) () [0] ⟨rfl, rfl, rfl, rfl, trivial⟩ rfl (fun S78 X79 => ?_)
      refine TW.seq ?_
      refine TW.seq ?_
      refine TW.region ?_
      refine TO.y (Y.move rfl) rfl rfl rfl ?_
      refine TO.y (Y.move rfl) rfl rfl rfl ?_
      refine TO.y (Y.len (l := l) ke24 (Base.can HB_V_l0) rfl) rfl rfl rfl ?_
      refine TO.y (Y.lss rfl rfl) rfl rfl rfl ?_
      refine TO.nil ?_
      refine TE.next ?_
      refine TW.cond rfl (fun H82 => ?_) (fun H82 => ?_)
      · refine TW.skip ?_
        refine TE.next ?_
        refine TW.seq ?_
        refine TW.block ?_
        refine TW.region ?_
        refine TO.y (Y.move rfl) rfl rfl rfl ?_
        refine TO.y (Y.move rfl) rfl rfl rfl ?_
        refine TO.y (Y.move rfl) rfl rfl rfl ?_
        refine TO.bind fun E83 H84 => ?_
        refine TO.y (Y.index ke24 (Base.can HB_V_l0) H84 rfl rfl) rfl rfl rfl ?_
        have Q85 : Base w S (elv w V_l0 (S78.2.toNat * 1 + 0)) (lc E83) := Base.el HB_V_l0 (idx_get H84).2.2 rfl rfl
        refine TO.y (Y.load_base (α := List Ent) (u := (elv w V_l0 (S78.2.toNat * 1 + 0))) kk26 rfl HB_V_l0 (idx_get H84).2.2 rfl rfl rfl rfl rfl) rfl rfl rfl ?_
        refine TO.y (Y.len (l := E83) ke26 (Base.can Q85) rfl) rfl rfl rfl ?_
        refine TO.y (Y.add rfl rfl) rfl rfl rfl ?_
        refine TO.y (Y.assign rfl) rfl rfl rfl ?_
        refine TO.nil ?_
        refine TE.block_normal ?_
        refine TE.next ?_
        refine TW.region ?_
        refine TO.y (Y.move rfl) rfl rfl rfl ?_
        refine TO.y (Y.add rfl rfl) rfl rfl rfl ?_
        refine TO.y (Y.assign rfl) rfl rfl rfl ?_
        refine TO.nil ?_
        exact TE.lp_go () [0] ⟨rfl, rfl, rfl, rfl, trivial⟩ rfl
      · refine TW.exit ?_
        refine TE.then_exit ?_
        refine TE.lp_exit ?_
        refine TE.block_exit ?_
        exact TE.jn_go () [0] ⟨rfl, rfl, trivial⟩ rfl
    · refine TE.next ?_
      refine TW.seq ?_
      refine TW.seq ?_
      refine TW.region ?_
      refine TO.y (Y.move rfl) rfl rfl rfl ?_
      refine TO.y (Y.gtr rfl rfl) rfl rfl rfl ?_
      refine TO.nil ?_
      refine TE.next ?_
      refine TW.cond rfl (fun H86 => ?_) (fun H86 => ?_)
      · refine TW.seq ?_
        refine TW.region ?_
        refine TO.ef (Ef.buildSlice (α := Ent) (Vs := []) ([] : List Ent) ke26 kz31 rfl rfl rfl rfl rfl) rfl rfl rfl (fun B87 => ?_)
        refine TO.y (Y.assign rfl) rfl rfl rfl ?_
        refine TO.nil ?_
        refine TE.next ?_
        refine TW.ret ?_
        refine TE.then_ret ?_
        exact TE.leaf fun _ _ hf_ hs_ => ret_any (rs := [.tmp 2]) (vs := [.slice (some ⟨B87, 0, none⟩) 0 0]) (.inl rfl) rfl ⟨rfl, trivial⟩ hf_ hs_ ⟨(.slice (some ⟨B87, 0, none⟩) 0 0), rfl, hs_.pulls [0] rfl⟩
      · refine TW.skip ?_
        refine TE.next ?_
        refine TW.seq ?_
        refine TW.region ?_
        refine TO.y (Y.move rfl) rfl rfl rfl ?_
        refine TO.y (Y.assign rfl) rfl rfl rfl ?_
        refine TO.nil ?_
        refine TE.next ?_
        refine TW.ret ?_
        exact TE.leaf fun _ _ hf_ hs_ => ret_any (rs := [.tmp 2]) (vs := [X5]) (.inl rfl) rfl ⟨rfl, trivial⟩ hf_ hs_ ⟨X5, rfl, hs_.pulls [0] rfl⟩

/-- loop.example/g00950/laws.sameEnts -/
noncomputable def laws_sameEnts (a : List Ent) (b : List Ent) : Option Bool :=
  if (!(decide (((a.length : Nat) : Int) = ((b.length : Nat) : Int)))) = true then (some false)
  else (bindC (loopO (fun (S2 : Int) => if (decide (S2 < ((a.length : Nat) : Int))) = true then ((idx a S2).bind fun E7 =>
  (idx b S2).bind fun E9 =>
  if (!(decide (E7.Key = E9.Key) && (decide (E7.Seq = E9.Seq) && (decide (E7.Del = E9.Del) && (decide (E7.Val = E9.Val) && true))))) = true then (some (.done (.done false)))
  else (some (.go (IntKind.i64.wrap (S2 + (1 : Int))))))
  else (some (.done (.go ()))))
  (0 : Int))
  (fun (T4 : Unit) => some true))

theorem laws_sameEnts_con (a : List Ent) (b : List Ent) (V_a0 : Value) (V_b0 : Value) (r : Bool) (hm : laws_sameEnts a b = some r) :
    Con Try.prog 10 [V_a0, V_b0] [] [(V_a0, lc a), (V_b0, lc b)] (fun _ : Unit => .bool r) (fun _ => []) := by
  refine Con.intro (args := [V_a0, V_b0]) (n := 26) (val := fun r (_ : Unit) => .bool r) (post := fun _ _ => []) (m := laws_sameEnts a b) Try.func10 rfl rfl rfl hm ?_
  intro w S hrd
  have HB_V_a0 := hrd _ (.head _)
  have HB_V_b0 := hrd _ (.tail _ (.head _))
  clear hrd
  unfold laws_sameEnts
  refine TW.seq ?_
  refine TW.region ?_
  refine TO.y (Y.assign rfl) rfl rfl rfl ?_
  refine TO.nil ?_
  refine TE.next ?_
  refine TW.seq ?_
  refine TW.seq ?_
  refine TW.region ?_
  refine TO.y (Y.move rfl) rfl rfl rfl ?_
  refine TO.y (Y.len (l := a) ke26 (Base.can HB_V_a0) rfl) rfl rfl rfl ?_
  refine TO.y (Y.move rfl) rfl rfl rfl ?_
  refine TO.y (Y.len (l := b) ke26 (Base.can HB_V_b0) rfl) rfl rfl rfl ?_
  refine TO.y (Y.neq rfl rfl) rfl rfl rfl ?_
  refine TO.nil ?_
  refine TE.next ?_
  refine TW.cond rfl (fun H1 => ?_) (fun H1 => ?_)
  · refine TW.seq ?_
    refine TW.region ?_
    refine TO.y (Y.assign rfl) rfl rfl rfl ?_
    refine TO.nil ?_
    refine TE.next ?_
    refine TW.ret ?_
    refine TE.then_ret ?_
    exact TE.leaf fun _ _ hf_ hs_ => ret_any (rs := [.tmp 4]) (vs := [.bool false]) (.inl rfl) rfl ⟨rfl, trivial⟩ hf_ hs_ ⟨(), rfl, hs_.pulls [] rfl⟩
  · refine TW.skip ?_
    refine TE.next ?_
    refine TW.seq ?_
    refine TW.seq ?_
    refine TW.region ?_
    refine TO.y (Y.assign rfl) rfl rfl rfl ?_
    refine TO.nil ?_
    refine TE.next ?_
    refine TW.joinX (τ := Unit) (X := Unit) (fun _ _ => []) (fun _ _ => []) ?_ (fun T4 X5 => ?_)
    · refine TW.block ?_
      refine TW.loopX (σ := Int) (X := Unit) (fun T _ => [(0, V_a0), (1, V_b0), (5, .int .i64 T)]) (fun _ _ => []) () [] ⟨rfl, rfl, rfl, trivial⟩ rfl (fun S2 X3 => ?_)
      refine TW.seq ?_
      refine TW.seq ?_
      refine TW.region ?_
      refine TO.y (Y.move rfl) rfl rfl rfl ?_
      refine TO.y (Y.move rfl) rfl rfl rfl ?_
      refine TO.y (Y.len (l := a) ke26 (Base.can HB_V_a0) rfl) rfl rfl rfl ?_
      refine TO.y (Y.lss rfl rfl) rfl rfl rfl ?_
      refine TO.nil ?_
      refine TE.next ?_
      refine TW.cond rfl (fun H6 => ?_) (fun H6 => ?_)
      · refine TW.skip ?_
        refine TE.next ?_
        refine TW.seq ?_
        refine TW.block ?_
        refine TW.seq ?_
        refine TW.draw (isH := []) hMix ?_
        refine TA.y (listed' := #[true, false, false, false, false, false, false, false, false]) 0 [] rfl (Y.move rfl) rfl rfl rfl (by kernel_rfl) (by kernel_rfl) (by kernel_rfl) rfl rfl ?_
        refine TA.y (listed' := #[true, true, false, false, false, false, false, false, false]) 1 [] rfl (Y.move rfl) rfl rfl rfl (by kernel_rfl) (by kernel_rfl) (by kernel_rfl) rfl rfl ?_
        refine TA.bind fun E7 H8 => ?_
        refine TA.y (listed' := #[true, true, true, false, false, false, false, false, false]) 2 [] rfl (Y.index ke26 (Base.can HB_V_a0) H8 rfl rfl) rfl rfl rfl (by kernel_rfl) (by kernel_rfl) (by kernel_rfl) rfl rfl ?_
        refine TA.y (listed' := #[true, true, true, true, false, false, false, false, false]) 3 [] rfl (Y.load_el (us := [strV E7.Key, .int .i64 E7.Seq, .bool E7.Del, strV E7.Val]) (u := .agg #[strV E7.Key, .int .i64 E7.Seq, .bool E7.Del, strV E7.Val]) kk31 rfl (Base.can HB_V_a0) (idx_get H8).2.2 rfl rfl rfl rfl rfl) rfl rfl rfl (by kernel_rfl) (by kernel_rfl) (by kernel_rfl) rfl rfl ?_
        refine TA.y (listed' := #[true, true, true, true, true, false, false, false, false]) 4 [] rfl (Y.move rfl) rfl rfl rfl (by kernel_rfl) (by kernel_rfl) (by kernel_rfl) rfl rfl ?_
        refine TA.y (listed' := #[true, true, true, true, true, true, false, false, false]) 5 [] rfl (Y.move rfl) rfl rfl rfl (by kernel_rfl) (by kernel_rfl) (by kernel_rfl) rfl rfl ?_
        refine TA.bind fun E9 H10 => ?_
        refine TA.y (listed' := #[true, true, true, true, true, true, true, false, false]) 6 [] rfl (Y.index ke26 (Base.can HB_V_b0) H10 rfl rfl) rfl rfl rfl (by kernel_rfl) (by kernel_rfl) (by kernel_rfl) rfl rfl ?_
        refine TA.y (listed' := #[true, true, true, true, true, true, true, true, false]) 7 [] rfl (Y.load_el (us := [strV E9.Key, .int .i64 E9.Seq, .bool E9.Del, strV E9.Val]) (u := .agg #[strV E9.Key, .int .i64 E9.Seq, .bool E9.Del, strV E9.Val]) kk31 rfl (Base.can HB_V_b0) (idx_get H10).2.2 rfl rfl rfl rfl rfl) rfl rfl rfl (by kernel_rfl) (by kernel_rfl) (by kernel_rfl) rfl rfl ?_
        refine TA.y (listed' := #[true, true, true, true, true, true, true, true, true]) 8 [] rfl (Y.neqA keq31 (EqA.str (EqA.int (EqA.bool (EqA.str EqA.nil)))) rfl rfl) rfl rfl rfl (by kernel_rfl) (by kernel_rfl) (by kernel_rfl) rfl rfl ?_
        refine TA.nil (by kernel_rfl) ?_
        refine TE.next ?_
        refine TW.cond rfl (fun H11 => ?_) (fun H11 => ?_)
        · refine TW.seq ?_
          refine TW.region ?_
          refine TO.y (Y.assign rfl) rfl rfl rfl ?_
          refine TO.nil ?_
          refine TE.next ?_
          refine TW.ret ?_
          refine TE.block_ret ?_
          refine TE.then_ret ?_
          refine TE.lp_ret ?_
          refine TE.block_ret ?_
          refine TE.jn_done ?_
          refine TE.then_ret ?_
          exact TE.leaf fun _ _ hf_ hs_ => ret_any (rs := [.tmp 4]) (vs := [.bool false]) (.inl rfl) rfl ⟨rfl, trivial⟩ hf_ hs_ ⟨(), rfl, hs_.pulls [] rfl⟩
        · refine TW.skip ?_
          refine TE.block_normal ?_
          refine TE.next ?_
          refine TW.region ?_
          refine TO.y (Y.move rfl) rfl rfl rfl ?_
          refine TO.y (Y.add rfl rfl) rfl rfl rfl ?_
          refine TO.y (Y.assign rfl) rfl rfl rfl ?_
          refine TO.nil ?_
          exact TE.lp_go () [] ⟨rfl, rfl, rfl, trivial⟩ rfl
      · refine TW.exit ?_
        refine TE.then_exit ?_
        refine TE.lp_exit ?_
        refine TE.block_exit ?_
        exact TE.jn_go () [] trivial rfl
    · refine TE.next ?_
      refine TW.seq ?_
      refine TW.region ?_
      refine TO.y (Y.assign rfl) rfl rfl rfl ?_
      refine TO.nil ?_
      refine TE.next ?_
      refine TW.ret ?_
      exact TE.leaf fun _ _ hf_ hs_ => ret_any (rs := [.tmp 4]) (vs := [.bool true]) (.inl rfl) rfl ⟨rfl, trivial⟩ hf_ hs_ ⟨(), rfl, hs_.pulls [] rfl⟩

end Go.Proofs.Ytfnhaaafggdllaa
