/-
  The functions that a law reaches, each as a pure function, with the proof that the program computes it, and the step from a pure law to the given statement. Conditions: none.
-/
import Derived.Test.YtldbnjgpcilgiaaZ1
set_option linter.unusedVariables false
set_option maxRecDepth 100000
set_option maxHeartbeats 4000000
namespace Go.Proofs.Ytldbnjgpcilgiaa
open Go Sl

/-- loop.example/g00950/impl.Fixed -/
noncomputable def impl_Fixed (n : Int) (width : Int) : Option (List UInt8) :=
  ((impl_inRange width (1 : Int) (7 : Int)).bind fun R3 =>
  if (!R3) = true then (some true)
  else (if (decide (n < (0 : Int))) = true then (some true)
  else (some (!(decide (ishr .i64 n (IntKind.u64.wrap (IntKind.i64.wrap ((8 : Int) * width))) = (0 : Int))))))).bind (fun (T1 : Bool) =>
  if T1 = true then (some ([]))
  else ((mkLen 1 width).bind fun E10 =>
  bindC (loopO (fun (S12 : Int × Int × List UInt8) => if (decide (S12.2.1 ≥ (0 : Int))) = true then ((idx S12.2.2 S12.2.1).bind fun E17 =>
  some (.go (ishr .i64 S12.1 (8 : Int), IntKind.i64.wrap (S12.2.1 - (1 : Int)), (S12.2.2.set S12.2.1.toNat (toU8 S12.1)))))
  else (some (.done (.go S12.2.2))))
  (n, IntKind.i64.wrap (width - (1 : Int)), (List.replicate E10 (0 : UInt8))))
  (fun (T14 : List UInt8) => some T14)))

theorem impl_Fixed_con (n : Int) (width : Int)  (r : List UInt8) (hm : impl_Fixed n width = some r) :
    Con Try.prog 68 [.int .i64 n, .int .i64 width] [] [] (fun _ : Unit => strV r) (fun _ => []) := by
  refine Con.intro (args := [.int .i64 n, .int .i64 width]) (n := 39) (val := fun r (_ : Unit) => strV r) (post := fun _ _ => []) (m := impl_Fixed n width) Try.func68 rfl rfl rfl hm ?_
  intro w S _
  unfold impl_Fixed
  refine TW.seq ?_
  refine TW.region ?_
  refine TO.y (Y.assign rfl) rfl rfl rfl ?_
  refine TO.nil ?_
  refine TE.next ?_
  refine TW.seq ?_
  refine TW.seq ?_
  refine TW.joinBX (τ := Bool) (X := Unit) (fun T _ => [(0, .int .i64 n), (1, .int .i64 width), (21, .bool T)]) (fun _ _ => []) ?_ (fun T1 X2 => ?_)
  · refine TW.region ?_
    refine TO.y (Y.move rfl) rfl rfl rfl ?_
    refine TO.bind fun R3 H4 => ?_
    refine TO.ef (Ef.call (rest := []) [] (impl_inRange_con width (1 : Int) (7 : Int)  R3 H4) kc67 rfl rfl trivial) rfl rfl rfl (fun _ => ?_)
    refine TO.y (Y.not rfl) rfl rfl rfl ?_
    refine TO.y (Y.move rfl) rfl rfl rfl ?_
    refine TO.ite (b := !R3) (fun H6 => ?_) (fun H6 => ?_)
    · refine TO.off (Gd.at 3 false 10 (!R3) rfl rfl rfl (beq_tf H6)) rfl rfl ?_
      refine TO.off (Gd.at 3 false 10 (!R3) rfl rfl rfl (beq_tf H6)) rfl rfl ?_
      refine TO.y (Y.pick_t H6 rfl rfl) rfl rfl rfl ?_
      refine TO.y (Y.move rfl) rfl rfl rfl ?_
      refine TO.off (Gd.at 7 false 14 true rfl rfl rfl rfl) rfl rfl ?_
      refine TO.off (Gd.at 7 false 14 true rfl rfl rfl rfl) rfl rfl ?_
      refine TO.off (Gd.at 7 false 14 true rfl rfl rfl rfl) rfl rfl ?_
      refine TO.off (Gd.at 7 false 14 true rfl rfl rfl rfl) rfl rfl ?_
      refine TO.off (Gd.at 7 false 14 true rfl rfl rfl rfl) rfl rfl ?_
      refine TO.off (Gd.at 7 false 14 true rfl rfl rfl rfl) rfl rfl ?_
      refine TO.y (Y.pick_t rfl rfl rfl) rfl rfl rfl ?_
      refine TO.nil ?_
      exact TE.jb_go () [] ⟨rfl, rfl, rfl, trivial⟩ rfl
    · refine TO.y (Y.move rfl) (Gd.at 3 false 10 (!R3) rfl rfl rfl (beq_ff H6)) rfl rfl ?_
      refine TO.y (Y.lss rfl rfl) (Gd.at 3 false 10 (!R3) rfl rfl rfl (beq_ff H6)) rfl rfl ?_
      refine TO.y (Y.pick_f H6 rfl rfl) rfl rfl rfl ?_
      refine TO.y (Y.move rfl) rfl rfl rfl ?_
      refine TO.ite (b := decide (n < (0 : Int))) (fun H7 => ?_) (fun H7 => ?_)
      · refine TO.off (Gd.at 7 false 14 (decide (n < (0 : Int))) rfl rfl rfl (beq_tf H7)) rfl rfl ?_
        refine TO.off (Gd.at 7 false 14 (decide (n < (0 : Int))) rfl rfl rfl (beq_tf H7)) rfl rfl ?_
        refine TO.off (Gd.at 7 false 14 (decide (n < (0 : Int))) rfl rfl rfl (beq_tf H7)) rfl rfl ?_
        refine TO.off (Gd.at 7 false 14 (decide (n < (0 : Int))) rfl rfl rfl (beq_tf H7)) rfl rfl ?_
        refine TO.off (Gd.at 7 false 14 (decide (n < (0 : Int))) rfl rfl rfl (beq_tf H7)) rfl rfl ?_
        refine TO.off (Gd.at 7 false 14 (decide (n < (0 : Int))) rfl rfl rfl (beq_tf H7)) rfl rfl ?_
        refine TO.y (Y.pick_t H7 rfl rfl) rfl rfl rfl ?_
        refine TO.nil ?_
        exact TE.jb_go () [] ⟨rfl, rfl, rfl, trivial⟩ rfl
      · refine TO.y (Y.move rfl) (Gd.at 7 false 14 (decide (n < (0 : Int))) rfl rfl rfl (beq_ff H7)) rfl rfl ?_
        refine TO.y (Y.move rfl) (Gd.at 7 false 14 (decide (n < (0 : Int))) rfl rfl rfl (beq_ff H7)) rfl rfl ?_
        refine TO.y (Y.mul rfl rfl) (Gd.at 7 false 14 (decide (n < (0 : Int))) rfl rfl rfl (beq_ff H7)) rfl rfl ?_
        refine TO.y (Y.conv ki3 ki86 rfl) (Gd.at 7 false 14 (decide (n < (0 : Int))) rfl rfl rfl (beq_ff H7)) rfl rfl ?_
        refine TO.y (Y.shr (wrap_u_nonneg rfl _) rfl rfl) (Gd.at 7 false 14 (decide (n < (0 : Int))) rfl rfl rfl (beq_ff H7)) rfl rfl ?_
        refine TO.y (Y.neq rfl rfl) (Gd.at 7 false 14 (decide (n < (0 : Int))) rfl rfl rfl (beq_ff H7)) rfl rfl ?_
        refine TO.y (Y.pick_f H7 rfl rfl) rfl rfl rfl ?_
        refine TO.nil ?_
        exact TE.jb_go () [] ⟨rfl, rfl, rfl, trivial⟩ rfl
  · refine TE.next ?_
    refine TW.cond rfl (fun H8 => ?_) (fun H8 => ?_)
    · refine TW.seq ?_
      refine TW.region ?_
      refine TO.y (Y.assign rfl) rfl rfl rfl ?_
      refine TO.nil ?_
      refine TE.next ?_
      refine TW.ret ?_
      refine TE.then_ret ?_
      exact TE.leaf fun _ _ hf_ hs_ => ret_any (rs := [.tmp 4]) (vs := [strV ([])]) (.inl rfl) rfl ⟨rfl, trivial⟩ hf_ hs_ ⟨(), rfl, hs_.pulls [] rfl⟩
    · refine TW.skip ?_
      refine TE.next ?_
      refine TW.seq ?_
      refine TW.region ?_
      refine TO.y (Y.move rfl) rfl rfl rfl ?_
      refine TO.bind fun E10 H11 => ?_
      refine TO.ef (Ef.make (α := UInt8) (z := (0 : UInt8)) H11 ke22 kz5 rfl rfl rfl rfl) rfl rfl rfl (fun V9 => ?_)
      refine TO.y (Y.assign rfl) rfl rfl rfl ?_
      refine TO.nil ?_
      refine TE.next ?_
      refine TW.seq ?_
      refine TW.seq ?_
      refine TW.region ?_
      refine TO.y (Y.move rfl) rfl rfl rfl ?_
      refine TO.y (Y.sub rfl rfl) rfl rfl rfl ?_
      refine TO.y (Y.assign rfl) rfl rfl rfl ?_
      refine TO.nil ?_
      refine TE.next ?_
      refine TW.joinX (τ := List UInt8) (X := Unit) (fun _ _ => [(5, V9)]) (fun T _ => [.own V9 (lc T)]) ?_ (fun T14 X15 => ?_)
      · refine TW.block ?_
        refine TW.loopX (σ := Int × Int × List UInt8) (X := Unit) (fun T _ => [(0, .int .i64 T.1), (5, V9), (6, .int .i64 T.2.1)]) (fun T _ => [.own V9 (lc T.2.2)]) () [0] ⟨rfl, rfl, rfl, trivial⟩ rfl (fun S12 X13 => ?_)
        refine TW.seq ?_
        refine TW.seq ?_
        refine TW.region ?_
        refine TO.y (Y.move rfl) rfl rfl rfl ?_
        refine TO.y (Y.geq rfl rfl) rfl rfl rfl ?_
        refine TO.nil ?_
        refine TE.next ?_
        refine TW.cond rfl (fun H16 => ?_) (fun H16 => ?_)
        · refine TW.skip ?_
          refine TE.next ?_
          refine TW.seq ?_
          refine TW.block ?_
          refine TW.seq ?_
          refine TW.region ?_
          refine TO.y (Y.move rfl) rfl rfl rfl ?_
          refine TO.y (Y.move rfl) rfl rfl rfl ?_
          refine TO.y (Y.move rfl) rfl rfl rfl ?_
          refine TO.y (Y.conv8 ki3 ki5 rfl) rfl rfl rfl ?_
          refine TO.bind fun E17 H18 => ?_
          refine TO.y (Y.index ke22 (Can.own 0 rfl) H18 rfl rfl) rfl rfl rfl ?_
          refine TO.ef0 (Ef.store_el (us := [.int .u8 (((toU8 S12.1).toNat : Nat) : Int)]) (is' := [.own V9 (lc (S12.2.2.set S12.2.1.toNat (toU8 S12.1)))]) (toU8 S12.1) 0 kk5 rfl rfl (idx_get H18).2.2 rfl rfl (Cel.plain rfl rfl) rfl rfl rfl rfl) rfl rfl (fun _ => ?_)
          refine TO.nil ?_
          refine TE.next ?_
          refine TW.region ?_
          refine TO.y (Y.move rfl) rfl rfl rfl ?_
          refine TO.y (Y.shr (by decide) rfl rfl) rfl rfl rfl ?_
          refine TO.y (Y.assign rfl) rfl rfl rfl ?_
          refine TO.nil ?_
          refine TE.block_normal ?_
          refine TE.next ?_
          refine TW.region ?_
          refine TO.y (Y.move rfl) rfl rfl rfl ?_
          refine TO.y (Y.sub rfl rfl) rfl rfl rfl ?_
          refine TO.y (Y.assign rfl) rfl rfl rfl ?_
          refine TO.nil ?_
          exact TE.lp_go () [0] ⟨rfl, rfl, rfl, trivial⟩ rfl
        · refine TW.exit ?_
          refine TE.then_exit ?_
          refine TE.lp_exit ?_
          refine TE.block_exit ?_
          exact TE.jn_go () [0] ⟨rfl, trivial⟩ rfl
      · refine TE.next ?_
        refine TW.seq ?_
        refine TW.region ?_
        refine TO.y (Y.move rfl) rfl rfl rfl ?_
        refine TO.y (Y.toStr ke22 ki5 ks9 (Can.own 0 rfl) rfl) rfl rfl rfl ?_
        refine TO.y (Y.assign rfl) rfl rfl rfl ?_
        refine TO.nil ?_
        refine TE.next ?_
        refine TW.ret ?_
        exact TE.leaf fun _ _ hf_ hs_ => ret_any (rs := [.tmp 4]) (vs := [strV T14]) (.inl rfl) rfl ⟨rfl, trivial⟩ hf_ hs_ ⟨(), rfl, hs_.pulls [] rfl⟩

/-- loop.example/g00950/impl.summed -/
noncomputable def impl_summed (s : List UInt8) : Option (List UInt8) :=
  (impl_Crc s).bind fun R1 =>
  (impl_Fixed R1 (4 : Int)).bind fun R4 =>
  (cat R4 s).bind fun E7 =>
  some E7

theorem impl_summed_con (s : List UInt8)  (r : List UInt8) (hm : impl_summed s = some r) :
    Con Try.prog 35 [strV s] [] [] (fun _ : Unit => strV r) (fun _ => []) := by
  refine Con.intro (args := [strV s]) (n := 8) (val := fun r (_ : Unit) => strV r) (post := fun _ _ => []) (m := impl_summed s) Try.func35 rfl rfl rfl hm ?_
  intro w S _
  unfold impl_summed
  refine TW.seq ?_
  refine TW.region ?_
  refine TO.y (Y.assign rfl) rfl rfl rfl ?_
  refine TO.nil ?_
  refine TE.next ?_
  refine TW.seq ?_
  refine TW.region ?_
  refine TO.y (Y.move rfl) rfl rfl rfl ?_
  refine TO.bind fun R1 H2 => ?_
  refine TO.ef (Ef.call (rest := []) [] (impl_Crc_con s  R1 H2) kc69 rfl rfl trivial) rfl rfl rfl (fun _ => ?_)
  refine TO.bind fun R4 H5 => ?_
  refine TO.ef (Ef.call (rest := []) [] (impl_Fixed_con R1 (4 : Int)  R4 H5) kc68 rfl rfl trivial) rfl rfl rfl (fun _ => ?_)
  refine TO.y (Y.move rfl) rfl rfl rfl ?_
  refine TO.bind fun E7 H8 => ?_
  refine TO.y (Y.cat H8 rfl rfl) rfl rfl rfl ?_
  refine TO.y (Y.assign rfl) rfl rfl rfl ?_
  refine TO.nil ?_
  refine TE.next ?_
  refine TW.ret ?_
  exact TE.leaf fun _ _ hf_ hs_ => ret_any (rs := [.tmp 2]) (vs := [strV E7]) (.inl rfl) rfl ⟨rfl, trivial⟩ hf_ hs_ ⟨(), rfl, hs_.pulls [] rfl⟩

/-- loop.example/g00950/impl.ShowRow -/
noncomputable def impl_ShowRow (r_ : LogRow) : Option (List UInt8) :=
  ((impl_isTenant r_.Tenant).bind fun R4 =>
  if (!R4) = true then (some true)
  else ((impl_isPlace r_.Boot r_.Seq).bind fun R8 =>
  if (!R8) = true then (some true)
  else (some (decide (((r_.Text.length : Nat) : Int) > (300 : Int)))))).bind (fun (T2 : Bool) =>
  if T2 = true then (some ([]))
  else ((impl_Var r_.Tenant).bind fun R13 =>
  (impl_Var r_.Boot).bind fun R16 =>
  (cat R13 R16).bind fun E19 =>
  (impl_Var r_.Seq).bind fun R21 =>
  (cat E19 R21).bind fun E24 =>
  (impl_short r_.Text).bind fun R26 =>
  (cat E24 R26).bind fun E29 =>
  (impl_summed E29).bind fun R31 =>
  some R31))

theorem impl_ShowRow_con (r_ : LogRow)  (r : List UInt8) (hm : impl_ShowRow r_ = some r) :
    Con Try.prog 11 [.agg #[.int .i64 r_.Tenant, .int .i64 r_.Boot, .int .i64 r_.Seq, strV r_.Text, .bool r_.Synced]] [] [] (fun _ : Unit => strV r) (fun _ => []) := by
  refine Con.intro (args := [.agg #[.int .i64 r_.Tenant, .int .i64 r_.Boot, .int .i64 r_.Seq, strV r_.Text, .bool r_.Synced]]) (n := 37) (val := fun r (_ : Unit) => strV r) (post := fun _ _ => []) (m := impl_ShowRow r_) Try.func11 rfl rfl rfl hm ?_
  intro w S _
  unfold impl_ShowRow
  refine TW.seq ?_
  refine TW.region ?_
  refine TO.ef (Ef.box rfl (Cel.plain rfl rfl)) rfl rfl rfl (fun B1 => ?_)
  refine TO.y (Y.assign rfl) rfl rfl rfl ?_
  refine TO.nil ?_
  refine TE.next ?_
  refine TW.seq ?_
  refine TW.seq ?_
  refine TW.joinBX (τ := Bool) (X := Unit) (fun T _ => [(1, .pointer (some ⟨B1, 0, none⟩)), (20, .bool T)]) (fun _ _ => [.box B1 31 [.int .i64 r_.Tenant, .int .i64 r_.Boot, .int .i64 r_.Seq, strV r_.Text, .bool r_.Synced]]) ?_ (fun T2 X3 => ?_)
  · refine TW.region ?_
    refine TO.y (Y.field_box kf31_0 rfl rfl) rfl rfl rfl ?_
    refine TO.y (Y.load_box (v := .int .i64 r_.Tenant) 0 kk3 rfl rfl rfl) rfl rfl rfl ?_
    refine TO.bind fun R4 H5 => ?_
    refine TO.ef (Ef.call (rest := [.box B1 31 [.int .i64 r_.Tenant, .int .i64 r_.Boot, .int .i64 r_.Seq, strV r_.Text, .bool r_.Synced]]) [0] (impl_isTenant_con r_.Tenant  R4 H5) kc33 rfl rfl trivial) rfl rfl rfl (fun _ => ?_)
    refine TO.y (Y.not rfl) rfl rfl rfl ?_
    refine TO.y (Y.move rfl) rfl rfl rfl ?_
    refine TO.ite (b := !R4) (fun H7 => ?_) (fun H7 => ?_)
    · refine TO.off (Gd.at 4 false 7 (!R4) rfl rfl rfl (beq_tf H7)) rfl rfl ?_
      refine TO.off (Gd.at 4 false 7 (!R4) rfl rfl rfl (beq_tf H7)) rfl rfl ?_
      refine TO.off (Gd.at 4 false 7 (!R4) rfl rfl rfl (beq_tf H7)) rfl rfl ?_
      refine TO.off (Gd.at 4 false 7 (!R4) rfl rfl rfl (beq_tf H7)) rfl rfl ?_
      refine TO.off (Gd.at 4 false 7 (!R4) rfl rfl rfl (beq_tf H7)) rfl rfl ?_
      refine TO.off (Gd.at 4 false 7 (!R4) rfl rfl rfl (beq_tf H7)) rfl rfl ?_
      refine TO.y (Y.pick_t H7 rfl rfl) rfl rfl rfl ?_
      refine TO.y (Y.move rfl) rfl rfl rfl ?_
      refine TO.off (Gd.at 12 false 15 true rfl rfl rfl rfl) rfl rfl ?_
      refine TO.off (Gd.at 12 false 15 true rfl rfl rfl rfl) rfl rfl ?_
      refine TO.off (Gd.at 12 false 15 true rfl rfl rfl rfl) rfl rfl ?_
      refine TO.off (Gd.at 12 false 15 true rfl rfl rfl rfl) rfl rfl ?_
      refine TO.y (Y.pick_t rfl rfl rfl) rfl rfl rfl ?_
      refine TO.nil ?_
      exact TE.jb_go () [0] ⟨rfl, rfl, trivial⟩ rfl
    · refine TO.y (Y.field_box kf31_1 rfl rfl) (Gd.at 4 false 7 (!R4) rfl rfl rfl (beq_ff H7)) rfl rfl ?_
      refine TO.y (Y.load_box (v := .int .i64 r_.Boot) 0 kk3 rfl rfl rfl) (Gd.at 4 false 7 (!R4) rfl rfl rfl (beq_ff H7)) rfl rfl ?_
      refine TO.y (Y.field_box kf31_2 rfl rfl) (Gd.at 4 false 7 (!R4) rfl rfl rfl (beq_ff H7)) rfl rfl ?_
      refine TO.y (Y.load_box (v := .int .i64 r_.Seq) 0 kk3 rfl rfl rfl) (Gd.at 4 false 7 (!R4) rfl rfl rfl (beq_ff H7)) rfl rfl ?_
      refine TO.bind fun R8 H9 => ?_
      refine TO.ef (Ef.call (rest := [.box B1 31 [.int .i64 r_.Tenant, .int .i64 r_.Boot, .int .i64 r_.Seq, strV r_.Text, .bool r_.Synced]]) [0] (impl_isPlace_con r_.Boot r_.Seq  R8 H9) kc34 rfl rfl trivial) (Gd.at 4 false 7 (!R4) rfl rfl rfl (beq_ff H7)) rfl rfl (fun _ => ?_)
      refine TO.y (Y.not rfl) (Gd.at 4 false 7 (!R4) rfl rfl rfl (beq_ff H7)) rfl rfl ?_
      refine TO.y (Y.pick_f H7 rfl rfl) rfl rfl rfl ?_
      refine TO.y (Y.move rfl) rfl rfl rfl ?_
      refine TO.ite (b := !R8) (fun H11 => ?_) (fun H11 => ?_)
      · refine TO.off (Gd.at 12 false 15 (!R8) rfl rfl rfl (beq_tf H11)) rfl rfl ?_
        refine TO.off (Gd.at 12 false 15 (!R8) rfl rfl rfl (beq_tf H11)) rfl rfl ?_
        refine TO.off (Gd.at 12 false 15 (!R8) rfl rfl rfl (beq_tf H11)) rfl rfl ?_
        refine TO.off (Gd.at 12 false 15 (!R8) rfl rfl rfl (beq_tf H11)) rfl rfl ?_
        refine TO.y (Y.pick_t H11 rfl rfl) rfl rfl rfl ?_
        refine TO.nil ?_
        exact TE.jb_go () [0] ⟨rfl, rfl, trivial⟩ rfl
      · refine TO.y (Y.field_box kf31_3 rfl rfl) (Gd.at 12 false 15 (!R8) rfl rfl rfl (beq_ff H11)) rfl rfl ?_
        refine TO.y (Y.load_box (v := strV r_.Text) 0 kk9 rfl rfl rfl) (Gd.at 12 false 15 (!R8) rfl rfl rfl (beq_ff H11)) rfl rfl ?_
        refine TO.y (Y.slen ks9 rfl) (Gd.at 12 false 15 (!R8) rfl rfl rfl (beq_ff H11)) rfl rfl ?_
        refine TO.y (Y.gtr rfl rfl) (Gd.at 12 false 15 (!R8) rfl rfl rfl (beq_ff H11)) rfl rfl ?_
        refine TO.y (Y.pick_f H11 rfl rfl) rfl rfl rfl ?_
        refine TO.nil ?_
        exact TE.jb_go () [0] ⟨rfl, rfl, trivial⟩ rfl
  · refine TE.next ?_
    refine TW.cond rfl (fun H12 => ?_) (fun H12 => ?_)
    · refine TW.seq ?_
      refine TW.region ?_
      refine TO.y (Y.assign rfl) rfl rfl rfl ?_
      refine TO.nil ?_
      refine TE.next ?_
      refine TW.ret ?_
      refine TE.then_ret ?_
      exact TE.leaf fun _ _ hf_ hs_ => ret_any (rs := [.tmp 2]) (vs := [strV ([])]) (.inl rfl) rfl ⟨rfl, trivial⟩ hf_ hs_ ⟨(), rfl, hs_.pulls [] rfl⟩
    · refine TW.skip ?_
      refine TE.next ?_
      refine TW.seq ?_
      refine TW.draw (isH := [.box B1 31 [.int .i64 r_.Tenant, .int .i64 r_.Boot, .int .i64 r_.Seq, strV r_.Text, .bool r_.Synced]]) hMix ?_
      refine TA.y (listed' := #[true, false, false, false, false, false, false, false, false, false, false, false, false, false, false, false, false]) 0 [0] rfl (Y.field_box kf31_0 rfl rfl) rfl rfl rfl (by kernel_rfl) (by kernel_rfl) (by kernel_rfl) rfl rfl ?_
      refine TA.y (listed' := #[true, true, false, false, false, false, false, false, false, false, false, false, false, false, false, false, false]) 1 [0] rfl (Y.load_box (v := .int .i64 r_.Tenant) 0 kk3 rfl rfl rfl) rfl rfl rfl (by kernel_rfl) (by kernel_rfl) (by kernel_rfl) rfl rfl ?_
      refine TA.y (listed' := #[true, true, false, true, false, false, false, false, false, false, false, false, false, false, false, false, false]) 3 [0] rfl (Y.field_box kf31_1 rfl rfl) rfl rfl rfl (by kernel_rfl) (by kernel_rfl) (by kernel_rfl) rfl rfl ?_
      refine TA.y (listed' := #[true, true, false, true, true, false, false, false, false, false, false, false, false, false, false, false, false]) 4 [0] rfl (Y.load_box (v := .int .i64 r_.Boot) 0 kk3 rfl rfl rfl) rfl rfl rfl (by kernel_rfl) (by kernel_rfl) (by kernel_rfl) rfl rfl ?_
      refine TA.y (listed' := #[true, true, false, true, true, false, false, true, false, false, false, false, false, false, false, false, false]) 7 [0] rfl (Y.field_box kf31_2 rfl rfl) rfl rfl rfl (by kernel_rfl) (by kernel_rfl) (by kernel_rfl) rfl rfl ?_
      refine TA.y (listed' := #[true, true, false, true, true, false, false, true, true, false, false, false, false, false, false, false, false]) 8 [0] rfl (Y.load_box (v := .int .i64 r_.Seq) 0 kk3 rfl rfl rfl) rfl rfl rfl (by kernel_rfl) (by kernel_rfl) (by kernel_rfl) rfl rfl ?_
      refine TA.y (listed' := #[true, true, false, true, true, false, false, true, true, false, false, true, false, false, false, false, false]) 11 [0] rfl (Y.field_box kf31_3 rfl rfl) rfl rfl rfl (by kernel_rfl) (by kernel_rfl) (by kernel_rfl) rfl rfl ?_
      refine TA.y (listed' := #[true, true, false, true, true, false, false, true, true, false, false, true, true, false, false, false, false]) 12 [0] rfl (Y.load_box (v := strV r_.Text) 0 kk9 rfl rfl rfl) rfl rfl rfl (by kernel_rfl) (by kernel_rfl) (by kernel_rfl) rfl rfl ?_
      refine TA.bind fun R13 H14 => ?_
      refine TA.one 2 (by kernel_rfl) ?_
      refine TX.ef (listed' := #[true, true, true, true, true, false, false, true, true, false, false, true, true, false, false, false, false]) [0] rfl (Ef.call (rest := [.box B1 31 [.int .i64 r_.Tenant, .int .i64 r_.Boot, .int .i64 r_.Seq, strV r_.Text, .bool r_.Synced]]) [0] (impl_Var_con r_.Tenant  R13 H14) kc36 rfl rfl trivial) rfl rfl rfl rfl (fun _ => rfl) (fun _ => ?_)
      refine TA.bind fun R16 H17 => ?_
      refine TA.one 5 (by kernel_rfl) ?_
      refine TX.ef (listed' := #[true, true, true, true, true, true, false, true, true, false, false, true, true, false, false, false, false]) [0] rfl (Ef.call (rest := [.box B1 31 [.int .i64 r_.Tenant, .int .i64 r_.Boot, .int .i64 r_.Seq, strV r_.Text, .bool r_.Synced]]) [0] (impl_Var_con r_.Boot  R16 H17) kc36 rfl rfl trivial) rfl rfl rfl rfl (fun _ => rfl) (fun _ => ?_)
      refine TA.bind fun E19 H20 => ?_
      refine TA.y (listed' := #[true, true, true, true, true, true, true, true, true, false, false, true, true, false, false, false, false]) 6 [0] rfl (Y.cat H20 rfl rfl) rfl rfl rfl (by kernel_rfl) (by kernel_rfl) (by kernel_rfl) rfl rfl ?_
      refine TA.bind fun R21 H22 => ?_
      refine TA.one 9 (by kernel_rfl) ?_
      refine TX.ef (listed' := #[true, true, true, true, true, true, true, true, true, true, false, true, true, false, false, false, false]) [0] rfl (Ef.call (rest := [.box B1 31 [.int .i64 r_.Tenant, .int .i64 r_.Boot, .int .i64 r_.Seq, strV r_.Text, .bool r_.Synced]]) [0] (impl_Var_con r_.Seq  R21 H22) kc36 rfl rfl trivial) rfl rfl rfl rfl (fun _ => rfl) (fun _ => ?_)
      refine TA.bind fun E24 H25 => ?_
      refine TA.y (listed' := #[true, true, true, true, true, true, true, true, true, true, true, true, true, false, false, false, false]) 10 [0] rfl (Y.cat H25 rfl rfl) rfl rfl rfl (by kernel_rfl) (by kernel_rfl) (by kernel_rfl) rfl rfl ?_
      refine TA.bind fun R26 H27 => ?_
      refine TA.one 13 (by kernel_rfl) ?_
      refine TX.ef (listed' := #[true, true, true, true, true, true, true, true, true, true, true, true, true, true, false, false, false]) [0] rfl (Ef.call (rest := [.box B1 31 [.int .i64 r_.Tenant, .int .i64 r_.Boot, .int .i64 r_.Seq, strV r_.Text, .bool r_.Synced]]) [0] (impl_short_con r_.Text  R26 H27) kc37 rfl rfl trivial) rfl rfl rfl rfl (fun _ => rfl) (fun _ => ?_)
      refine TA.bind fun E29 H30 => ?_
      refine TA.y (listed' := #[true, true, true, true, true, true, true, true, true, true, true, true, true, true, true, false, false]) 14 [0] rfl (Y.cat H30 rfl rfl) rfl rfl rfl (by kernel_rfl) (by kernel_rfl) (by kernel_rfl) rfl rfl ?_
      refine TA.bind fun R31 H32 => ?_
      refine TA.one 15 (by kernel_rfl) ?_
      refine TX.ef (listed' := #[true, true, true, true, true, true, true, true, true, true, true, true, true, true, true, true, false]) [0] rfl (Ef.call (rest := [.box B1 31 [.int .i64 r_.Tenant, .int .i64 r_.Boot, .int .i64 r_.Seq, strV r_.Text, .bool r_.Synced]]) [0] (impl_summed_con E29  R31 H32) kc35 rfl rfl trivial) rfl rfl rfl rfl (fun _ => rfl) (fun _ => ?_)
      refine TA.y (listed' := #[true, true, true, true, true, true, true, true, true, true, true, true, true, true, true, true, true]) 16 [0] rfl (Y.assign rfl) rfl rfl rfl (by kernel_rfl) (by kernel_rfl) (by kernel_rfl) rfl rfl ?_
      refine TA.nil (by kernel_rfl) ?_
      refine TE.next ?_
      refine TW.ret ?_
      exact TE.leaf fun _ _ hf_ hs_ => ret_any (rs := [.tmp 2]) (vs := [strV R31]) (.inl rfl) rfl ⟨rfl, trivial⟩ hf_ hs_ ⟨(), rfl, hs_.pulls [] rfl⟩

/-- loop.example/g00950/impl.rowAt -/
noncomputable def impl_rowAt (s : List UInt8) : Option (LogRow × Int × Bool) :=
  (impl_reader_bytes ({ text := s, at_ := (0 : Int), bad := false : Reader }) (4 : Int)).bind fun R3 =>
  (impl_reader_number R3.2).bind fun R6 =>
  (impl_reader_number R6.2).bind fun R10 =>
  (impl_reader_number R10.2).bind fun R13 =>
  (impl_reader_short R13.2).bind fun R16 =>
  if R16.2.bad = true then (some ({ Tenant := (0 : Int), Boot := (0 : Int), Seq := (0 : Int), Text := [], Synced := false : LogRow }, (0 : Int), false))
  else ((impl_ShowRow ({ Tenant := R6.1, Boot := R10.1, Seq := R13.1, Text := R16.1, Synced := false : LogRow })).bind fun R20 =>
  (if (decide (R20 = ([]))) = true then (some true)
  else ((ssub s 0 R16.2.at_).bind fun E26 =>
  some (!(decide (R20 = E26))))).bind (fun (T23 : Bool) =>
  if T23 = true then (some ({ Tenant := (0 : Int), Boot := (0 : Int), Seq := (0 : Int), Text := [], Synced := false : LogRow }, (0 : Int), false))
  else (some ({ Tenant := R6.1, Boot := R10.1, Seq := R13.1, Text := R16.1, Synced := false : LogRow }, R16.2.at_, true))))

theorem impl_rowAt_con (s : List UInt8)  (r : LogRow × Int × Bool) (hm : impl_rowAt s = some r) :
    Con Try.prog 30 [strV s] [] [] (fun _ : Unit => .tuple #[.agg #[.int .i64 r.1.Tenant, .int .i64 r.1.Boot, .int .i64 r.1.Seq, strV r.1.Text, .bool r.1.Synced], .int .i64 r.2.1, .bool r.2.2]) (fun _ => []) := by
  refine Con.intro (args := [strV s]) (n := 38) (val := fun r (_ : Unit) => .tuple #[.agg #[.int .i64 r.1.Tenant, .int .i64 r.1.Boot, .int .i64 r.1.Seq, strV r.1.Text, .bool r.1.Synced], .int .i64 r.2.1, .bool r.2.2]) (post := fun _ _ => []) (m := impl_rowAt s) Try.func30 rfl rfl rfl hm ?_
  intro w S _
  unfold impl_rowAt
  refine TW.seq ?_
  refine TW.region ?_
  refine TO.ef (Ef.alloc kz31 rfl) rfl rfl rfl (fun B1 => ?_)
  refine TO.y (Y.assign rfl) rfl rfl rfl ?_
  refine TO.y (Y.assign rfl) rfl rfl rfl ?_
  refine TO.nil ?_
  refine TE.next ?_
  refine TW.seq ?_
  refine TW.region ?_
  refine TO.y (Y.move rfl) rfl rfl rfl ?_
  refine TO.y (Y.build (cells := [strV s, .int .i64 (0 : Int), .bool false]) [(0, [strV s])] kp81 kz81 ⟨rfl, ⟨_, rfl, (Cel.plain rfl rfl)⟩, trivial⟩ rfl) rfl rfl rfl ?_
  refine TO.ef (Ef.alloc kz81 rfl) rfl rfl rfl (fun B2 => ?_)
  refine TO.ef0 (Ef.store_box (us := [strV s, .int .i64 (0 : Int), .bool false]) (vs' := [strV s, .int .i64 (0 : Int), .bool false]) (is' := [.box B2 81 [strV s, .int .i64 (0 : Int), .bool false], .box B1 31 [.int .i64 (0 : Int), .int .i64 (0 : Int), .int .i64 (0 : Int), strV ([]), .bool false]]) 0 kk81 rfl rfl rfl (Cel.plain rfl rfl) rfl rfl rfl rfl) rfl rfl (fun _ => ?_)
  refine TO.nil ?_
  refine TE.next ?_
  refine TW.seq ?_
  refine TW.region ?_
  refine TO.bind fun R3 H4 => ?_
  refine TO.ef (Ef.call (rest := [.box B1 31 [.int .i64 (0 : Int), .int .i64 (0 : Int), .int .i64 (0 : Int), strV ([]), .bool false]]) [0, 0] (impl_reader_bytes_con ({ text := s, at_ := (0 : Int), bad := false : Reader }) (4 : Int) B2 R3 H4) kc63 rfl rfl trivial) rfl rfl rfl (fun _ => ?_)
  refine TO.nil ?_
  refine TE.next ?_
  refine TW.seq ?_
  refine TW.region ?_
  refine TO.bind fun R6 H7 => ?_
  refine TO.ef (Ef.call (rest := [.box B1 31 [.int .i64 (0 : Int), .int .i64 (0 : Int), .int .i64 (0 : Int), strV ([]), .bool false]]) [0, 0] (impl_reader_number_con R3.2 B2 R6 H7) kc64 rfl rfl trivial) rfl rfl rfl (fun _ => ?_)
  refine TO.y (Y.build (cells := [.int .i64 R6.1, .int .i64 (0 : Int), .int .i64 (0 : Int), strV ([]), .bool false]) [(0, [.int .i64 R6.1])] kp31 kz31 ⟨rfl, ⟨_, rfl, (Cel.plain rfl rfl)⟩, trivial⟩ rfl) rfl rfl rfl ?_
  refine TO.ef (Ef.alloc kz31 rfl) rfl rfl rfl (fun B9 => ?_)
  refine TO.ef0 (Ef.store_box (us := [.int .i64 R6.1, .int .i64 (0 : Int), .int .i64 (0 : Int), strV ([]), .bool false]) (vs' := [.int .i64 R6.1, .int .i64 (0 : Int), .int .i64 (0 : Int), strV ([]), .bool false]) (is' := [.box B9 31 [.int .i64 R6.1, .int .i64 (0 : Int), .int .i64 (0 : Int), strV ([]), .bool false], .box B2 81 [strV R6.2.text, .int .i64 R6.2.at_, .bool R6.2.bad], .box B1 31 [.int .i64 (0 : Int), .int .i64 (0 : Int), .int .i64 (0 : Int), strV ([]), .bool false]]) 0 kk31 rfl rfl rfl (Cel.plain rfl rfl) rfl rfl rfl rfl) rfl rfl (fun _ => ?_)
  refine TO.nil ?_
  refine TE.next ?_
  refine TW.seq ?_
  refine TW.region ?_
  refine TO.bind fun R10 H11 => ?_
  refine TO.ef (Ef.call (rest := [.box B9 31 [.int .i64 R6.1, .int .i64 (0 : Int), .int .i64 (0 : Int), strV ([]), .bool false], .box B1 31 [.int .i64 (0 : Int), .int .i64 (0 : Int), .int .i64 (0 : Int), strV ([]), .bool false]]) [1, 0, 0] (impl_reader_number_con R6.2 B2 R10 H11) kc64 rfl rfl trivial) rfl rfl rfl (fun _ => ?_)
  refine TO.y (Y.field_box kf31_1 rfl rfl) rfl rfl rfl ?_
  refine TO.ef0 (Ef.store_box (us := [.int .i64 R10.1]) (vs' := [.int .i64 R6.1, .int .i64 R10.1, .int .i64 (0 : Int), strV ([]), .bool false]) (is' := [.box B2 81 [strV R10.2.text, .int .i64 R10.2.at_, .bool R10.2.bad], .box B9 31 [.int .i64 R6.1, .int .i64 R10.1, .int .i64 (0 : Int), strV ([]), .bool false], .box B1 31 [.int .i64 (0 : Int), .int .i64 (0 : Int), .int .i64 (0 : Int), strV ([]), .bool false]]) 1 kk3 rfl rfl rfl (Cel.plain rfl rfl) rfl rfl rfl rfl) rfl rfl (fun _ => ?_)
  refine TO.nil ?_
  refine TE.next ?_
  refine TW.seq ?_
  refine TW.region ?_
  refine TO.bind fun R13 H14 => ?_
  refine TO.ef (Ef.call (rest := [.box B9 31 [.int .i64 R6.1, .int .i64 R10.1, .int .i64 (0 : Int), strV ([]), .bool false], .box B1 31 [.int .i64 (0 : Int), .int .i64 (0 : Int), .int .i64 (0 : Int), strV ([]), .bool false]]) [0, 0, 0] (impl_reader_number_con R10.2 B2 R13 H14) kc64 rfl rfl trivial) rfl rfl rfl (fun _ => ?_)
  refine TO.y (Y.field_box kf31_2 rfl rfl) rfl rfl rfl ?_
  refine TO.ef0 (Ef.store_box (us := [.int .i64 R13.1]) (vs' := [.int .i64 R6.1, .int .i64 R10.1, .int .i64 R13.1, strV ([]), .bool false]) (is' := [.box B2 81 [strV R13.2.text, .int .i64 R13.2.at_, .bool R13.2.bad], .box B9 31 [.int .i64 R6.1, .int .i64 R10.1, .int .i64 R13.1, strV ([]), .bool false], .box B1 31 [.int .i64 (0 : Int), .int .i64 (0 : Int), .int .i64 (0 : Int), strV ([]), .bool false]]) 1 kk3 rfl rfl rfl (Cel.plain rfl rfl) rfl rfl rfl rfl) rfl rfl (fun _ => ?_)
  refine TO.nil ?_
  refine TE.next ?_
  refine TW.seq ?_
  refine TW.region ?_
  refine TO.bind fun R16 H17 => ?_
  refine TO.ef (Ef.call (rest := [.box B9 31 [.int .i64 R6.1, .int .i64 R10.1, .int .i64 R13.1, strV ([]), .bool false], .box B1 31 [.int .i64 (0 : Int), .int .i64 (0 : Int), .int .i64 (0 : Int), strV ([]), .bool false]]) [0, 0, 0] (impl_reader_short_con R13.2 B2 R16 H17) kc65 rfl rfl trivial) rfl rfl rfl (fun _ => ?_)
  refine TO.y (Y.field_box kf31_3 rfl rfl) rfl rfl rfl ?_
  refine TO.ef0 (Ef.store_box (us := [strV R16.1]) (vs' := [.int .i64 R6.1, .int .i64 R10.1, .int .i64 R13.1, strV R16.1, .bool false]) (is' := [.box B2 81 [strV R16.2.text, .int .i64 R16.2.at_, .bool R16.2.bad], .box B9 31 [.int .i64 R6.1, .int .i64 R10.1, .int .i64 R13.1, strV R16.1, .bool false], .box B1 31 [.int .i64 (0 : Int), .int .i64 (0 : Int), .int .i64 (0 : Int), strV ([]), .bool false]]) 1 kk9 rfl rfl rfl (Cel.plain rfl rfl) rfl rfl rfl rfl) rfl rfl (fun _ => ?_)
  refine TO.nil ?_
  refine TE.next ?_
  refine TW.seq ?_
  refine TW.seq ?_
  refine TW.region ?_
  refine TO.y (Y.field_box kf81_2 rfl rfl) rfl rfl rfl ?_
  refine TO.y (Y.load_box (v := .bool R16.2.bad) 0 kk4 rfl rfl rfl) rfl rfl rfl ?_
  refine TO.nil ?_
  refine TE.next ?_
  refine TW.cond rfl (fun H19 => ?_) (fun H19 => ?_)
  · refine TW.seq ?_
    refine TW.region ?_
    refine TO.y (Y.build (cells := [.int .i64 (0 : Int), .int .i64 (0 : Int), .int .i64 (0 : Int), strV ([]), .bool false]) [] kp31 kz31 trivial rfl) rfl rfl rfl ?_
    refine TO.ef0 (Ef.store_box (us := [.int .i64 (0 : Int), .int .i64 (0 : Int), .int .i64 (0 : Int), strV ([]), .bool false]) (vs' := [.int .i64 (0 : Int), .int .i64 (0 : Int), .int .i64 (0 : Int), strV ([]), .bool false]) (is' := [.box B2 81 [strV R16.2.text, .int .i64 R16.2.at_, .bool R16.2.bad], .box B9 31 [.int .i64 R6.1, .int .i64 R10.1, .int .i64 R13.1, strV R16.1, .bool false], .box B1 31 [.int .i64 (0 : Int), .int .i64 (0 : Int), .int .i64 (0 : Int), strV ([]), .bool false]]) 2 kk31 rfl rfl rfl (Cel.plain rfl rfl) rfl rfl rfl rfl) rfl rfl (fun _ => ?_)
    refine TO.y (Y.assign rfl) rfl rfl rfl ?_
    refine TO.y (Y.assign rfl) rfl rfl rfl ?_
    refine TO.nil ?_
    refine TE.next ?_
    refine TW.ret ?_
    refine TE.then_ret ?_
    exact TE.leaf fun _ _ hf_ hs_ => ret_any (rs := [.cell 2 31, .tmp 3, .tmp 4]) (vs := [.agg #[.int .i64 (0 : Int), .int .i64 (0 : Int), .int .i64 (0 : Int), strV ([]), .bool false], .int .i64 (0 : Int), .bool false]) (.inl rfl) rfl (RV.cell 2 rfl rfl kk31 rfl ⟨rfl, ⟨rfl, trivial⟩⟩) hf_ hs_ ⟨(), rfl, hs_.pulls [] rfl⟩
  · refine TW.skip ?_
    refine TE.next ?_
    refine TW.seq ?_
    refine TW.seq ?_
    refine TW.region ?_
    refine TO.y (Y.load_box (v := .agg #[.int .i64 R6.1, .int .i64 R10.1, .int .i64 R13.1, strV R16.1, .bool false]) 1 kk31 rfl rfl rfl) rfl rfl rfl ?_
    refine TO.bind fun R20 H21 => ?_
    refine TO.ef (Ef.call (rest := [.box B2 81 [strV R16.2.text, .int .i64 R16.2.at_, .bool R16.2.bad], .box B9 31 [.int .i64 R6.1, .int .i64 R10.1, .int .i64 R13.1, strV R16.1, .bool false], .box B1 31 [.int .i64 (0 : Int), .int .i64 (0 : Int), .int .i64 (0 : Int), strV ([]), .bool false]]) [0, 0, 0] (impl_ShowRow_con ({ Tenant := R6.1, Boot := R10.1, Seq := R13.1, Text := R16.1, Synced := false : LogRow })  R20 H21) kc11 rfl rfl trivial) rfl rfl rfl (fun _ => ?_)
    refine TO.y (Y.assign rfl) rfl rfl rfl ?_
    refine TO.nil ?_
    refine TE.next ?_
    refine TW.seq ?_
    refine TW.joinBX (τ := Bool) (X := Unit) (fun T _ => [(2, .pointer (some ⟨B1, 0, none⟩)), (5, .pointer (some ⟨B2, 0, none⟩)), (6, .pointer (some ⟨B9, 0, none⟩)), (33, .bool T)]) (fun _ _ => [.box B1 31 [.int .i64 (0 : Int), .int .i64 (0 : Int), .int .i64 (0 : Int), strV ([]), .bool false], .box B2 81 [strV R16.2.text, .int .i64 R16.2.at_, .bool R16.2.bad], .box B9 31 [.int .i64 R6.1, .int .i64 R10.1, .int .i64 R13.1, strV R16.1, .bool false]]) ?_ (fun T23 X24 => ?_)
    · refine TW.region ?_
      refine TO.y (Y.move rfl) rfl rfl rfl ?_
      refine TO.y (Y.seql rfl rfl) rfl rfl rfl ?_
      refine TO.y (Y.move rfl) rfl rfl rfl ?_
      refine TO.ite (b := decide (R20 = ([]))) (fun H25 => ?_) (fun H25 => ?_)
      · refine TO.off (Gd.at 2 false 26 (decide (R20 = ([]))) rfl rfl rfl (beq_tf H25)) rfl rfl ?_
        refine TO.off (Gd.at 2 false 26 (decide (R20 = ([]))) rfl rfl rfl (beq_tf H25)) rfl rfl ?_
        refine TO.off (Gd.at 2 false 26 (decide (R20 = ([]))) rfl rfl rfl (beq_tf H25)) rfl rfl ?_
        refine TO.off (Gd.at 2 false 26 (decide (R20 = ([]))) rfl rfl rfl (beq_tf H25)) rfl rfl ?_
        refine TO.off (Gd.at 2 false 26 (decide (R20 = ([]))) rfl rfl rfl (beq_tf H25)) rfl rfl ?_
        refine TO.off (Gd.at 2 false 26 (decide (R20 = ([]))) rfl rfl rfl (beq_tf H25)) rfl rfl ?_
        refine TO.y (Y.pick_t H25 rfl rfl) rfl rfl rfl ?_
        refine TO.nil ?_
        exact TE.jb_go () [2, 0, 0] ⟨rfl, rfl, rfl, rfl, trivial⟩ rfl
      · refine TO.y (Y.move rfl) (Gd.at 2 false 26 (decide (R20 = ([]))) rfl rfl rfl (beq_ff H25)) rfl rfl ?_
        refine TO.y (Y.move rfl) (Gd.at 2 false 26 (decide (R20 = ([]))) rfl rfl rfl (beq_ff H25)) rfl rfl ?_
        refine TO.y (Y.field_box kf81_1 rfl rfl) (Gd.at 2 false 26 (decide (R20 = ([]))) rfl rfl rfl (beq_ff H25)) rfl rfl ?_
        refine TO.y (Y.load_box (v := .int .i64 R16.2.at_) 0 kk3 rfl rfl rfl) (Gd.at 2 false 26 (decide (R20 = ([]))) rfl rfl rfl (beq_ff H25)) rfl rfl ?_
        refine TO.bind fun E26 H27 => ?_
        refine TO.y (Y.ssub_to H27 ks9 rfl rfl) (Gd.at 2 false 26 (decide (R20 = ([]))) rfl rfl rfl (beq_ff H25)) rfl rfl ?_
        refine TO.y (Y.sneq rfl rfl) (Gd.at 2 false 26 (decide (R20 = ([]))) rfl rfl rfl (beq_ff H25)) rfl rfl ?_
        refine TO.y (Y.pick_f H25 rfl rfl) rfl rfl rfl ?_
        refine TO.nil ?_
        exact TE.jb_go () [2, 0, 0] ⟨rfl, rfl, rfl, rfl, trivial⟩ rfl
    · refine TE.next ?_
      refine TW.cond rfl (fun H28 => ?_) (fun H28 => ?_)
      · refine TW.seq ?_
        refine TW.region ?_
        refine TO.y (Y.build (cells := [.int .i64 (0 : Int), .int .i64 (0 : Int), .int .i64 (0 : Int), strV ([]), .bool false]) [] kp31 kz31 trivial rfl) rfl rfl rfl ?_
        refine TO.ef0 (Ef.store_box (us := [.int .i64 (0 : Int), .int .i64 (0 : Int), .int .i64 (0 : Int), strV ([]), .bool false]) (vs' := [.int .i64 (0 : Int), .int .i64 (0 : Int), .int .i64 (0 : Int), strV ([]), .bool false]) (is' := [.box B1 31 [.int .i64 (0 : Int), .int .i64 (0 : Int), .int .i64 (0 : Int), strV ([]), .bool false], .box B2 81 [strV R16.2.text, .int .i64 R16.2.at_, .bool R16.2.bad], .box B9 31 [.int .i64 R6.1, .int .i64 R10.1, .int .i64 R13.1, strV R16.1, .bool false]]) 0 kk31 rfl rfl rfl (Cel.plain rfl rfl) rfl rfl rfl rfl) rfl rfl (fun _ => ?_)
        refine TO.y (Y.assign rfl) rfl rfl rfl ?_
        refine TO.y (Y.assign rfl) rfl rfl rfl ?_
        refine TO.nil ?_
        refine TE.next ?_
        refine TW.ret ?_
        refine TE.then_ret ?_
        exact TE.leaf fun _ _ hf_ hs_ => ret_any (rs := [.cell 2 31, .tmp 3, .tmp 4]) (vs := [.agg #[.int .i64 (0 : Int), .int .i64 (0 : Int), .int .i64 (0 : Int), strV ([]), .bool false], .int .i64 (0 : Int), .bool false]) (.inl rfl) rfl (RV.cell 0 rfl rfl kk31 rfl ⟨rfl, ⟨rfl, trivial⟩⟩) hf_ hs_ ⟨(), rfl, hs_.pulls [] rfl⟩
      · refine TW.skip ?_
        refine TE.next ?_
        refine TW.seq ?_
        refine TW.draw (isH := [.box B2 81 [strV R16.2.text, .int .i64 R16.2.at_, .bool R16.2.bad], .box B9 31 [.int .i64 R6.1, .int .i64 R10.1, .int .i64 R13.1, strV R16.1, .bool false]]) hMix ?_
        refine TA.y (listed' := #[true, false, false, false, false, false]) 0 [1, 1] rfl (Y.load_box (v := .agg #[.int .i64 R6.1, .int .i64 R10.1, .int .i64 R13.1, strV R16.1, .bool false]) 1 kk31 rfl rfl rfl) rfl rfl rfl (by kernel_rfl) (by kernel_rfl) (by kernel_rfl) rfl rfl ?_
        refine TA.y (listed' := #[true, true, false, false, false, false]) 1 [1, 1] rfl (Y.field_box kf81_1 rfl rfl) rfl rfl rfl (by kernel_rfl) (by kernel_rfl) (by kernel_rfl) rfl rfl ?_
        refine TA.y (listed' := #[true, true, true, false, false, false]) 2 [1, 1] rfl (Y.load_box (v := .int .i64 R16.2.at_) 0 kk3 rfl rfl rfl) rfl rfl rfl (by kernel_rfl) (by kernel_rfl) (by kernel_rfl) rfl rfl ?_
        refine TA.one 3 (by kernel_rfl) ?_
        refine TX.ef0 (listed' := #[true, true, true, true, false, false]) [1, 1] rfl (Ef.store_box (us := [.int .i64 R6.1, .int .i64 R10.1, .int .i64 R13.1, strV R16.1, .bool false]) (vs' := [.int .i64 R6.1, .int .i64 R10.1, .int .i64 R13.1, strV R16.1, .bool false]) (is' := [.box B1 31 [.int .i64 R6.1, .int .i64 R10.1, .int .i64 R13.1, strV R16.1, .bool false], .box B2 81 [strV R16.2.text, .int .i64 R16.2.at_, .bool R16.2.bad], .box B9 31 [.int .i64 R6.1, .int .i64 R10.1, .int .i64 R13.1, strV R16.1, .bool false]]) 0 kk31 rfl rfl rfl (Cel.plain rfl rfl) rfl rfl rfl rfl) rfl rfl rfl (fun _ => rfl) (fun _ => ?_)
        refine TA.y (listed' := #[true, true, true, true, true, false]) 4 [1, 1] rfl (Y.assign rfl) rfl rfl rfl (by kernel_rfl) (by kernel_rfl) (by kernel_rfl) rfl rfl ?_
        refine TA.y (listed' := #[true, true, true, true, true, true]) 5 [1, 1] rfl (Y.assign rfl) rfl rfl rfl (by kernel_rfl) (by kernel_rfl) (by kernel_rfl) rfl rfl ?_
        refine TA.nil (by kernel_rfl) ?_
        refine TE.next ?_
        refine TW.ret ?_
        exact TE.leaf fun _ _ hf_ hs_ => ret_any (rs := [.cell 2 31, .tmp 3, .tmp 4]) (vs := [.agg #[.int .i64 R6.1, .int .i64 R10.1, .int .i64 R13.1, strV R16.1, .bool false], .int .i64 R16.2.at_, .bool true]) (.inl rfl) rfl (RV.cell 0 rfl rfl kk31 rfl ⟨rfl, ⟨rfl, trivial⟩⟩) hf_ hs_ ⟨(), rfl, hs_.pulls [] rfl⟩

/-- loop.example/g00950/impl.ScanRows -/
noncomputable def impl_ScanRows (s : List UInt8) : Option (List LogRow × Int) :=
  bindC (loopO (fun (S1 : Int × List LogRow) => (ssub s S1.1 (s.length : Int)).bind fun E5 =>
  (impl_rowAt E5).bind fun R7 =>
  if (!R7.2.2) = true then (some (.done (.done (S1.2, S1.1))))
  else ((app 48 S1.2 ([R7.1])).bind fun E14 =>
  some (.go (IntKind.i64.wrap (S1.1 + R7.2.1), E14))))
  ((0 : Int), ([] : List LogRow)))
  (fun (T3 : Unit) => none)

theorem impl_ScanRows_con (s : List UInt8)  (r : List LogRow × Int) (hm : impl_ScanRows s = some r) :
    Con Try.prog 8 [strV s] [] [] (fun X : Value => .tuple #[X, .int .i64 r.2]) (fun X => [.own X (lc r.1)]) := by
  refine Con.intro (args := [strV s]) (n := 28) (val := fun r (X : Value) => .tuple #[X, .int .i64 r.2]) (post := fun r X => [.own X (lc r.1)]) (m := impl_ScanRows s) Try.func8 rfl rfl rfl hm ?_
  intro w S _
  unfold impl_ScanRows
  refine TW.seq ?_
  refine TW.region ?_
  refine TO.y (Y.assign rfl) rfl rfl rfl ?_
  refine TO.y (Y.assign rfl) rfl rfl rfl ?_
  refine TO.nil ?_
  refine TE.next ?_
  refine TW.seq ?_
  refine TW.region ?_
  refine TO.y (Y.assign rfl) rfl rfl rfl ?_
  refine TO.nil ?_
  refine TE.next ?_
  refine TW.seq ?_
  refine TW.region ?_
  refine TO.y (Y.assign rfl) rfl rfl rfl ?_
  refine TO.nil ?_
  refine TE.next ?_
  refine TW.joinX (τ := Unit) (X := Unit) (fun _ _ => []) (fun _ _ => []) ?_ (fun T3 X4 => ?_)
  · refine TW.block ?_
    refine TW.nilItem 5 ?_
    refine TW.loopX (σ := Int × List LogRow) (X := Value) (fun T X => [(0, strV s), (4, X), (5, .int .i64 T.1)]) (fun T X => [.own X (lc T.2)]) (.slice none 0 0) [0] ⟨rfl, rfl, rfl, trivial⟩ rfl (fun S1 X2 => ?_)
    refine TW.block ?_
    refine TW.seq ?_
    refine TW.region ?_
    refine TO.y (Y.move rfl) rfl rfl rfl ?_
    refine TO.y (Y.move rfl) rfl rfl rfl ?_
    refine TO.bind fun E5 H6 => ?_
    refine TO.y (Y.ssub_from H6 ks9 rfl rfl) rfl rfl rfl ?_
    refine TO.bind fun R7 H8 => ?_
    refine TO.ef (Ef.call (rest := [.own X2 (lc S1.2)]) [0] (impl_rowAt_con E5  R7 H8) kc30 rfl rfl trivial) rfl rfl rfl (fun _ => ?_)
    refine TO.y (Y.move rfl) rfl rfl rfl ?_
    refine TO.y (Y.extract rfl rfl) rfl rfl rfl ?_
    refine TO.y (Y.extract rfl rfl) rfl rfl rfl ?_
    refine TO.y (Y.extract rfl rfl) rfl rfl rfl ?_
    refine TO.ef (Ef.alloc kz31 rfl) rfl rfl rfl (fun B10 => ?_)
    refine TO.ef0 (Ef.store_box (us := [.int .i64 R7.1.Tenant, .int .i64 R7.1.Boot, .int .i64 R7.1.Seq, strV R7.1.Text, .bool R7.1.Synced]) (vs' := [.int .i64 R7.1.Tenant, .int .i64 R7.1.Boot, .int .i64 R7.1.Seq, strV R7.1.Text, .bool R7.1.Synced]) (is' := [.box B10 31 [.int .i64 R7.1.Tenant, .int .i64 R7.1.Boot, .int .i64 R7.1.Seq, strV R7.1.Text, .bool R7.1.Synced], .own X2 (lc S1.2)]) 0 kk31 rfl rfl rfl (Cel.plain rfl rfl) rfl rfl rfl rfl) rfl rfl (fun _ => ?_)
    refine TO.y (Y.assign rfl) rfl rfl rfl ?_
    refine TO.y (Y.assign rfl) rfl rfl rfl ?_
    refine TO.nil ?_
    refine TE.next ?_
    refine TW.seq ?_
    refine TW.seq ?_
    refine TW.region ?_
    refine TO.y (Y.move rfl) rfl rfl rfl ?_
    refine TO.y (Y.not rfl) rfl rfl rfl ?_
    refine TO.nil ?_
    refine TE.next ?_
    refine TW.cond rfl (fun H11 => ?_) (fun H11 => ?_)
    · refine TW.seq ?_
      refine TW.region ?_
      refine TO.y (Y.move rfl) rfl rfl rfl ?_
      refine TO.y (Y.move rfl) rfl rfl rfl ?_
      refine TO.y (Y.assign rfl) rfl rfl rfl ?_
      refine TO.y (Y.assign rfl) rfl rfl rfl ?_
      refine TO.nil ?_
      refine TE.next ?_
      refine TW.ret ?_
      refine TE.then_ret ?_
      refine TE.block_ret ?_
      refine TE.lp_ret ?_
      refine TE.block_ret ?_
      refine TE.jn_done ?_
      exact TE.leaf fun _ _ hf_ hs_ => ret_any (rs := [.tmp 2, .tmp 3]) (vs := [X2, .int .i64 S1.1]) (.inl rfl) rfl ⟨rfl, ⟨rfl, trivial⟩⟩ hf_ hs_ ⟨X2, rfl, hs_.pulls [1] rfl⟩
    · refine TW.skip ?_
      refine TE.next ?_
      refine TW.seq ?_
      refine TW.region ?_
      refine TO.y (Y.move rfl) rfl rfl rfl ?_
      refine TO.y (Y.load_box (v := .agg #[.int .i64 R7.1.Tenant, .int .i64 R7.1.Boot, .int .i64 R7.1.Seq, strV R7.1.Text, .bool R7.1.Synced]) 0 kk31 rfl rfl rfl) rfl rfl rfl ?_
      refine TO.ef (Ef.buildSlice (α := LogRow) (Vs := [.agg #[.int .i64 R7.1.Tenant, .int .i64 R7.1.Boot, .int .i64 R7.1.Seq, strV R7.1.Text, .bool R7.1.Synced]]) [R7.1] ke25 kz31 rfl rfl rfl rfl rfl) rfl rfl rfl (fun B12 => ?_)
      refine TO.bind fun E14 H15 => ?_
      refine TO.ef (Ef.append (α := LogRow) (is' := [.own (.slice (some ⟨B12, 0, none⟩) 1 1) (lc ([R7.1])), .box B10 31 [.int .i64 R7.1.Tenant, .int .i64 R7.1.Boot, .int .i64 R7.1.Seq, strV R7.1.Text, .bool R7.1.Synced]]) [2, 0, 0] H15 ke25 kz31 rfl rfl rfl rfl rfl (Can.own 0 rfl)) rfl rfl rfl (fun V13 => ?_)
      refine TO.y (Y.assign rfl) rfl rfl rfl ?_
      refine TO.nil ?_
      refine TE.next ?_
      refine TW.region ?_
      refine TO.y (Y.move rfl) rfl rfl rfl ?_
      refine TO.y (Y.move rfl) rfl rfl rfl ?_
      refine TO.y (Y.add rfl rfl) rfl rfl rfl ?_
      refine TO.y (Y.assign rfl) rfl rfl rfl ?_
      refine TO.nil ?_
      refine TE.block_normal ?_
      exact TE.lp_go V13 [0] ⟨rfl, rfl, rfl, trivial⟩ rfl
  · exact fun _ h_ => by cases h_

/-- loop.example/g00950/spec.ReadVar -/
noncomputable def spec_ReadVar (s : List UInt8) : Option (Int × Int) :=
  bindC (loopO (fun (S1 : Int) => (if (decide (S1 ≤ (7 : Int))) = true then (some (decide (S1 ≤ ((s.length : Nat) : Int))))
  else (some false)).bind (fun (T5 : Bool) =>
  if T5 = true then (bindC (loopO (fun (S9 : Int × Int) => if (decide (S9.2 ≥ (0 : Int))) = true then ((sidx s S9.2).bind fun E14 =>
  some (.go (IntKind.i64.wrap (IntKind.i64.wrap (S9.1 * (128 : Int)) + (Int.tmod (IntKind.i64.wrap ((E14.toNat : Nat) : Int)) (128 : Int))), IntKind.i64.wrap (S9.2 - (1 : Int)))))
  else (some (.done (.go S9.1))))
  ((0 : Int), IntKind.i64.wrap (S1 - (1 : Int))))
  (fun (T11 : Int) => (ssub s 0 S1).bind fun E16 =>
  (spec_Var T11).bind fun R18 =>
  if (decide (R18 = E16)) = true then (some (.done (.done (T11, S1))))
  else (some (.go (IntKind.i64.wrap (S1 + (1 : Int)))))))
  else (some (.done (.go ())))))
  (1 : Int))
  (fun (T3 : Unit) => some ((0 : Int), (0 : Int)))

theorem spec_ReadVar_con (s : List UInt8)  (r : Int × Int) (hm : spec_ReadVar s = some r) :
    Con Try.prog 66 [strV s] [] [] (fun _ : Unit => .tuple #[.int .i64 r.1, .int .i64 r.2]) (fun _ => []) := by
  refine Con.intro (args := [strV s]) (n := 39) (val := fun r (_ : Unit) => .tuple #[.int .i64 r.1, .int .i64 r.2]) (post := fun _ _ => []) (m := spec_ReadVar s) Try.func66 rfl rfl rfl hm ?_
  intro w S _
  unfold spec_ReadVar
  refine TW.seq ?_
  refine TW.region ?_
  refine TO.y (Y.assign rfl) rfl rfl rfl ?_
  refine TO.y (Y.assign rfl) rfl rfl rfl ?_
  refine TO.nil ?_
  refine TE.next ?_
  refine TW.seq ?_
  refine TW.seq ?_
  refine TW.region ?_
  refine TO.y (Y.assign rfl) rfl rfl rfl ?_
  refine TO.nil ?_
  refine TE.next ?_
  refine TW.joinX (τ := Unit) (X := Unit) (fun _ _ => []) (fun _ _ => []) ?_ (fun T3 X4 => ?_)
  · refine TW.block ?_
    refine TW.loopX (σ := Int) (X := Unit) (fun T _ => [(0, strV s), (4, .int .i64 T)]) (fun _ _ => []) () [] ⟨rfl, rfl, trivial⟩ rfl (fun S1 X2 => ?_)
    refine TW.seq ?_
    refine TW.seq ?_
    refine TW.joinBX (τ := Bool) (X := Unit) (fun T _ => [(0, strV s), (4, .int .i64 S1), (14, .bool T)]) (fun _ _ => []) ?_ (fun T5 X6 => ?_)
    · refine TW.region ?_
      refine TO.y (Y.move rfl) rfl rfl rfl ?_
      refine TO.y (Y.leq rfl rfl) rfl rfl rfl ?_
      refine TO.y (Y.move rfl) rfl rfl rfl ?_
      refine TO.ite (b := decide (S1 ≤ (7 : Int))) (fun H7 => ?_) (fun H7 => ?_)
      · refine TO.y (Y.move rfl) (Gd.at 2 true 9 (decide (S1 ≤ (7 : Int))) rfl rfl rfl (beq_tt H7)) rfl rfl ?_
        refine TO.y (Y.move rfl) (Gd.at 2 true 9 (decide (S1 ≤ (7 : Int))) rfl rfl rfl (beq_tt H7)) rfl rfl ?_
        refine TO.y (Y.slen ks9 rfl) (Gd.at 2 true 9 (decide (S1 ≤ (7 : Int))) rfl rfl rfl (beq_tt H7)) rfl rfl ?_
        refine TO.y (Y.leq rfl rfl) (Gd.at 2 true 9 (decide (S1 ≤ (7 : Int))) rfl rfl rfl (beq_tt H7)) rfl rfl ?_
        refine TO.y (Y.pick_t H7 rfl rfl) rfl rfl rfl ?_
        refine TO.nil ?_
        exact TE.jb_go () [] ⟨rfl, rfl, rfl, trivial⟩ rfl
      · refine TO.off (Gd.at 2 true 9 (decide (S1 ≤ (7 : Int))) rfl rfl rfl (beq_ft H7)) rfl rfl ?_
        refine TO.off (Gd.at 2 true 9 (decide (S1 ≤ (7 : Int))) rfl rfl rfl (beq_ft H7)) rfl rfl ?_
        refine TO.off (Gd.at 2 true 9 (decide (S1 ≤ (7 : Int))) rfl rfl rfl (beq_ft H7)) rfl rfl ?_
        refine TO.off (Gd.at 2 true 9 (decide (S1 ≤ (7 : Int))) rfl rfl rfl (beq_ft H7)) rfl rfl ?_
        refine TO.y (Y.pick_f H7 rfl rfl) rfl rfl rfl ?_
        refine TO.nil ?_
        exact TE.jb_go () [] ⟨rfl, rfl, rfl, trivial⟩ rfl
    · refine TE.next ?_
      refine TW.cond rfl (fun H8 => ?_) (fun H8 => ?_)
      · refine TW.skip ?_
        refine TE.next ?_
        refine TW.seq ?_
        refine TW.block ?_
        refine TW.seq ?_
        refine TW.region ?_
        refine TO.y (Y.assign rfl) rfl rfl rfl ?_
        refine TO.nil ?_
        refine TE.next ?_
        refine TW.seq ?_
        refine TW.seq ?_
        refine TW.region ?_
        refine TO.y (Y.move rfl) rfl rfl rfl ?_
        refine TO.y (Y.sub rfl rfl) rfl rfl rfl ?_
        refine TO.y (Y.assign rfl) rfl rfl rfl ?_
        refine TO.nil ?_
        refine TE.next ?_
        refine TW.joinX (τ := Int) (X := Unit) (fun T _ => [(0, strV s), (4, .int .i64 S1), (5, .int .i64 T)]) (fun _ _ => []) ?_ (fun T11 X12 => ?_)
        · refine TW.block ?_
          refine TW.loopX (σ := Int × Int) (X := Unit) (fun T _ => [(0, strV s), (4, .int .i64 S1), (5, .int .i64 T.1), (6, .int .i64 T.2)]) (fun _ _ => []) () [] ⟨rfl, rfl, rfl, rfl, trivial⟩ rfl (fun S9 X10 => ?_)
          refine TW.seq ?_
          refine TW.seq ?_
          refine TW.region ?_
          refine TO.y (Y.move rfl) rfl rfl rfl ?_
          refine TO.y (Y.geq rfl rfl) rfl rfl rfl ?_
          refine TO.nil ?_
          refine TE.next ?_
          refine TW.cond rfl (fun H13 => ?_) (fun H13 => ?_)
          · refine TW.skip ?_
            refine TE.next ?_
            refine TW.seq ?_
            refine TW.block ?_
            refine TW.region ?_
            refine TO.y (Y.move rfl) rfl rfl rfl ?_
            refine TO.y (Y.mul rfl rfl) rfl rfl rfl ?_
            refine TO.y (Y.move rfl) rfl rfl rfl ?_
            refine TO.y (Y.move rfl) rfl rfl rfl ?_
            refine TO.bind fun E14 H15 => ?_
            refine TO.y (Y.sidx H15 ks9 rfl rfl) rfl rfl rfl ?_
            refine TO.y (Y.conv ki5 ki3 rfl) rfl rfl rfl ?_
            refine TO.y (Y.rem (by decide) rfl rfl) rfl rfl rfl ?_
            refine TO.y (Y.add rfl rfl) rfl rfl rfl ?_
            refine TO.y (Y.assign rfl) rfl rfl rfl ?_
            refine TO.nil ?_
            refine TE.block_normal ?_
            refine TE.next ?_
            refine TW.region ?_
            refine TO.y (Y.move rfl) rfl rfl rfl ?_
            refine TO.y (Y.sub rfl rfl) rfl rfl rfl ?_
            refine TO.y (Y.assign rfl) rfl rfl rfl ?_
            refine TO.nil ?_
            exact TE.lp_go () [] ⟨rfl, rfl, rfl, rfl, trivial⟩ rfl
          · refine TW.exit ?_
            refine TE.then_exit ?_
            refine TE.lp_exit ?_
            refine TE.block_exit ?_
            exact TE.jn_go () [] ⟨rfl, rfl, rfl, trivial⟩ rfl
        · refine TE.next ?_
          refine TW.seq ?_
          refine TW.draw (isH := []) hMix ?_
          refine TA.y (listed' := #[true, false, false, false, false, false]) 0 [] rfl (Y.move rfl) rfl rfl rfl (by kernel_rfl) (by kernel_rfl) (by kernel_rfl) rfl rfl ?_
          refine TA.y (listed' := #[true, false, true, false, false, false]) 2 [] rfl (Y.move rfl) rfl rfl rfl (by kernel_rfl) (by kernel_rfl) (by kernel_rfl) rfl rfl ?_
          refine TA.y (listed' := #[true, false, true, true, false, false]) 3 [] rfl (Y.move rfl) rfl rfl rfl (by kernel_rfl) (by kernel_rfl) (by kernel_rfl) rfl rfl ?_
          refine TA.bind fun E16 H17 => ?_
          refine TA.y (listed' := #[true, false, true, true, true, false]) 4 [] rfl (Y.ssub_to H17 ks9 rfl rfl) rfl rfl rfl (by kernel_rfl) (by kernel_rfl) (by kernel_rfl) rfl rfl ?_
          refine TA.bind fun R18 H19 => ?_
          refine TA.one 1 (by kernel_rfl) ?_
          refine TX.ef (listed' := #[true, true, true, true, true, false]) [] rfl (Ef.call (rest := []) [] (spec_Var_con T11  R18 H19) kc56 rfl rfl trivial) rfl rfl rfl rfl (fun _ => rfl) (fun _ => ?_)
          refine TA.y (listed' := #[true, true, true, true, true, true]) 5 [] rfl (Y.seql rfl rfl) rfl rfl rfl (by kernel_rfl) (by kernel_rfl) (by kernel_rfl) rfl rfl ?_
          refine TA.nil (by kernel_rfl) ?_
          refine TE.next ?_
          refine TW.cond rfl (fun H21 => ?_) (fun H21 => ?_)
          · refine TW.seq ?_
            refine TW.region ?_
            refine TO.y (Y.move rfl) rfl rfl rfl ?_
            refine TO.y (Y.move rfl) rfl rfl rfl ?_
            refine TO.y (Y.assign rfl) rfl rfl rfl ?_
            refine TO.y (Y.assign rfl) rfl rfl rfl ?_
            refine TO.nil ?_
            refine TE.next ?_
            refine TW.ret ?_
            refine TE.block_ret ?_
            refine TE.then_ret ?_
            refine TE.lp_ret ?_
            refine TE.block_ret ?_
            refine TE.jn_done ?_
            refine TE.then_ret ?_
            exact TE.leaf fun _ _ hf_ hs_ => ret_any (rs := [.tmp 2, .tmp 3]) (vs := [.int .i64 T11, .int .i64 S1]) (.inl rfl) rfl ⟨rfl, ⟨rfl, trivial⟩⟩ hf_ hs_ ⟨(), rfl, hs_.pulls [] rfl⟩
          · refine TW.skip ?_
            refine TE.block_normal ?_
            refine TE.next ?_
            refine TW.region ?_
            refine TO.y (Y.move rfl) rfl rfl rfl ?_
            refine TO.y (Y.add rfl rfl) rfl rfl rfl ?_
            refine TO.y (Y.assign rfl) rfl rfl rfl ?_
            refine TO.nil ?_
            exact TE.lp_go () [] ⟨rfl, rfl, trivial⟩ rfl
      · refine TW.exit ?_
        refine TE.then_exit ?_
        refine TE.lp_exit ?_
        refine TE.block_exit ?_
        exact TE.jn_go () [] trivial rfl
  · refine TE.next ?_
    refine TW.seq ?_
    refine TW.region ?_
    refine TO.y (Y.assign rfl) rfl rfl rfl ?_
    refine TO.y (Y.assign rfl) rfl rfl rfl ?_
    refine TO.nil ?_
    refine TE.next ?_
    refine TW.ret ?_
    exact TE.leaf fun _ _ hf_ hs_ => ret_any (rs := [.tmp 2, .tmp 3]) (vs := [.int .i64 (0 : Int), .int .i64 (0 : Int)]) (.inl rfl) rfl ⟨rfl, ⟨rfl, trivial⟩⟩ hf_ hs_ ⟨(), rfl, hs_.pulls [] rfl⟩

/-- loop.example/g00950/spec.l6Vars -/
noncomputable def spec_l6Vars (s : List UInt8) (at_ : Int) (n : Int) : Option (List Int × Int) :=
  bindC (loopO (fun (S2 : Int × Int × List Int) => if (decide (S2.2.1 < n)) = true then ((if (decide (S2.1 < (0 : Int))) = true then (some true)
  else (some (decide (S2.1 > ((s.length : Nat) : Int))))).bind (fun (T7 : Bool) =>
  if T7 = true then (some (.done (.done (S2.2.2, (-1 : Int)))))
  else ((ssub s S2.1 (s.length : Int)).bind fun E11 =>
  (spec_ReadVar E11).bind fun R13 =>
  if (decide (R13.2 = (0 : Int))) = true then (some (.done (.done (S2.2.2, (-1 : Int)))))
  else ((app 8 S2.2.2 ([R13.1])).bind fun E19 =>
  some (.go (IntKind.i64.wrap (S2.1 + R13.2), IntKind.i64.wrap (S2.2.1 + (1 : Int)), E19))))))
  else (some (.done (.go (S2.1, S2.2.2)))))
  (at_, (0 : Int), ([] : List Int)))
  (fun (T4 : Int × List Int) => some (T4.2, T4.1))

theorem spec_l6Vars_con (s : List UInt8) (at_ : Int) (n : Int)  (r : List Int × Int) (hm : spec_l6Vars s at_ n = some r) :
    Con Try.prog 31 [strV s, .int .i64 at_, .int .i64 n] [] [] (fun X : Value => .tuple #[X, .int .i64 r.2]) (fun X => [.own X (lc r.1)]) := by
  refine Con.intro (args := [strV s, .int .i64 at_, .int .i64 n]) (n := 46) (val := fun r (X : Value) => .tuple #[X, .int .i64 r.2]) (post := fun r X => [.own X (lc r.1)]) (m := spec_l6Vars s at_ n) Try.func31 rfl rfl rfl hm ?_
  intro w S _
  unfold spec_l6Vars
  refine TW.seq ?_
  refine TW.region ?_
  refine TO.y (Y.assign rfl) rfl rfl rfl ?_
  refine TO.y (Y.assign rfl) rfl rfl rfl ?_
  refine TO.nil ?_
  refine TE.next ?_
  refine TW.seq ?_
  refine TW.region ?_
  refine TO.ef (Ef.buildSlice (α := Int) (Vs := []) ([] : List Int) ke55 kz3 rfl rfl rfl rfl rfl) rfl rfl rfl (fun B1 => ?_)
  refine TO.y (Y.assign rfl) rfl rfl rfl ?_
  refine TO.nil ?_
  refine TE.next ?_
  refine TW.seq ?_
  refine TW.seq ?_
  refine TW.region ?_
  refine TO.y (Y.assign rfl) rfl rfl rfl ?_
  refine TO.nil ?_
  refine TE.next ?_
  refine TW.joinX (τ := Int × List Int) (X := Value) (fun T X => [(1, .int .i64 T.1), (8, X)]) (fun T X => [.own X (lc T.2)]) ?_ (fun T4 X5 => ?_)
  · refine TW.block ?_
    refine TW.loopX (σ := Int × Int × List Int) (X := Value) (fun T X => [(0, strV s), (1, .int .i64 T.1), (2, .int .i64 n), (8, X), (9, .int .i64 T.2.1)]) (fun T X => [.own X (lc T.2.2)]) (.slice (some ⟨B1, 0, none⟩) 0 0) [0] ⟨rfl, rfl, rfl, rfl, rfl, trivial⟩ rfl (fun S2 X3 => ?_)
    refine TW.seq ?_
    refine TW.seq ?_
    refine TW.region ?_
    refine TO.y (Y.move rfl) rfl rfl rfl ?_
    refine TO.y (Y.move rfl) rfl rfl rfl ?_
    refine TO.y (Y.lss rfl rfl) rfl rfl rfl ?_
    refine TO.nil ?_
    refine TE.next ?_
    refine TW.cond rfl (fun H6 => ?_) (fun H6 => ?_)
    · refine TW.skip ?_
      refine TE.next ?_
      refine TW.seq ?_
      refine TW.block ?_
      refine TW.seq ?_
      refine TW.seq ?_
      refine TW.joinBX (τ := Bool) (X := Unit) (fun T _ => [(0, strV s), (1, .int .i64 S2.1), (2, .int .i64 n), (8, X3), (9, .int .i64 S2.2.1), (25, .bool T)]) (fun _ _ => [.own X3 (lc S2.2.2)]) ?_ (fun T7 X8 => ?_)
      · refine TW.region ?_
        refine TO.y (Y.move rfl) rfl rfl rfl ?_
        refine TO.y (Y.lss rfl rfl) rfl rfl rfl ?_
        refine TO.y (Y.move rfl) rfl rfl rfl ?_
        refine TO.ite (b := decide (S2.1 < (0 : Int))) (fun H9 => ?_) (fun H9 => ?_)
        · refine TO.off (Gd.at 2 false 20 (decide (S2.1 < (0 : Int))) rfl rfl rfl (beq_tf H9)) rfl rfl ?_
          refine TO.off (Gd.at 2 false 20 (decide (S2.1 < (0 : Int))) rfl rfl rfl (beq_tf H9)) rfl rfl ?_
          refine TO.off (Gd.at 2 false 20 (decide (S2.1 < (0 : Int))) rfl rfl rfl (beq_tf H9)) rfl rfl ?_
          refine TO.off (Gd.at 2 false 20 (decide (S2.1 < (0 : Int))) rfl rfl rfl (beq_tf H9)) rfl rfl ?_
          refine TO.y (Y.pick_t H9 rfl rfl) rfl rfl rfl ?_
          refine TO.nil ?_
          exact TE.jb_go () [0] ⟨rfl, rfl, rfl, rfl, rfl, rfl, trivial⟩ rfl
        · refine TO.y (Y.move rfl) (Gd.at 2 false 20 (decide (S2.1 < (0 : Int))) rfl rfl rfl (beq_ff H9)) rfl rfl ?_
          refine TO.y (Y.move rfl) (Gd.at 2 false 20 (decide (S2.1 < (0 : Int))) rfl rfl rfl (beq_ff H9)) rfl rfl ?_
          refine TO.y (Y.slen ks9 rfl) (Gd.at 2 false 20 (decide (S2.1 < (0 : Int))) rfl rfl rfl (beq_ff H9)) rfl rfl ?_
          refine TO.y (Y.gtr rfl rfl) (Gd.at 2 false 20 (decide (S2.1 < (0 : Int))) rfl rfl rfl (beq_ff H9)) rfl rfl ?_
          refine TO.y (Y.pick_f H9 rfl rfl) rfl rfl rfl ?_
          refine TO.nil ?_
          exact TE.jb_go () [0] ⟨rfl, rfl, rfl, rfl, rfl, rfl, trivial⟩ rfl
      · refine TE.next ?_
        refine TW.cond rfl (fun H10 => ?_) (fun H10 => ?_)
        · refine TW.seq ?_
          refine TW.region ?_
          refine TO.y (Y.move rfl) rfl rfl rfl ?_
          refine TO.y (Y.assign rfl) rfl rfl rfl ?_
          refine TO.y (Y.assign rfl) rfl rfl rfl ?_
          refine TO.nil ?_
          refine TE.next ?_
          refine TW.ret ?_
          refine TE.then_ret ?_
          refine TE.block_ret ?_
          refine TE.then_ret ?_
          refine TE.lp_ret ?_
          refine TE.block_ret ?_
          refine TE.jn_done ?_
          refine TE.then_ret ?_
          exact TE.leaf fun _ _ hf_ hs_ => ret_any (rs := [.tmp 6, .tmp 7]) (vs := [X3, .int .i64 (-1 : Int)]) (.inl rfl) rfl ⟨rfl, ⟨rfl, trivial⟩⟩ hf_ hs_ ⟨X3, rfl, hs_.pulls [0] rfl⟩
        · refine TW.skip ?_
          refine TE.next ?_
          refine TW.seq ?_
          refine TW.region ?_
          refine TO.y (Y.move rfl) rfl rfl rfl ?_
          refine TO.y (Y.move rfl) rfl rfl rfl ?_
          refine TO.bind fun E11 H12 => ?_
          refine TO.y (Y.ssub_from H12 ks9 rfl rfl) rfl rfl rfl ?_
          refine TO.bind fun R13 H14 => ?_
          refine TO.ef (Ef.call (rest := [.own X3 (lc S2.2.2)]) [0] (spec_ReadVar_con E11  R13 H14) kc66 rfl rfl trivial) rfl rfl rfl (fun _ => ?_)
          refine TO.y (Y.move rfl) rfl rfl rfl ?_
          refine TO.y (Y.extract rfl rfl) rfl rfl rfl ?_
          refine TO.y (Y.extract rfl rfl) rfl rfl rfl ?_
          refine TO.y (Y.assign rfl) rfl rfl rfl ?_
          refine TO.y (Y.assign rfl) rfl rfl rfl ?_
          refine TO.nil ?_
          refine TE.next ?_
          refine TW.seq ?_
          refine TW.seq ?_
          refine TW.region ?_
          refine TO.y (Y.move rfl) rfl rfl rfl ?_
          refine TO.y (Y.eql rfl rfl) rfl rfl rfl ?_
          refine TO.nil ?_
          refine TE.next ?_
          refine TW.cond rfl (fun H16 => ?_) (fun H16 => ?_)
          · refine TW.seq ?_
            refine TW.region ?_
            refine TO.y (Y.move rfl) rfl rfl rfl ?_
            refine TO.y (Y.assign rfl) rfl rfl rfl ?_
            refine TO.y (Y.assign rfl) rfl rfl rfl ?_
            refine TO.nil ?_
            refine TE.next ?_
            refine TW.ret ?_
            refine TE.then_ret ?_
            refine TE.block_ret ?_
            refine TE.then_ret ?_
            refine TE.lp_ret ?_
            refine TE.block_ret ?_
            refine TE.jn_done ?_
            refine TE.then_ret ?_
            exact TE.leaf fun _ _ hf_ hs_ => ret_any (rs := [.tmp 6, .tmp 7]) (vs := [X3, .int .i64 (-1 : Int)]) (.inl rfl) rfl ⟨rfl, ⟨rfl, trivial⟩⟩ hf_ hs_ ⟨X3, rfl, hs_.pulls [0] rfl⟩
          · refine TW.skip ?_
            refine TE.next ?_
            refine TW.seq ?_
            refine TW.region ?_
            refine TO.y (Y.move rfl) rfl rfl rfl ?_
            refine TO.y (Y.move rfl) rfl rfl rfl ?_
            refine TO.ef (Ef.buildSlice (α := Int) (Vs := [.int .i64 R13.1]) [R13.1] ke55 kz3 rfl rfl rfl rfl rfl) rfl rfl rfl (fun B17 => ?_)
            refine TO.bind fun E19 H20 => ?_
            refine TO.ef (Ef.append (α := Int) (is' := [.own (.slice (some ⟨B17, 0, none⟩) 1 1) (lc ([R13.1]))]) [1, 0] H20 ke55 kz3 rfl rfl rfl rfl rfl (Can.own 0 rfl)) rfl rfl rfl (fun V18 => ?_)
            refine TO.y (Y.assign rfl) rfl rfl rfl ?_
            refine TO.nil ?_
            refine TE.next ?_
            refine TW.region ?_
            refine TO.y (Y.move rfl) rfl rfl rfl ?_
            refine TO.y (Y.move rfl) rfl rfl rfl ?_
            refine TO.y (Y.add rfl rfl) rfl rfl rfl ?_
            refine TO.y (Y.assign rfl) rfl rfl rfl ?_
            refine TO.nil ?_
            refine TE.block_normal ?_
            refine TE.next ?_
            refine TW.region ?_
            refine TO.y (Y.move rfl) rfl rfl rfl ?_
            refine TO.y (Y.add rfl rfl) rfl rfl rfl ?_
            refine TO.y (Y.assign rfl) rfl rfl rfl ?_
            refine TO.nil ?_
            exact TE.lp_go V18 [0] ⟨rfl, rfl, rfl, rfl, rfl, trivial⟩ rfl
    · refine TW.exit ?_
      refine TE.then_exit ?_
      refine TE.lp_exit ?_
      refine TE.block_exit ?_
      exact TE.jn_go X3 [0] ⟨rfl, rfl, trivial⟩ rfl
  · refine TE.next ?_
    refine TW.seq ?_
    refine TW.region ?_
    refine TO.y (Y.move rfl) rfl rfl rfl ?_
    refine TO.y (Y.move rfl) rfl rfl rfl ?_
    refine TO.y (Y.assign rfl) rfl rfl rfl ?_
    refine TO.y (Y.assign rfl) rfl rfl rfl ?_
    refine TO.nil ?_
    refine TE.next ?_
    refine TW.ret ?_
    exact TE.leaf fun _ _ hf_ hs_ => ret_any (rs := [.tmp 6, .tmp 7]) (vs := [X5, .int .i64 T4.1]) (.inl rfl) rfl ⟨rfl, ⟨rfl, trivial⟩⟩ hf_ hs_ ⟨X5, rfl, hs_.pulls [0] rfl⟩

/-- loop.example/g00950/spec.l6Take -/
noncomputable def spec_l6Take (s : List UInt8) (at_ : Int) : Option (List UInt8 × Int) :=
  (spec_l6Vars s at_ (1 : Int)).bind fun R1 =>
  (if (decide (R1.2 < (0 : Int))) = true then (some true)
  else ((idx R1.1 (0 : Int)).bind fun E7 =>
  some (decide (E7 > IntKind.i64.wrap (((s.length : Nat) : Int) - R1.2))))).bind (fun (T4 : Bool) =>
  if T4 = true then (some ([], (-1 : Int)))
  else ((idx R1.1 (0 : Int)).bind fun E10 =>
  (ssub s R1.2 (IntKind.i64.wrap (R1.2 + E10))).bind fun E12 =>
  some (E12, IntKind.i64.wrap (R1.2 + E10))))

theorem spec_l6Take_con (s : List UInt8) (at_ : Int)  (r : List UInt8 × Int) (hm : spec_l6Take s at_ = some r) :
    Con Try.prog 32 [strV s, .int .i64 at_] [] [] (fun _ : Unit => .tuple #[strV r.1, .int .i64 r.2]) (fun _ => []) := by
  refine Con.intro (args := [strV s, .int .i64 at_]) (n := 39) (val := fun r (_ : Unit) => .tuple #[strV r.1, .int .i64 r.2]) (post := fun _ _ => []) (m := spec_l6Take s at_) Try.func32 rfl rfl rfl hm ?_
  intro w S _
  unfold spec_l6Take
  refine TW.seq ?_
  refine TW.region ?_
  refine TO.y (Y.assign rfl) rfl rfl rfl ?_
  refine TO.y (Y.assign rfl) rfl rfl rfl ?_
  refine TO.nil ?_
  refine TE.next ?_
  refine TW.seq ?_
  refine TW.region ?_
  refine TO.y (Y.move rfl) rfl rfl rfl ?_
  refine TO.y (Y.move rfl) rfl rfl rfl ?_
  refine TO.bind fun R1 H2 => ?_
  refine TO.ef (Ef.call (rest := []) [] (spec_l6Vars_con s at_ (1 : Int)  R1 H2) kc31 rfl rfl trivial) rfl rfl rfl (fun Y3 => ?_)
  refine TO.y (Y.move rfl) rfl rfl rfl ?_
  refine TO.y (Y.extract rfl rfl) rfl rfl rfl ?_
  refine TO.y (Y.extract rfl rfl) rfl rfl rfl ?_
  refine TO.y (Y.assign rfl) rfl rfl rfl ?_
  refine TO.y (Y.assign rfl) rfl rfl rfl ?_
  refine TO.nil ?_
  refine TE.next ?_
  refine TW.seq ?_
  refine TW.seq ?_
  refine TW.joinBX (τ := Bool) (X := Unit) (fun T _ => [(0, strV s), (6, Y3), (7, .int .i64 R1.2), (25, .bool T)]) (fun _ _ => [.own Y3 (lc R1.1)]) ?_ (fun T4 X5 => ?_)
  · refine TW.region ?_
    refine TO.y (Y.move rfl) rfl rfl rfl ?_
    refine TO.y (Y.lss rfl rfl) rfl rfl rfl ?_
    refine TO.y (Y.move rfl) rfl rfl rfl ?_
    refine TO.ite (b := decide (R1.2 < (0 : Int))) (fun H6 => ?_) (fun H6 => ?_)
    · refine TO.off (Gd.at 2 false 16 (decide (R1.2 < (0 : Int))) rfl rfl rfl (beq_tf H6)) rfl rfl ?_
      refine TO.off (Gd.at 2 false 16 (decide (R1.2 < (0 : Int))) rfl rfl rfl (beq_tf H6)) rfl rfl ?_
      refine TO.off (Gd.at 2 false 16 (decide (R1.2 < (0 : Int))) rfl rfl rfl (beq_tf H6)) rfl rfl ?_
      refine TO.off (Gd.at 2 false 16 (decide (R1.2 < (0 : Int))) rfl rfl rfl (beq_tf H6)) rfl rfl ?_
      refine TO.off (Gd.at 2 false 16 (decide (R1.2 < (0 : Int))) rfl rfl rfl (beq_tf H6)) rfl rfl ?_
      refine TO.off (Gd.at 2 false 16 (decide (R1.2 < (0 : Int))) rfl rfl rfl (beq_tf H6)) rfl rfl ?_
      refine TO.off (Gd.at 2 false 16 (decide (R1.2 < (0 : Int))) rfl rfl rfl (beq_tf H6)) rfl rfl ?_
      refine TO.off (Gd.at 2 false 16 (decide (R1.2 < (0 : Int))) rfl rfl rfl (beq_tf H6)) rfl rfl ?_
      refine TO.y (Y.pick_t H6 rfl rfl) rfl rfl rfl ?_
      refine TO.nil ?_
      exact TE.jb_go () [0] ⟨rfl, rfl, rfl, rfl, trivial⟩ rfl
    · refine TO.y (Y.move rfl) (Gd.at 2 false 16 (decide (R1.2 < (0 : Int))) rfl rfl rfl (beq_ff H6)) rfl rfl ?_
      refine TO.bind fun E7 H8 => ?_
      refine TO.y (Y.index ke55 (Can.own 0 rfl) H8 rfl rfl) (Gd.at 2 false 16 (decide (R1.2 < (0 : Int))) rfl rfl rfl (beq_ff H6)) rfl rfl ?_
      refine TO.y (Y.load_el (us := [.int .i64 E7]) (u := .int .i64 E7) kk3 rfl (Can.own 0 rfl) (idx_get H8).2.2 rfl rfl rfl rfl rfl) (Gd.at 2 false 16 (decide (R1.2 < (0 : Int))) rfl rfl rfl (beq_ff H6)) rfl rfl ?_
      refine TO.y (Y.move rfl) (Gd.at 2 false 16 (decide (R1.2 < (0 : Int))) rfl rfl rfl (beq_ff H6)) rfl rfl ?_
      refine TO.y (Y.slen ks9 rfl) (Gd.at 2 false 16 (decide (R1.2 < (0 : Int))) rfl rfl rfl (beq_ff H6)) rfl rfl ?_
      refine TO.y (Y.move rfl) (Gd.at 2 false 16 (decide (R1.2 < (0 : Int))) rfl rfl rfl (beq_ff H6)) rfl rfl ?_
      refine TO.y (Y.sub rfl rfl) (Gd.at 2 false 16 (decide (R1.2 < (0 : Int))) rfl rfl rfl (beq_ff H6)) rfl rfl ?_
      refine TO.y (Y.gtr rfl rfl) (Gd.at 2 false 16 (decide (R1.2 < (0 : Int))) rfl rfl rfl (beq_ff H6)) rfl rfl ?_
      refine TO.y (Y.pick_f H6 rfl rfl) rfl rfl rfl ?_
      refine TO.nil ?_
      exact TE.jb_go () [0] ⟨rfl, rfl, rfl, rfl, trivial⟩ rfl
  · refine TE.next ?_
    refine TW.cond rfl (fun H9 => ?_) (fun H9 => ?_)
    · refine TW.seq ?_
      refine TW.region ?_
      refine TO.y (Y.assign rfl) rfl rfl rfl ?_
      refine TO.y (Y.assign rfl) rfl rfl rfl ?_
      refine TO.nil ?_
      refine TE.next ?_
      refine TW.ret ?_
      refine TE.then_ret ?_
      exact TE.leaf fun _ _ hf_ hs_ => ret_any (rs := [.tmp 4, .tmp 5]) (vs := [strV ([]), .int .i64 (-1 : Int)]) (.inl rfl) rfl ⟨rfl, ⟨rfl, trivial⟩⟩ hf_ hs_ ⟨(), rfl, hs_.pulls [] rfl⟩
    · refine TW.skip ?_
      refine TE.next ?_
      refine TW.seq ?_
      refine TW.draw (isH := [.own Y3 (lc R1.1)]) hMix ?_
      refine TA.y (listed' := #[true, false, false, false, false, false, false, false, false, false, false, false, false, false, false]) 0 [0] rfl (Y.move rfl) rfl rfl rfl (by kernel_rfl) (by kernel_rfl) (by kernel_rfl) rfl rfl ?_
      refine TA.y (listed' := #[true, true, false, false, false, false, false, false, false, false, false, false, false, false, false]) 1 [0] rfl (Y.move rfl) rfl rfl rfl (by kernel_rfl) (by kernel_rfl) (by kernel_rfl) rfl rfl ?_
      refine TA.y (listed' := #[true, true, true, false, false, false, false, false, false, false, false, false, false, false, false]) 2 [0] rfl (Y.move rfl) rfl rfl rfl (by kernel_rfl) (by kernel_rfl) (by kernel_rfl) rfl rfl ?_
      refine TA.y (listed' := #[true, true, true, true, false, false, false, false, false, false, false, false, false, false, false]) 3 [0] rfl (Y.move rfl) rfl rfl rfl (by kernel_rfl) (by kernel_rfl) (by kernel_rfl) rfl rfl ?_
      refine TA.bind fun E10 H11 => ?_
      refine TA.y (listed' := #[true, true, true, true, true, false, false, false, false, false, false, false, false, false, false]) 4 [0] rfl (Y.index ke55 (Can.own 0 rfl) H11 rfl rfl) rfl rfl rfl (by kernel_rfl) (by kernel_rfl) (by kernel_rfl) rfl rfl ?_
      refine TA.y (listed' := #[true, true, true, true, true, true, false, false, false, false, false, false, false, false, false]) 5 [0] rfl (Y.load_el (us := [.int .i64 E10]) (u := .int .i64 E10) kk3 rfl (Can.own 0 rfl) (idx_get H11).2.2 rfl rfl rfl rfl rfl) rfl rfl rfl (by kernel_rfl) (by kernel_rfl) (by kernel_rfl) rfl rfl ?_
      refine TA.y (listed' := #[true, true, true, true, true, true, true, false, false, false, false, false, false, false, false]) 6 [0] rfl (Y.add rfl rfl) rfl rfl rfl (by kernel_rfl) (by kernel_rfl) (by kernel_rfl) rfl rfl ?_
      refine TA.bind fun E12 H13 => ?_
      refine TA.y (listed' := #[true, true, true, true, true, true, true, true, false, false, false, false, false, false, false]) 7 [0] rfl (Y.ssub_both H13 ks9 rfl rfl rfl) rfl rfl rfl (by kernel_rfl) (by kernel_rfl) (by kernel_rfl) rfl rfl ?_
      refine TA.y (listed' := #[true, true, true, true, true, true, true, true, true, false, false, false, false, false, false]) 8 [0] rfl (Y.move rfl) rfl rfl rfl (by kernel_rfl) (by kernel_rfl) (by kernel_rfl) rfl rfl ?_
      refine TA.y (listed' := #[true, true, true, true, true, true, true, true, true, true, false, false, false, false, false]) 9 [0] rfl (Y.move rfl) rfl rfl rfl (by kernel_rfl) (by kernel_rfl) (by kernel_rfl) rfl rfl ?_
      refine TA.y (listed' := #[true, true, true, true, true, true, true, true, true, true, true, false, false, false, false]) 10 [0] rfl (Y.index ke55 (Can.own 0 rfl) H11 rfl rfl) rfl rfl rfl (by kernel_rfl) (by kernel_rfl) (by kernel_rfl) rfl rfl ?_
      refine TA.y (listed' := #[true, true, true, true, true, true, true, true, true, true, true, true, false, false, false]) 11 [0] rfl (Y.load_el (us := [.int .i64 E10]) (u := .int .i64 E10) kk3 rfl (Can.own 0 rfl) (idx_get H11).2.2 rfl rfl rfl rfl rfl) rfl rfl rfl (by kernel_rfl) (by kernel_rfl) (by kernel_rfl) rfl rfl ?_
      refine TA.y (listed' := #[true, true, true, true, true, true, true, true, true, true, true, true, true, false, false]) 12 [0] rfl (Y.add rfl rfl) rfl rfl rfl (by kernel_rfl) (by kernel_rfl) (by kernel_rfl) rfl rfl ?_
      refine TA.y (listed' := #[true, true, true, true, true, true, true, true, true, true, true, true, true, true, false]) 13 [0] rfl (Y.assign rfl) rfl rfl rfl (by kernel_rfl) (by kernel_rfl) (by kernel_rfl) rfl rfl ?_
      refine TA.y (listed' := #[true, true, true, true, true, true, true, true, true, true, true, true, true, true, true]) 14 [0] rfl (Y.assign rfl) rfl rfl rfl (by kernel_rfl) (by kernel_rfl) (by kernel_rfl) rfl rfl ?_
      refine TA.nil (by kernel_rfl) ?_
      refine TE.next ?_
      refine TW.ret ?_
      exact TE.leaf fun _ _ hf_ hs_ => ret_any (rs := [.tmp 4, .tmp 5]) (vs := [strV E12, .int .i64 (IntKind.i64.wrap (R1.2 + E10))]) (.inl rfl) rfl ⟨rfl, ⟨rfl, trivial⟩⟩ hf_ hs_ ⟨(), rfl, hs_.pulls [] rfl⟩

/-- loop.example/g00950/spec.ScanRows -/
noncomputable def spec_ScanRows (s : List UInt8) : Option (List LogRow × Int) :=
  bindC (loopO (fun (S2 : Int × List LogRow) => (spec_l6Vars s (IntKind.i64.wrap (S2.1 + (4 : Int))) (3 : Int)).bind fun R6 =>
  (spec_l6Take s R6.2).bind fun R9 =>
  if (decide (R9.2 < (0 : Int))) = true then (some (.done (.done (S2.2, S2.1))))
  else ((idx R6.1 (0 : Int)).bind fun E13 =>
  (idx R6.1 (1 : Int)).bind fun E15 =>
  (idx R6.1 (2 : Int)).bind fun E17 =>
  ((spec_ShowRow ({ Tenant := E13, Boot := E15, Seq := E17, Text := R9.1, Synced := false : LogRow })).bind fun R22 =>
  if (decide (R22 = ([]))) = true then (some true)
  else ((ssub s S2.1 R9.2).bind fun E26 =>
  some (!(decide (R22 = E26))))).bind (fun (T20 : Bool) =>
  if T20 = true then (some (.done (.done (S2.2, S2.1))))
  else ((app 48 S2.2 ([{ Tenant := E13, Boot := E15, Seq := E17, Text := R9.1, Synced := false : LogRow }])).bind fun E32 =>
  some (.go (R9.2, E32))))))
  ((0 : Int), ([] : List LogRow)))
  (fun (T4 : Unit) => none)

theorem spec_ScanRows_con (s : List UInt8)  (r : List LogRow × Int) (hm : spec_ScanRows s = some r) :
    Con Try.prog 9 [strV s] [] [] (fun X : Value => .tuple #[X, .int .i64 r.2]) (fun X => [.own X (lc r.1)]) := by
  refine Con.intro (args := [strV s]) (n := 58) (val := fun r (X : Value) => .tuple #[X, .int .i64 r.2]) (post := fun r X => [.own X (lc r.1)]) (m := spec_ScanRows s) Try.func9 rfl rfl rfl hm ?_
  intro w S _
  unfold spec_ScanRows
  refine TW.seq ?_
  refine TW.region ?_
  refine TO.y (Y.assign rfl) rfl rfl rfl ?_
  refine TO.y (Y.assign rfl) rfl rfl rfl ?_
  refine TO.nil ?_
  refine TE.next ?_
  refine TW.seq ?_
  refine TW.region ?_
  refine TO.ef (Ef.buildSlice (α := LogRow) (Vs := []) ([] : List LogRow) ke25 kz31 rfl rfl rfl rfl rfl) rfl rfl rfl (fun B1 => ?_)
  refine TO.y (Y.assign rfl) rfl rfl rfl ?_
  refine TO.nil ?_
  refine TE.next ?_
  refine TW.seq ?_
  refine TW.region ?_
  refine TO.y (Y.assign rfl) rfl rfl rfl ?_
  refine TO.nil ?_
  refine TE.next ?_
  refine TW.joinX (τ := Unit) (X := Unit) (fun _ _ => []) (fun _ _ => []) ?_ (fun T4 X5 => ?_)
  · refine TW.block ?_
    refine TW.loopX (σ := Int × List LogRow) (X := Value) (fun T X => [(0, strV s), (4, X), (5, .int .i64 T.1)]) (fun T X => [.own X (lc T.2)]) (.slice (some ⟨B1, 0, none⟩) 0 0) [0] ⟨rfl, rfl, rfl, trivial⟩ rfl (fun S2 X3 => ?_)
    refine TW.block ?_
    refine TW.seq ?_
    refine TW.region ?_
    refine TO.y (Y.move rfl) rfl rfl rfl ?_
    refine TO.y (Y.move rfl) rfl rfl rfl ?_
    refine TO.y (Y.add rfl rfl) rfl rfl rfl ?_
    refine TO.bind fun R6 H7 => ?_
    refine TO.ef (Ef.call (rest := [.own X3 (lc S2.2)]) [0] (spec_l6Vars_con s (IntKind.i64.wrap (S2.1 + (4 : Int))) (3 : Int)  R6 H7) kc31 rfl rfl trivial) rfl rfl rfl (fun Y8 => ?_)
    refine TO.y (Y.move rfl) rfl rfl rfl ?_
    refine TO.y (Y.extract rfl rfl) rfl rfl rfl ?_
    refine TO.y (Y.extract rfl rfl) rfl rfl rfl ?_
    refine TO.y (Y.assign rfl) rfl rfl rfl ?_
    refine TO.y (Y.assign rfl) rfl rfl rfl ?_
    refine TO.nil ?_
    refine TE.next ?_
    refine TW.seq ?_
    refine TW.region ?_
    refine TO.y (Y.move rfl) rfl rfl rfl ?_
    refine TO.y (Y.move rfl) rfl rfl rfl ?_
    refine TO.bind fun R9 H10 => ?_
    refine TO.ef (Ef.call (rest := [.own Y8 (lc R6.1), .own X3 (lc S2.2)]) [0, 0] (spec_l6Take_con s R6.2  R9 H10) kc32 rfl rfl trivial) rfl rfl rfl (fun _ => ?_)
    refine TO.y (Y.move rfl) rfl rfl rfl ?_
    refine TO.y (Y.extract rfl rfl) rfl rfl rfl ?_
    refine TO.y (Y.extract rfl rfl) rfl rfl rfl ?_
    refine TO.y (Y.assign rfl) rfl rfl rfl ?_
    refine TO.y (Y.assign rfl) rfl rfl rfl ?_
    refine TO.nil ?_
    refine TE.next ?_
    refine TW.seq ?_
    refine TW.seq ?_
    refine TW.region ?_
    refine TO.y (Y.move rfl) rfl rfl rfl ?_
    refine TO.y (Y.lss rfl rfl) rfl rfl rfl ?_
    refine TO.nil ?_
    refine TE.next ?_
    refine TW.cond rfl (fun H12 => ?_) (fun H12 => ?_)
    · refine TW.seq ?_
      refine TW.region ?_
      refine TO.y (Y.move rfl) rfl rfl rfl ?_
      refine TO.y (Y.move rfl) rfl rfl rfl ?_
      refine TO.y (Y.assign rfl) rfl rfl rfl ?_
      refine TO.y (Y.assign rfl) rfl rfl rfl ?_
      refine TO.nil ?_
      refine TE.next ?_
      refine TW.ret ?_
      refine TE.then_ret ?_
      refine TE.block_ret ?_
      refine TE.lp_ret ?_
      refine TE.block_ret ?_
      refine TE.jn_done ?_
      exact TE.leaf fun _ _ hf_ hs_ => ret_any (rs := [.tmp 2, .tmp 3]) (vs := [X3, .int .i64 S2.1]) (.inl rfl) rfl ⟨rfl, ⟨rfl, trivial⟩⟩ hf_ hs_ ⟨X3, rfl, hs_.pulls [1] rfl⟩
    · refine TW.skip ?_
      refine TE.next ?_
      refine TW.seq ?_
      refine TW.draw (isH := [.own Y8 (lc R6.1), .own X3 (lc S2.2)]) hMix ?_
      refine TA.y (listed' := #[true, false, false, false, false, false, false, false, false, false, false, false, false]) 0 [0, 0] rfl (Y.move rfl) rfl rfl rfl (by kernel_rfl) (by kernel_rfl) (by kernel_rfl) rfl rfl ?_
      refine TA.bind fun E13 H14 => ?_
      refine TA.y (listed' := #[true, true, false, false, false, false, false, false, false, false, false, false, false]) 1 [0, 0] rfl (Y.index ke55 (Can.own 0 rfl) H14 rfl rfl) rfl rfl rfl (by kernel_rfl) (by kernel_rfl) (by kernel_rfl) rfl rfl ?_
      refine TA.y (listed' := #[true, true, true, false, false, false, false, false, false, false, false, false, false]) 2 [0, 0] rfl (Y.load_el (us := [.int .i64 E13]) (u := .int .i64 E13) kk3 rfl (Can.own 0 rfl) (idx_get H14).2.2 rfl rfl rfl rfl rfl) rfl rfl rfl (by kernel_rfl) (by kernel_rfl) (by kernel_rfl) rfl rfl ?_
      refine TA.y (listed' := #[true, true, true, true, false, false, false, false, false, false, false, false, false]) 3 [0, 0] rfl (Y.move rfl) rfl rfl rfl (by kernel_rfl) (by kernel_rfl) (by kernel_rfl) rfl rfl ?_
      refine TA.bind fun E15 H16 => ?_
      refine TA.y (listed' := #[true, true, true, true, true, false, false, false, false, false, false, false, false]) 4 [0, 0] rfl (Y.index ke55 (Can.own 0 rfl) H16 rfl rfl) rfl rfl rfl (by kernel_rfl) (by kernel_rfl) (by kernel_rfl) rfl rfl ?_
      refine TA.y (listed' := #[true, true, true, true, true, true, false, false, false, false, false, false, false]) 5 [0, 0] rfl (Y.load_el (us := [.int .i64 E15]) (u := .int .i64 E15) kk3 rfl (Can.own 0 rfl) (idx_get H16).2.2 rfl rfl rfl rfl rfl) rfl rfl rfl (by kernel_rfl) (by kernel_rfl) (by kernel_rfl) rfl rfl ?_
      refine TA.y (listed' := #[true, true, true, true, true, true, true, false, false, false, false, false, false]) 6 [0, 0] rfl (Y.move rfl) rfl rfl rfl (by kernel_rfl) (by kernel_rfl) (by kernel_rfl) rfl rfl ?_
      refine TA.bind fun E17 H18 => ?_
      refine TA.y (listed' := #[true, true, true, true, true, true, true, true, false, false, false, false, false]) 7 [0, 0] rfl (Y.index ke55 (Can.own 0 rfl) H18 rfl rfl) rfl rfl rfl (by kernel_rfl) (by kernel_rfl) (by kernel_rfl) rfl rfl ?_
      refine TA.y (listed' := #[true, true, true, true, true, true, true, true, true, false, false, false, false]) 8 [0, 0] rfl (Y.load_el (us := [.int .i64 E17]) (u := .int .i64 E17) kk3 rfl (Can.own 0 rfl) (idx_get H18).2.2 rfl rfl rfl rfl rfl) rfl rfl rfl (by kernel_rfl) (by kernel_rfl) (by kernel_rfl) rfl rfl ?_
      refine TA.y (listed' := #[true, true, true, true, true, true, true, true, true, true, false, false, false]) 9 [0, 0] rfl (Y.move rfl) rfl rfl rfl (by kernel_rfl) (by kernel_rfl) (by kernel_rfl) rfl rfl ?_
      refine TA.y (listed' := #[true, true, true, true, true, true, true, true, true, true, true, false, false]) 10 [0, 0] rfl (Y.build (cells := [.int .i64 E13, .int .i64 E15, .int .i64 E17, strV R9.1, .bool false]) [(0, [.int .i64 E13]), (1, [.int .i64 E15]), (2, [.int .i64 E17]), (3, [strV R9.1])] kp31 kz31 ⟨rfl, ⟨_, rfl, (Cel.plain rfl rfl)⟩, ⟨rfl, ⟨_, rfl, (Cel.plain rfl rfl)⟩, ⟨rfl, ⟨_, rfl, (Cel.plain rfl rfl)⟩, ⟨rfl, ⟨_, rfl, (Cel.plain rfl rfl)⟩, trivial⟩⟩⟩⟩ rfl) rfl rfl rfl (by kernel_rfl) (by kernel_rfl) (by kernel_rfl) rfl rfl ?_
      refine TA.one 11 (by kernel_rfl) ?_
      refine TX.ef (listed' := #[true, true, true, true, true, true, true, true, true, true, true, true, false]) [1, 1] rfl (Ef.alloc kz31 rfl) rfl rfl rfl rfl (fun _ => rfl) (fun B19 => ?_)
      refine TA.one 12 (by kernel_rfl) ?_
      refine TX.ef0 (listed' := #[true, true, true, true, true, true, true, true, true, true, true, true, true]) [1, 1] rfl (Ef.store_box (us := [.int .i64 E13, .int .i64 E15, .int .i64 E17, strV R9.1, .bool false]) (vs' := [.int .i64 E13, .int .i64 E15, .int .i64 E17, strV R9.1, .bool false]) (is' := [.box B19 31 [.int .i64 E13, .int .i64 E15, .int .i64 E17, strV R9.1, .bool false], .own Y8 (lc R6.1), .own X3 (lc S2.2)]) 0 kk31 rfl rfl rfl (Cel.plain rfl rfl) rfl rfl rfl rfl) rfl rfl rfl (fun _ => rfl) (fun _ => ?_)
      refine TA.nil (by kernel_rfl) ?_
      refine TE.next ?_
      refine TW.seq ?_
      refine TW.seq ?_
      refine TW.joinBX (τ := Bool) (X := Unit) (fun T _ => [(0, strV s), (4, X3), (5, .int .i64 S2.1), (7, .int .i64 R9.2), (9, .pointer (some ⟨B19, 0, none⟩)), (50, .bool T)]) (fun _ _ => [.box B19 31 [.int .i64 E13, .int .i64 E15, .int .i64 E17, strV R9.1, .bool false], .own X3 (lc S2.2)]) ?_ (fun T20 X21 => ?_)
      · refine TW.draw (isH := [.box B19 31 [.int .i64 E13, .int .i64 E15, .int .i64 E17, strV R9.1, .bool false], .own Y8 (lc R6.1), .own X3 (lc S2.2)]) hMix ?_
        refine TA.y (listed' := #[true, false, false, false, false, false, false, false, false, false, false, false]) 0 [0, 0, 0] rfl (Y.load_box (v := .agg #[.int .i64 E13, .int .i64 E15, .int .i64 E17, strV R9.1, .bool false]) 0 kk31 rfl rfl rfl) rfl rfl rfl (by kernel_rfl) (by kernel_rfl) (by kernel_rfl) rfl rfl ?_
        refine TA.bind fun R22 H23 => ?_
        refine TA.one 1 (by kernel_rfl) ?_
        refine TX.ef (listed' := #[true, true, false, false, false, false, false, false, false, false, false, false]) [0, 0, 0] rfl (Ef.call (rest := [.box B19 31 [.int .i64 E13, .int .i64 E15, .int .i64 E17, strV R9.1, .bool false], .own Y8 (lc R6.1), .own X3 (lc S2.2)]) [0, 0, 0] (spec_ShowRow_con ({ Tenant := E13, Boot := E15, Seq := E17, Text := R9.1, Synced := false : LogRow })  R22 H23) kc26 rfl rfl trivial) rfl rfl rfl rfl (fun _ => rfl) (fun _ => ?_)
        refine TA.y (listed' := #[true, true, true, false, false, false, false, false, false, false, false, false]) 2 [0, 0, 0] rfl (Y.seql rfl rfl) rfl rfl rfl (by kernel_rfl) (by kernel_rfl) (by kernel_rfl) rfl rfl ?_
        refine TA.y (listed' := #[true, true, true, true, false, false, false, false, false, false, false, false]) 3 [0, 0, 0] rfl (Y.move rfl) rfl rfl rfl (by kernel_rfl) (by kernel_rfl) (by kernel_rfl) rfl rfl ?_
        refine TA.ite (b := decide (R22 = ([]))) (fun H25 => ?_) (fun H25 => ?_)
        · refine TA.off (listed' := #[true, true, true, true, true, false, false, false, false, false, false, false]) 4 [0, 0, 0] rfl (Gd.at 3 false 42 (decide (R22 = ([]))) rfl rfl rfl (beq_tf H25)) rfl rfl (by kernel_rfl) (by kernel_rfl) (by kernel_rfl) rfl rfl ?_
          refine TA.off (listed' := #[true, true, true, true, true, true, false, false, false, false, false, false]) 5 [0, 0, 0] rfl (Gd.at 3 false 42 (decide (R22 = ([]))) rfl rfl rfl (beq_tf H25)) rfl rfl (by kernel_rfl) (by kernel_rfl) (by kernel_rfl) rfl rfl ?_
          refine TA.off (listed' := #[true, true, true, true, true, true, true, false, false, false, false, false]) 6 [0, 0, 0] rfl (Gd.at 3 false 42 (decide (R22 = ([]))) rfl rfl rfl (beq_tf H25)) rfl rfl (by kernel_rfl) (by kernel_rfl) (by kernel_rfl) rfl rfl ?_
          refine TA.off (listed' := #[true, true, true, true, true, true, true, true, false, false, false, false]) 7 [0, 0, 0] rfl (Gd.at 3 false 42 (decide (R22 = ([]))) rfl rfl rfl (beq_tf H25)) rfl rfl (by kernel_rfl) (by kernel_rfl) (by kernel_rfl) rfl rfl ?_
          refine TA.off (listed' := #[true, true, true, true, true, true, true, true, true, false, false, false]) 8 [0, 0, 0] rfl (Gd.at 3 false 42 (decide (R22 = ([]))) rfl rfl rfl (beq_tf H25)) rfl rfl (by kernel_rfl) (by kernel_rfl) (by kernel_rfl) rfl rfl ?_
          refine TA.off (listed' := #[true, true, true, true, true, true, true, true, true, true, false, false]) 9 [0, 0, 0] rfl (Gd.at 3 false 42 (decide (R22 = ([]))) rfl rfl rfl (beq_tf H25)) rfl rfl (by kernel_rfl) (by kernel_rfl) (by kernel_rfl) rfl rfl ?_
          refine TA.off (listed' := #[true, true, true, true, true, true, true, true, true, true, true, false]) 10 [0, 0, 0] rfl (Gd.at 3 false 42 (decide (R22 = ([]))) rfl rfl rfl (beq_tf H25)) rfl rfl (by kernel_rfl) (by kernel_rfl) (by kernel_rfl) rfl rfl ?_
          refine TA.y (listed' := #[true, true, true, true, true, true, true, true, true, true, true, true]) 11 [0, 0, 0] rfl (Y.pick_t H25 rfl rfl) rfl rfl rfl (by kernel_rfl) (by kernel_rfl) (by kernel_rfl) rfl rfl ?_
          refine TA.nil (by kernel_rfl) ?_
          exact TE.jb_go () [0, 1] ⟨rfl, rfl, rfl, rfl, rfl, rfl, trivial⟩ rfl
        · refine TA.y (listed' := #[true, true, true, true, true, false, false, false, false, false, false, false]) 4 [0, 0, 0] rfl (Y.load_box (v := .agg #[.int .i64 E13, .int .i64 E15, .int .i64 E17, strV R9.1, .bool false]) 0 kk31 rfl rfl rfl) (Gd.at 3 false 42 (decide (R22 = ([]))) rfl rfl rfl (beq_ff H25)) rfl rfl (by kernel_rfl) (by kernel_rfl) (by kernel_rfl) rfl rfl ?_
          refine TA.y (listed' := #[true, true, true, true, true, false, true, false, false, false, false, false]) 6 [0, 0, 0] rfl (Y.move rfl) (Gd.at 3 false 42 (decide (R22 = ([]))) rfl rfl rfl (beq_ff H25)) rfl rfl (by kernel_rfl) (by kernel_rfl) (by kernel_rfl) rfl rfl ?_
          refine TA.y (listed' := #[true, true, true, true, true, false, true, true, false, false, false, false]) 7 [0, 0, 0] rfl (Y.move rfl) (Gd.at 3 false 42 (decide (R22 = ([]))) rfl rfl rfl (beq_ff H25)) rfl rfl (by kernel_rfl) (by kernel_rfl) (by kernel_rfl) rfl rfl ?_
          refine TA.y (listed' := #[true, true, true, true, true, false, true, true, true, false, false, false]) 8 [0, 0, 0] rfl (Y.move rfl) (Gd.at 3 false 42 (decide (R22 = ([]))) rfl rfl rfl (beq_ff H25)) rfl rfl (by kernel_rfl) (by kernel_rfl) (by kernel_rfl) rfl rfl ?_
          refine TA.bind fun E26 H27 => ?_
          refine TA.y (listed' := #[true, true, true, true, true, false, true, true, true, true, false, false]) 9 [0, 0, 0] rfl (Y.ssub_both H27 ks9 rfl rfl rfl) (Gd.at 3 false 42 (decide (R22 = ([]))) rfl rfl rfl (beq_ff H25)) rfl rfl (by kernel_rfl) (by kernel_rfl) (by kernel_rfl) rfl rfl ?_
          refine TA.one 5 (by kernel_rfl) ?_
          refine TX.ef (listed' := #[true, true, true, true, true, true, true, true, true, true, false, false]) [0, 0, 0] rfl (Ef.call (rest := [.box B19 31 [.int .i64 E13, .int .i64 E15, .int .i64 E17, strV R9.1, .bool false], .own Y8 (lc R6.1), .own X3 (lc S2.2)]) [0, 0, 0] (spec_ShowRow_con ({ Tenant := E13, Boot := E15, Seq := E17, Text := R9.1, Synced := false : LogRow })  R22 H23) kc26 rfl rfl trivial) (Gd.at 3 false 42 (decide (R22 = ([]))) rfl rfl rfl (beq_ff H25)) rfl rfl rfl (fun _ => rfl) (fun _ => ?_)
          refine TA.y (listed' := #[true, true, true, true, true, true, true, true, true, true, true, false]) 10 [0, 0, 0] rfl (Y.sneq rfl rfl) (Gd.at 3 false 42 (decide (R22 = ([]))) rfl rfl rfl (beq_ff H25)) rfl rfl (by kernel_rfl) (by kernel_rfl) (by kernel_rfl) rfl rfl ?_
          refine TA.y (listed' := #[true, true, true, true, true, true, true, true, true, true, true, true]) 11 [0, 0, 0] rfl (Y.pick_f H25 rfl rfl) rfl rfl rfl (by kernel_rfl) (by kernel_rfl) (by kernel_rfl) rfl rfl ?_
          refine TA.nil (by kernel_rfl) ?_
          exact TE.jb_go () [0, 1] ⟨rfl, rfl, rfl, rfl, rfl, rfl, trivial⟩ rfl
      · refine TE.next ?_
        refine TW.cond rfl (fun H29 => ?_) (fun H29 => ?_)
        · refine TW.seq ?_
          refine TW.region ?_
          refine TO.y (Y.move rfl) rfl rfl rfl ?_
          refine TO.y (Y.move rfl) rfl rfl rfl ?_
          refine TO.y (Y.assign rfl) rfl rfl rfl ?_
          refine TO.y (Y.assign rfl) rfl rfl rfl ?_
          refine TO.nil ?_
          refine TE.next ?_
          refine TW.ret ?_
          refine TE.then_ret ?_
          refine TE.block_ret ?_
          refine TE.lp_ret ?_
          refine TE.block_ret ?_
          refine TE.jn_done ?_
          exact TE.leaf fun _ _ hf_ hs_ => ret_any (rs := [.tmp 2, .tmp 3]) (vs := [X3, .int .i64 S2.1]) (.inl rfl) rfl ⟨rfl, ⟨rfl, trivial⟩⟩ hf_ hs_ ⟨X3, rfl, hs_.pulls [1] rfl⟩
        · refine TW.skip ?_
          refine TE.next ?_
          refine TW.seq ?_
          refine TW.region ?_
          refine TO.y (Y.move rfl) rfl rfl rfl ?_
          refine TO.y (Y.load_box (v := .agg #[.int .i64 E13, .int .i64 E15, .int .i64 E17, strV R9.1, .bool false]) 0 kk31 rfl rfl rfl) rfl rfl rfl ?_
          refine TO.ef (Ef.buildSlice (α := LogRow) (Vs := [.agg #[.int .i64 E13, .int .i64 E15, .int .i64 E17, strV R9.1, .bool false]]) [{ Tenant := E13, Boot := E15, Seq := E17, Text := R9.1, Synced := false : LogRow }] ke25 kz31 rfl rfl rfl rfl rfl) rfl rfl rfl (fun B30 => ?_)
          refine TO.bind fun E32 H33 => ?_
          refine TO.ef (Ef.append (α := LogRow) (is' := [.own (.slice (some ⟨B30, 0, none⟩) 1 1) (lc ([{ Tenant := E13, Boot := E15, Seq := E17, Text := R9.1, Synced := false : LogRow }])), .box B19 31 [.int .i64 E13, .int .i64 E15, .int .i64 E17, strV R9.1, .bool false]]) [2, 0, 0] H33 ke25 kz31 rfl rfl rfl rfl rfl (Can.own 0 rfl)) rfl rfl rfl (fun V31 => ?_)
          refine TO.y (Y.assign rfl) rfl rfl rfl ?_
          refine TO.nil ?_
          refine TE.next ?_
          refine TW.region ?_
          refine TO.y (Y.move rfl) rfl rfl rfl ?_
          refine TO.y (Y.assign rfl) rfl rfl rfl ?_
          refine TO.nil ?_
          refine TE.block_normal ?_
          exact TE.lp_go V31 [0] ⟨rfl, rfl, rfl, trivial⟩ rfl
  · exact fun _ h_ => by cases h_

/-- loop.example/g00950/laws.sameRows -/
noncomputable def laws_sameRows (a : List LogRow) (b : List LogRow) : Option Bool :=
  if (!(decide (((a.length : Nat) : Int) = ((b.length : Nat) : Int)))) = true then (some false)
  else (bindC (loopO (fun (S2 : Int) => if (decide (S2 < ((a.length : Nat) : Int))) = true then ((idx a S2).bind fun E7 =>
  (idx b S2).bind fun E9 =>
  if (!(decide (E7.Tenant = E9.Tenant) && (decide (E7.Boot = E9.Boot) && (decide (E7.Seq = E9.Seq) && (decide (E7.Text = E9.Text) && (decide (E7.Synced = E9.Synced) && true)))))) = true then (some (.done (.done false)))
  else (some (.go (IntKind.i64.wrap (S2 + (1 : Int))))))
  else (some (.done (.go ()))))
  (0 : Int))
  (fun (T4 : Unit) => some true))

theorem laws_sameRows_con (a : List LogRow) (b : List LogRow) (V_a0 : Value) (V_b0 : Value) (r : Bool) (hm : laws_sameRows a b = some r) :
    Con Try.prog 10 [V_a0, V_b0] [] [(V_a0, lc a), (V_b0, lc b)] (fun _ : Unit => .bool r) (fun _ => []) := by
  refine Con.intro (args := [V_a0, V_b0]) (n := 26) (val := fun r (_ : Unit) => .bool r) (post := fun _ _ => []) (m := laws_sameRows a b) Try.func10 rfl rfl rfl hm ?_
  intro w S hrd
  have HB_V_a0 := hrd _ (.head _)
  have HB_V_b0 := hrd _ (.tail _ (.head _))
  clear hrd
  unfold laws_sameRows
  refine TW.seq ?_
  refine TW.region ?_
  refine TO.y (Y.assign rfl) rfl rfl rfl ?_
  refine TO.nil ?_
  refine TE.next ?_
  refine TW.seq ?_
  refine TW.seq ?_
  refine TW.region ?_
  refine TO.y (Y.move rfl) rfl rfl rfl ?_
  refine TO.y (Y.len (l := a) ke25 (Base.can HB_V_a0) rfl) rfl rfl rfl ?_
  refine TO.y (Y.move rfl) rfl rfl rfl ?_
  refine TO.y (Y.len (l := b) ke25 (Base.can HB_V_b0) rfl) rfl rfl rfl ?_
  refine TO.y (Y.neq rfl rfl) rfl rfl rfl ?_
  refine TO.nil ?_
  refine TE.next ?_
  refine TW.cond rfl (fun H1 => ?_) (fun H1 => ?_)
  · refine TW.seq ?_
    refine TW.region ?_
    refine TO.y (Y.assign rfl) rfl rfl rfl ?_
    refine TO.nil ?_
    refine TE.next ?_
    refine TW.ret ?_
    refine TE.then_ret ?_
    exact TE.leaf fun _ _ hf_ hs_ => ret_any (rs := [.tmp 4]) (vs := [.bool false]) (.inl rfl) rfl ⟨rfl, trivial⟩ hf_ hs_ ⟨(), rfl, hs_.pulls [] rfl⟩
  · refine TW.skip ?_
    refine TE.next ?_
    refine TW.seq ?_
    refine TW.seq ?_
    refine TW.region ?_
    refine TO.y (Y.assign rfl) rfl rfl rfl ?_
    refine TO.nil ?_
    refine TE.next ?_
    refine TW.joinX (τ := Unit) (X := Unit) (fun _ _ => []) (fun _ _ => []) ?_ (fun T4 X5 => ?_)
    · refine TW.block ?_
      refine TW.loopX (σ := Int) (X := Unit) (fun T _ => [(0, V_a0), (1, V_b0), (5, .int .i64 T)]) (fun _ _ => []) () [] ⟨rfl, rfl, rfl, trivial⟩ rfl (fun S2 X3 => ?_)
      refine TW.seq ?_
      refine TW.seq ?_
      refine TW.region ?_
      refine TO.y (Y.move rfl) rfl rfl rfl ?_
      refine TO.y (Y.move rfl) rfl rfl rfl ?_
      refine TO.y (Y.len (l := a) ke25 (Base.can HB_V_a0) rfl) rfl rfl rfl ?_
      refine TO.y (Y.lss rfl rfl) rfl rfl rfl ?_
      refine TO.nil ?_
      refine TE.next ?_
      refine TW.cond rfl (fun H6 => ?_) (fun H6 => ?_)
      · refine TW.skip ?_
        refine TE.next ?_
        refine TW.seq ?_
        refine TW.block ?_
        refine TW.seq ?_
        refine TW.draw (isH := []) hMix ?_
        refine TA.y (listed' := #[true, false, false, false, false, false, false, false, false]) 0 [] rfl (Y.move rfl) rfl rfl rfl (by kernel_rfl) (by kernel_rfl) (by kernel_rfl) rfl rfl ?_
        refine TA.y (listed' := #[true, true, false, false, false, false, false, false, false]) 1 [] rfl (Y.move rfl) rfl rfl rfl (by kernel_rfl) (by kernel_rfl) (by kernel_rfl) rfl rfl ?_
        refine TA.bind fun E7 H8 => ?_
        refine TA.y (listed' := #[true, true, true, false, false, false, false, false, false]) 2 [] rfl (Y.index ke25 (Base.can HB_V_a0) H8 rfl rfl) rfl rfl rfl (by kernel_rfl) (by kernel_rfl) (by kernel_rfl) rfl rfl ?_
        refine TA.y (listed' := #[true, true, true, true, false, false, false, false, false]) 3 [] rfl (Y.load_el (us := [.int .i64 E7.Tenant, .int .i64 E7.Boot, .int .i64 E7.Seq, strV E7.Text, .bool E7.Synced]) (u := .agg #[.int .i64 E7.Tenant, .int .i64 E7.Boot, .int .i64 E7.Seq, strV E7.Text, .bool E7.Synced]) kk31 rfl (Base.can HB_V_a0) (idx_get H8).2.2 rfl rfl rfl rfl rfl) rfl rfl rfl (by kernel_rfl) (by kernel_rfl) (by kernel_rfl) rfl rfl ?_
        refine TA.y (listed' := #[true, true, true, true, true, false, false, false, false]) 4 [] rfl (Y.move rfl) rfl rfl rfl (by kernel_rfl) (by kernel_rfl) (by kernel_rfl) rfl rfl ?_
        refine TA.y (listed' := #[true, true, true, true, true, true, false, false, false]) 5 [] rfl (Y.move rfl) rfl rfl rfl (by kernel_rfl) (by kernel_rfl) (by kernel_rfl) rfl rfl ?_
        refine TA.bind fun E9 H10 => ?_
        refine TA.y (listed' := #[true, true, true, true, true, true, true, false, false]) 6 [] rfl (Y.index ke25 (Base.can HB_V_b0) H10 rfl rfl) rfl rfl rfl (by kernel_rfl) (by kernel_rfl) (by kernel_rfl) rfl rfl ?_
        refine TA.y (listed' := #[true, true, true, true, true, true, true, true, false]) 7 [] rfl (Y.load_el (us := [.int .i64 E9.Tenant, .int .i64 E9.Boot, .int .i64 E9.Seq, strV E9.Text, .bool E9.Synced]) (u := .agg #[.int .i64 E9.Tenant, .int .i64 E9.Boot, .int .i64 E9.Seq, strV E9.Text, .bool E9.Synced]) kk31 rfl (Base.can HB_V_b0) (idx_get H10).2.2 rfl rfl rfl rfl rfl) rfl rfl rfl (by kernel_rfl) (by kernel_rfl) (by kernel_rfl) rfl rfl ?_
        refine TA.y (listed' := #[true, true, true, true, true, true, true, true, true]) 8 [] rfl (Y.neqA keq31 (EqA.int (EqA.int (EqA.int (EqA.str (EqA.bool EqA.nil))))) rfl rfl) rfl rfl rfl (by kernel_rfl) (by kernel_rfl) (by kernel_rfl) rfl rfl ?_
        refine TA.nil (by kernel_rfl) ?_
        refine TE.next ?_
        refine TW.cond rfl (fun H11 => ?_) (fun H11 => ?_)
        · refine TW.seq ?_
          refine TW.region ?_
          refine TO.y (Y.assign rfl) rfl rfl rfl ?_
          refine TO.nil ?_
          refine TE.next ?_
          refine TW.ret ?_
          refine TE.block_ret ?_
          refine TE.then_ret ?_
          refine TE.lp_ret ?_
          refine TE.block_ret ?_
          refine TE.jn_done ?_
          refine TE.then_ret ?_
          exact TE.leaf fun _ _ hf_ hs_ => ret_any (rs := [.tmp 4]) (vs := [.bool false]) (.inl rfl) rfl ⟨rfl, trivial⟩ hf_ hs_ ⟨(), rfl, hs_.pulls [] rfl⟩
        · refine TW.skip ?_
          refine TE.block_normal ?_
          refine TE.next ?_
          refine TW.region ?_
          refine TO.y (Y.move rfl) rfl rfl rfl ?_
          refine TO.y (Y.add rfl rfl) rfl rfl rfl ?_
          refine TO.y (Y.assign rfl) rfl rfl rfl ?_
          refine TO.nil ?_
          exact TE.lp_go () [] ⟨rfl, rfl, rfl, trivial⟩ rfl
      · refine TW.exit ?_
        refine TE.then_exit ?_
        refine TE.lp_exit ?_
        refine TE.block_exit ?_
        exact TE.jn_go () [] trivial rfl
    · refine TE.next ?_
      refine TW.seq ?_
      refine TW.region ?_
      refine TO.y (Y.assign rfl) rfl rfl rfl ?_
      refine TO.nil ?_
      refine TE.next ?_
      refine TW.ret ?_
      exact TE.leaf fun _ _ hf_ hs_ => ret_any (rs := [.tmp 4]) (vs := [.bool true]) (.inl rfl) rfl ⟨rfl, trivial⟩ hf_ hs_ ⟨(), rfl, hs_.pulls [] rfl⟩

/-- loop.example/g00950/laws.at -/
noncomputable def laws_at (code : List UInt8) (i : Int) : Option Int :=
  if (decide (i < ((code.length : Nat) : Int))) = true then ((idx code i).bind fun E2 =>
  some (IntKind.i64.wrap ((E2.toNat : Nat) : Int)))
  else (some (Int.tmod (IntKind.i64.wrap (IntKind.i64.wrap (i * (37 : Int)) + (IntKind.i64.wrap (((code.length : Nat) : Int) * (11 : Int))))) (256 : Int)))

theorem laws_at_con (code : List UInt8) (i : Int) (V_code0 : Value) (r : Int) (hm : laws_at code i = some r) :
    Con Try.prog 12 [V_code0, .int .i64 i] [] [(V_code0, lc code)] (fun _ : Unit => .int .i64 r) (fun _ => []) := by
  refine Con.intro (args := [V_code0, .int .i64 i]) (n := 21) (val := fun r (_ : Unit) => .int .i64 r) (post := fun _ _ => []) (m := laws_at code i) Try.func12 rfl rfl rfl hm ?_
  intro w S hrd
  have HB_V_code0 := hrd _ (.head _)
  clear hrd
  unfold laws_at
  refine TW.seq ?_
  refine TW.region ?_
  refine TO.y (Y.assign rfl) rfl rfl rfl ?_
  refine TO.nil ?_
  refine TE.next ?_
  refine TW.seq ?_
  refine TW.seq ?_
  refine TW.region ?_
  refine TO.y (Y.move rfl) rfl rfl rfl ?_
  refine TO.y (Y.move rfl) rfl rfl rfl ?_
  refine TO.y (Y.len (l := code) ke22 (Base.can HB_V_code0) rfl) rfl rfl rfl ?_
  refine TO.y (Y.lss rfl rfl) rfl rfl rfl ?_
  refine TO.nil ?_
  refine TE.next ?_
  refine TW.cond rfl (fun H1 => ?_) (fun H1 => ?_)
  · refine TW.seq ?_
    refine TW.region ?_
    refine TO.y (Y.move rfl) rfl rfl rfl ?_
    refine TO.y (Y.move rfl) rfl rfl rfl ?_
    refine TO.bind fun E2 H3 => ?_
    refine TO.y (Y.index ke22 (Base.can HB_V_code0) H3 rfl rfl) rfl rfl rfl ?_
    refine TO.y (Y.load_el (us := [.int .u8 ((E2.toNat : Nat) : Int)]) (u := .int .u8 ((E2.toNat : Nat) : Int)) kk5 rfl (Base.can HB_V_code0) (idx_get H3).2.2 rfl rfl rfl rfl rfl) rfl rfl rfl ?_
    refine TO.y (Y.conv ki5 ki3 rfl) rfl rfl rfl ?_
    refine TO.y (Y.assign rfl) rfl rfl rfl ?_
    refine TO.nil ?_
    refine TE.next ?_
    refine TW.ret ?_
    refine TE.then_ret ?_
    exact TE.leaf fun _ _ hf_ hs_ => ret_any (rs := [.tmp 4]) (vs := [.int .i64 (IntKind.i64.wrap ((E2.toNat : Nat) : Int))]) (.inl rfl) rfl ⟨rfl, trivial⟩ hf_ hs_ ⟨(), rfl, hs_.pulls [] rfl⟩
  · refine TW.skip ?_
    refine TE.next ?_
    refine TW.seq ?_
    refine TW.region ?_
    refine TO.y (Y.move rfl) rfl rfl rfl ?_
    refine TO.y (Y.mul rfl rfl) rfl rfl rfl ?_
    refine TO.y (Y.move rfl) rfl rfl rfl ?_
    refine TO.y (Y.len (l := code) ke22 (Base.can HB_V_code0) rfl) rfl rfl rfl ?_
    refine TO.y (Y.mul rfl rfl) rfl rfl rfl ?_
    refine TO.y (Y.add rfl rfl) rfl rfl rfl ?_
    refine TO.y (Y.rem (by decide) rfl rfl) rfl rfl rfl ?_
    refine TO.y (Y.assign rfl) rfl rfl rfl ?_
    refine TO.nil ?_
    refine TE.next ?_
    refine TW.ret ?_
    exact TE.leaf fun _ _ hf_ hs_ => ret_any (rs := [.tmp 4]) (vs := [.int .i64 (Int.tmod (IntKind.i64.wrap (IntKind.i64.wrap (i * (37 : Int)) + (IntKind.i64.wrap (((code.length : Nat) : Int) * (11 : Int))))) (256 : Int))]) (.inl rfl) rfl ⟨rfl, trivial⟩ hf_ hs_ ⟨(), rfl, hs_.pulls [] rfl⟩

/-- loop.example/g00950/laws.FnRows -/
noncomputable def laws_FnRows (code : List UInt8) : Option Bool :=
  (laws_big code).bind fun R1 =>
  if R1 = true then (some true)
  else ((spec_DrawScanRows code).bind fun R5 =>
  (impl_ScanRows R5).bind fun R8 =>
  (spec_ScanRows R5).bind fun R11 =>
  (if (!(decide (R8.2 = R11.2))) = true then (some true)
  else ((laws_sameRows R8.1 R11.1).bind fun R17 =>
  some (!R17))).bind (fun (T14 : Bool) =>
  if T14 = true then (some false)
  else (bindC (loopO (fun (S21 : List UInt8 × Int) => if (decide (S21.2 < ((R8.1.length : Nat) : Int))) = true then ((idx R8.1 S21.2).bind fun E26 =>
  (impl_ShowRow E26).bind fun R28 =>
  (cat S21.1 R28).bind fun E31 =>
  some (.go (E31, IntKind.i64.wrap (S21.2 + (1 : Int)))))
  else (some (.done (.go S21.1))))
  ([], (0 : Int)))
  (fun (T23 : List UInt8) => (ssub R5 0 R8.2).bind fun E33 =>
  if (!(decide (T23 = E33))) = true then (some false)
  else ((laws_at code (0 : Int)).bind fun R36 =>
  (nz (IntKind.i64.wrap (R8.2 + (1 : Int)))).bind fun E39 =>
  (ssub R5 0 (Int.tmod R36 (IntKind.i64.wrap (R8.2 + (1 : Int))))).bind fun E41 =>
  (impl_ScanRows E41).bind fun R43 =>
  (if (decide (R43.2 ≤ Int.tmod R36 (IntKind.i64.wrap (R8.2 + (1 : Int))))) = true then ((piece R8.1 (0 : Int) ((R43.1.length : Nat) : Int)).bind fun E49 =>
  (laws_sameRows R43.1 E49).bind fun R51 =>
  if R51 = true then ((impl_ShowRow ({ Tenant := (1 : Int), Boot := (0 : Int), Seq := (0 : Int), Text := [], Synced := false : LogRow })).bind fun R55 =>
  some (!(decide (R55 = ([])))))
  else (some false))
  else (some false)).bind (fun (T46 : Bool) =>
  some T46))))))

theorem laws_FnRows_con (code : List UInt8) (V_code0 : Value) (r : Bool) (hm : laws_FnRows code = some r) :
    Con Try.prog 3 [V_code0] [] [(V_code0, lc code)] (fun _ : Unit => .bool r) (fun _ => []) := by
  refine Con.intro (args := [V_code0]) (n := 82) (val := fun r (_ : Unit) => .bool r) (post := fun _ _ => []) (m := laws_FnRows code) Try.func3 rfl rfl rfl hm ?_
  intro w S hrd
  have HB_V_code0 := hrd _ (.head _)
  clear hrd
  unfold laws_FnRows
  refine TW.seq ?_
  refine TW.region ?_
  refine TO.y (Y.assign rfl) rfl rfl rfl ?_
  refine TO.nil ?_
  refine TE.next ?_
  refine TW.seq ?_
  refine TW.seq ?_
  refine TW.region ?_
  refine TO.y (Y.move rfl) rfl rfl rfl ?_
  refine TO.bind fun R1 H2 => ?_
  refine TO.ef (Ef.call (rest := []) [] (laws_big_con code V_code0 R1 H2) kc6 rfl rfl ⟨(Base.can HB_V_code0), trivial⟩) rfl rfl rfl (fun _ => ?_)
  refine TO.nil ?_
  refine TE.next ?_
  refine TW.cond rfl (fun H4 => ?_) (fun H4 => ?_)
  · refine TW.seq ?_
    refine TW.region ?_
    refine TO.y (Y.assign rfl) rfl rfl rfl ?_
    refine TO.nil ?_
    refine TE.next ?_
    refine TW.ret ?_
    refine TE.then_ret ?_
    exact TE.leaf fun _ _ hf_ hs_ => ret_any (rs := [.tmp 2]) (vs := [.bool true]) (.inl rfl) rfl ⟨rfl, trivial⟩ hf_ hs_ ⟨(), rfl, hs_.pulls [] rfl⟩
  · refine TW.skip ?_
    refine TE.next ?_
    refine TW.seq ?_
    refine TW.region ?_
    refine TO.y (Y.move rfl) rfl rfl rfl ?_
    refine TO.bind fun R5 H6 => ?_
    refine TO.ef (Ef.call (rest := []) [] (spec_DrawScanRows_con code V_code0 R5 H6) kc7 rfl rfl ⟨(Base.can HB_V_code0), trivial⟩) rfl rfl rfl (fun _ => ?_)
    refine TO.y (Y.assign rfl) rfl rfl rfl ?_
    refine TO.nil ?_
    refine TE.next ?_
    refine TW.seq ?_
    refine TW.region ?_
    refine TO.y (Y.move rfl) rfl rfl rfl ?_
    refine TO.bind fun R8 H9 => ?_
    refine TO.ef (Ef.call (rest := []) [] (impl_ScanRows_con R5  R8 H9) kc8 rfl rfl trivial) rfl rfl rfl (fun Y10 => ?_)
    refine TO.y (Y.move rfl) rfl rfl rfl ?_
    refine TO.y (Y.extract rfl rfl) rfl rfl rfl ?_
    refine TO.y (Y.extract rfl rfl) rfl rfl rfl ?_
    refine TO.y (Y.assign rfl) rfl rfl rfl ?_
    refine TO.y (Y.assign rfl) rfl rfl rfl ?_
    refine TO.nil ?_
    refine TE.next ?_
    refine TW.seq ?_
    refine TW.region ?_
    refine TO.y (Y.move rfl) rfl rfl rfl ?_
    refine TO.bind fun R11 H12 => ?_
    refine TO.ef (Ef.call (rest := [.own Y10 (lc R8.1)]) [0] (spec_ScanRows_con R5  R11 H12) kc9 rfl rfl trivial) rfl rfl rfl (fun Y13 => ?_)
    refine TO.y (Y.move rfl) rfl rfl rfl ?_
    refine TO.y (Y.extract rfl rfl) rfl rfl rfl ?_
    refine TO.y (Y.extract rfl rfl) rfl rfl rfl ?_
    refine TO.y (Y.assign rfl) rfl rfl rfl ?_
    refine TO.y (Y.assign rfl) rfl rfl rfl ?_
    refine TO.nil ?_
    refine TE.next ?_
    refine TW.seq ?_
    refine TW.seq ?_
    refine TW.joinBX (τ := Bool) (X := Unit) (fun T _ => [(0, V_code0), (3, strV R5), (4, Y10), (5, .int .i64 R8.2), (35, .bool T)]) (fun _ _ => [.own Y10 (lc R8.1)]) ?_ (fun T14 X15 => ?_)
    · refine TW.region ?_
      refine TO.y (Y.move rfl) rfl rfl rfl ?_
      refine TO.y (Y.move rfl) rfl rfl rfl ?_
      refine TO.y (Y.neq rfl rfl) rfl rfl rfl ?_
      refine TO.y (Y.move rfl) rfl rfl rfl ?_
      refine TO.ite (b := !(decide (R8.2 = R11.2))) (fun H16 => ?_) (fun H16 => ?_)
      · refine TO.off (Gd.at 3 false 30 (!(decide (R8.2 = R11.2))) rfl rfl rfl (beq_tf H16)) rfl rfl ?_
        refine TO.off (Gd.at 3 false 30 (!(decide (R8.2 = R11.2))) rfl rfl rfl (beq_tf H16)) rfl rfl ?_
        refine TO.off (Gd.at 3 false 30 (!(decide (R8.2 = R11.2))) rfl rfl rfl (beq_tf H16)) rfl rfl ?_
        refine TO.off (Gd.at 3 false 30 (!(decide (R8.2 = R11.2))) rfl rfl rfl (beq_tf H16)) rfl rfl ?_
        refine TO.y (Y.pick_t H16 rfl rfl) rfl rfl rfl ?_
        refine TO.nil ?_
        exact TE.jb_go () [1] ⟨rfl, rfl, rfl, rfl, rfl, trivial⟩ rfl
      · refine TO.y (Y.move rfl) (Gd.at 3 false 30 (!(decide (R8.2 = R11.2))) rfl rfl rfl (beq_ff H16)) rfl rfl ?_
        refine TO.y (Y.move rfl) (Gd.at 3 false 30 (!(decide (R8.2 = R11.2))) rfl rfl rfl (beq_ff H16)) rfl rfl ?_
        refine TO.bind fun R17 H18 => ?_
        refine TO.ef (Ef.call (rest := [.own Y13 (lc R11.1), .own Y10 (lc R8.1)]) [0, 0] (laws_sameRows_con R8.1 R11.1 Y10 Y13 R17 H18) kc10 rfl rfl ⟨(Can.own 1 rfl), (Can.own 0 rfl), trivial⟩) (Gd.at 3 false 30 (!(decide (R8.2 = R11.2))) rfl rfl rfl (beq_ff H16)) rfl rfl (fun _ => ?_)
        refine TO.y (Y.not rfl) (Gd.at 3 false 30 (!(decide (R8.2 = R11.2))) rfl rfl rfl (beq_ff H16)) rfl rfl ?_
        refine TO.y (Y.pick_f H16 rfl rfl) rfl rfl rfl ?_
        refine TO.nil ?_
        exact TE.jb_go () [1] ⟨rfl, rfl, rfl, rfl, rfl, trivial⟩ rfl
    · refine TE.next ?_
      refine TW.cond rfl (fun H20 => ?_) (fun H20 => ?_)
      · refine TW.seq ?_
        refine TW.region ?_
        refine TO.y (Y.assign rfl) rfl rfl rfl ?_
        refine TO.nil ?_
        refine TE.next ?_
        refine TW.ret ?_
        refine TE.then_ret ?_
        exact TE.leaf fun _ _ hf_ hs_ => ret_any (rs := [.tmp 2]) (vs := [.bool false]) (.inl rfl) rfl ⟨rfl, trivial⟩ hf_ hs_ ⟨(), rfl, hs_.pulls [] rfl⟩
      · refine TW.skip ?_
        refine TE.next ?_
        refine TW.seq ?_
        refine TW.region ?_
        refine TO.y (Y.assign rfl) rfl rfl rfl ?_
        refine TO.nil ?_
        refine TE.next ?_
        refine TW.seq ?_
        refine TW.seq ?_
        refine TW.region ?_
        refine TO.y (Y.assign rfl) rfl rfl rfl ?_
        refine TO.nil ?_
        refine TE.next ?_
        refine TW.joinX (τ := List UInt8) (X := Unit) (fun T _ => [(0, V_code0), (3, strV R5), (4, Y10), (5, .int .i64 R8.2), (8, strV T)]) (fun _ _ => [.own Y10 (lc R8.1)]) ?_ (fun T23 X24 => ?_)
        · refine TW.block ?_
          refine TW.loopX (σ := List UInt8 × Int) (X := Unit) (fun T _ => [(0, V_code0), (3, strV R5), (4, Y10), (5, .int .i64 R8.2), (8, strV T.1), (9, .int .i64 T.2)]) (fun _ _ => [.own Y10 (lc R8.1)]) () [0] ⟨rfl, rfl, rfl, rfl, rfl, rfl, trivial⟩ rfl (fun S21 X22 => ?_)
          refine TW.seq ?_
          refine TW.seq ?_
          refine TW.region ?_
          refine TO.y (Y.move rfl) rfl rfl rfl ?_
          refine TO.y (Y.move rfl) rfl rfl rfl ?_
          refine TO.y (Y.len (l := R8.1) ke25 (Can.own 0 rfl) rfl) rfl rfl rfl ?_
          refine TO.y (Y.lss rfl rfl) rfl rfl rfl ?_
          refine TO.nil ?_
          refine TE.next ?_
          refine TW.cond rfl (fun H25 => ?_) (fun H25 => ?_)
          · refine TW.skip ?_
            refine TE.next ?_
            refine TW.seq ?_
            refine TW.block ?_
            refine TW.region ?_
            refine TO.y (Y.move rfl) rfl rfl rfl ?_
            refine TO.y (Y.move rfl) rfl rfl rfl ?_
            refine TO.y (Y.move rfl) rfl rfl rfl ?_
            refine TO.bind fun E26 H27 => ?_
            refine TO.y (Y.index ke25 (Can.own 0 rfl) H27 rfl rfl) rfl rfl rfl ?_
            refine TO.y (Y.load_el (us := [.int .i64 E26.Tenant, .int .i64 E26.Boot, .int .i64 E26.Seq, strV E26.Text, .bool E26.Synced]) (u := .agg #[.int .i64 E26.Tenant, .int .i64 E26.Boot, .int .i64 E26.Seq, strV E26.Text, .bool E26.Synced]) kk31 rfl (Can.own 0 rfl) (idx_get H27).2.2 rfl rfl rfl rfl rfl) rfl rfl rfl ?_
            refine TO.bind fun R28 H29 => ?_
            refine TO.ef (Ef.call (rest := [.own Y10 (lc R8.1)]) [0] (impl_ShowRow_con E26  R28 H29) kc11 rfl rfl trivial) rfl rfl rfl (fun _ => ?_)
            refine TO.bind fun E31 H32 => ?_
            refine TO.y (Y.cat H32 rfl rfl) rfl rfl rfl ?_
            refine TO.y (Y.assign rfl) rfl rfl rfl ?_
            refine TO.nil ?_
            refine TE.block_normal ?_
            refine TE.next ?_
            refine TW.region ?_
            refine TO.y (Y.move rfl) rfl rfl rfl ?_
            refine TO.y (Y.add rfl rfl) rfl rfl rfl ?_
            refine TO.y (Y.assign rfl) rfl rfl rfl ?_
            refine TO.nil ?_
            exact TE.lp_go () [0] ⟨rfl, rfl, rfl, rfl, rfl, rfl, trivial⟩ rfl
          · refine TW.exit ?_
            refine TE.then_exit ?_
            refine TE.lp_exit ?_
            refine TE.block_exit ?_
            exact TE.jn_go () [0] ⟨rfl, rfl, rfl, rfl, rfl, trivial⟩ rfl
        · refine TE.next ?_
          refine TW.seq ?_
          refine TW.seq ?_
          refine TW.region ?_
          refine TO.y (Y.move rfl) rfl rfl rfl ?_
          refine TO.y (Y.move rfl) rfl rfl rfl ?_
          refine TO.y (Y.move rfl) rfl rfl rfl ?_
          refine TO.bind fun E33 H34 => ?_
          refine TO.y (Y.ssub_to H34 ks9 rfl rfl) rfl rfl rfl ?_
          refine TO.y (Y.sneq rfl rfl) rfl rfl rfl ?_
          refine TO.nil ?_
          refine TE.next ?_
          refine TW.cond rfl (fun H35 => ?_) (fun H35 => ?_)
          · refine TW.seq ?_
            refine TW.region ?_
            refine TO.y (Y.assign rfl) rfl rfl rfl ?_
            refine TO.nil ?_
            refine TE.next ?_
            refine TW.ret ?_
            refine TE.then_ret ?_
            exact TE.leaf fun _ _ hf_ hs_ => ret_any (rs := [.tmp 2]) (vs := [.bool false]) (.inl rfl) rfl ⟨rfl, trivial⟩ hf_ hs_ ⟨(), rfl, hs_.pulls [] rfl⟩
          · refine TW.skip ?_
            refine TE.next ?_
            refine TW.seq ?_
            refine TW.region ?_
            refine TO.y (Y.move rfl) rfl rfl rfl ?_
            refine TO.bind fun R36 H37 => ?_
            refine TO.ef (Ef.call (rest := [.own Y10 (lc R8.1)]) [0] (laws_at_con code (0 : Int) V_code0 R36 H37) kc12 rfl rfl ⟨(Base.can HB_V_code0), trivial⟩) rfl rfl rfl (fun _ => ?_)
            refine TO.y (Y.move rfl) rfl rfl rfl ?_
            refine TO.y (Y.add rfl rfl) rfl rfl rfl ?_
            refine TO.bind fun E39 H40 => ?_
            refine TO.y (Y.rem (nz_ne H40) rfl rfl) rfl rfl rfl ?_
            refine TO.y (Y.assign rfl) rfl rfl rfl ?_
            refine TO.nil ?_
            refine TE.next ?_
            refine TW.seq ?_
            refine TW.region ?_
            refine TO.y (Y.move rfl) rfl rfl rfl ?_
            refine TO.y (Y.move rfl) rfl rfl rfl ?_
            refine TO.bind fun E41 H42 => ?_
            refine TO.y (Y.ssub_to H42 ks9 rfl rfl) rfl rfl rfl ?_
            refine TO.bind fun R43 H44 => ?_
            refine TO.ef (Ef.call (rest := [.own Y10 (lc R8.1)]) [0] (impl_ScanRows_con E41  R43 H44) kc8 rfl rfl trivial) rfl rfl rfl (fun Y45 => ?_)
            refine TO.y (Y.move rfl) rfl rfl rfl ?_
            refine TO.y (Y.extract rfl rfl) rfl rfl rfl ?_
            refine TO.y (Y.extract rfl rfl) rfl rfl rfl ?_
            refine TO.y (Y.assign rfl) rfl rfl rfl ?_
            refine TO.y (Y.assign rfl) rfl rfl rfl ?_
            refine TO.nil ?_
            refine TE.next ?_
            refine TW.seq ?_
            refine TW.joinBX (τ := Bool) (X := Unit) (fun T _ => [(2, .bool T)]) (fun _ _ => []) ?_ (fun T46 X47 => ?_)
            · refine TW.region ?_
              refine TO.y (Y.move rfl) rfl rfl rfl ?_
              refine TO.y (Y.move rfl) rfl rfl rfl ?_
              refine TO.y (Y.leq rfl rfl) rfl rfl rfl ?_
              refine TO.y (Y.move rfl) rfl rfl rfl ?_
              refine TO.ite (b := decide (R43.2 ≤ Int.tmod R36 (IntKind.i64.wrap (R8.2 + (1 : Int))))) (fun H48 => ?_) (fun H48 => ?_)
              · refine TO.y (Y.move rfl) (Gd.at 3 true 69 (decide (R43.2 ≤ Int.tmod R36 (IntKind.i64.wrap (R8.2 + (1 : Int))))) rfl rfl rfl (beq_tt H48)) rfl rfl ?_
                refine TO.y (Y.move rfl) (Gd.at 3 true 69 (decide (R43.2 ≤ Int.tmod R36 (IntKind.i64.wrap (R8.2 + (1 : Int))))) rfl rfl rfl (beq_tt H48)) rfl rfl ?_
                refine TO.y (Y.move rfl) (Gd.at 3 true 69 (decide (R43.2 ≤ Int.tmod R36 (IntKind.i64.wrap (R8.2 + (1 : Int))))) rfl rfl rfl (beq_tt H48)) rfl rfl ?_
                refine TO.y (Y.len (l := R43.1) ke25 (Can.own 0 rfl) rfl) (Gd.at 3 true 69 (decide (R43.2 ≤ Int.tmod R36 (IntKind.i64.wrap (R8.2 + (1 : Int))))) rfl rfl rfl (beq_tt H48)) rfl rfl ?_
                refine TO.bind fun E49 H50 => ?_
                refine TO.y (Y.subs H50 ke25 (Can.own 1 rfl) rfl rfl ⟨_, rfl⟩) (Gd.at 3 true 69 (decide (R43.2 ≤ Int.tmod R36 (IntKind.i64.wrap (R8.2 + (1 : Int))))) rfl rfl rfl (beq_tt H48)) rfl rfl ?_
                refine TO.bind fun R51 H52 => ?_
                refine TO.ef (Ef.call (rest := [.own Y45 (lc R43.1), .own Y10 (lc R8.1)]) [0, 0] (laws_sameRows_con R43.1 E49 Y45 (subV Y10 5 (0 : Int).toNat (((R43.1.length : Nat) : Int).toNat - (0 : Int).toNat)) R51 H52) kc10 rfl rfl ⟨(Can.own 0 rfl), (Can.sub H50 rfl (Can.own 1 rfl)), trivial⟩) (Gd.at 3 true 69 (decide (R43.2 ≤ Int.tmod R36 (IntKind.i64.wrap (R8.2 + (1 : Int))))) rfl rfl rfl (beq_tt H48)) rfl rfl (fun _ => ?_)
                refine TO.y (Y.pick_t H48 rfl rfl) rfl rfl rfl ?_
                refine TO.y (Y.move rfl) rfl rfl rfl ?_
                refine TO.ite (b := R51) (fun H54 => ?_) (fun H54 => ?_)
                · refine TO.y (Y.build (cells := [.int .i64 (1 : Int), .int .i64 (0 : Int), .int .i64 (0 : Int), strV ([]), .bool false]) [(0, [.int .i64 (1 : Int)])] kp31 kz31 ⟨rfl, ⟨_, rfl, (Cel.plain rfl rfl)⟩, trivial⟩ rfl) (Gd.at 11 true 77 R51 rfl rfl rfl (beq_tt H54)) rfl rfl ?_
                  refine TO.bind fun R55 H56 => ?_
                  refine TO.ef (Ef.call (rest := [.own Y45 (lc R43.1), .own Y10 (lc R8.1)]) [0, 0] (impl_ShowRow_con ({ Tenant := (1 : Int), Boot := (0 : Int), Seq := (0 : Int), Text := [], Synced := false : LogRow })  R55 H56) kc11 rfl rfl trivial) (Gd.at 11 true 77 R51 rfl rfl rfl (beq_tt H54)) rfl rfl (fun _ => ?_)
                  refine TO.y (Y.sneq rfl rfl) (Gd.at 11 true 77 R51 rfl rfl rfl (beq_tt H54)) rfl rfl ?_
                  refine TO.y (Y.pick_t H54 rfl rfl) rfl rfl rfl ?_
                  refine TO.y (Y.assign rfl) rfl rfl rfl ?_
                  refine TO.nil ?_
                  exact TE.jb_go () [] ⟨rfl, trivial⟩ rfl
                · refine TO.off (Gd.at 11 true 77 R51 rfl rfl rfl (beq_ft H54)) rfl rfl ?_
                  refine TO.off (Gd.at 11 true 77 R51 rfl rfl rfl (beq_ft H54)) rfl rfl ?_
                  refine TO.off (Gd.at 11 true 77 R51 rfl rfl rfl (beq_ft H54)) rfl rfl ?_
                  refine TO.y (Y.pick_f H54 rfl rfl) rfl rfl rfl ?_
                  refine TO.y (Y.assign rfl) rfl rfl rfl ?_
                  refine TO.nil ?_
                  exact TE.jb_go () [] ⟨rfl, trivial⟩ rfl
              · refine TO.off (Gd.at 3 true 69 (decide (R43.2 ≤ Int.tmod R36 (IntKind.i64.wrap (R8.2 + (1 : Int))))) rfl rfl rfl (beq_ft H48)) rfl rfl ?_
                refine TO.off (Gd.at 3 true 69 (decide (R43.2 ≤ Int.tmod R36 (IntKind.i64.wrap (R8.2 + (1 : Int))))) rfl rfl rfl (beq_ft H48)) rfl rfl ?_
                refine TO.off (Gd.at 3 true 69 (decide (R43.2 ≤ Int.tmod R36 (IntKind.i64.wrap (R8.2 + (1 : Int))))) rfl rfl rfl (beq_ft H48)) rfl rfl ?_
                refine TO.off (Gd.at 3 true 69 (decide (R43.2 ≤ Int.tmod R36 (IntKind.i64.wrap (R8.2 + (1 : Int))))) rfl rfl rfl (beq_ft H48)) rfl rfl ?_
                refine TO.off (Gd.at 3 true 69 (decide (R43.2 ≤ Int.tmod R36 (IntKind.i64.wrap (R8.2 + (1 : Int))))) rfl rfl rfl (beq_ft H48)) rfl rfl ?_
                refine TO.off (Gd.at 3 true 69 (decide (R43.2 ≤ Int.tmod R36 (IntKind.i64.wrap (R8.2 + (1 : Int))))) rfl rfl rfl (beq_ft H48)) rfl rfl ?_
                refine TO.y (Y.pick_f H48 rfl rfl) rfl rfl rfl ?_
                refine TO.y (Y.move rfl) rfl rfl rfl ?_
                refine TO.off (Gd.at 11 true 77 false rfl rfl rfl rfl) rfl rfl ?_
                refine TO.off (Gd.at 11 true 77 false rfl rfl rfl rfl) rfl rfl ?_
                refine TO.off (Gd.at 11 true 77 false rfl rfl rfl rfl) rfl rfl ?_
                refine TO.y (Y.pick_f rfl rfl rfl) rfl rfl rfl ?_
                refine TO.y (Y.assign rfl) rfl rfl rfl ?_
                refine TO.nil ?_
                exact TE.jb_go () [] ⟨rfl, trivial⟩ rfl
            · refine TE.next ?_
              refine TW.ret ?_
              exact TE.leaf fun _ _ hf_ hs_ => ret_any (rs := [.tmp 2]) (vs := [.bool T46]) (.inl rfl) rfl ⟨rfl, trivial⟩ hf_ hs_ ⟨(), rfl, hs_.pulls [] rfl⟩

end Go.Proofs.Ytldbnjgpcilgiaa
