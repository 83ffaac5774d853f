/-
  The functions that a law reaches, each as a pure function, with the proof that the program computes it, and the step from a pure law to the given statement. Conditions: none.
-/
import Derived.Test.YtiabgnjihoknnaaZ3
set_option linter.unusedVariables false
set_option maxRecDepth 100000
set_option maxHeartbeats 4000000
namespace Go.Proofs.Ytiabgnjihoknnaa
open Go Sl

/-- loop.example/g00950/impl.fileOk -/
noncomputable def impl_fileOk (f : File) : Option Bool :=
  ((impl_inRange f.No (1 : Int) (1000000 : Int)).bind fun R4 =>
  if R4 = true then ((impl_inRange f.Level (0 : Int) (2 : Int)).bind fun R8 =>
  if R8 = true then ((impl_isKey f.Lo).bind fun R12 =>
  if R12 = true then ((impl_isKey f.Hi).bind fun R16 =>
  if R16 = true then (some (sLt f.Lo f.Hi || decide (f.Lo = f.Hi)))
  else (some false))
  else (some false))
  else (some false))
  else (some false)).bind (fun (T2 : Bool) =>
  some T2)

theorem impl_fileOk_con (f : File)  (r : Bool) (hm : impl_fileOk f = some r) :
    Con Try.prog 75 [.agg #[.int .i64 f.No, .int .i64 f.Level, strV f.Lo, strV f.Hi]] [] [] (fun _ : Unit => .bool r) (fun _ => []) := by
  refine Con.intro (args := [.agg #[.int .i64 f.No, .int .i64 f.Level, strV f.Lo, strV f.Hi]]) (n := 28) (val := fun r (_ : Unit) => .bool r) (post := fun _ _ => []) (m := impl_fileOk f) Try.func75 rfl rfl rfl hm ?_
  intro w S _
  unfold impl_fileOk
  refine TW.seq ?_
  refine TW.region ?_
  refine TO.ef (Ef.box rfl (Cel.plain rfl rfl)) rfl rfl rfl (fun B1 => ?_)
  refine TO.y (Y.assign rfl) rfl rfl rfl ?_
  refine TO.nil ?_
  refine TE.next ?_
  refine TW.seq ?_
  refine TW.joinBX (τ := Bool) (X := Unit) (fun T _ => [(2, .bool T)]) (fun _ _ => []) ?_ (fun T2 X3 => ?_)
  · refine TW.region ?_
    refine TO.y (Y.field_box kf43_0 rfl rfl) rfl rfl rfl ?_
    refine TO.y (Y.load_box (v := .int .i64 f.No) 0 kk3 rfl rfl rfl) rfl rfl rfl ?_
    refine TO.bind fun R4 H5 => ?_
    refine TO.ef (Ef.call (rest := [.box B1 43 [.int .i64 f.No, .int .i64 f.Level, strV f.Lo, strV f.Hi]]) [0] (impl_inRange_con f.No (1 : Int) (1000000 : Int)  R4 H5) kc59 rfl rfl trivial) rfl rfl rfl (fun _ => ?_)
    refine TO.y (Y.move rfl) rfl rfl rfl ?_
    refine TO.ite (b := R4) (fun H7 => ?_) (fun H7 => ?_)
    · refine TO.y (Y.field_box kf43_1 rfl rfl) (Gd.at 3 true 6 R4 rfl rfl rfl (beq_tt H7)) rfl rfl ?_
      refine TO.y (Y.load_box (v := .int .i64 f.Level) 0 kk3 rfl rfl rfl) (Gd.at 3 true 6 R4 rfl rfl rfl (beq_tt H7)) rfl rfl ?_
      refine TO.bind fun R8 H9 => ?_
      refine TO.ef (Ef.call (rest := [.box B1 43 [.int .i64 f.No, .int .i64 f.Level, strV f.Lo, strV f.Hi]]) [0] (impl_inRange_con f.Level (0 : Int) (2 : Int)  R8 H9) kc59 rfl rfl trivial) (Gd.at 3 true 6 R4 rfl rfl rfl (beq_tt H7)) rfl rfl (fun _ => ?_)
      refine TO.y (Y.pick_t H7 rfl rfl) rfl rfl rfl ?_
      refine TO.y (Y.move rfl) rfl rfl rfl ?_
      refine TO.ite (b := R8) (fun H11 => ?_) (fun H11 => ?_)
      · refine TO.y (Y.field_box kf43_2 rfl rfl) (Gd.at 8 true 11 R8 rfl rfl rfl (beq_tt H11)) rfl rfl ?_
        refine TO.y (Y.load_box (v := strV f.Lo) 0 kk9 rfl rfl rfl) (Gd.at 8 true 11 R8 rfl rfl rfl (beq_tt H11)) rfl rfl ?_
        refine TO.bind fun R12 H13 => ?_
        refine TO.ef (Ef.call (rest := [.box B1 43 [.int .i64 f.No, .int .i64 f.Level, strV f.Lo, strV f.Hi]]) [0] (impl_isKey_con f.Lo  R12 H13) kc86 rfl rfl trivial) (Gd.at 8 true 11 R8 rfl rfl rfl (beq_tt H11)) rfl rfl (fun _ => ?_)
        refine TO.y (Y.pick_t H11 rfl rfl) rfl rfl rfl ?_
        refine TO.y (Y.move rfl) rfl rfl rfl ?_
        refine TO.ite (b := R12) (fun H15 => ?_) (fun H15 => ?_)
        · refine TO.y (Y.field_box kf43_3 rfl rfl) (Gd.at 13 true 16 R12 rfl rfl rfl (beq_tt H15)) rfl rfl ?_
          refine TO.y (Y.load_box (v := strV f.Hi) 0 kk9 rfl rfl rfl) (Gd.at 13 true 16 R12 rfl rfl rfl (beq_tt H15)) rfl rfl ?_
          refine TO.bind fun R16 H17 => ?_
          refine TO.ef (Ef.call (rest := [.box B1 43 [.int .i64 f.No, .int .i64 f.Level, strV f.Lo, strV f.Hi]]) [0] (impl_isKey_con f.Hi  R16 H17) kc86 rfl rfl trivial) (Gd.at 13 true 16 R12 rfl rfl rfl (beq_tt H15)) rfl rfl (fun _ => ?_)
          refine TO.y (Y.pick_t H15 rfl rfl) rfl rfl rfl ?_
          refine TO.y (Y.move rfl) rfl rfl rfl ?_
          refine TO.ite (b := R16) (fun H19 => ?_) (fun H19 => ?_)
          · refine TO.y (Y.field_box kf43_2 rfl rfl) (Gd.at 18 true 21 R16 rfl rfl rfl (beq_tt H19)) rfl rfl ?_
            refine TO.y (Y.load_box (v := strV f.Lo) 0 kk9 rfl rfl rfl) (Gd.at 18 true 21 R16 rfl rfl rfl (beq_tt H19)) rfl rfl ?_
            refine TO.y (Y.field_box kf43_3 rfl rfl) (Gd.at 18 true 21 R16 rfl rfl rfl (beq_tt H19)) rfl rfl ?_
            refine TO.y (Y.load_box (v := strV f.Hi) 0 kk9 rfl rfl rfl) (Gd.at 18 true 21 R16 rfl rfl rfl (beq_tt H19)) rfl rfl ?_
            refine TO.y (Y.sleq rfl rfl) (Gd.at 18 true 21 R16 rfl rfl rfl (beq_tt H19)) rfl rfl ?_
            refine TO.y (Y.pick_t H19 rfl rfl) rfl rfl rfl ?_
            refine TO.y (Y.assign rfl) rfl rfl rfl ?_
            refine TO.nil ?_
            exact TE.jb_go () [] ⟨rfl, trivial⟩ rfl
          · refine TO.off (Gd.at 18 true 21 R16 rfl rfl rfl (beq_ft H19)) rfl rfl ?_
            refine TO.off (Gd.at 18 true 21 R16 rfl rfl rfl (beq_ft H19)) rfl rfl ?_
            refine TO.off (Gd.at 18 true 21 R16 rfl rfl rfl (beq_ft H19)) rfl rfl ?_
            refine TO.off (Gd.at 18 true 21 R16 rfl rfl rfl (beq_ft H19)) rfl rfl ?_
            refine TO.off (Gd.at 18 true 21 R16 rfl rfl rfl (beq_ft H19)) rfl rfl ?_
            refine TO.y (Y.pick_f H19 rfl rfl) rfl rfl rfl ?_
            refine TO.y (Y.assign rfl) rfl rfl rfl ?_
            refine TO.nil ?_
            exact TE.jb_go () [] ⟨rfl, trivial⟩ rfl
        · refine TO.off (Gd.at 13 true 16 R12 rfl rfl rfl (beq_ft H15)) rfl rfl ?_
          refine TO.off (Gd.at 13 true 16 R12 rfl rfl rfl (beq_ft H15)) rfl rfl ?_
          refine TO.off (Gd.at 13 true 16 R12 rfl rfl rfl (beq_ft H15)) rfl rfl ?_
          refine TO.y (Y.pick_f H15 rfl rfl) rfl rfl rfl ?_
          refine TO.y (Y.move rfl) rfl rfl rfl ?_
          refine TO.off (Gd.at 18 true 21 false rfl rfl rfl rfl) rfl rfl ?_
          refine TO.off (Gd.at 18 true 21 false rfl rfl rfl rfl) rfl rfl ?_
          refine TO.off (Gd.at 18 true 21 false rfl rfl rfl rfl) rfl rfl ?_
          refine TO.off (Gd.at 18 true 21 false rfl rfl rfl rfl) rfl rfl ?_
          refine TO.off (Gd.at 18 true 21 false rfl rfl rfl rfl) rfl rfl ?_
          refine TO.y (Y.pick_f rfl rfl rfl) rfl rfl rfl ?_
          refine TO.y (Y.assign rfl) rfl rfl rfl ?_
          refine TO.nil ?_
          exact TE.jb_go () [] ⟨rfl, trivial⟩ rfl
      · refine TO.off (Gd.at 8 true 11 R8 rfl rfl rfl (beq_ft H11)) rfl rfl ?_
        refine TO.off (Gd.at 8 true 11 R8 rfl rfl rfl (beq_ft H11)) rfl rfl ?_
        refine TO.off (Gd.at 8 true 11 R8 rfl rfl rfl (beq_ft H11)) rfl rfl ?_
        refine TO.y (Y.pick_f H11 rfl rfl) rfl rfl rfl ?_
        refine TO.y (Y.move rfl) rfl rfl rfl ?_
        refine TO.off (Gd.at 13 true 16 false rfl rfl rfl rfl) rfl rfl ?_
        refine TO.off (Gd.at 13 true 16 false rfl rfl rfl rfl) rfl rfl ?_
        refine TO.off (Gd.at 13 true 16 false rfl rfl rfl rfl) rfl rfl ?_
        refine TO.y (Y.pick_f rfl rfl rfl) rfl rfl rfl ?_
        refine TO.y (Y.move rfl) rfl rfl rfl ?_
        refine TO.off (Gd.at 18 true 21 false rfl rfl rfl rfl) rfl rfl ?_
        refine TO.off (Gd.at 18 true 21 false rfl rfl rfl rfl) rfl rfl ?_
        refine TO.off (Gd.at 18 true 21 false rfl rfl rfl rfl) rfl rfl ?_
        refine TO.off (Gd.at 18 true 21 false rfl rfl rfl rfl) rfl rfl ?_
        refine TO.off (Gd.at 18 true 21 false rfl rfl rfl rfl) rfl rfl ?_
        refine TO.y (Y.pick_f rfl rfl rfl) rfl rfl rfl ?_
        refine TO.y (Y.assign rfl) rfl rfl rfl ?_
        refine TO.nil ?_
        exact TE.jb_go () [] ⟨rfl, trivial⟩ rfl
    · refine TO.off (Gd.at 3 true 6 R4 rfl rfl rfl (beq_ft H7)) rfl rfl ?_
      refine TO.off (Gd.at 3 true 6 R4 rfl rfl rfl (beq_ft H7)) rfl rfl ?_
      refine TO.off (Gd.at 3 true 6 R4 rfl rfl rfl (beq_ft H7)) rfl rfl ?_
      refine TO.y (Y.pick_f H7 rfl rfl) rfl rfl rfl ?_
      refine TO.y (Y.move rfl) rfl rfl rfl ?_
      refine TO.off (Gd.at 8 true 11 false rfl rfl rfl rfl) rfl rfl ?_
      refine TO.off (Gd.at 8 true 11 false rfl rfl rfl rfl) rfl rfl ?_
      refine TO.off (Gd.at 8 true 11 false rfl rfl rfl rfl) rfl rfl ?_
      refine TO.y (Y.pick_f rfl rfl rfl) rfl rfl rfl ?_
      refine TO.y (Y.move rfl) rfl rfl rfl ?_
      refine TO.off (Gd.at 13 true 16 false rfl rfl rfl rfl) rfl rfl ?_
      refine TO.off (Gd.at 13 true 16 false rfl rfl rfl rfl) rfl rfl ?_
      refine TO.off (Gd.at 13 true 16 false rfl rfl rfl rfl) rfl rfl ?_
      refine TO.y (Y.pick_f rfl rfl rfl) rfl rfl rfl ?_
      refine TO.y (Y.move rfl) rfl rfl rfl ?_
      refine TO.off (Gd.at 18 true 21 false rfl rfl rfl rfl) rfl rfl ?_
      refine TO.off (Gd.at 18 true 21 false rfl rfl rfl rfl) rfl rfl ?_
      refine TO.off (Gd.at 18 true 21 false rfl rfl rfl rfl) rfl rfl ?_
      refine TO.off (Gd.at 18 true 21 false rfl rfl rfl rfl) rfl rfl ?_
      refine TO.off (Gd.at 18 true 21 false rfl rfl rfl rfl) rfl rfl ?_
      refine TO.y (Y.pick_f rfl rfl rfl) rfl rfl rfl ?_
      refine TO.y (Y.assign rfl) rfl rfl rfl ?_
      refine TO.nil ?_
      exact TE.jb_go () [] ⟨rfl, trivial⟩ rfl
  · refine TE.next ?_
    refine TW.ret ?_
    exact TE.leaf fun _ _ hf_ hs_ => ret_any (rs := [.tmp 2]) (vs := [.bool T2]) (.inl rfl) rfl ⟨rfl, trivial⟩ hf_ hs_ ⟨(), rfl, hs_.pulls [] rfl⟩

/-- loop.example/g00950/impl.fileAt$1 -/
noncomputable def impl_fileAt_1 (f : File) (c0_ : Int) : Option Bool :=
  some (decide (f.No = c0_))

theorem impl_fileAt_1_con (f : File) (c0_ : Int) (B_c0_ : Nat) (r : Bool) (hm : impl_fileAt_1 f c0_ = some r) :
    Con Try.prog 85 [.agg #[.int .i64 f.No, .int .i64 f.Level, strV f.Lo, strV f.Hi], .pointer (some ⟨B_c0_, 0, none⟩)] [.box B_c0_ 3 [.int .i64 c0_]] [] (fun _ : Unit => .bool r) (fun _ => [.box B_c0_ 3 [.int .i64 c0_]]) := by
  refine Con.intro (args := [.agg #[.int .i64 f.No, .int .i64 f.Level, strV f.Lo, strV f.Hi], .pointer (some ⟨B_c0_, 0, none⟩)]) (n := 8) (val := fun r (_ : Unit) => .bool r) (post := fun _ _ => [.box B_c0_ 3 [.int .i64 c0_]]) (m := impl_fileAt_1 f c0_) Try.func85 rfl rfl rfl hm ?_
  intro w S _
  unfold impl_fileAt_1
  refine TW.seq ?_
  refine TW.region ?_
  refine TO.ef (Ef.box rfl (Cel.plain rfl rfl)) rfl rfl rfl (fun B1 => ?_)
  refine TO.y (Y.assign rfl) rfl rfl rfl ?_
  refine TO.nil ?_
  refine TE.next ?_
  refine TW.seq ?_
  refine TW.region ?_
  refine TO.y (Y.field_box kf43_0 rfl rfl) rfl rfl rfl ?_
  refine TO.y (Y.load_box (v := .int .i64 f.No) 0 kk3 rfl rfl rfl) rfl rfl rfl ?_
  refine TO.y (Y.load_box (v := .int .i64 c0_) 1 kk3 rfl rfl rfl) rfl rfl rfl ?_
  refine TO.y (Y.eql rfl rfl) rfl rfl rfl ?_
  refine TO.y (Y.assign rfl) rfl rfl rfl ?_
  refine TO.nil ?_
  refine TE.next ?_
  refine TW.ret ?_
  exact TE.leaf fun _ _ hf_ hs_ => ret_any (rs := [.tmp 3]) (vs := [.bool (decide (f.No = c0_))]) (.inl rfl) rfl ⟨rfl, trivial⟩ hf_ hs_ ⟨(), rfl, hs_.pulls [1] rfl⟩

/-- slices.IndexFunc[[]loop.example/g00950/impl.File,loop.example/g00950/impl.File] -/
noncomputable def slices_IndexFunc_68810_at_impl_fileAt_1 (s : List File) (f_c0 : Int) : Option Int :=
  bindC (loopO (fun (S1 : Int) => if (decide (S1 < ((s.length : Nat) : Int))) = true then ((idx s S1).bind fun E6 =>
  (impl_fileAt_1 E6 f_c0).bind fun R8 =>
  if R8 = true then (some (.done (.done S1)))
  else (some (.go (IntKind.i64.wrap (S1 + (1 : Int))))))
  else (some (.done (.go ()))))
  (0 : Int))
  (fun (T3 : Unit) => some (-1 : Int))

theorem slices_IndexFunc_68810_at_impl_fileAt_1_con (s : List File) (f_c0 : Int) (V_s0 : Value) (B_f_c0 : Nat) (r : Int) (hm : slices_IndexFunc_68810_at_impl_fileAt_1 s f_c0 = some r) :
    Con Try.prog 84 [V_s0, .func (.func 85) #[] #[.pointer (some ⟨B_f_c0, 0, none⟩)]] [.box B_f_c0 3 [.int .i64 f_c0]] [(V_s0, lc s)] (fun _ : Unit => .int .i64 r) (fun _ => [.box B_f_c0 3 [.int .i64 f_c0]]) := by
  refine Con.intro (args := [V_s0, .func (.func 85) #[] #[.pointer (some ⟨B_f_c0, 0, none⟩)]]) (n := 19) (val := fun r (_ : Unit) => .int .i64 r) (post := fun _ _ => [.box B_f_c0 3 [.int .i64 f_c0]]) (m := slices_IndexFunc_68810_at_impl_fileAt_1 s f_c0) Try.func84 rfl rfl rfl hm ?_
  intro w S hrd
  have HB_V_s0 := hrd _ (.head _)
  clear hrd
  unfold slices_IndexFunc_68810_at_impl_fileAt_1
  refine TW.seq ?_
  refine TW.region ?_
  refine TO.y (Y.assign rfl) rfl rfl rfl ?_
  refine TO.nil ?_
  refine TE.next ?_
  refine TW.seq ?_
  refine TW.seq ?_
  refine TW.region ?_
  refine TO.y (Y.move rfl) rfl rfl rfl ?_
  refine TO.y (Y.len (l := s) ke26 (Base.can HB_V_s0) rfl) rfl rfl rfl ?_
  refine TO.y (Y.move rfl) rfl rfl rfl ?_
  refine TO.nil ?_
  refine TE.next ?_
  refine TW.joinX (τ := Unit) (X := Unit) (fun _ _ => []) (fun _ _ => [.box B_f_c0 3 [.int .i64 f_c0]]) ?_ (fun T3 X4 => ?_)
  · refine TW.block ?_
    refine TW.loopX (σ := Int) (X := Unit) (fun T _ => [(0, V_s0), (1, .func (.func 85) #[] #[.pointer (some ⟨B_f_c0, 0, none⟩)]), (7, .int .i64 ((s.length : Nat) : Int)), (8, .int .i64 T)]) (fun _ _ => [.box B_f_c0 3 [.int .i64 f_c0]]) () [0] ⟨rfl, rfl, rfl, rfl, trivial⟩ rfl (fun S1 X2 => ?_)
    refine TW.seq ?_
    refine TW.region ?_
    refine TO.y (Y.lss rfl rfl) rfl rfl rfl ?_
    refine TO.nil ?_
    refine TE.next ?_
    refine TW.seq ?_
    refine TW.cond rfl (fun H5 => ?_) (fun H5 => ?_)
    · refine TW.skip ?_
      refine TE.next ?_
      refine TW.seq ?_
      refine TW.block ?_
      refine TW.seq ?_
      refine TW.region ?_
      refine TO.y (Y.move rfl) rfl rfl rfl ?_
      refine TO.y (Y.assign rfl) rfl rfl rfl ?_
      refine TO.nil ?_
      refine TE.next ?_
      refine TW.seq ?_
      refine TW.region ?_
      refine TO.y (Y.move rfl) rfl rfl rfl ?_
      refine TO.y (Y.move rfl) rfl rfl rfl ?_
      refine TO.y (Y.move rfl) rfl rfl rfl ?_
      refine TO.bind fun E6 H7 => ?_
      refine TO.y (Y.index ke26 (Base.can HB_V_s0) H7 rfl rfl) rfl rfl rfl ?_
      refine TO.y (Y.load_el (us := [.int .i64 E6.No, .int .i64 E6.Level, strV E6.Lo, strV E6.Hi]) (u := .agg #[.int .i64 E6.No, .int .i64 E6.Level, strV E6.Lo, strV E6.Hi]) kk43 rfl (Base.can HB_V_s0) (idx_get H7).2.2 rfl rfl rfl rfl rfl) rfl rfl rfl ?_
      refine TO.bind fun R8 H9 => ?_
      refine TO.ef (Ef.callv (rest := []) [0] (impl_fileAt_1_con E6 f_c0 B_f_c0 R8 H9) kc85 rfl rfl rfl rfl trivial) rfl rfl rfl (fun _ => ?_)
      refine TO.nil ?_
      refine TE.next ?_
      refine TW.cond rfl (fun H11 => ?_) (fun H11 => ?_)
      · refine TW.seq ?_
        refine TW.region ?_
        refine TO.y (Y.move rfl) rfl rfl rfl ?_
        refine TO.y (Y.assign rfl) rfl rfl rfl ?_
        refine TO.nil ?_
        refine TE.next ?_
        refine TW.ret ?_
        refine TE.block_ret ?_
        refine TE.then_ret ?_
        refine TE.lp_ret ?_
        refine TE.block_ret ?_
        refine TE.jn_done ?_
        refine TE.then_ret ?_
        exact TE.leaf fun _ _ hf_ hs_ => ret_any (rs := [.tmp 4]) (vs := [.int .i64 S1]) (.inl rfl) rfl ⟨rfl, trivial⟩ hf_ hs_ ⟨(), rfl, hs_.pulls [0] rfl⟩
      · refine TW.skip ?_
        refine TE.block_normal ?_
        refine TE.next ?_
        refine TW.region ?_
        refine TO.y (Y.add rfl rfl) rfl rfl rfl ?_
        refine TO.y (Y.move rfl) rfl rfl rfl ?_
        refine TO.nil ?_
        exact TE.lp_go () [0] ⟨rfl, rfl, rfl, rfl, trivial⟩ rfl
    · refine TW.exit ?_
      refine TE.then_exit ?_
      refine TE.lp_exit ?_
      refine TE.block_exit ?_
      exact TE.jn_go () [0] trivial rfl
  · refine TE.next ?_
    refine TW.seq ?_
    refine TW.region ?_
    refine TO.y (Y.assign rfl) rfl rfl rfl ?_
    refine TO.nil ?_
    refine TE.next ?_
    refine TW.ret ?_
    exact TE.leaf fun _ _ hf_ hs_ => ret_any (rs := [.tmp 4]) (vs := [.int .i64 (-1 : Int)]) (.inl rfl) rfl ⟨rfl, trivial⟩ hf_ hs_ ⟨(), rfl, hs_.pulls [0] rfl⟩

/-- loop.example/g00950/impl.fileAt -/
noncomputable def impl_fileAt (l : List File) (no : Int) : Option Int :=
  (slices_IndexFunc_68810_at_impl_fileAt_1 l no).bind fun R2 =>
  some R2

theorem impl_fileAt_con (l : List File) (no : Int) (V_l0 : Value) (r : Int) (hm : impl_fileAt l no = some r) :
    Con Try.prog 60 [V_l0, .int .i64 no] [] [(V_l0, lc l)] (fun _ : Unit => .int .i64 r) (fun _ => []) := by
  refine Con.intro (args := [V_l0, .int .i64 no]) (n := 8) (val := fun r (_ : Unit) => .int .i64 r) (post := fun _ _ => []) (m := impl_fileAt l no) Try.func60 rfl rfl rfl hm ?_
  intro w S hrd
  have HB_V_l0 := hrd _ (.head _)
  clear hrd
  unfold impl_fileAt
  refine TW.seq ?_
  refine TW.region ?_
  refine TO.ef (Ef.box rfl (Cel.plain rfl rfl)) rfl rfl rfl (fun B1 => ?_)
  refine TO.y (Y.assign rfl) rfl rfl rfl ?_
  refine TO.nil ?_
  refine TE.next ?_
  refine TW.seq ?_
  refine TW.region ?_
  refine TO.y (Y.move rfl) rfl rfl rfl ?_
  refine TO.y (Y.makeFunc rfl) rfl rfl rfl ?_
  refine TO.bind fun R2 H3 => ?_
  refine TO.ef (Ef.call (rest := []) [0] (slices_IndexFunc_68810_at_impl_fileAt_1_con l no V_l0 B1 R2 H3) kc84 rfl rfl ⟨(Base.can HB_V_l0), trivial⟩) rfl rfl rfl (fun _ => ?_)
  refine TO.y (Y.assign rfl) rfl rfl rfl ?_
  refine TO.nil ?_
  refine TE.next ?_
  refine TW.ret ?_
  exact TE.leaf fun _ _ hf_ hs_ => ret_any (rs := [.tmp 4]) (vs := [.int .i64 R2]) (.inl rfl) rfl ⟨rfl, trivial⟩ hf_ hs_ ⟨(), rfl, hs_.pulls [] rfl⟩

/-- cmp.isNaN[int] -/
noncomputable def cmp_isNaN_26527 (x : Int) : Option Bool :=
  some (!(decide (x = x)))

theorem cmp_isNaN_26527_con (x : Int)  (r : Bool) (hm : cmp_isNaN_26527 x = some r) :
    Con Try.prog 88 [.int .i64 x] [] [] (fun _ : Unit => .bool r) (fun _ => []) := by
  refine Con.intro (args := [.int .i64 x]) (n := 6) (val := fun r (_ : Unit) => .bool r) (post := fun _ _ => []) (m := cmp_isNaN_26527 x) Try.func88 rfl rfl rfl hm ?_
  intro w S _
  unfold cmp_isNaN_26527
  refine TW.seq ?_
  refine TW.region ?_
  refine TO.y (Y.assign rfl) rfl rfl rfl ?_
  refine TO.nil ?_
  refine TE.next ?_
  refine TW.seq ?_
  refine TW.region ?_
  refine TO.y (Y.move rfl) rfl rfl rfl ?_
  refine TO.y (Y.move rfl) rfl rfl rfl ?_
  refine TO.y (Y.neq rfl rfl) rfl rfl rfl ?_
  refine TO.y (Y.assign rfl) rfl rfl rfl ?_
  refine TO.nil ?_
  refine TE.next ?_
  refine TW.ret ?_
  exact TE.leaf fun _ _ hf_ hs_ => ret_any (rs := [.tmp 2]) (vs := [.bool (!(decide (x = x)))]) (.inl rfl) rfl ⟨rfl, trivial⟩ hf_ hs_ ⟨(), rfl, hs_.pulls [] rfl⟩

/-- cmp.Compare[int] -/
noncomputable def cmp_Compare_26527 (x : Int) (y : Int) : Option Int :=
  (cmp_isNaN_26527 x).bind fun R1 =>
  (cmp_isNaN_26527 y).bind fun R4 =>
  if R1 = true then (if R4 = true then (some (0 : Int))
  else (some (-1 : Int)))
  else (if R4 = true then (some (1 : Int))
  else (if (decide (x < y)) = true then (some (-1 : Int))
  else (if (decide (x > y)) = true then (some (1 : Int))
  else (some (0 : Int)))))

theorem cmp_Compare_26527_con (x : Int) (y : Int)  (r : Int) (hm : cmp_Compare_26527 x y = some r) :
    Con Try.prog 80 [.int .i64 x, .int .i64 y] [] [] (fun _ : Unit => .int .i64 r) (fun _ => []) := by
  refine Con.intro (args := [.int .i64 x, .int .i64 y]) (n := 20) (val := fun r (_ : Unit) => .int .i64 r) (post := fun _ _ => []) (m := cmp_Compare_26527 x y) Try.func80 rfl rfl rfl hm ?_
  intro w S _
  unfold cmp_Compare_26527
  refine TW.seq ?_
  refine TW.region ?_
  refine TO.y (Y.assign rfl) rfl rfl rfl ?_
  refine TO.nil ?_
  refine TE.next ?_
  refine TW.seq ?_
  refine TW.region ?_
  refine TO.y (Y.move rfl) rfl rfl rfl ?_
  refine TO.bind fun R1 H2 => ?_
  refine TO.ef (Ef.call (rest := []) [] (cmp_isNaN_26527_con x  R1 H2) kc88 rfl rfl trivial) rfl rfl rfl (fun _ => ?_)
  refine TO.y (Y.assign rfl) rfl rfl rfl ?_
  refine TO.nil ?_
  refine TE.next ?_
  refine TW.seq ?_
  refine TW.region ?_
  refine TO.y (Y.move rfl) rfl rfl rfl ?_
  refine TO.bind fun R4 H5 => ?_
  refine TO.ef (Ef.call (rest := []) [] (cmp_isNaN_26527_con y  R4 H5) kc88 rfl rfl trivial) rfl rfl rfl (fun _ => ?_)
  refine TO.y (Y.assign rfl) rfl rfl rfl ?_
  refine TO.nil ?_
  refine TE.next ?_
  refine TW.seq ?_
  refine TW.seq ?_
  refine TW.region ?_
  refine TO.y (Y.move rfl) rfl rfl rfl ?_
  refine TO.nil ?_
  refine TE.next ?_
  refine TW.cond rfl (fun H7 => ?_) (fun H7 => ?_)
  · refine TW.seq ?_
    refine TW.seq ?_
    refine TW.region ?_
    refine TO.y (Y.move rfl) rfl rfl rfl ?_
    refine TO.nil ?_
    refine TE.next ?_
    refine TW.cond rfl (fun H8 => ?_) (fun H8 => ?_)
    · refine TW.seq ?_
      refine TW.region ?_
      refine TO.y (Y.assign rfl) rfl rfl rfl ?_
      refine TO.nil ?_
      refine TE.next ?_
      refine TW.ret ?_
      refine TE.then_ret ?_
      refine TE.then_ret ?_
      exact TE.leaf fun _ _ hf_ hs_ => ret_any (rs := [.tmp 4]) (vs := [.int .i64 (0 : Int)]) (.inl rfl) rfl ⟨rfl, trivial⟩ hf_ hs_ ⟨(), rfl, hs_.pulls [] rfl⟩
    · refine TW.skip ?_
      refine TE.next ?_
      refine TW.seq ?_
      refine TW.region ?_
      refine TO.y (Y.assign rfl) rfl rfl rfl ?_
      refine TO.nil ?_
      refine TE.next ?_
      refine TW.ret ?_
      refine TE.then_ret ?_
      exact TE.leaf fun _ _ hf_ hs_ => ret_any (rs := [.tmp 4]) (vs := [.int .i64 (-1 : Int)]) (.inl rfl) rfl ⟨rfl, trivial⟩ hf_ hs_ ⟨(), rfl, hs_.pulls [] rfl⟩
  · refine TW.skip ?_
    refine TE.next ?_
    refine TW.seq ?_
    refine TW.seq ?_
    refine TW.region ?_
    refine TO.y (Y.move rfl) rfl rfl rfl ?_
    refine TO.nil ?_
    refine TE.next ?_
    refine TW.cond rfl (fun H9 => ?_) (fun H9 => ?_)
    · refine TW.seq ?_
      refine TW.region ?_
      refine TO.y (Y.assign rfl) rfl rfl rfl ?_
      refine TO.nil ?_
      refine TE.next ?_
      refine TW.ret ?_
      refine TE.then_ret ?_
      exact TE.leaf fun _ _ hf_ hs_ => ret_any (rs := [.tmp 4]) (vs := [.int .i64 (1 : Int)]) (.inl rfl) rfl ⟨rfl, trivial⟩ hf_ hs_ ⟨(), rfl, hs_.pulls [] rfl⟩
    · refine TW.skip ?_
      refine TE.next ?_
      refine TW.seq ?_
      refine TW.seq ?_
      refine TW.region ?_
      refine TO.y (Y.move rfl) rfl rfl rfl ?_
      refine TO.y (Y.move rfl) rfl rfl rfl ?_
      refine TO.y (Y.lss rfl rfl) rfl rfl rfl ?_
      refine TO.nil ?_
      refine TE.next ?_
      refine TW.cond rfl (fun H10 => ?_) (fun H10 => ?_)
      · refine TW.seq ?_
        refine TW.region ?_
        refine TO.y (Y.assign rfl) rfl rfl rfl ?_
        refine TO.nil ?_
        refine TE.next ?_
        refine TW.ret ?_
        refine TE.then_ret ?_
        exact TE.leaf fun _ _ hf_ hs_ => ret_any (rs := [.tmp 4]) (vs := [.int .i64 (-1 : Int)]) (.inl rfl) rfl ⟨rfl, trivial⟩ hf_ hs_ ⟨(), rfl, hs_.pulls [] rfl⟩
      · refine TW.skip ?_
        refine TE.next ?_
        refine TW.seq ?_
        refine TW.seq ?_
        refine TW.region ?_
        refine TO.y (Y.move rfl) rfl rfl rfl ?_
        refine TO.y (Y.move rfl) rfl rfl rfl ?_
        refine TO.y (Y.gtr rfl rfl) rfl rfl rfl ?_
        refine TO.nil ?_
        refine TE.next ?_
        refine TW.cond rfl (fun H11 => ?_) (fun H11 => ?_)
        · refine TW.seq ?_
          refine TW.region ?_
          refine TO.y (Y.assign rfl) rfl rfl rfl ?_
          refine TO.nil ?_
          refine TE.next ?_
          refine TW.ret ?_
          refine TE.then_ret ?_
          exact TE.leaf fun _ _ hf_ hs_ => ret_any (rs := [.tmp 4]) (vs := [.int .i64 (1 : Int)]) (.inl rfl) rfl ⟨rfl, trivial⟩ hf_ hs_ ⟨(), rfl, hs_.pulls [] rfl⟩
        · refine TW.skip ?_
          refine TE.next ?_
          refine TW.seq ?_
          refine TW.region ?_
          refine TO.y (Y.assign rfl) rfl rfl rfl ?_
          refine TO.nil ?_
          refine TE.next ?_
          refine TW.ret ?_
          exact TE.leaf fun _ _ hf_ hs_ => ret_any (rs := [.tmp 4]) (vs := [.int .i64 (0 : Int)]) (.inl rfl) rfl ⟨rfl, trivial⟩ hf_ hs_ ⟨(), rfl, hs_.pulls [] rfl⟩

/-- cmp.isNaN[string] -/
noncomputable def cmp_isNaN_83645 (x : List UInt8) : Option Bool :=
  some (!(decide (x = x)))

theorem cmp_isNaN_83645_con (x : List UInt8)  (r : Bool) (hm : cmp_isNaN_83645 x = some r) :
    Con Try.prog 89 [strV x] [] [] (fun _ : Unit => .bool r) (fun _ => []) := by
  refine Con.intro (args := [strV x]) (n := 6) (val := fun r (_ : Unit) => .bool r) (post := fun _ _ => []) (m := cmp_isNaN_83645 x) Try.func89 rfl rfl rfl hm ?_
  intro w S _
  unfold cmp_isNaN_83645
  refine TW.seq ?_
  refine TW.region ?_
  refine TO.y (Y.assign rfl) rfl rfl rfl ?_
  refine TO.nil ?_
  refine TE.next ?_
  refine TW.seq ?_
  refine TW.region ?_
  refine TO.y (Y.move rfl) rfl rfl rfl ?_
  refine TO.y (Y.move rfl) rfl rfl rfl ?_
  refine TO.y (Y.sneq rfl rfl) rfl rfl rfl ?_
  refine TO.y (Y.assign rfl) rfl rfl rfl ?_
  refine TO.nil ?_
  refine TE.next ?_
  refine TW.ret ?_
  exact TE.leaf fun _ _ hf_ hs_ => ret_any (rs := [.tmp 2]) (vs := [.bool (!(decide (x = x)))]) (.inl rfl) rfl ⟨rfl, trivial⟩ hf_ hs_ ⟨(), rfl, hs_.pulls [] rfl⟩

/-- cmp.Compare[string] -/
noncomputable def cmp_Compare_83645 (x : List UInt8) (y : List UInt8) : Option Int :=
  (cmp_isNaN_83645 x).bind fun R1 =>
  (cmp_isNaN_83645 y).bind fun R4 =>
  if R1 = true then (if R4 = true then (some (0 : Int))
  else (some (-1 : Int)))
  else (if R4 = true then (some (1 : Int))
  else (if (sLt x y) = true then (some (-1 : Int))
  else (if (!(sLt x y || decide (x = y))) = true then (some (1 : Int))
  else (some (0 : Int)))))

theorem cmp_Compare_83645_con (x : List UInt8) (y : List UInt8)  (r : Int) (hm : cmp_Compare_83645 x y = some r) :
    Con Try.prog 81 [strV x, strV y] [] [] (fun _ : Unit => .int .i64 r) (fun _ => []) := by
  refine Con.intro (args := [strV x, strV y]) (n := 20) (val := fun r (_ : Unit) => .int .i64 r) (post := fun _ _ => []) (m := cmp_Compare_83645 x y) Try.func81 rfl rfl rfl hm ?_
  intro w S _
  unfold cmp_Compare_83645
  refine TW.seq ?_
  refine TW.region ?_
  refine TO.y (Y.assign rfl) rfl rfl rfl ?_
  refine TO.nil ?_
  refine TE.next ?_
  refine TW.seq ?_
  refine TW.region ?_
  refine TO.y (Y.move rfl) rfl rfl rfl ?_
  refine TO.bind fun R1 H2 => ?_
  refine TO.ef (Ef.call (rest := []) [] (cmp_isNaN_83645_con x  R1 H2) kc89 rfl rfl trivial) rfl rfl rfl (fun _ => ?_)
  refine TO.y (Y.assign rfl) rfl rfl rfl ?_
  refine TO.nil ?_
  refine TE.next ?_
  refine TW.seq ?_
  refine TW.region ?_
  refine TO.y (Y.move rfl) rfl rfl rfl ?_
  refine TO.bind fun R4 H5 => ?_
  refine TO.ef (Ef.call (rest := []) [] (cmp_isNaN_83645_con y  R4 H5) kc89 rfl rfl trivial) rfl rfl rfl (fun _ => ?_)
  refine TO.y (Y.assign rfl) rfl rfl rfl ?_
  refine TO.nil ?_
  refine TE.next ?_
  refine TW.seq ?_
  refine TW.seq ?_
  refine TW.region ?_
  refine TO.y (Y.move rfl) rfl rfl rfl ?_
  refine TO.nil ?_
  refine TE.next ?_
  refine TW.cond rfl (fun H7 => ?_) (fun H7 => ?_)
  · refine TW.seq ?_
    refine TW.seq ?_
    refine TW.region ?_
    refine TO.y (Y.move rfl) rfl rfl rfl ?_
    refine TO.nil ?_
    refine TE.next ?_
    refine TW.cond rfl (fun H8 => ?_) (fun H8 => ?_)
    · refine TW.seq ?_
      refine TW.region ?_
      refine TO.y (Y.assign rfl) rfl rfl rfl ?_
      refine TO.nil ?_
      refine TE.next ?_
      refine TW.ret ?_
      refine TE.then_ret ?_
      refine TE.then_ret ?_
      exact TE.leaf fun _ _ hf_ hs_ => ret_any (rs := [.tmp 4]) (vs := [.int .i64 (0 : Int)]) (.inl rfl) rfl ⟨rfl, trivial⟩ hf_ hs_ ⟨(), rfl, hs_.pulls [] rfl⟩
    · refine TW.skip ?_
      refine TE.next ?_
      refine TW.seq ?_
      refine TW.region ?_
      refine TO.y (Y.assign rfl) rfl rfl rfl ?_
      refine TO.nil ?_
      refine TE.next ?_
      refine TW.ret ?_
      refine TE.then_ret ?_
      exact TE.leaf fun _ _ hf_ hs_ => ret_any (rs := [.tmp 4]) (vs := [.int .i64 (-1 : Int)]) (.inl rfl) rfl ⟨rfl, trivial⟩ hf_ hs_ ⟨(), rfl, hs_.pulls [] rfl⟩
  · refine TW.skip ?_
    refine TE.next ?_
    refine TW.seq ?_
    refine TW.seq ?_
    refine TW.region ?_
    refine TO.y (Y.move rfl) rfl rfl rfl ?_
    refine TO.nil ?_
    refine TE.next ?_
    refine TW.cond rfl (fun H9 => ?_) (fun H9 => ?_)
    · refine TW.seq ?_
      refine TW.region ?_
      refine TO.y (Y.assign rfl) rfl rfl rfl ?_
      refine TO.nil ?_
      refine TE.next ?_
      refine TW.ret ?_
      refine TE.then_ret ?_
      exact TE.leaf fun _ _ hf_ hs_ => ret_any (rs := [.tmp 4]) (vs := [.int .i64 (1 : Int)]) (.inl rfl) rfl ⟨rfl, trivial⟩ hf_ hs_ ⟨(), rfl, hs_.pulls [] rfl⟩
    · refine TW.skip ?_
      refine TE.next ?_
      refine TW.seq ?_
      refine TW.seq ?_
      refine TW.region ?_
      refine TO.y (Y.move rfl) rfl rfl rfl ?_
      refine TO.y (Y.move rfl) rfl rfl rfl ?_
      refine TO.y (Y.slss rfl rfl) rfl rfl rfl ?_
      refine TO.nil ?_
      refine TE.next ?_
      refine TW.cond rfl (fun H10 => ?_) (fun H10 => ?_)
      · refine TW.seq ?_
        refine TW.region ?_
        refine TO.y (Y.assign rfl) rfl rfl rfl ?_
        refine TO.nil ?_
        refine TE.next ?_
        refine TW.ret ?_
        refine TE.then_ret ?_
        exact TE.leaf fun _ _ hf_ hs_ => ret_any (rs := [.tmp 4]) (vs := [.int .i64 (-1 : Int)]) (.inl rfl) rfl ⟨rfl, trivial⟩ hf_ hs_ ⟨(), rfl, hs_.pulls [] rfl⟩
      · refine TW.skip ?_
        refine TE.next ?_
        refine TW.seq ?_
        refine TW.seq ?_
        refine TW.region ?_
        refine TO.y (Y.move rfl) rfl rfl rfl ?_
        refine TO.y (Y.move rfl) rfl rfl rfl ?_
        refine TO.y (Y.sgtr rfl rfl) rfl rfl rfl ?_
        refine TO.nil ?_
        refine TE.next ?_
        refine TW.cond rfl (fun H11 => ?_) (fun H11 => ?_)
        · refine TW.seq ?_
          refine TW.region ?_
          refine TO.y (Y.assign rfl) rfl rfl rfl ?_
          refine TO.nil ?_
          refine TE.next ?_
          refine TW.ret ?_
          refine TE.then_ret ?_
          exact TE.leaf fun _ _ hf_ hs_ => ret_any (rs := [.tmp 4]) (vs := [.int .i64 (1 : Int)]) (.inl rfl) rfl ⟨rfl, trivial⟩ hf_ hs_ ⟨(), rfl, hs_.pulls [] rfl⟩
        · refine TW.skip ?_
          refine TE.next ?_
          refine TW.seq ?_
          refine TW.region ?_
          refine TO.y (Y.assign rfl) rfl rfl rfl ?_
          refine TO.nil ?_
          refine TE.next ?_
          refine TW.ret ?_
          exact TE.leaf fun _ _ hf_ hs_ => ret_any (rs := [.tmp 4]) (vs := [.int .i64 (0 : Int)]) (.inl rfl) rfl ⟨rfl, trivial⟩ hf_ hs_ ⟨(), rfl, hs_.pulls [] rfl⟩

/-- loop.example/g00950/impl.compareFiles -/
noncomputable def impl_compareFiles (a : File) (b : File) : Option Int :=
  if (!(decide (a.Level = b.Level))) = true then ((cmp_Compare_26527 a.Level b.Level).bind fun R4 =>
  some R4)
  else (if (decide (a.Level = (0 : Int))) = true then ((cmp_Compare_26527 b.No a.No).bind fun R8 =>
  some R8)
  else ((cmp_Compare_83645 a.Lo b.Lo).bind fun R11 =>
  some R11))

theorem impl_compareFiles_con (a : File) (b : File)  (r : Int) (hm : impl_compareFiles a b = some r) :
    Con Try.prog 56 [.agg #[.int .i64 a.No, .int .i64 a.Level, strV a.Lo, strV a.Hi], .agg #[.int .i64 b.No, .int .i64 b.Level, strV b.Lo, strV b.Hi]] [] [] (fun _ : Unit => .int .i64 r) (fun _ => []) := by
  refine Con.intro (args := [.agg #[.int .i64 a.No, .int .i64 a.Level, strV a.Lo, strV a.Hi], .agg #[.int .i64 b.No, .int .i64 b.Level, strV b.Lo, strV b.Hi]]) (n := 28) (val := fun r (_ : Unit) => .int .i64 r) (post := fun _ _ => []) (m := impl_compareFiles a b) Try.func56 rfl rfl rfl hm ?_
  intro w S _
  unfold impl_compareFiles
  refine TW.seq ?_
  refine TW.region ?_
  refine TO.ef (Ef.box rfl (Cel.plain rfl rfl)) rfl rfl rfl (fun B1 => ?_)
  refine TO.ef (Ef.box rfl (Cel.plain rfl rfl)) rfl rfl rfl (fun B2 => ?_)
  refine TO.y (Y.assign rfl) rfl rfl rfl ?_
  refine TO.nil ?_
  refine TE.next ?_
  refine TW.seq ?_
  refine TW.seq ?_
  refine TW.region ?_
  refine TO.y (Y.field_box kf43_1 rfl rfl) rfl rfl rfl ?_
  refine TO.y (Y.load_box (v := .int .i64 a.Level) 1 kk3 rfl rfl rfl) rfl rfl rfl ?_
  refine TO.y (Y.field_box kf43_1 rfl rfl) rfl rfl rfl ?_
  refine TO.y (Y.load_box (v := .int .i64 b.Level) 0 kk3 rfl rfl rfl) rfl rfl rfl ?_
  refine TO.y (Y.neq rfl rfl) rfl rfl rfl ?_
  refine TO.nil ?_
  refine TE.next ?_
  refine TW.cond rfl (fun H3 => ?_) (fun H3 => ?_)
  · refine TW.seq ?_
    refine TW.region ?_
    refine TO.y (Y.field_box kf43_1 rfl rfl) rfl rfl rfl ?_
    refine TO.y (Y.load_box (v := .int .i64 a.Level) 1 kk3 rfl rfl rfl) rfl rfl rfl ?_
    refine TO.y (Y.field_box kf43_1 rfl rfl) rfl rfl rfl ?_
    refine TO.y (Y.load_box (v := .int .i64 b.Level) 0 kk3 rfl rfl rfl) rfl rfl rfl ?_
    refine TO.bind fun R4 H5 => ?_
    refine TO.ef (Ef.call (rest := [.box B2 43 [.int .i64 b.No, .int .i64 b.Level, strV b.Lo, strV b.Hi], .box B1 43 [.int .i64 a.No, .int .i64 a.Level, strV a.Lo, strV a.Hi]]) [0, 0] (cmp_Compare_26527_con a.Level b.Level  R4 H5) kc80 rfl rfl trivial) rfl rfl rfl (fun _ => ?_)
    refine TO.y (Y.assign rfl) rfl rfl rfl ?_
    refine TO.nil ?_
    refine TE.next ?_
    refine TW.ret ?_
    refine TE.then_ret ?_
    exact TE.leaf fun _ _ hf_ hs_ => ret_any (rs := [.tmp 4]) (vs := [.int .i64 R4]) (.inl rfl) rfl ⟨rfl, trivial⟩ hf_ hs_ ⟨(), rfl, hs_.pulls [] rfl⟩
  · refine TW.skip ?_
    refine TE.next ?_
    refine TW.seq ?_
    refine TW.seq ?_
    refine TW.region ?_
    refine TO.y (Y.field_box kf43_1 rfl rfl) rfl rfl rfl ?_
    refine TO.y (Y.load_box (v := .int .i64 a.Level) 1 kk3 rfl rfl rfl) rfl rfl rfl ?_
    refine TO.y (Y.eql rfl rfl) rfl rfl rfl ?_
    refine TO.nil ?_
    refine TE.next ?_
    refine TW.cond rfl (fun H7 => ?_) (fun H7 => ?_)
    · refine TW.seq ?_
      refine TW.region ?_
      refine TO.y (Y.field_box kf43_0 rfl rfl) rfl rfl rfl ?_
      refine TO.y (Y.load_box (v := .int .i64 b.No) 0 kk3 rfl rfl rfl) rfl rfl rfl ?_
      refine TO.y (Y.field_box kf43_0 rfl rfl) rfl rfl rfl ?_
      refine TO.y (Y.load_box (v := .int .i64 a.No) 1 kk3 rfl rfl rfl) rfl rfl rfl ?_
      refine TO.bind fun R8 H9 => ?_
      refine TO.ef (Ef.call (rest := [.box B2 43 [.int .i64 b.No, .int .i64 b.Level, strV b.Lo, strV b.Hi], .box B1 43 [.int .i64 a.No, .int .i64 a.Level, strV a.Lo, strV a.Hi]]) [0, 0] (cmp_Compare_26527_con b.No a.No  R8 H9) kc80 rfl rfl trivial) rfl rfl rfl (fun _ => ?_)
      refine TO.y (Y.assign rfl) rfl rfl rfl ?_
      refine TO.nil ?_
      refine TE.next ?_
      refine TW.ret ?_
      refine TE.then_ret ?_
      exact TE.leaf fun _ _ hf_ hs_ => ret_any (rs := [.tmp 4]) (vs := [.int .i64 R8]) (.inl rfl) rfl ⟨rfl, trivial⟩ hf_ hs_ ⟨(), rfl, hs_.pulls [] rfl⟩
    · refine TW.skip ?_
      refine TE.next ?_
      refine TW.seq ?_
      refine TW.region ?_
      refine TO.y (Y.field_box kf43_2 rfl rfl) rfl rfl rfl ?_
      refine TO.y (Y.load_box (v := strV a.Lo) 1 kk9 rfl rfl rfl) rfl rfl rfl ?_
      refine TO.y (Y.field_box kf43_2 rfl rfl) rfl rfl rfl ?_
      refine TO.y (Y.load_box (v := strV b.Lo) 0 kk9 rfl rfl rfl) rfl rfl rfl ?_
      refine TO.bind fun R11 H12 => ?_
      refine TO.ef (Ef.call (rest := [.box B2 43 [.int .i64 b.No, .int .i64 b.Level, strV b.Lo, strV b.Hi], .box B1 43 [.int .i64 a.No, .int .i64 a.Level, strV a.Lo, strV a.Hi]]) [0, 0] (cmp_Compare_83645_con a.Lo b.Lo  R11 H12) kc81 rfl rfl trivial) rfl rfl rfl (fun _ => ?_)
      refine TO.y (Y.assign rfl) rfl rfl rfl ?_
      refine TO.nil ?_
      refine TE.next ?_
      refine TW.ret ?_
      exact TE.leaf fun _ _ hf_ hs_ => ret_any (rs := [.tmp 4]) (vs := [.int .i64 R11]) (.inl rfl) rfl ⟨rfl, trivial⟩ hf_ hs_ ⟨(), rfl, hs_.pulls [] rfl⟩

/-- loop.example/g00950/impl.FilesOk -/
noncomputable def impl_FilesOk (l : List File) : Option Bool :=
  if (decide (((l.length : Nat) : Int) > (12 : Int))) = true then (some false)
  else (bindC (loopO (fun (S2 : Int) => if (decide (S2 < ((l.length : Nat) : Int))) = true then ((idx l S2).bind fun E7 =>
  ((impl_fileOk E7).bind fun R12 =>
  if (!R12) = true then (some true)
  else ((impl_fileAt l E7.No).bind fun R16 =>
  if (!(decide (R16 = S2))) = true then (some true)
  else (if (decide (S2 > (0 : Int))) = true then ((idx l (IntKind.i64.wrap (S2 - (1 : Int)))).bind fun E21 =>
  (impl_compareFiles E21 E7).bind fun R23 =>
  some (decide (R23 ≥ (0 : Int))))
  else (some false)))).bind (fun (T10 : Bool) =>
  if T10 = true then (some (.done (.done false)))
  else ((if (decide (S2 > (0 : Int))) = true then (if (decide (E7.Level > (0 : Int))) = true then ((idx l (IntKind.i64.wrap (S2 - (1 : Int)))).bind fun E31 =>
  if (decide (E31.Level = E7.Level)) = true then (some (sLt E7.Lo E31.Hi || decide (E7.Lo = E31.Hi)))
  else (some false))
  else (some false))
  else (some false)).bind (fun (T27 : Bool) =>
  if T27 = true then (some (.done (.done false)))
  else (some (.go (IntKind.i64.wrap (S2 + (1 : Int)))))))))
  else (some (.done (.go ()))))
  (0 : Int))
  (fun (T4 : Unit) => some true))

theorem impl_FilesOk_con (l : List File) (V_l0 : Value) (r : Bool) (hm : impl_FilesOk l = some r) :
    Con Try.prog 44 [V_l0] [] [(V_l0, lc l)] (fun _ : Unit => .bool r) (fun _ => []) := by
  refine Con.intro (args := [V_l0]) (n := 70) (val := fun r (_ : Unit) => .bool r) (post := fun _ _ => []) (m := impl_FilesOk l) Try.func44 rfl rfl rfl hm ?_
  intro w S hrd
  have HB_V_l0 := hrd _ (.head _)
  clear hrd
  unfold impl_FilesOk
  refine TW.seq ?_
  refine TW.region ?_
  refine TO.y (Y.assign rfl) rfl rfl rfl ?_
  refine TO.nil ?_
  refine TE.next ?_
  refine TW.seq ?_
  refine TW.seq ?_
  refine TW.region ?_
  refine TO.y (Y.move rfl) rfl rfl rfl ?_
  refine TO.y (Y.len (l := l) ke26 (Base.can HB_V_l0) rfl) rfl rfl rfl ?_
  refine TO.y (Y.gtr rfl rfl) rfl rfl rfl ?_
  refine TO.nil ?_
  refine TE.next ?_
  refine TW.cond rfl (fun H1 => ?_) (fun H1 => ?_)
  · refine TW.seq ?_
    refine TW.region ?_
    refine TO.y (Y.assign rfl) rfl rfl rfl ?_
    refine TO.nil ?_
    refine TE.next ?_
    refine TW.ret ?_
    refine TE.then_ret ?_
    exact TE.leaf fun _ _ hf_ hs_ => ret_any (rs := [.tmp 2]) (vs := [.bool false]) (.inl rfl) rfl ⟨rfl, trivial⟩ hf_ hs_ ⟨(), rfl, hs_.pulls [] rfl⟩
  · refine TW.skip ?_
    refine TE.next ?_
    refine TW.seq ?_
    refine TW.seq ?_
    refine TW.region ?_
    refine TO.y (Y.move rfl) rfl rfl rfl ?_
    refine TO.y (Y.len (l := l) ke26 (Base.can HB_V_l0) rfl) rfl rfl rfl ?_
    refine TO.y (Y.move rfl) rfl rfl rfl ?_
    refine TO.nil ?_
    refine TE.next ?_
    refine TW.joinX (τ := Unit) (X := Unit) (fun _ _ => []) (fun _ _ => []) ?_ (fun T4 X5 => ?_)
    · refine TW.block ?_
      refine TW.loopX (σ := Int) (X := Unit) (fun T _ => [(0, V_l0), (8, V_l0), (9, .int .i64 ((l.length : Nat) : Int)), (10, .int .i64 T)]) (fun _ _ => []) () [] ⟨rfl, rfl, rfl, rfl, trivial⟩ rfl (fun S2 X3 => ?_)
      refine TW.seq ?_
      refine TW.region ?_
      refine TO.y (Y.lss rfl rfl) rfl rfl rfl ?_
      refine TO.nil ?_
      refine TE.next ?_
      refine TW.seq ?_
      refine TW.cond rfl (fun H6 => ?_) (fun H6 => ?_)
      · refine TW.skip ?_
        refine TE.next ?_
        refine TW.seq ?_
        refine TW.block ?_
        refine TW.seq ?_
        refine TW.region ?_
        refine TO.y (Y.move rfl) rfl rfl rfl ?_
        refine TO.bind fun E7 H8 => ?_
        refine TO.y (Y.index ke26 (Base.can HB_V_l0) H8 rfl rfl) rfl rfl rfl ?_
        refine TO.y (Y.load_el (us := [.int .i64 E7.No, .int .i64 E7.Level, strV E7.Lo, strV E7.Hi]) (u := .agg #[.int .i64 E7.No, .int .i64 E7.Level, strV E7.Lo, strV E7.Hi]) kk43 rfl (Base.can HB_V_l0) (idx_get H8).2.2 rfl rfl rfl rfl rfl) rfl rfl rfl ?_
        refine TO.ef (Ef.alloc kz43 rfl) rfl rfl rfl (fun B9 => ?_)
        refine TO.y (Y.assign rfl) rfl rfl rfl ?_
        refine TO.ef0 (Ef.store_box (us := [.int .i64 E7.No, .int .i64 E7.Level, strV E7.Lo, strV E7.Hi]) (vs' := [.int .i64 E7.No, .int .i64 E7.Level, strV E7.Lo, strV E7.Hi]) (is' := [.box B9 43 [.int .i64 E7.No, .int .i64 E7.Level, strV E7.Lo, strV E7.Hi]]) 0 kk43 rfl rfl rfl (Cel.plain rfl rfl) rfl rfl rfl rfl) rfl rfl (fun _ => ?_)
        refine TO.nil ?_
        refine TE.next ?_
        refine TW.seq ?_
        refine TW.seq ?_
        refine TW.joinBX (τ := Bool) (X := Unit) (fun T _ => [(0, V_l0), (3, .int .i64 S2), (4, .pointer (some ⟨B9, 0, none⟩)), (8, V_l0), (9, .int .i64 ((l.length : Nat) : Int)), (10, .int .i64 S2), (39, .bool T)]) (fun _ _ => [.box B9 43 [.int .i64 E7.No, .int .i64 E7.Level, strV E7.Lo, strV E7.Hi]]) ?_ (fun T10 X11 => ?_)
        · refine TW.draw (isH := [.box B9 43 [.int .i64 E7.No, .int .i64 E7.Level, strV E7.Lo, strV E7.Hi]]) hMix ?_
          refine TA.y (listed' := #[true, false, false, false, false, false, false, false, false, false, false, false, false, false, false, false, false, false, false, false, false, false, false, false, false]) 0 [0] rfl (Y.load_box (v := .agg #[.int .i64 E7.No, .int .i64 E7.Level, strV E7.Lo, strV E7.Hi]) 0 kk43 rfl rfl rfl) rfl rfl rfl (by kernel_rfl) (by kernel_rfl) (by kernel_rfl) rfl rfl ?_
          refine TA.bind fun R12 H13 => ?_
          refine TA.one 1 (by kernel_rfl) ?_
          refine TX.ef (listed' := #[true, true, false, false, false, false, false, false, false, false, false, false, false, false, false, false, false, false, false, false, false, false, false, false, false]) [0] rfl (Ef.call (rest := [.box B9 43 [.int .i64 E7.No, .int .i64 E7.Level, strV E7.Lo, strV E7.Hi]]) [0] (impl_fileOk_con E7  R12 H13) kc75 rfl rfl trivial) rfl rfl rfl rfl (fun _ => rfl) (fun _ => ?_)
          refine TA.y (listed' := #[true, true, true, false, false, false, false, false, false, false, false, false, false, false, false, false, false, false, false, false, false, false, false, false, false]) 2 [0] rfl (Y.not rfl) rfl rfl rfl (by kernel_rfl) (by kernel_rfl) (by kernel_rfl) rfl rfl ?_
          refine TA.y (listed' := #[true, true, true, true, false, false, false, false, false, false, false, false, false, false, false, false, false, false, false, false, false, false, false, false, false]) 3 [0] rfl (Y.move rfl) rfl rfl rfl (by kernel_rfl) (by kernel_rfl) (by kernel_rfl) rfl rfl ?_
          refine TA.ite (b := !R12) (fun H15 => ?_) (fun H15 => ?_)
          · refine TA.off (listed' := #[true, true, true, true, true, false, false, false, false, false, false, false, false, false, false, false, false, false, false, false, false, false, false, false, false]) 4 [0] rfl (Gd.at 3 false 18 (!R12) rfl rfl rfl (beq_tf H15)) rfl rfl (by kernel_rfl) (by kernel_rfl) (by kernel_rfl) rfl rfl ?_
            refine TA.off (listed' := #[true, true, true, true, true, true, false, false, false, false, false, false, false, false, false, false, false, false, false, false, false, false, false, false, false]) 5 [0] rfl (Gd.at 3 false 18 (!R12) rfl rfl rfl (beq_tf H15)) rfl rfl (by kernel_rfl) (by kernel_rfl) (by kernel_rfl) rfl rfl ?_
            refine TA.off (listed' := #[true, true, true, true, true, true, true, false, false, false, false, false, false, false, false, false, false, false, false, false, false, false, false, false, false]) 6 [0] rfl (Gd.at 3 false 18 (!R12) rfl rfl rfl (beq_tf H15)) rfl rfl (by kernel_rfl) (by kernel_rfl) (by kernel_rfl) rfl rfl ?_
            refine TA.off (listed' := #[true, true, true, true, true, true, true, true, false, false, false, false, false, false, false, false, false, false, false, false, false, false, false, false, false]) 7 [0] rfl (Gd.at 3 false 18 (!R12) rfl rfl rfl (beq_tf H15)) rfl rfl (by kernel_rfl) (by kernel_rfl) (by kernel_rfl) rfl rfl ?_
            refine TA.off (listed' := #[true, true, true, true, true, true, true, true, true, false, false, false, false, false, false, false, false, false, false, false, false, false, false, false, false]) 8 [0] rfl (Gd.at 3 false 18 (!R12) rfl rfl rfl (beq_tf H15)) rfl rfl (by kernel_rfl) (by kernel_rfl) (by kernel_rfl) rfl rfl ?_
            refine TA.off (listed' := #[true, true, true, true, true, true, true, true, true, true, false, false, false, false, false, false, false, false, false, false, false, false, false, false, false]) 9 [0] rfl (Gd.at 3 false 18 (!R12) rfl rfl rfl (beq_tf H15)) rfl rfl (by kernel_rfl) (by kernel_rfl) (by kernel_rfl) rfl rfl ?_
            refine TA.y (listed' := #[true, true, true, true, true, true, true, true, true, true, true, false, false, false, false, false, false, false, false, false, false, false, false, false, false]) 10 [0] rfl (Y.pick_t H15 rfl rfl) rfl rfl rfl (by kernel_rfl) (by kernel_rfl) (by kernel_rfl) rfl rfl ?_
            refine TA.y (listed' := #[true, true, true, true, true, true, true, true, true, true, true, true, false, false, false, false, false, false, false, false, false, false, false, false, false]) 11 [0] rfl (Y.move rfl) rfl rfl rfl (by kernel_rfl) (by kernel_rfl) (by kernel_rfl) rfl rfl ?_
            refine TA.off (listed' := #[true, true, true, true, true, true, true, true, true, true, true, true, true, false, false, false, false, false, false, false, false, false, false, false, false]) 12 [0] rfl (Gd.at 11 false 26 true rfl rfl rfl rfl) rfl rfl (by kernel_rfl) (by kernel_rfl) (by kernel_rfl) rfl rfl ?_
            refine TA.off (listed' := #[true, true, true, true, true, true, true, true, true, true, true, true, true, true, false, false, false, false, false, false, false, false, false, false, false]) 13 [0] rfl (Gd.at 11 false 26 true rfl rfl rfl rfl) rfl rfl (by kernel_rfl) (by kernel_rfl) (by kernel_rfl) rfl rfl ?_
            refine TA.off (listed' := #[true, true, true, true, true, true, true, true, true, true, true, true, true, true, true, false, false, false, false, false, false, false, false, false, false]) 14 [0] rfl (Gd.at 11 false 26 true rfl rfl rfl rfl) rfl rfl (by kernel_rfl) (by kernel_rfl) (by kernel_rfl) rfl rfl ?_
            refine TA.off (listed' := #[true, true, true, true, true, true, true, true, true, true, true, true, true, true, true, true, false, false, false, false, false, false, false, false, false]) 15 [0] rfl (Gd.un 14 true 29 rfl rfl rfl) rfl rfl (by kernel_rfl) (by kernel_rfl) (by kernel_rfl) rfl rfl ?_
            refine TA.off (listed' := #[true, true, true, true, true, true, true, true, true, true, true, true, true, true, true, true, true, false, false, false, false, false, false, false, false]) 16 [0] rfl (Gd.un 14 true 29 rfl rfl rfl) rfl rfl (by kernel_rfl) (by kernel_rfl) (by kernel_rfl) rfl rfl ?_
            refine TA.off (listed' := #[true, true, true, true, true, true, true, true, true, true, true, true, true, true, true, true, true, true, false, false, false, false, false, false, false]) 17 [0] rfl (Gd.un 14 true 29 rfl rfl rfl) rfl rfl (by kernel_rfl) (by kernel_rfl) (by kernel_rfl) rfl rfl ?_
            refine TA.off (listed' := #[true, true, true, true, true, true, true, true, true, true, true, true, true, true, true, true, true, true, true, false, false, false, false, false, false]) 18 [0] rfl (Gd.un 14 true 29 rfl rfl rfl) rfl rfl (by kernel_rfl) (by kernel_rfl) (by kernel_rfl) rfl rfl ?_
            refine TA.off (listed' := #[true, true, true, true, true, true, true, true, true, true, true, true, true, true, true, true, true, true, true, true, false, false, false, false, false]) 19 [0] rfl (Gd.un 14 true 29 rfl rfl rfl) rfl rfl (by kernel_rfl) (by kernel_rfl) (by kernel_rfl) rfl rfl ?_
            refine TA.off (listed' := #[true, true, true, true, true, true, true, true, true, true, true, true, true, true, true, true, true, true, true, true, true, false, false, false, false]) 20 [0] rfl (Gd.un 14 true 29 rfl rfl rfl) rfl rfl (by kernel_rfl) (by kernel_rfl) (by kernel_rfl) rfl rfl ?_
            refine TA.off (listed' := #[true, true, true, true, true, true, true, true, true, true, true, true, true, true, true, true, true, true, true, true, true, true, false, false, false]) 21 [0] rfl (Gd.un 14 true 29 rfl rfl rfl) rfl rfl (by kernel_rfl) (by kernel_rfl) (by kernel_rfl) rfl rfl ?_
            refine TA.off (listed' := #[true, true, true, true, true, true, true, true, true, true, true, true, true, true, true, true, true, true, true, true, true, true, true, false, false]) 22 [0] rfl (Gd.un 14 true 29 rfl rfl rfl) rfl rfl (by kernel_rfl) (by kernel_rfl) (by kernel_rfl) rfl rfl ?_
            refine TA.off (listed' := #[true, true, true, true, true, true, true, true, true, true, true, true, true, true, true, true, true, true, true, true, true, true, true, true, false]) 23 [0] rfl (Gd.at 11 false 26 true rfl rfl rfl rfl) rfl rfl (by kernel_rfl) (by kernel_rfl) (by kernel_rfl) rfl rfl ?_
            refine TA.y (listed' := #[true, true, true, true, true, true, true, true, true, true, true, true, true, true, true, true, true, true, true, true, true, true, true, true, true]) 24 [0] rfl (Y.pick_t rfl rfl rfl) rfl rfl rfl (by kernel_rfl) (by kernel_rfl) (by kernel_rfl) rfl rfl ?_
            refine TA.nil (by kernel_rfl) ?_
            exact TE.jb_go () [0] ⟨rfl, rfl, rfl, rfl, rfl, rfl, rfl, trivial⟩ rfl
          · refine TA.y (listed' := #[true, true, true, true, true, false, false, false, false, false, false, false, false, false, false, false, false, false, false, false, false, false, false, false, false]) 4 [0] rfl (Y.move rfl) (Gd.at 3 false 18 (!R12) rfl rfl rfl (beq_ff H15)) rfl rfl (by kernel_rfl) (by kernel_rfl) (by kernel_rfl) rfl rfl ?_
            refine TA.y (listed' := #[true, true, true, true, true, true, false, false, false, false, false, false, false, false, false, false, false, false, false, false, false, false, false, false, false]) 5 [0] rfl (Y.field_box kf43_0 rfl rfl) (Gd.at 3 false 18 (!R12) rfl rfl rfl (beq_ff H15)) rfl rfl (by kernel_rfl) (by kernel_rfl) (by kernel_rfl) rfl rfl ?_
            refine TA.y (listed' := #[true, true, true, true, true, true, true, false, false, false, false, false, false, false, false, false, false, false, false, false, false, false, false, false, false]) 6 [0] rfl (Y.load_box (v := .int .i64 E7.No) 0 kk3 rfl rfl rfl) (Gd.at 3 false 18 (!R12) rfl rfl rfl (beq_ff H15)) rfl rfl (by kernel_rfl) (by kernel_rfl) (by kernel_rfl) rfl rfl ?_
            refine TA.y (listed' := #[true, true, true, true, true, true, true, false, true, false, false, false, false, false, false, false, false, false, false, false, false, false, false, false, false]) 8 [0] rfl (Y.move rfl) (Gd.at 3 false 18 (!R12) rfl rfl rfl (beq_ff H15)) rfl rfl (by kernel_rfl) (by kernel_rfl) (by kernel_rfl) rfl rfl ?_
            refine TA.bind fun R16 H17 => ?_
            refine TA.one 7 (by kernel_rfl) ?_
            refine TX.ef (listed' := #[true, true, true, true, true, true, true, true, true, false, false, false, false, false, false, false, false, false, false, false, false, false, false, false, false]) [0] rfl (Ef.call (rest := [.box B9 43 [.int .i64 E7.No, .int .i64 E7.Level, strV E7.Lo, strV E7.Hi]]) [0] (impl_fileAt_con l E7.No V_l0 R16 H17) kc60 rfl rfl ⟨(Base.can HB_V_l0), trivial⟩) (Gd.at 3 false 18 (!R12) rfl rfl rfl (beq_ff H15)) rfl rfl rfl (fun _ => rfl) (fun _ => ?_)
            refine TA.y (listed' := #[true, true, true, true, true, true, true, true, true, true, false, false, false, false, false, false, false, false, false, false, false, false, false, false, false]) 9 [0] rfl (Y.neq rfl rfl) (Gd.at 3 false 18 (!R12) rfl rfl rfl (beq_ff H15)) rfl rfl (by kernel_rfl) (by kernel_rfl) (by kernel_rfl) rfl rfl ?_
            refine TA.y (listed' := #[true, true, true, true, true, true, true, true, true, true, true, false, false, false, false, false, false, false, false, false, false, false, false, false, false]) 10 [0] rfl (Y.pick_f H15 rfl rfl) rfl rfl rfl (by kernel_rfl) (by kernel_rfl) (by kernel_rfl) rfl rfl ?_
            refine TA.y (listed' := #[true, true, true, true, true, true, true, true, true, true, true, true, false, false, false, false, false, false, false, false, false, false, false, false, false]) 11 [0] rfl (Y.move rfl) rfl rfl rfl (by kernel_rfl) (by kernel_rfl) (by kernel_rfl) rfl rfl ?_
            refine TA.ite (b := !(decide (R16 = S2))) (fun H19 => ?_) (fun H19 => ?_)
            · refine TA.off (listed' := #[true, true, true, true, true, true, true, true, true, true, true, true, true, false, false, false, false, false, false, false, false, false, false, false, false]) 12 [0] rfl (Gd.at 11 false 26 (!(decide (R16 = S2))) rfl rfl rfl (beq_tf H19)) rfl rfl (by kernel_rfl) (by kernel_rfl) (by kernel_rfl) rfl rfl ?_
              refine TA.off (listed' := #[true, true, true, true, true, true, true, true, true, true, true, true, true, true, false, false, false, false, false, false, false, false, false, false, false]) 13 [0] rfl (Gd.at 11 false 26 (!(decide (R16 = S2))) rfl rfl rfl (beq_tf H19)) rfl rfl (by kernel_rfl) (by kernel_rfl) (by kernel_rfl) rfl rfl ?_
              refine TA.off (listed' := #[true, true, true, true, true, true, true, true, true, true, true, true, true, true, true, false, false, false, false, false, false, false, false, false, false]) 14 [0] rfl (Gd.at 11 false 26 (!(decide (R16 = S2))) rfl rfl rfl (beq_tf H19)) rfl rfl (by kernel_rfl) (by kernel_rfl) (by kernel_rfl) rfl rfl ?_
              refine TA.off (listed' := #[true, true, true, true, true, true, true, true, true, true, true, true, true, true, true, true, false, false, false, false, false, false, false, false, false]) 15 [0] rfl (Gd.un 14 true 29 rfl rfl rfl) rfl rfl (by kernel_rfl) (by kernel_rfl) (by kernel_rfl) rfl rfl ?_
              refine TA.off (listed' := #[true, true, true, true, true, true, true, true, true, true, true, true, true, true, true, true, true, false, false, false, false, false, false, false, false]) 16 [0] rfl (Gd.un 14 true 29 rfl rfl rfl) rfl rfl (by kernel_rfl) (by kernel_rfl) (by kernel_rfl) rfl rfl ?_
              refine TA.off (listed' := #[true, true, true, true, true, true, true, true, true, true, true, true, true, true, true, true, true, true, false, false, false, false, false, false, false]) 17 [0] rfl (Gd.un 14 true 29 rfl rfl rfl) rfl rfl (by kernel_rfl) (by kernel_rfl) (by kernel_rfl) rfl rfl ?_
              refine TA.off (listed' := #[true, true, true, true, true, true, true, true, true, true, true, true, true, true, true, true, true, true, true, false, false, false, false, false, false]) 18 [0] rfl (Gd.un 14 true 29 rfl rfl rfl) rfl rfl (by kernel_rfl) (by kernel_rfl) (by kernel_rfl) rfl rfl ?_
              refine TA.off (listed' := #[true, true, true, true, true, true, true, true, true, true, true, true, true, true, true, true, true, true, true, true, false, false, false, false, false]) 19 [0] rfl (Gd.un 14 true 29 rfl rfl rfl) rfl rfl (by kernel_rfl) (by kernel_rfl) (by kernel_rfl) rfl rfl ?_
              refine TA.off (listed' := #[true, true, true, true, true, true, true, true, true, true, true, true, true, true, true, true, true, true, true, true, true, false, false, false, false]) 20 [0] rfl (Gd.un 14 true 29 rfl rfl rfl) rfl rfl (by kernel_rfl) (by kernel_rfl) (by kernel_rfl) rfl rfl ?_
              refine TA.off (listed' := #[true, true, true, true, true, true, true, true, true, true, true, true, true, true, true, true, true, true, true, true, true, true, false, false, false]) 21 [0] rfl (Gd.un 14 true 29 rfl rfl rfl) rfl rfl (by kernel_rfl) (by kernel_rfl) (by kernel_rfl) rfl rfl ?_
              refine TA.off (listed' := #[true, true, true, true, true, true, true, true, true, true, true, true, true, true, true, true, true, true, true, true, true, true, true, false, false]) 22 [0] rfl (Gd.un 14 true 29 rfl rfl rfl) rfl rfl (by kernel_rfl) (by kernel_rfl) (by kernel_rfl) rfl rfl ?_
              refine TA.off (listed' := #[true, true, true, true, true, true, true, true, true, true, true, true, true, true, true, true, true, true, true, true, true, true, true, true, false]) 23 [0] rfl (Gd.at 11 false 26 (!(decide (R16 = S2))) rfl rfl rfl (beq_tf H19)) rfl rfl (by kernel_rfl) (by kernel_rfl) (by kernel_rfl) rfl rfl ?_
              refine TA.y (listed' := #[true, true, true, true, true, true, true, true, true, true, true, true, true, true, true, true, true, true, true, true, true, true, true, true, true]) 24 [0] rfl (Y.pick_t H19 rfl rfl) rfl rfl rfl (by kernel_rfl) (by kernel_rfl) (by kernel_rfl) rfl rfl ?_
              refine TA.nil (by kernel_rfl) ?_
              exact TE.jb_go () [0] ⟨rfl, rfl, rfl, rfl, rfl, rfl, rfl, trivial⟩ rfl
            · refine TA.y (listed' := #[true, true, true, true, true, true, true, true, true, true, true, true, true, false, false, false, false, false, false, false, false, false, false, false, false]) 12 [0] rfl (Y.move rfl) (Gd.at 11 false 26 (!(decide (R16 = S2))) rfl rfl rfl (beq_ff H19)) rfl rfl (by kernel_rfl) (by kernel_rfl) (by kernel_rfl) rfl rfl ?_
              refine TA.y (listed' := #[true, true, true, true, true, true, true, true, true, true, true, true, true, true, false, false, false, false, false, false, false, false, false, false, false]) 13 [0] rfl (Y.gtr rfl rfl) (Gd.at 11 false 26 (!(decide (R16 = S2))) rfl rfl rfl (beq_ff H19)) rfl rfl (by kernel_rfl) (by kernel_rfl) (by kernel_rfl) rfl rfl ?_
              refine TA.y (listed' := #[true, true, true, true, true, true, true, true, true, true, true, true, true, true, true, false, false, false, false, false, false, false, false, false, false]) 14 [0] rfl (Y.move rfl) (Gd.at 11 false 26 (!(decide (R16 = S2))) rfl rfl rfl (beq_ff H19)) rfl rfl (by kernel_rfl) (by kernel_rfl) (by kernel_rfl) rfl rfl ?_
              refine TA.ite (b := decide (S2 > (0 : Int))) (fun H20 => ?_) (fun H20 => ?_)
              · refine TA.y (listed' := #[true, true, true, true, true, true, true, true, true, true, true, true, true, true, true, true, false, false, false, false, false, false, false, false, false]) 15 [0] rfl (Y.move rfl) (Gd.at 14 true 29 (decide (S2 > (0 : Int))) rfl rfl rfl (beq_tt H20)) rfl rfl (by kernel_rfl) (by kernel_rfl) (by kernel_rfl) rfl rfl ?_
                refine TA.y (listed' := #[true, true, true, true, true, true, true, true, true, true, true, true, true, true, true, true, true, false, false, false, false, false, false, false, false]) 16 [0] rfl (Y.move rfl) (Gd.at 14 true 29 (decide (S2 > (0 : Int))) rfl rfl rfl (beq_tt H20)) rfl rfl (by kernel_rfl) (by kernel_rfl) (by kernel_rfl) rfl rfl ?_
                refine TA.y (listed' := #[true, true, true, true, true, true, true, true, true, true, true, true, true, true, true, true, true, true, false, false, false, false, false, false, false]) 17 [0] rfl (Y.sub rfl rfl) (Gd.at 14 true 29 (decide (S2 > (0 : Int))) rfl rfl rfl (beq_tt H20)) rfl rfl (by kernel_rfl) (by kernel_rfl) (by kernel_rfl) rfl rfl ?_
                refine TA.bind fun E21 H22 => ?_
                refine TA.y (listed' := #[true, true, true, true, true, true, true, true, true, true, true, true, true, true, true, true, true, true, true, false, false, false, false, false, false]) 18 [0] rfl (Y.index ke26 (Base.can HB_V_l0) H22 rfl rfl) (Gd.at 14 true 29 (decide (S2 > (0 : Int))) rfl rfl rfl (beq_tt H20)) rfl rfl (by kernel_rfl) (by kernel_rfl) (by kernel_rfl) rfl rfl ?_
                refine TA.y (listed' := #[true, true, true, true, true, true, true, true, true, true, true, true, true, true, true, true, true, true, true, true, false, false, false, false, false]) 19 [0] rfl (Y.load_el (us := [.int .i64 E21.No, .int .i64 E21.Level, strV E21.Lo, strV E21.Hi]) (u := .agg #[.int .i64 E21.No, .int .i64 E21.Level, strV E21.Lo, strV E21.Hi]) kk43 rfl (Base.can HB_V_l0) (idx_get H22).2.2 rfl rfl rfl rfl rfl) (Gd.at 14 true 29 (decide (S2 > (0 : Int))) rfl rfl rfl (beq_tt H20)) rfl rfl (by kernel_rfl) (by kernel_rfl) (by kernel_rfl) rfl rfl ?_
                refine TA.y (listed' := #[true, true, true, true, true, true, true, true, true, true, true, true, true, true, true, true, true, true, true, true, true, false, false, false, false]) 20 [0] rfl (Y.load_box (v := .agg #[.int .i64 E7.No, .int .i64 E7.Level, strV E7.Lo, strV E7.Hi]) 0 kk43 rfl rfl rfl) (Gd.at 14 true 29 (decide (S2 > (0 : Int))) rfl rfl rfl (beq_tt H20)) rfl rfl (by kernel_rfl) (by kernel_rfl) (by kernel_rfl) rfl rfl ?_
                refine TA.bind fun R23 H24 => ?_
                refine TA.one 21 (by kernel_rfl) ?_
                refine TX.ef (listed' := #[true, true, true, true, true, true, true, true, true, true, true, true, true, true, true, true, true, true, true, true, true, true, false, false, false]) [0] rfl (Ef.call (rest := [.box B9 43 [.int .i64 E7.No, .int .i64 E7.Level, strV E7.Lo, strV E7.Hi]]) [0] (impl_compareFiles_con E21 E7  R23 H24) kc56 rfl rfl trivial) (Gd.at 14 true 29 (decide (S2 > (0 : Int))) rfl rfl rfl (beq_tt H20)) rfl rfl rfl (fun _ => rfl) (fun _ => ?_)
                refine TA.y (listed' := #[true, true, true, true, true, true, true, true, true, true, true, true, true, true, true, true, true, true, true, true, true, true, true, false, false]) 22 [0] rfl (Y.geq rfl rfl) (Gd.at 14 true 29 (decide (S2 > (0 : Int))) rfl rfl rfl (beq_tt H20)) rfl rfl (by kernel_rfl) (by kernel_rfl) (by kernel_rfl) rfl rfl ?_
                refine TA.y (listed' := #[true, true, true, true, true, true, true, true, true, true, true, true, true, true, true, true, true, true, true, true, true, true, true, true, false]) 23 [0] rfl (Y.pick_t H20 rfl rfl) (Gd.at 11 false 26 (!(decide (R16 = S2))) rfl rfl rfl (beq_ff H19)) rfl rfl (by kernel_rfl) (by kernel_rfl) (by kernel_rfl) rfl rfl ?_
                refine TA.y (listed' := #[true, true, true, true, true, true, true, true, true, true, true, true, true, true, true, true, true, true, true, true, true, true, true, true, true]) 24 [0] rfl (Y.pick_f H19 rfl rfl) rfl rfl rfl (by kernel_rfl) (by kernel_rfl) (by kernel_rfl) rfl rfl ?_
                refine TA.nil (by kernel_rfl) ?_
                exact TE.jb_go () [0] ⟨rfl, rfl, rfl, rfl, rfl, rfl, rfl, trivial⟩ rfl
              · refine TA.off (listed' := #[true, true, true, true, true, true, true, true, true, true, true, true, true, true, true, true, false, false, false, false, false, false, false, false, false]) 15 [0] rfl (Gd.at 14 true 29 (decide (S2 > (0 : Int))) rfl rfl rfl (beq_ft H20)) rfl rfl (by kernel_rfl) (by kernel_rfl) (by kernel_rfl) rfl rfl ?_
                refine TA.off (listed' := #[true, true, true, true, true, true, true, true, true, true, true, true, true, true, true, true, true, false, false, false, false, false, false, false, false]) 16 [0] rfl (Gd.at 14 true 29 (decide (S2 > (0 : Int))) rfl rfl rfl (beq_ft H20)) rfl rfl (by kernel_rfl) (by kernel_rfl) (by kernel_rfl) rfl rfl ?_
                refine TA.off (listed' := #[true, true, true, true, true, true, true, true, true, true, true, true, true, true, true, true, true, true, false, false, false, false, false, false, false]) 17 [0] rfl (Gd.at 14 true 29 (decide (S2 > (0 : Int))) rfl rfl rfl (beq_ft H20)) rfl rfl (by kernel_rfl) (by kernel_rfl) (by kernel_rfl) rfl rfl ?_
                refine TA.off (listed' := #[true, true, true, true, true, true, true, true, true, true, true, true, true, true, true, true, true, true, true, false, false, false, false, false, false]) 18 [0] rfl (Gd.at 14 true 29 (decide (S2 > (0 : Int))) rfl rfl rfl (beq_ft H20)) rfl rfl (by kernel_rfl) (by kernel_rfl) (by kernel_rfl) rfl rfl ?_
                refine TA.off (listed' := #[true, true, true, true, true, true, true, true, true, true, true, true, true, true, true, true, true, true, true, true, false, false, false, false, false]) 19 [0] rfl (Gd.at 14 true 29 (decide (S2 > (0 : Int))) rfl rfl rfl (beq_ft H20)) rfl rfl (by kernel_rfl) (by kernel_rfl) (by kernel_rfl) rfl rfl ?_
                refine TA.off (listed' := #[true, true, true, true, true, true, true, true, true, true, true, true, true, true, true, true, true, true, true, true, true, false, false, false, false]) 20 [0] rfl (Gd.at 14 true 29 (decide (S2 > (0 : Int))) rfl rfl rfl (beq_ft H20)) rfl rfl (by kernel_rfl) (by kernel_rfl) (by kernel_rfl) rfl rfl ?_
                refine TA.off (listed' := #[true, true, true, true, true, true, true, true, true, true, true, true, true, true, true, true, true, true, true, true, true, true, false, false, false]) 21 [0] rfl (Gd.at 14 true 29 (decide (S2 > (0 : Int))) rfl rfl rfl (beq_ft H20)) rfl rfl (by kernel_rfl) (by kernel_rfl) (by kernel_rfl) rfl rfl ?_
                refine TA.off (listed' := #[true, true, true, true, true, true, true, true, true, true, true, true, true, true, true, true, true, true, true, true, true, true, true, false, false]) 22 [0] rfl (Gd.at 14 true 29 (decide (S2 > (0 : Int))) rfl rfl rfl (beq_ft H20)) rfl rfl (by kernel_rfl) (by kernel_rfl) (by kernel_rfl) rfl rfl ?_
                refine TA.y (listed' := #[true, true, true, true, true, true, true, true, true, true, true, true, true, true, true, true, true, true, true, true, true, true, true, true, false]) 23 [0] rfl (Y.pick_f H20 rfl rfl) (Gd.at 11 false 26 (!(decide (R16 = S2))) rfl rfl rfl (beq_ff H19)) rfl rfl (by kernel_rfl) (by kernel_rfl) (by kernel_rfl) rfl rfl ?_
                refine TA.y (listed' := #[true, true, true, true, true, true, true, true, true, true, true, true, true, true, true, true, true, true, true, true, true, true, true, true, true]) 24 [0] rfl (Y.pick_f H19 rfl rfl) rfl rfl rfl (by kernel_rfl) (by kernel_rfl) (by kernel_rfl) rfl rfl ?_
                refine TA.nil (by kernel_rfl) ?_
                exact TE.jb_go () [0] ⟨rfl, rfl, rfl, rfl, rfl, rfl, rfl, trivial⟩ rfl
        · refine TE.next ?_
          refine TW.cond rfl (fun H26 => ?_) (fun H26 => ?_)
          · refine TW.seq ?_
            refine TW.region ?_
            refine TO.y (Y.assign rfl) rfl rfl rfl ?_
            refine TO.nil ?_
            refine TE.next ?_
            refine TW.ret ?_
            refine TE.then_ret ?_
            refine TE.block_ret ?_
            refine TE.then_ret ?_
            refine TE.lp_ret ?_
            refine TE.block_ret ?_
            refine TE.jn_done ?_
            refine TE.then_ret ?_
            exact TE.leaf fun _ _ hf_ hs_ => ret_any (rs := [.tmp 2]) (vs := [.bool false]) (.inl rfl) rfl ⟨rfl, trivial⟩ hf_ hs_ ⟨(), rfl, hs_.pulls [] rfl⟩
          · refine TW.skip ?_
            refine TE.next ?_
            refine TW.seq ?_
            refine TW.joinBX (τ := Bool) (X := Unit) (fun T _ => [(0, V_l0), (8, V_l0), (9, .int .i64 ((l.length : Nat) : Int)), (10, .int .i64 S2), (68, .bool T)]) (fun _ _ => []) ?_ (fun T27 X28 => ?_)
            · refine TW.draw (isH := [.box B9 43 [.int .i64 E7.No, .int .i64 E7.Level, strV E7.Lo, strV E7.Hi]]) hMix ?_
              refine TA.y (listed' := #[true, false, false, false, false, false, false, false, false, false, false, false, false, false, false, false, false, false, false, false, false, false, false, false, false, false, false, false, false]) 0 [0] rfl (Y.move rfl) rfl rfl rfl (by kernel_rfl) (by kernel_rfl) (by kernel_rfl) rfl rfl ?_
              refine TA.y (listed' := #[true, true, false, false, false, false, false, false, false, false, false, false, false, false, false, false, false, false, false, false, false, false, false, false, false, false, false, false, false]) 1 [0] rfl (Y.gtr rfl rfl) rfl rfl rfl (by kernel_rfl) (by kernel_rfl) (by kernel_rfl) rfl rfl ?_
              refine TA.y (listed' := #[true, true, true, false, false, false, false, false, false, false, false, false, false, false, false, false, false, false, false, false, false, false, false, false, false, false, false, false, false]) 2 [0] rfl (Y.move rfl) rfl rfl rfl (by kernel_rfl) (by kernel_rfl) (by kernel_rfl) rfl rfl ?_
              refine TA.ite (b := decide (S2 > (0 : Int))) (fun H29 => ?_) (fun H29 => ?_)
              · refine TA.y (listed' := #[true, true, true, true, false, false, false, false, false, false, false, false, false, false, false, false, false, false, false, false, false, false, false, false, false, false, false, false, false]) 3 [0] rfl (Y.field_box kf43_1 rfl rfl) (Gd.at 2 true 42 (decide (S2 > (0 : Int))) rfl rfl rfl (beq_tt H29)) rfl rfl (by kernel_rfl) (by kernel_rfl) (by kernel_rfl) rfl rfl ?_
                refine TA.y (listed' := #[true, true, true, true, true, false, false, false, false, false, false, false, false, false, false, false, false, false, false, false, false, false, false, false, false, false, false, false, false]) 4 [0] rfl (Y.load_box (v := .int .i64 E7.Level) 0 kk3 rfl rfl rfl) (Gd.at 2 true 42 (decide (S2 > (0 : Int))) rfl rfl rfl (beq_tt H29)) rfl rfl (by kernel_rfl) (by kernel_rfl) (by kernel_rfl) rfl rfl ?_
                refine TA.y (listed' := #[true, true, true, true, true, true, false, false, false, false, false, false, false, false, false, false, false, false, false, false, false, false, false, false, false, false, false, false, false]) 5 [0] rfl (Y.gtr rfl rfl) (Gd.at 2 true 42 (decide (S2 > (0 : Int))) rfl rfl rfl (beq_tt H29)) rfl rfl (by kernel_rfl) (by kernel_rfl) (by kernel_rfl) rfl rfl ?_
                refine TA.y (listed' := #[true, true, true, true, true, true, true, false, false, false, false, false, false, false, false, false, false, false, false, false, false, false, false, false, false, false, false, false, false]) 6 [0] rfl (Y.pick_t H29 rfl rfl) rfl rfl rfl (by kernel_rfl) (by kernel_rfl) (by kernel_rfl) rfl rfl ?_
                refine TA.y (listed' := #[true, true, true, true, true, true, true, true, false, false, false, false, false, false, false, false, false, false, false, false, false, false, false, false, false, false, false, false, false]) 7 [0] rfl (Y.move rfl) rfl rfl rfl (by kernel_rfl) (by kernel_rfl) (by kernel_rfl) rfl rfl ?_
                refine TA.ite (b := decide (E7.Level > (0 : Int))) (fun H30 => ?_) (fun H30 => ?_)
                · refine TA.y (listed' := #[true, true, true, true, true, true, true, true, true, false, false, false, false, false, false, false, false, false, false, false, false, false, false, false, false, false, false, false, false]) 8 [0] rfl (Y.move rfl) (Gd.at 7 true 47 (decide (E7.Level > (0 : Int))) rfl rfl rfl (beq_tt H30)) rfl rfl (by kernel_rfl) (by kernel_rfl) (by kernel_rfl) rfl rfl ?_
                  refine TA.y (listed' := #[true, true, true, true, true, true, true, true, true, true, false, false, false, false, false, false, false, false, false, false, false, false, false, false, false, false, false, false, false]) 9 [0] rfl (Y.move rfl) (Gd.at 7 true 47 (decide (E7.Level > (0 : Int))) rfl rfl rfl (beq_tt H30)) rfl rfl (by kernel_rfl) (by kernel_rfl) (by kernel_rfl) rfl rfl ?_
                  refine TA.y (listed' := #[true, true, true, true, true, true, true, true, true, true, true, false, false, false, false, false, false, false, false, false, false, false, false, false, false, false, false, false, false]) 10 [0] rfl (Y.sub rfl rfl) (Gd.at 7 true 47 (decide (E7.Level > (0 : Int))) rfl rfl rfl (beq_tt H30)) rfl rfl (by kernel_rfl) (by kernel_rfl) (by kernel_rfl) rfl rfl ?_
                  refine TA.bind fun E31 H32 => ?_
                  refine TA.y (listed' := #[true, true, true, true, true, true, true, true, true, true, true, true, false, false, false, false, false, false, false, false, false, false, false, false, false, false, false, false, false]) 11 [0] rfl (Y.index ke26 (Base.can HB_V_l0) H32 rfl rfl) (Gd.at 7 true 47 (decide (E7.Level > (0 : Int))) rfl rfl rfl (beq_tt H30)) rfl rfl (by kernel_rfl) (by kernel_rfl) (by kernel_rfl) rfl rfl ?_
                  refine TA.y (listed' := #[true, true, true, true, true, true, true, true, true, true, true, true, true, false, false, false, false, false, false, false, false, false, false, false, false, false, false, false, false]) 12 [0] rfl (Y.field_el kf43_1 (Base.can HB_V_l0) (idx_get H32).2.2 rfl rfl) (Gd.at 7 true 47 (decide (E7.Level > (0 : Int))) rfl rfl rfl (beq_tt H30)) rfl rfl (by kernel_rfl) (by kernel_rfl) (by kernel_rfl) rfl rfl ?_
                  refine TA.y (listed' := #[true, true, true, true, true, true, true, true, true, true, true, true, true, true, false, false, false, false, false, false, false, false, false, false, false, false, false, false, false]) 13 [0] rfl (Y.load_el (us := [.int .i64 E31.Level]) (u := .int .i64 E31.Level) kk3 rfl (Base.can HB_V_l0) (idx_get H32).2.2 rfl rfl rfl rfl rfl) (Gd.at 7 true 47 (decide (E7.Level > (0 : Int))) rfl rfl rfl (beq_tt H30)) rfl rfl (by kernel_rfl) (by kernel_rfl) (by kernel_rfl) rfl rfl ?_
                  refine TA.y (listed' := #[true, true, true, true, true, true, true, true, true, true, true, true, true, true, true, false, false, false, false, false, false, false, false, false, false, false, false, false, false]) 14 [0] rfl (Y.field_box kf43_1 rfl rfl) (Gd.at 7 true 47 (decide (E7.Level > (0 : Int))) rfl rfl rfl (beq_tt H30)) rfl rfl (by kernel_rfl) (by kernel_rfl) (by kernel_rfl) rfl rfl ?_
                  refine TA.y (listed' := #[true, true, true, true, true, true, true, true, true, true, true, true, true, true, true, true, false, false, false, false, false, false, false, false, false, false, false, false, false]) 15 [0] rfl (Y.load_box (v := .int .i64 E7.Level) 0 kk3 rfl rfl rfl) (Gd.at 7 true 47 (decide (E7.Level > (0 : Int))) rfl rfl rfl (beq_tt H30)) rfl rfl (by kernel_rfl) (by kernel_rfl) (by kernel_rfl) rfl rfl ?_
                  refine TA.y (listed' := #[true, true, true, true, true, true, true, true, true, true, true, true, true, true, true, true, true, false, false, false, false, false, false, false, false, false, false, false, false]) 16 [0] rfl (Y.eql rfl rfl) (Gd.at 7 true 47 (decide (E7.Level > (0 : Int))) rfl rfl rfl (beq_tt H30)) rfl rfl (by kernel_rfl) (by kernel_rfl) (by kernel_rfl) rfl rfl ?_
                  refine TA.y (listed' := #[true, true, true, true, true, true, true, true, true, true, true, true, true, true, true, true, true, true, false, false, false, false, false, false, false, false, false, false, false]) 17 [0] rfl (Y.pick_t H30 rfl rfl) rfl rfl rfl (by kernel_rfl) (by kernel_rfl) (by kernel_rfl) rfl rfl ?_
                  refine TA.y (listed' := #[true, true, true, true, true, true, true, true, true, true, true, true, true, true, true, true, true, true, true, false, false, false, false, false, false, false, false, false, false]) 18 [0] rfl (Y.move rfl) rfl rfl rfl (by kernel_rfl) (by kernel_rfl) (by kernel_rfl) rfl rfl ?_
                  refine TA.ite (b := decide (E31.Level = E7.Level)) (fun H33 => ?_) (fun H33 => ?_)
                  · refine TA.y (listed' := #[true, true, true, true, true, true, true, true, true, true, true, true, true, true, true, true, true, true, true, true, false, false, false, false, false, false, false, false, false]) 19 [0] rfl (Y.field_box kf43_2 rfl rfl) (Gd.at 18 true 58 (decide (E31.Level = E7.Level)) rfl rfl rfl (beq_tt H33)) rfl rfl (by kernel_rfl) (by kernel_rfl) (by kernel_rfl) rfl rfl ?_
                    refine TA.y (listed' := #[true, true, true, true, true, true, true, true, true, true, true, true, true, true, true, true, true, true, true, true, true, false, false, false, false, false, false, false, false]) 20 [0] rfl (Y.load_box (v := strV E7.Lo) 0 kk9 rfl rfl rfl) (Gd.at 18 true 58 (decide (E31.Level = E7.Level)) rfl rfl rfl (beq_tt H33)) rfl rfl (by kernel_rfl) (by kernel_rfl) (by kernel_rfl) rfl rfl ?_
                    refine TA.y (listed' := #[true, true, true, true, true, true, true, true, true, true, true, true, true, true, true, true, true, true, true, true, true, true, false, false, false, false, false, false, false]) 21 [0] rfl (Y.move rfl) (Gd.at 18 true 58 (decide (E31.Level = E7.Level)) rfl rfl rfl (beq_tt H33)) rfl rfl (by kernel_rfl) (by kernel_rfl) (by kernel_rfl) rfl rfl ?_
                    refine TA.y (listed' := #[true, true, true, true, true, true, true, true, true, true, true, true, true, true, true, true, true, true, true, true, true, true, true, false, false, false, false, false, false]) 22 [0] rfl (Y.move rfl) (Gd.at 18 true 58 (decide (E31.Level = E7.Level)) rfl rfl rfl (beq_tt H33)) rfl rfl (by kernel_rfl) (by kernel_rfl) (by kernel_rfl) rfl rfl ?_
                    refine TA.y (listed' := #[true, true, true, true, true, true, true, true, true, true, true, true, true, true, true, true, true, true, true, true, true, true, true, true, false, false, false, false, false]) 23 [0] rfl (Y.sub rfl rfl) (Gd.at 18 true 58 (decide (E31.Level = E7.Level)) rfl rfl rfl (beq_tt H33)) rfl rfl (by kernel_rfl) (by kernel_rfl) (by kernel_rfl) rfl rfl ?_
                    refine TA.y (listed' := #[true, true, true, true, true, true, true, true, true, true, true, true, true, true, true, true, true, true, true, true, true, true, true, true, true, false, false, false, false]) 24 [0] rfl (Y.index ke26 (Base.can HB_V_l0) H32 rfl rfl) (Gd.at 18 true 58 (decide (E31.Level = E7.Level)) rfl rfl rfl (beq_tt H33)) rfl rfl (by kernel_rfl) (by kernel_rfl) (by kernel_rfl) rfl rfl ?_
                    refine TA.y (listed' := #[true, true, true, true, true, true, true, true, true, true, true, true, true, true, true, true, true, true, true, true, true, true, true, true, true, true, false, false, false]) 25 [0] rfl (Y.field_el kf43_3 (Base.can HB_V_l0) (idx_get H32).2.2 rfl rfl) (Gd.at 18 true 58 (decide (E31.Level = E7.Level)) rfl rfl rfl (beq_tt H33)) rfl rfl (by kernel_rfl) (by kernel_rfl) (by kernel_rfl) rfl rfl ?_
                    refine TA.y (listed' := #[true, true, true, true, true, true, true, true, true, true, true, true, true, true, true, true, true, true, true, true, true, true, true, true, true, true, true, false, false]) 26 [0] rfl (Y.load_el (us := [strV E31.Hi]) (u := strV E31.Hi) kk9 rfl (Base.can HB_V_l0) (idx_get H32).2.2 rfl rfl rfl rfl rfl) (Gd.at 18 true 58 (decide (E31.Level = E7.Level)) rfl rfl rfl (beq_tt H33)) rfl rfl (by kernel_rfl) (by kernel_rfl) (by kernel_rfl) rfl rfl ?_
                    refine TA.y (listed' := #[true, true, true, true, true, true, true, true, true, true, true, true, true, true, true, true, true, true, true, true, true, true, true, true, true, true, true, true, false]) 27 [0] rfl (Y.sleq rfl rfl) (Gd.at 18 true 58 (decide (E31.Level = E7.Level)) rfl rfl rfl (beq_tt H33)) rfl rfl (by kernel_rfl) (by kernel_rfl) (by kernel_rfl) rfl rfl ?_
                    refine TA.y (listed' := #[true, true, true, true, true, true, true, true, true, true, true, true, true, true, true, true, true, true, true, true, true, true, true, true, true, true, true, true, true]) 28 [0] rfl (Y.pick_t H33 rfl rfl) rfl rfl rfl (by kernel_rfl) (by kernel_rfl) (by kernel_rfl) rfl rfl ?_
                    refine TA.nil (by kernel_rfl) ?_
                    exact TE.jb_go () [] ⟨rfl, rfl, rfl, rfl, rfl, trivial⟩ rfl
                  · refine TA.off (listed' := #[true, true, true, true, true, true, true, true, true, true, true, true, true, true, true, true, true, true, true, true, false, false, false, false, false, false, false, false, false]) 19 [0] rfl (Gd.at 18 true 58 (decide (E31.Level = E7.Level)) rfl rfl rfl (beq_ft H33)) rfl rfl (by kernel_rfl) (by kernel_rfl) (by kernel_rfl) rfl rfl ?_
                    refine TA.off (listed' := #[true, true, true, true, true, true, true, true, true, true, true, true, true, true, true, true, true, true, true, true, true, false, false, false, false, false, false, false, false]) 20 [0] rfl (Gd.at 18 true 58 (decide (E31.Level = E7.Level)) rfl rfl rfl (beq_ft H33)) rfl rfl (by kernel_rfl) (by kernel_rfl) (by kernel_rfl) rfl rfl ?_
                    refine TA.off (listed' := #[true, true, true, true, true, true, true, true, true, true, true, true, true, true, true, true, true, true, true, true, true, true, false, false, false, false, false, false, false]) 21 [0] rfl (Gd.at 18 true 58 (decide (E31.Level = E7.Level)) rfl rfl rfl (beq_ft H33)) rfl rfl (by kernel_rfl) (by kernel_rfl) (by kernel_rfl) rfl rfl ?_
                    refine TA.off (listed' := #[true, true, true, true, true, true, true, true, true, true, true, true, true, true, true, true, true, true, true, true, true, true, true, false, false, false, false, false, false]) 22 [0] rfl (Gd.at 18 true 58 (decide (E31.Level = E7.Level)) rfl rfl rfl (beq_ft H33)) rfl rfl (by kernel_rfl) (by kernel_rfl) (by kernel_rfl) rfl rfl ?_
                    refine TA.off (listed' := #[true, true, true, true, true, true, true, true, true, true, true, true, true, true, true, true, true, true, true, true, true, true, true, true, false, false, false, false, false]) 23 [0] rfl (Gd.at 18 true 58 (decide (E31.Level = E7.Level)) rfl rfl rfl (beq_ft H33)) rfl rfl (by kernel_rfl) (by kernel_rfl) (by kernel_rfl) rfl rfl ?_
                    refine TA.off (listed' := #[true, true, true, true, true, true, true, true, true, true, true, true, true, true, true, true, true, true, true, true, true, true, true, true, true, false, false, false, false]) 24 [0] rfl (Gd.at 18 true 58 (decide (E31.Level = E7.Level)) rfl rfl rfl (beq_ft H33)) rfl rfl (by kernel_rfl) (by kernel_rfl) (by kernel_rfl) rfl rfl ?_
                    refine TA.off (listed' := #[true, true, true, true, true, true, true, true, true, true, true, true, true, true, true, true, true, true, true, true, true, true, true, true, true, true, false, false, false]) 25 [0] rfl (Gd.at 18 true 58 (decide (E31.Level = E7.Level)) rfl rfl rfl (beq_ft H33)) rfl rfl (by kernel_rfl) (by kernel_rfl) (by kernel_rfl) rfl rfl ?_
                    refine TA.off (listed' := #[true, true, true, true, true, true, true, true, true, true, true, true, true, true, true, true, true, true, true, true, true, true, true, true, true, true, true, false, false]) 26 [0] rfl (Gd.at 18 true 58 (decide (E31.Level = E7.Level)) rfl rfl rfl (beq_ft H33)) rfl rfl (by kernel_rfl) (by kernel_rfl) (by kernel_rfl) rfl rfl ?_
                    refine TA.off (listed' := #[true, true, true, true, true, true, true, true, true, true, true, true, true, true, true, true, true, true, true, true, true, true, true, true, true, true, true, true, false]) 27 [0] rfl (Gd.at 18 true 58 (decide (E31.Level = E7.Level)) rfl rfl rfl (beq_ft H33)) rfl rfl (by kernel_rfl) (by kernel_rfl) (by kernel_rfl) rfl rfl ?_
                    refine TA.y (listed' := #[true, true, true, true, true, true, true, true, true, true, true, true, true, true, true, true, true, true, true, true, true, true, true, true, true, true, true, true, true]) 28 [0] rfl (Y.pick_f H33 rfl rfl) rfl rfl rfl (by kernel_rfl) (by kernel_rfl) (by kernel_rfl) rfl rfl ?_
                    refine TA.nil (by kernel_rfl) ?_
                    exact TE.jb_go () [] ⟨rfl, rfl, rfl, rfl, rfl, trivial⟩ rfl
                · refine TA.off (listed' := #[true, true, true, true, true, true, true, true, true, false, false, false, false, false, false, false, false, false, false, false, false, false, false, false, false, false, false, false, false]) 8 [0] rfl (Gd.at 7 true 47 (decide (E7.Level > (0 : Int))) rfl rfl rfl (beq_ft H30)) rfl rfl (by kernel_rfl) (by kernel_rfl) (by kernel_rfl) rfl rfl ?_
                  refine TA.off (listed' := #[true, true, true, true, true, true, true, true, true, true, false, false, false, false, false, false, false, false, false, false, false, false, false, false, false, false, false, false, false]) 9 [0] rfl (Gd.at 7 true 47 (decide (E7.Level > (0 : Int))) rfl rfl rfl (beq_ft H30)) rfl rfl (by kernel_rfl) (by kernel_rfl) (by kernel_rfl) rfl rfl ?_
                  refine TA.off (listed' := #[true, true, true, true, true, true, true, true, true, true, true, false, false, false, false, false, false, false, false, false, false, false, false, false, false, false, false, false, false]) 10 [0] rfl (Gd.at 7 true 47 (decide (E7.Level > (0 : Int))) rfl rfl rfl (beq_ft H30)) rfl rfl (by kernel_rfl) (by kernel_rfl) (by kernel_rfl) rfl rfl ?_
                  refine TA.off (listed' := #[true, true, true, true, true, true, true, true, true, true, true, true, false, false, false, false, false, false, false, false, false, false, false, false, false, false, false, false, false]) 11 [0] rfl (Gd.at 7 true 47 (decide (E7.Level > (0 : Int))) rfl rfl rfl (beq_ft H30)) rfl rfl (by kernel_rfl) (by kernel_rfl) (by kernel_rfl) rfl rfl ?_
                  refine TA.off (listed' := #[true, true, true, true, true, true, true, true, true, true, true, true, true, false, false, false, false, false, false, false, false, false, false, false, false, false, false, false, false]) 12 [0] rfl (Gd.at 7 true 47 (decide (E7.Level > (0 : Int))) rfl rfl rfl (beq_ft H30)) rfl rfl (by kernel_rfl) (by kernel_rfl) (by kernel_rfl) rfl rfl ?_
                  refine TA.off (listed' := #[true, true, true, true, true, true, true, true, true, true, true, true, true, true, false, false, false, false, false, false, false, false, false, false, false, false, false, false, false]) 13 [0] rfl (Gd.at 7 true 47 (decide (E7.Level > (0 : Int))) rfl rfl rfl (beq_ft H30)) rfl rfl (by kernel_rfl) (by kernel_rfl) (by kernel_rfl) rfl rfl ?_
                  refine TA.off (listed' := #[true, true, true, true, true, true, true, true, true, true, true, true, true, true, true, false, false, false, false, false, false, false, false, false, false, false, false, false, false]) 14 [0] rfl (Gd.at 7 true 47 (decide (E7.Level > (0 : Int))) rfl rfl rfl (beq_ft H30)) rfl rfl (by kernel_rfl) (by kernel_rfl) (by kernel_rfl) rfl rfl ?_
                  refine TA.off (listed' := #[true, true, true, true, true, true, true, true, true, true, true, true, true, true, true, true, false, false, false, false, false, false, false, false, false, false, false, false, false]) 15 [0] rfl (Gd.at 7 true 47 (decide (E7.Level > (0 : Int))) rfl rfl rfl (beq_ft H30)) rfl rfl (by kernel_rfl) (by kernel_rfl) (by kernel_rfl) rfl rfl ?_
                  refine TA.off (listed' := #[true, true, true, true, true, true, true, true, true, true, true, true, true, true, true, true, true, false, false, false, false, false, false, false, false, false, false, false, false]) 16 [0] rfl (Gd.at 7 true 47 (decide (E7.Level > (0 : Int))) rfl rfl rfl (beq_ft H30)) rfl rfl (by kernel_rfl) (by kernel_rfl) (by kernel_rfl) rfl rfl ?_
                  refine TA.y (listed' := #[true, true, true, true, true, true, true, true, true, true, true, true, true, true, true, true, true, true, false, false, false, false, false, false, false, false, false, false, false]) 17 [0] rfl (Y.pick_f H30 rfl rfl) rfl rfl rfl (by kernel_rfl) (by kernel_rfl) (by kernel_rfl) rfl rfl ?_
                  refine TA.y (listed' := #[true, true, true, true, true, true, true, true, true, true, true, true, true, true, true, true, true, true, true, false, false, false, false, false, false, false, false, false, false]) 18 [0] rfl (Y.move rfl) rfl rfl rfl (by kernel_rfl) (by kernel_rfl) (by kernel_rfl) rfl rfl ?_
                  refine TA.off (listed' := #[true, true, true, true, true, true, true, true, true, true, true, true, true, true, true, true, true, true, true, true, false, false, false, false, false, false, false, false, false]) 19 [0] rfl (Gd.at 18 true 58 false rfl rfl rfl rfl) rfl rfl (by kernel_rfl) (by kernel_rfl) (by kernel_rfl) rfl rfl ?_
                  refine TA.off (listed' := #[true, true, true, true, true, true, true, true, true, true, true, true, true, true, true, true, true, true, true, true, true, false, false, false, false, false, false, false, false]) 20 [0] rfl (Gd.at 18 true 58 false rfl rfl rfl rfl) rfl rfl (by kernel_rfl) (by kernel_rfl) (by kernel_rfl) rfl rfl ?_
                  refine TA.off (listed' := #[true, true, true, true, true, true, true, true, true, true, true, true, true, true, true, true, true, true, true, true, true, true, false, false, false, false, false, false, false]) 21 [0] rfl (Gd.at 18 true 58 false rfl rfl rfl rfl) rfl rfl (by kernel_rfl) (by kernel_rfl) (by kernel_rfl) rfl rfl ?_
                  refine TA.off (listed' := #[true, true, true, true, true, true, true, true, true, true, true, true, true, true, true, true, true, true, true, true, true, true, true, false, false, false, false, false, false]) 22 [0] rfl (Gd.at 18 true 58 false rfl rfl rfl rfl) rfl rfl (by kernel_rfl) (by kernel_rfl) (by kernel_rfl) rfl rfl ?_
                  refine TA.off (listed' := #[true, true, true, true, true, true, true, true, true, true, true, true, true, true, true, true, true, true, true, true, true, true, true, true, false, false, false, false, false]) 23 [0] rfl (Gd.at 18 true 58 false rfl rfl rfl rfl) rfl rfl (by kernel_rfl) (by kernel_rfl) (by kernel_rfl) rfl rfl ?_
                  refine TA.off (listed' := #[true, true, true, true, true, true, true, true, true, true, true, true, true, true, true, true, true, true, true, true, true, true, true, true, true, false, false, false, false]) 24 [0] rfl (Gd.at 18 true 58 false rfl rfl rfl rfl) rfl rfl (by kernel_rfl) (by kernel_rfl) (by kernel_rfl) rfl rfl ?_
                  refine TA.off (listed' := #[true, true, true, true, true, true, true, true, true, true, true, true, true, true, true, true, true, true, true, true, true, true, true, true, true, true, false, false, false]) 25 [0] rfl (Gd.at 18 true 58 false rfl rfl rfl rfl) rfl rfl (by kernel_rfl) (by kernel_rfl) (by kernel_rfl) rfl rfl ?_
                  refine TA.off (listed' := #[true, true, true, true, true, true, true, true, true, true, true, true, true, true, true, true, true, true, true, true, true, true, true, true, true, true, true, false, false]) 26 [0] rfl (Gd.at 18 true 58 false rfl rfl rfl rfl) rfl rfl (by kernel_rfl) (by kernel_rfl) (by kernel_rfl) rfl rfl ?_
                  refine TA.off (listed' := #[true, true, true, true, true, true, true, true, true, true, true, true, true, true, true, true, true, true, true, true, true, true, true, true, true, true, true, true, false]) 27 [0] rfl (Gd.at 18 true 58 false rfl rfl rfl rfl) rfl rfl (by kernel_rfl) (by kernel_rfl) (by kernel_rfl) rfl rfl ?_
                  refine TA.y (listed' := #[true, true, true, true, true, true, true, true, true, true, true, true, true, true, true, true, true, true, true, true, true, true, true, true, true, true, true, true, true]) 28 [0] rfl (Y.pick_f rfl rfl rfl) rfl rfl rfl (by kernel_rfl) (by kernel_rfl) (by kernel_rfl) rfl rfl ?_
                  refine TA.nil (by kernel_rfl) ?_
                  exact TE.jb_go () [] ⟨rfl, rfl, rfl, rfl, rfl, trivial⟩ rfl
              · refine TA.off (listed' := #[true, true, true, true, false, false, false, false, false, false, false, false, false, false, false, false, false, false, false, false, false, false, false, false, false, false, false, false, false]) 3 [0] rfl (Gd.at 2 true 42 (decide (S2 > (0 : Int))) rfl rfl rfl (beq_ft H29)) rfl rfl (by kernel_rfl) (by kernel_rfl) (by kernel_rfl) rfl rfl ?_
                refine TA.off (listed' := #[true, true, true, true, true, false, false, false, false, false, false, false, false, false, false, false, false, false, false, false, false, false, false, false, false, false, false, false, false]) 4 [0] rfl (Gd.at 2 true 42 (decide (S2 > (0 : Int))) rfl rfl rfl (beq_ft H29)) rfl rfl (by kernel_rfl) (by kernel_rfl) (by kernel_rfl) rfl rfl ?_
                refine TA.off (listed' := #[true, true, true, true, true, true, false, false, false, false, false, false, false, false, false, false, false, false, false, false, false, false, false, false, false, false, false, false, false]) 5 [0] rfl (Gd.at 2 true 42 (decide (S2 > (0 : Int))) rfl rfl rfl (beq_ft H29)) rfl rfl (by kernel_rfl) (by kernel_rfl) (by kernel_rfl) rfl rfl ?_
                refine TA.y (listed' := #[true, true, true, true, true, true, true, false, false, false, false, false, false, false, false, false, false, false, false, false, false, false, false, false, false, false, false, false, false]) 6 [0] rfl (Y.pick_f H29 rfl rfl) rfl rfl rfl (by kernel_rfl) (by kernel_rfl) (by kernel_rfl) rfl rfl ?_
                refine TA.y (listed' := #[true, true, true, true, true, true, true, true, false, false, false, false, false, false, false, false, false, false, false, false, false, false, false, false, false, false, false, false, false]) 7 [0] rfl (Y.move rfl) rfl rfl rfl (by kernel_rfl) (by kernel_rfl) (by kernel_rfl) rfl rfl ?_
                refine TA.off (listed' := #[true, true, true, true, true, true, true, true, true, false, false, false, false, false, false, false, false, false, false, false, false, false, false, false, false, false, false, false, false]) 8 [0] rfl (Gd.at 7 true 47 false rfl rfl rfl rfl) rfl rfl (by kernel_rfl) (by kernel_rfl) (by kernel_rfl) rfl rfl ?_
                refine TA.off (listed' := #[true, true, true, true, true, true, true, true, true, true, false, false, false, false, false, false, false, false, false, false, false, false, false, false, false, false, false, false, false]) 9 [0] rfl (Gd.at 7 true 47 false rfl rfl rfl rfl) rfl rfl (by kernel_rfl) (by kernel_rfl) (by kernel_rfl) rfl rfl ?_
                refine TA.off (listed' := #[true, true, true, true, true, true, true, true, true, true, true, false, false, false, false, false, false, false, false, false, false, false, false, false, false, false, false, false, false]) 10 [0] rfl (Gd.at 7 true 47 false rfl rfl rfl rfl) rfl rfl (by kernel_rfl) (by kernel_rfl) (by kernel_rfl) rfl rfl ?_
                refine TA.off (listed' := #[true, true, true, true, true, true, true, true, true, true, true, true, false, false, false, false, false, false, false, false, false, false, false, false, false, false, false, false, false]) 11 [0] rfl (Gd.at 7 true 47 false rfl rfl rfl rfl) rfl rfl (by kernel_rfl) (by kernel_rfl) (by kernel_rfl) rfl rfl ?_
                refine TA.off (listed' := #[true, true, true, true, true, true, true, true, true, true, true, true, true, false, false, false, false, false, false, false, false, false, false, false, false, false, false, false, false]) 12 [0] rfl (Gd.at 7 true 47 false rfl rfl rfl rfl) rfl rfl (by kernel_rfl) (by kernel_rfl) (by kernel_rfl) rfl rfl ?_
                refine TA.off (listed' := #[true, true, true, true, true, true, true, true, true, true, true, true, true, true, false, false, false, false, false, false, false, false, false, false, false, false, false, false, false]) 13 [0] rfl (Gd.at 7 true 47 false rfl rfl rfl rfl) rfl rfl (by kernel_rfl) (by kernel_rfl) (by kernel_rfl) rfl rfl ?_
                refine TA.off (listed' := #[true, true, true, true, true, true, true, true, true, true, true, true, true, true, true, false, false, false, false, false, false, false, false, false, false, false, false, false, false]) 14 [0] rfl (Gd.at 7 true 47 false rfl rfl rfl rfl) rfl rfl (by kernel_rfl) (by kernel_rfl) (by kernel_rfl) rfl rfl ?_
                refine TA.off (listed' := #[true, true, true, true, true, true, true, true, true, true, true, true, true, true, true, true, false, false, false, false, false, false, false, false, false, false, false, false, false]) 15 [0] rfl (Gd.at 7 true 47 false rfl rfl rfl rfl) rfl rfl (by kernel_rfl) (by kernel_rfl) (by kernel_rfl) rfl rfl ?_
                refine TA.off (listed' := #[true, true, true, true, true, true, true, true, true, true, true, true, true, true, true, true, true, false, false, false, false, false, false, false, false, false, false, false, false]) 16 [0] rfl (Gd.at 7 true 47 false rfl rfl rfl rfl) rfl rfl (by kernel_rfl) (by kernel_rfl) (by kernel_rfl) rfl rfl ?_
                refine TA.y (listed' := #[true, true, true, true, true, true, true, true, true, true, true, true, true, true, true, true, true, true, false, false, false, false, false, false, false, false, false, false, false]) 17 [0] rfl (Y.pick_f rfl rfl rfl) rfl rfl rfl (by kernel_rfl) (by kernel_rfl) (by kernel_rfl) rfl rfl ?_
                refine TA.y (listed' := #[true, true, true, true, true, true, true, true, true, true, true, true, true, true, true, true, true, true, true, false, false, false, false, false, false, false, false, false, false]) 18 [0] rfl (Y.move rfl) rfl rfl rfl (by kernel_rfl) (by kernel_rfl) (by kernel_rfl) rfl rfl ?_
                refine TA.off (listed' := #[true, true, true, true, true, true, true, true, true, true, true, true, true, true, true, true, true, true, true, true, false, false, false, false, false, false, false, false, false]) 19 [0] rfl (Gd.at 18 true 58 false rfl rfl rfl rfl) rfl rfl (by kernel_rfl) (by kernel_rfl) (by kernel_rfl) rfl rfl ?_
                refine TA.off (listed' := #[true, true, true, true, true, true, true, true, true, true, true, true, true, true, true, true, true, true, true, true, true, false, false, false, false, false, false, false, false]) 20 [0] rfl (Gd.at 18 true 58 false rfl rfl rfl rfl) rfl rfl (by kernel_rfl) (by kernel_rfl) (by kernel_rfl) rfl rfl ?_
                refine TA.off (listed' := #[true, true, true, true, true, true, true, true, true, true, true, true, true, true, true, true, true, true, true, true, true, true, false, false, false, false, false, false, false]) 21 [0] rfl (Gd.at 18 true 58 false rfl rfl rfl rfl) rfl rfl (by kernel_rfl) (by kernel_rfl) (by kernel_rfl) rfl rfl ?_
                refine TA.off (listed' := #[true, true, true, true, true, true, true, true, true, true, true, true, true, true, true, true, true, true, true, true, true, true, true, false, false, false, false, false, false]) 22 [0] rfl (Gd.at 18 true 58 false rfl rfl rfl rfl) rfl rfl (by kernel_rfl) (by kernel_rfl) (by kernel_rfl) rfl rfl ?_
                refine TA.off (listed' := #[true, true, true, true, true, true, true, true, true, true, true, true, true, true, true, true, true, true, true, true, true, true, true, true, false, false, false, false, false]) 23 [0] rfl (Gd.at 18 true 58 false rfl rfl rfl rfl) rfl rfl (by kernel_rfl) (by kernel_rfl) (by kernel_rfl) rfl rfl ?_
                refine TA.off (listed' := #[true, true, true, true, true, true, true, true, true, true, true, true, true, true, true, true, true, true, true, true, true, true, true, true, true, false, false, false, false]) 24 [0] rfl (Gd.at 18 true 58 false rfl rfl rfl rfl) rfl rfl (by kernel_rfl) (by kernel_rfl) (by kernel_rfl) rfl rfl ?_
                refine TA.off (listed' := #[true, true, true, true, true, true, true, true, true, true, true, true, true, true, true, true, true, true, true, true, true, true, true, true, true, true, false, false, false]) 25 [0] rfl (Gd.at 18 true 58 false rfl rfl rfl rfl) rfl rfl (by kernel_rfl) (by kernel_rfl) (by kernel_rfl) rfl rfl ?_
                refine TA.off (listed' := #[true, true, true, true, true, true, true, true, true, true, true, true, true, true, true, true, true, true, true, true, true, true, true, true, true, true, true, false, false]) 26 [0] rfl (Gd.at 18 true 58 false rfl rfl rfl rfl) rfl rfl (by kernel_rfl) (by kernel_rfl) (by kernel_rfl) rfl rfl ?_
                refine TA.off (listed' := #[true, true, true, true, true, true, true, true, true, true, true, true, true, true, true, true, true, true, true, true, true, true, true, true, true, true, true, true, false]) 27 [0] rfl (Gd.at 18 true 58 false rfl rfl rfl rfl) rfl rfl (by kernel_rfl) (by kernel_rfl) (by kernel_rfl) rfl rfl ?_
                refine TA.y (listed' := #[true, true, true, true, true, true, true, true, true, true, true, true, true, true, true, true, true, true, true, true, true, true, true, true, true, true, true, true, true]) 28 [0] rfl (Y.pick_f rfl rfl rfl) rfl rfl rfl (by kernel_rfl) (by kernel_rfl) (by kernel_rfl) rfl rfl ?_
                refine TA.nil (by kernel_rfl) ?_
                exact TE.jb_go () [] ⟨rfl, rfl, rfl, rfl, rfl, trivial⟩ rfl
            · refine TE.next ?_
              refine TW.cond rfl (fun H34 => ?_) (fun H34 => ?_)
              · refine TW.seq ?_
                refine TW.region ?_
                refine TO.y (Y.assign rfl) rfl rfl rfl ?_
                refine TO.nil ?_
                refine TE.next ?_
                refine TW.ret ?_
                refine TE.block_ret ?_
                refine TE.then_ret ?_
                refine TE.lp_ret ?_
                refine TE.block_ret ?_
                refine TE.jn_done ?_
                refine TE.then_ret ?_
                exact TE.leaf fun _ _ hf_ hs_ => ret_any (rs := [.tmp 2]) (vs := [.bool false]) (.inl rfl) rfl ⟨rfl, trivial⟩ hf_ hs_ ⟨(), rfl, hs_.pulls [] rfl⟩
              · refine TW.skip ?_
                refine TE.block_normal ?_
                refine TE.next ?_
                refine TW.region ?_
                refine TO.y (Y.add rfl rfl) rfl rfl rfl ?_
                refine TO.y (Y.move rfl) rfl rfl rfl ?_
                refine TO.nil ?_
                exact TE.lp_go () [] ⟨rfl, rfl, rfl, rfl, trivial⟩ rfl
      · refine TW.exit ?_
        refine TE.then_exit ?_
        refine TE.lp_exit ?_
        refine TE.block_exit ?_
        exact TE.jn_go () [] trivial rfl
    · refine TE.next ?_
      refine TW.seq ?_
      refine TW.region ?_
      refine TO.y (Y.assign rfl) rfl rfl rfl ?_
      refine TO.nil ?_
      refine TE.next ?_
      refine TW.ret ?_
      exact TE.leaf fun _ _ hf_ hs_ => ret_any (rs := [.tmp 2]) (vs := [.bool true]) (.inl rfl) rfl ⟨rfl, trivial⟩ hf_ hs_ ⟨(), rfl, hs_.pulls [] rfl⟩

/-- slices.Clone[[]loop.example/g00950/impl.File,loop.example/g00950/impl.File] -/
noncomputable def slices_Clone_68810 (s : List File) : Option (List File) :=
  (app 48 ([] : List File) s).bind fun E4 =>
  some E4

theorem slices_Clone_68810_con (s : List File) (V_s0 : Value) (r : List File) (hm : slices_Clone_68810 s = some r) :
    Con Try.prog 45 [V_s0] [] [(V_s0, lc s)] (fun X : Value => X) (fun X => [.own X (lc r)]) := by
  refine Con.intro (args := [V_s0]) (n := 8) (val := fun _ (X : Value) => X) (post := fun r X => [.own X (lc r)]) (m := slices_Clone_68810 s) Try.func45 rfl rfl rfl hm ?_
  intro w S hrd
  have HB_V_s0 := hrd _ (.head _)
  clear hrd
  unfold slices_Clone_68810
  refine TW.seq ?_
  refine TW.region ?_
  refine TO.y (Y.assign rfl) rfl rfl rfl ?_
  refine TO.nil ?_
  refine TE.next ?_
  refine TW.seq ?_
  refine TW.seq ?_
  refine TW.region ?_
  refine TO.y (Y.move rfl) rfl rfl rfl ?_
  refine TO.y (Y.nileq ke26 (Base.can HB_V_s0) rfl rfl) rfl rfl rfl ?_
  refine TO.nil ?_
  refine TE.next ?_
  refine TW.cond_nil (Base.can HB_V_s0) rfl (fun hnil_ => ?_) ?_
  · subst hnil_
    show TW _ _ _ (some ([])) _ _ _ _ _
    refine TW.seq ?_
    refine TW.region ?_
    refine TO.y (Y.assign rfl) rfl rfl rfl ?_
    refine TO.nil ?_
    refine TE.next ?_
    refine TW.ret ?_
    refine TE.then_ret ?_
    exact TE.leaf fun _ _ hf_ hs_ => ret_any (rs := [.tmp 2]) (vs := [.slice none 0 0]) (.inl rfl) rfl ⟨rfl, trivial⟩ hf_ hs_ ⟨(.slice none 0 0), rfl, (hs_.nilItem 4).pulls [0] rfl⟩
  · refine TW.skip ?_
    refine TE.next ?_
    refine TW.seq ?_
    refine TW.region ?_
    refine TO.ef (Ef.buildSlice (α := File) (Vs := []) ([] : List File) ke26 kz43 rfl rfl rfl rfl rfl) rfl rfl rfl (fun B2 => ?_)
    refine TO.y (Y.move rfl) rfl rfl rfl ?_
    refine TO.bind fun E4 H5 => ?_
    refine TO.ef (Ef.append (α := File) (is' := []) [0] H5 ke26 kz43 rfl rfl rfl rfl rfl (Base.can HB_V_s0)) rfl rfl rfl (fun V3 => ?_)
    refine TO.y (Y.assign rfl) rfl rfl rfl ?_
    refine TO.nil ?_
    refine TE.next ?_
    refine TW.ret ?_
    exact TE.leaf fun _ _ hf_ hs_ => ret_any (rs := [.tmp 2]) (vs := [V3]) (.inl rfl) rfl ⟨rfl, trivial⟩ hf_ hs_ ⟨V3, rfl, hs_.pulls [0] rfl⟩

/-- slices.Delete[[]loop.example/g00950/impl.File,loop.example/g00950/impl.File] -/
noncomputable def slices_Delete_68810 (s : List File) (i : Int) (j : Int) : Option (List File) :=
  (piece s i j).bind fun E1 =>
  if (decide (i = j)) = true then (some s)
  else ((piece s (0 : Int) i).bind fun E5 =>
  (piece s j ((s.length : Nat) : Int)).bind fun E7 =>
  some (E5 ++ E7))

theorem slices_Delete_68810_con (s : List File) (i : Int) (j : Int) (V_s0 : Value) (r : List File) (hm : slices_Delete_68810 s i j = some r) :
    Con Try.prog 61 [V_s0, .int .i64 i, .int .i64 j] [.own V_s0 (lc s)] [] (fun X : Value => X) (fun X => [.own X (lc r)]) := by
  refine Con.intro (args := [V_s0, .int .i64 i, .int .i64 j]) (n := 33) (val := fun _ (X : Value) => X) (post := fun r X => [.own X (lc r)]) (m := slices_Delete_68810 s i j) Try.func61 rfl rfl rfl hm ?_
  intro w S _
  unfold slices_Delete_68810
  refine TW.seq ?_
  refine TW.region ?_
  refine TO.y (Y.assign rfl) rfl rfl rfl ?_
  refine TO.nil ?_
  refine TE.next ?_
  refine TW.seq ?_
  refine TW.region ?_
  refine TO.y (Y.move rfl) rfl rfl rfl ?_
  refine TO.y (Y.move rfl) rfl rfl rfl ?_
  refine TO.y (Y.move rfl) rfl rfl rfl ?_
  refine TO.y (Y.move rfl) rfl rfl rfl ?_
  refine TO.y (Y.len (l := s) ke26 (Can.own 0 rfl) rfl) rfl rfl rfl ?_
  refine TO.bind fun E1 H2 => ?_
  refine TO.fact (Can.cap (Can.own 0 rfl)) fun H3 => ?_
  refine TO.y (Y.subs3 H2 ke26 (Can.own 0 rfl) rfl rfl rfl rfl) rfl rfl rfl ?_
  refine TO.nil ?_
  refine TE.next ?_
  refine TW.seq ?_
  refine TW.seq ?_
  refine TW.region ?_
  refine TO.y (Y.move rfl) rfl rfl rfl ?_
  refine TO.y (Y.move rfl) rfl rfl rfl ?_
  refine TO.y (Y.eql rfl rfl) rfl rfl rfl ?_
  refine TO.nil ?_
  refine TE.next ?_
  refine TW.cond rfl (fun H4 => ?_) (fun H4 => ?_)
  · refine TW.seq ?_
    refine TW.region ?_
    refine TO.y (Y.move rfl) rfl rfl rfl ?_
    refine TO.y (Y.assign rfl) rfl rfl rfl ?_
    refine TO.nil ?_
    refine TE.next ?_
    refine TW.ret ?_
    refine TE.then_ret ?_
    exact TE.leaf fun _ _ hf_ hs_ => ret_any (rs := [.tmp 6]) (vs := [V_s0]) (.inl rfl) rfl ⟨rfl, trivial⟩ hf_ hs_ ⟨V_s0, rfl, hs_.pulls [0] rfl⟩
  · refine TW.skip ?_
    refine TE.next ?_
    refine TW.seq ?_
    refine TW.region ?_
    refine TO.y (Y.move rfl) rfl rfl rfl ?_
    refine TO.y (Y.len (l := s) ke26 (Can.own 0 rfl) rfl) rfl rfl rfl ?_
    refine TO.y (Y.assign rfl) rfl rfl rfl ?_
    refine TO.nil ?_
    refine TE.next ?_
    refine TW.seq ?_
    refine TW.bind fun E5 H6 => ?_
    refine TW.bind fun E7 H8 => ?_
    refine TW.joinU (X := Unit) (fun _ _ => [(0, delV V_s0 (E5 ++ E7).length), (7, .int .i64 ((s.length : Nat) : Int))]) (fun _ _ => [.own (delV V_s0 (E5 ++ E7).length) (lc (E5 ++ E7))]) ?_ (fun _ X10 => ?_)
    · refine TW.draw (isH := []) hMix ?_
      refine TA.y (listed' := #[true, false, false, false, false, false, false, false]) 0 [] rfl (Y.move rfl) rfl rfl rfl (by kernel_rfl) (by kernel_rfl) (by kernel_rfl) rfl rfl ?_
      refine TA.y (listed' := #[true, true, false, false, false, false, false, false]) 1 [] rfl (Y.move rfl) rfl rfl rfl (by kernel_rfl) (by kernel_rfl) (by kernel_rfl) rfl rfl ?_
      refine TA.y (listed' := #[true, true, false, true, false, false, false, false]) 3 [] rfl (Y.move rfl) rfl rfl rfl (by kernel_rfl) (by kernel_rfl) (by kernel_rfl) rfl rfl ?_
      refine TA.y (listed' := #[true, true, false, true, true, false, false, false]) 4 [] rfl (Y.move rfl) rfl rfl rfl (by kernel_rfl) (by kernel_rfl) (by kernel_rfl) rfl rfl ?_
      refine TA.two 2 5 (by kernel_rfl) ?_ ?_
      · refine TX.y (listed' := #[true, true, true, true, true, false, false, false]) [] rfl (Y.subs H6 ke26 (Can.own 0 rfl) rfl rfl ⟨_, rfl⟩) rfl rfl rfl rfl rfl ?_
        refine TA.one 5 (by kernel_rfl) ?_
        refine TX.y (listed' := #[true, true, true, true, true, true, false, false]) [] rfl (Y.subs H8 ke26 (Can.own 0 rfl) rfl ⟨_, rfl⟩ rfl) rfl rfl rfl rfl rfl ?_
        refine TA.one 6 (by kernel_rfl) ?_
        refine TX.ef (listed' := #[true, true, true, true, true, true, true, false]) [] rfl (Ef.del (α := File) (is' := []) [0] H2 H6 H8 ke26 rfl rfl rfl rfl) rfl rfl rfl rfl (fun _ => rfl) (fun _ => ?_)
        refine TA.y (listed' := #[true, true, true, true, true, true, true, true]) 7 [] rfl (Y.assign rfl) rfl rfl rfl (by kernel_rfl) (by kernel_rfl) (by kernel_rfl) rfl rfl ?_
        refine TA.nil (by kernel_rfl) ?_
        exact TE.jb_go () [0] ⟨rfl, rfl, trivial⟩ rfl
      · refine TX.y (listed' := #[true, true, false, true, true, true, false, false]) [] rfl (Y.subs H8 ke26 (Can.own 0 rfl) rfl ⟨_, rfl⟩ rfl) rfl rfl rfl rfl rfl ?_
        refine TA.one 2 (by kernel_rfl) ?_
        refine TX.y (listed' := #[true, true, true, true, true, true, false, false]) [] rfl (Y.subs H6 ke26 (Can.own 0 rfl) rfl rfl ⟨_, rfl⟩) rfl rfl rfl rfl rfl ?_
        refine TA.one 6 (by kernel_rfl) ?_
        refine TX.ef (listed' := #[true, true, true, true, true, true, true, false]) [] rfl (Ef.del (α := File) (is' := []) [0] H2 H6 H8 ke26 rfl rfl rfl rfl) rfl rfl rfl rfl (fun _ => rfl) (fun _ => ?_)
        refine TA.y (listed' := #[true, true, true, true, true, true, true, true]) 7 [] rfl (Y.assign rfl) rfl rfl rfl (by kernel_rfl) (by kernel_rfl) (by kernel_rfl) rfl rfl ?_
        refine TA.nil (by kernel_rfl) ?_
        exact TE.jb_go () [0] ⟨rfl, rfl, trivial⟩ rfl
    · refine TE.next ?_
      refine TW.seq ?_
      refine TW.region ?_
      refine TO.y (Y.move rfl) rfl rfl rfl ?_
      refine TO.y (Y.move rfl) rfl rfl rfl ?_
      refine TO.y (Y.len (l := (E5 ++ E7)) ke26 (Can.own 0 rfl) rfl) rfl rfl rfl ?_
      refine TO.y (Y.move rfl) rfl rfl rfl ?_
      refine TO.y (Y.tail (hi := s.length) H3 (del_le H2 H6 H8) ke26 rfl rfl rfl) rfl rfl rfl ?_
      refine TO.ef0 (Ef.clearTail (k := 0) H3 (del_le H2 H6 H8) ke26 kz43 rfl rfl rfl rfl) rfl rfl (fun _ => ?_)
      refine TO.nil ?_
      refine TE.next ?_
      refine TW.seq ?_
      refine TW.region ?_
      refine TO.y (Y.move rfl) rfl rfl rfl ?_
      refine TO.y (Y.assign rfl) rfl rfl rfl ?_
      refine TO.nil ?_
      refine TE.next ?_
      refine TW.ret ?_
      exact TE.leaf fun _ _ hf_ hs_ => ret_any (rs := [.tmp 6]) (vs := [delV V_s0 (E5 ++ E7).length]) (.inl rfl) rfl ⟨rfl, trivial⟩ hf_ hs_ ⟨(delV V_s0 (E5 ++ E7).length), rfl, hs_.pulls [0] rfl⟩

/-- loop.example/g00950/impl.FilesDrop -/
noncomputable def impl_FilesDrop (l : List File) (no : Int) : Option (List File × Bool) :=
  (impl_FilesOk l).bind fun R1 =>
  if (!R1) = true then (some ([], false))
  else ((slices_Clone_68810 l).bind fun R6 =>
  (impl_fileAt l no).bind fun R9 =>
  if (decide (R9 < (0 : Int))) = true then (some (R6, false))
  else ((slices_Delete_68810 R6 R9 (IntKind.i64.wrap (R9 + (1 : Int)))).bind fun R13 =>
  some (R13, true)))

theorem impl_FilesDrop_con (l : List File) (no : Int) (V_l0 : Value) (r : List File × Bool) (hm : impl_FilesDrop l no = some r) :
    Con Try.prog 28 [V_l0, .int .i64 no] [] [(V_l0, lc l)] (fun X : Value => .tuple #[X, .bool r.2]) (fun X => [.own X (lc r.1)]) := by
  refine Con.intro (args := [V_l0, .int .i64 no]) (n := 24) (val := fun r (X : Value) => .tuple #[X, .bool r.2]) (post := fun r X => [.own X (lc r.1)]) (m := impl_FilesDrop l no) Try.func28 rfl rfl rfl hm ?_
  intro w S hrd
  have HB_V_l0 := hrd _ (.head _)
  clear hrd
  unfold impl_FilesDrop
  refine TW.seq ?_
  refine TW.region ?_
  refine TO.y (Y.assign rfl) rfl rfl rfl ?_
  refine TO.y (Y.assign rfl) rfl rfl rfl ?_
  refine TO.nil ?_
  refine TE.next ?_
  refine TW.seq ?_
  refine TW.seq ?_
  refine TW.region ?_
  refine TO.y (Y.move rfl) rfl rfl rfl ?_
  refine TO.bind fun R1 H2 => ?_
  refine TO.ef (Ef.call (rest := []) [] (impl_FilesOk_con l V_l0 R1 H2) kc44 rfl rfl ⟨(Base.can HB_V_l0), trivial⟩) rfl rfl rfl (fun _ => ?_)
  refine TO.y (Y.not rfl) rfl rfl rfl ?_
  refine TO.nil ?_
  refine TE.next ?_
  refine TW.cond rfl (fun H4 => ?_) (fun H4 => ?_)
  · refine TW.seq ?_
    refine TW.region ?_
    refine TO.y (Y.assign rfl) rfl rfl rfl ?_
    refine TO.y (Y.assign rfl) rfl rfl rfl ?_
    refine TO.nil ?_
    refine TE.next ?_
    refine TW.ret ?_
    refine TE.then_ret ?_
    exact TE.leaf fun _ _ hf_ hs_ => ret_any (rs := [.tmp 4, .tmp 5]) (vs := [.slice none 0 0, .bool false]) (.inl rfl) rfl ⟨rfl, ⟨rfl, trivial⟩⟩ hf_ hs_ ⟨(.slice none 0 0), rfl, (hs_.nilItem 4).pulls [0] rfl⟩
  · refine TW.skip ?_
    refine TE.next ?_
    refine TW.seq ?_
    refine TW.region ?_
    refine TO.y (Y.move rfl) rfl rfl rfl ?_
    refine TO.bind fun R6 H7 => ?_
    refine TO.ef (Ef.call (rest := []) [] (slices_Clone_68810_con l V_l0 R6 H7) kc45 rfl rfl ⟨(Base.can HB_V_l0), trivial⟩) rfl rfl rfl (fun Y8 => ?_)
    refine TO.y (Y.assign rfl) rfl rfl rfl ?_
    refine TO.nil ?_
    refine TE.next ?_
    refine TW.seq ?_
    refine TW.region ?_
    refine TO.y (Y.move rfl) rfl rfl rfl ?_
    refine TO.y (Y.move rfl) rfl rfl rfl ?_
    refine TO.bind fun R9 H10 => ?_
    refine TO.ef (Ef.call (rest := [.own Y8 (lc R6)]) [0] (impl_fileAt_con l no V_l0 R9 H10) kc60 rfl rfl ⟨(Base.can HB_V_l0), trivial⟩) rfl rfl rfl (fun _ => ?_)
    refine TO.y (Y.assign rfl) rfl rfl rfl ?_
    refine TO.nil ?_
    refine TE.next ?_
    refine TW.seq ?_
    refine TW.seq ?_
    refine TW.region ?_
    refine TO.y (Y.move rfl) rfl rfl rfl ?_
    refine TO.y (Y.lss rfl rfl) rfl rfl rfl ?_
    refine TO.nil ?_
    refine TE.next ?_
    refine TW.cond rfl (fun H12 => ?_) (fun H12 => ?_)
    · refine TW.seq ?_
      refine TW.region ?_
      refine TO.y (Y.move rfl) rfl rfl rfl ?_
      refine TO.y (Y.assign rfl) rfl rfl rfl ?_
      refine TO.y (Y.assign rfl) rfl rfl rfl ?_
      refine TO.nil ?_
      refine TE.next ?_
      refine TW.ret ?_
      refine TE.then_ret ?_
      exact TE.leaf fun _ _ hf_ hs_ => ret_any (rs := [.tmp 4, .tmp 5]) (vs := [Y8, .bool false]) (.inl rfl) rfl ⟨rfl, ⟨rfl, trivial⟩⟩ hf_ hs_ ⟨Y8, rfl, hs_.pulls [0] rfl⟩
    · refine TW.skip ?_
      refine TE.next ?_
      refine TW.seq ?_
      refine TW.region ?_
      refine TO.y (Y.move rfl) rfl rfl rfl ?_
      refine TO.y (Y.move rfl) rfl rfl rfl ?_
      refine TO.y (Y.move rfl) rfl rfl rfl ?_
      refine TO.y (Y.add rfl rfl) rfl rfl rfl ?_
      refine TO.bind fun R13 H14 => ?_
      refine TO.ef (Ef.call (rest := []) [0] (slices_Delete_68810_con R6 R9 (IntKind.i64.wrap (R9 + (1 : Int))) Y8 R13 H14) kc61 rfl rfl trivial) rfl rfl rfl (fun Y15 => ?_)
      refine TO.y (Y.assign rfl) rfl rfl rfl ?_
      refine TO.y (Y.assign rfl) rfl rfl rfl ?_
      refine TO.nil ?_
      refine TE.next ?_
      refine TW.ret ?_
      exact TE.leaf fun _ _ hf_ hs_ => ret_any (rs := [.tmp 4, .tmp 5]) (vs := [Y15, .bool true]) (.inl rfl) rfl ⟨rfl, ⟨rfl, trivial⟩⟩ hf_ hs_ ⟨Y15, rfl, hs_.pulls [0] rfl⟩

/-- slices.Reverse[[]loop.example/g00950/impl.File,loop.example/g00950/impl.File] -/
noncomputable def slices_Reverse_68810 (s : List File) : Option (List File) :=
  bindC (loopO (fun (S1 : Int × Int × List File) => if (decide (S1.1 < S1.2.1)) = true then ((idx S1.2.2 S1.2.1).bind fun E6 =>
  (idx S1.2.2 S1.1).bind fun E8 =>
  (idx (S1.2.2.set S1.1.toNat E6) S1.2.1).bind fun E10 =>
  some (.go (IntKind.i64.wrap (S1.1 + (1 : Int)), IntKind.i64.wrap (S1.2.1 - (1 : Int)), ((S1.2.2.set S1.1.toNat E6).set S1.2.1.toNat E8))))
  else (some (.done (.go S1.2.2))))
  ((0 : Int), IntKind.i64.wrap (((s.length : Nat) : Int) - (1 : Int)), s))
  (fun (T3 : List File) => some T3)

theorem slices_Reverse_68810_con (s : List File) (V_s0 : Value) (r : List File) (hm : slices_Reverse_68810 s = some r) :
    Con Try.prog 91 [V_s0] [.own V_s0 (lc s)] [] (fun _ : Unit => .tuple #[]) (fun _ => [.own V_s0 (lc r)]) := by
  refine Con.intro (args := [V_s0]) (n := 28) (val := fun _ (_ : Unit) => .tuple #[]) (post := fun r _ => [.own V_s0 (lc r)]) (m := slices_Reverse_68810 s) Try.func91 rfl rfl rfl hm ?_
  intro w S _
  unfold slices_Reverse_68810
  refine TW.seq ?_
  refine TW.region ?_
  refine TO.y (Y.move rfl) rfl rfl rfl ?_
  refine TO.y (Y.len (l := s) ke26 (Can.own 0 rfl) rfl) rfl rfl rfl ?_
  refine TO.y (Y.sub rfl rfl) rfl rfl rfl ?_
  refine TO.y (Y.assign rfl) rfl rfl rfl ?_
  refine TO.y (Y.assign rfl) rfl rfl rfl ?_
  refine TO.nil ?_
  refine TE.next ?_
  refine TW.joinX (τ := List File) (X := Unit) (fun _ _ => []) (fun T _ => [.own V_s0 (lc T)]) ?_ (fun T3 X4 => ?_)
  · refine TW.block ?_
    refine TW.loopX (σ := Int × Int × List File) (X := Unit) (fun T _ => [(0, V_s0), (2, .int .i64 T.1), (3, .int .i64 T.2.1)]) (fun T _ => [.own V_s0 (lc T.2.2)]) () [0] ⟨rfl, rfl, rfl, trivial⟩ rfl (fun S1 X2 => ?_)
    refine TW.seq ?_
    refine TW.seq ?_
    refine TW.region ?_
    refine TO.y (Y.move rfl) rfl rfl rfl ?_
    refine TO.y (Y.move rfl) rfl rfl rfl ?_
    refine TO.y (Y.lss rfl rfl) rfl rfl rfl ?_
    refine TO.nil ?_
    refine TE.next ?_
    refine TW.cond rfl (fun H5 => ?_) (fun H5 => ?_)
    · refine TW.skip ?_
      refine TE.next ?_
      refine TW.seq ?_
      refine TW.block ?_
      refine TW.bind fun E6 H7 => ?_
      refine TW.bind fun E8 H9 => ?_
      refine TW.bind fun E10 H11 => ?_
      refine TW.joinU (X := Unit) (fun _ _ => [(0, V_s0), (2, .int .i64 S1.1), (3, .int .i64 S1.2.1)]) (fun _ _ => [.own V_s0 (lc ((S1.2.2.set S1.1.toNat E6).set S1.2.1.toNat E8))]) ?_ (fun _ X13 => ?_)
      · refine TW.draw (isH := []) hMix ?_
        refine TA.y (listed' := #[true, false, false, false, false, false, false, false, false, false, false, false, false, false, false, false]) 0 [] rfl (Y.move rfl) rfl rfl rfl (by kernel_rfl) (by kernel_rfl) (by kernel_rfl) rfl rfl ?_
        refine TA.y (listed' := #[true, true, false, false, false, false, false, false, false, false, false, false, false, false, false, false]) 1 [] rfl (Y.move rfl) rfl rfl rfl (by kernel_rfl) (by kernel_rfl) (by kernel_rfl) rfl rfl ?_
        refine TA.y (listed' := #[true, true, true, false, false, false, false, false, false, false, false, false, false, false, false, false]) 2 [] rfl (Y.move rfl) rfl rfl rfl (by kernel_rfl) (by kernel_rfl) (by kernel_rfl) rfl rfl ?_
        refine TA.y (listed' := #[true, true, true, true, false, false, false, false, false, false, false, false, false, false, false, false]) 3 [] rfl (Y.move rfl) rfl rfl rfl (by kernel_rfl) (by kernel_rfl) (by kernel_rfl) rfl rfl ?_
        refine TA.y (listed' := #[true, true, true, true, true, false, false, false, false, false, false, false, false, false, false, false]) 4 [] rfl (Y.move rfl) rfl rfl rfl (by kernel_rfl) (by kernel_rfl) (by kernel_rfl) rfl rfl ?_
        refine TA.y (listed' := #[true, true, true, true, true, true, false, false, false, false, false, false, false, false, false, false]) 5 [] rfl (Y.move rfl) rfl rfl rfl (by kernel_rfl) (by kernel_rfl) (by kernel_rfl) rfl rfl ?_
        refine TA.y (listed' := #[true, true, true, true, true, true, false, false, true, false, false, false, false, false, false, false]) 8 [] rfl (Y.move rfl) rfl rfl rfl (by kernel_rfl) (by kernel_rfl) (by kernel_rfl) rfl rfl ?_
        refine TA.y (listed' := #[true, true, true, true, true, true, false, false, true, true, false, false, false, false, false, false]) 9 [] rfl (Y.move rfl) rfl rfl rfl (by kernel_rfl) (by kernel_rfl) (by kernel_rfl) rfl rfl ?_
        refine TA.two 6 10 (by kernel_rfl) ?_ ?_
        · refine TX.y (listed' := #[true, true, true, true, true, true, true, false, true, true, false, false, false, false, false, false]) [] rfl (Y.index ke26 (Can.own 0 rfl) H7 rfl rfl) rfl rfl rfl rfl rfl ?_
          refine TA.two 7 10 (by kernel_rfl) ?_ ?_
          · refine TX.y (listed' := #[true, true, true, true, true, true, true, true, true, true, false, false, false, false, false, false]) [] rfl (Y.load_el (us := [.int .i64 E6.No, .int .i64 E6.Level, strV E6.Lo, strV E6.Hi]) (u := .agg #[.int .i64 E6.No, .int .i64 E6.Level, strV E6.Lo, strV E6.Hi]) kk43 rfl (Can.own 0 rfl) (idx_get H7).2.2 rfl rfl rfl rfl rfl) rfl rfl rfl rfl rfl ?_
            refine TA.one 10 (by kernel_rfl) ?_
            refine TX.y (listed' := #[true, true, true, true, true, true, true, true, true, true, true, false, false, false, false, false]) [] rfl (Y.index ke26 (Can.own 0 rfl) H9 rfl rfl) rfl rfl rfl rfl rfl ?_
            refine TA.one 11 (by kernel_rfl) ?_
            refine TX.y (listed' := #[true, true, true, true, true, true, true, true, true, true, true, true, false, false, false, false]) [] rfl (Y.load_el (us := [.int .i64 E8.No, .int .i64 E8.Level, strV E8.Lo, strV E8.Hi]) (u := .agg #[.int .i64 E8.No, .int .i64 E8.Level, strV E8.Lo, strV E8.Hi]) kk43 rfl (Can.own 0 rfl) (idx_get H9).2.2 rfl rfl rfl rfl rfl) rfl rfl rfl rfl rfl ?_
            refine TA.one 12 (by kernel_rfl) ?_
            refine TX.y (listed' := #[true, true, true, true, true, true, true, true, true, true, true, true, true, false, false, false]) [] rfl (Y.index ke26 (Can.own 0 rfl) H9 rfl rfl) rfl rfl rfl rfl rfl ?_
            refine TA.one 13 (by kernel_rfl) ?_
            refine TX.ef0 (listed' := #[true, true, true, true, true, true, true, true, true, true, true, true, true, true, false, false]) [] rfl (Ef.store_el (us := [.int .i64 E6.No, .int .i64 E6.Level, strV E6.Lo, strV E6.Hi]) (is' := [.own V_s0 (lc (S1.2.2.set S1.1.toNat E6))]) E6 0 kk43 rfl rfl (idx_get H9).2.2 rfl rfl (Cel.plain rfl rfl) rfl rfl rfl rfl) rfl rfl rfl (fun _ => rfl) (fun _ => ?_)
            refine TA.one 14 (by kernel_rfl) ?_
            refine TX.y (listed' := #[true, true, true, true, true, true, true, true, true, true, true, true, true, true, true, false]) [] rfl (Y.index ke26 (Can.own 0 rfl) H11 rfl rfl) rfl rfl rfl rfl rfl ?_
            refine TA.one 15 (by kernel_rfl) ?_
            refine TX.ef0 (listed' := #[true, true, true, true, true, true, true, true, true, true, true, true, true, true, true, true]) [] rfl (Ef.store_el (us := [.int .i64 E8.No, .int .i64 E8.Level, strV E8.Lo, strV E8.Hi]) (is' := [.own V_s0 (lc ((S1.2.2.set S1.1.toNat E6).set S1.2.1.toNat E8))]) E8 0 kk43 rfl rfl (idx_get H11).2.2 rfl rfl (Cel.plain rfl rfl) rfl rfl rfl rfl) rfl rfl rfl (fun _ => rfl) (fun _ => ?_)
            refine TA.nil (by kernel_rfl) ?_
            exact TE.jb_go () [0] ⟨rfl, rfl, rfl, trivial⟩ rfl
          · refine TX.y (listed' := #[true, true, true, true, true, true, true, false, true, true, true, false, false, false, false, false]) [] rfl (Y.index ke26 (Can.own 0 rfl) H9 rfl rfl) rfl rfl rfl rfl rfl ?_
            refine TA.two 7 11 (by kernel_rfl) ?_ ?_
            · refine TX.y (listed' := #[true, true, true, true, true, true, true, true, true, true, true, false, false, false, false, false]) [] rfl (Y.load_el (us := [.int .i64 E6.No, .int .i64 E6.Level, strV E6.Lo, strV E6.Hi]) (u := .agg #[.int .i64 E6.No, .int .i64 E6.Level, strV E6.Lo, strV E6.Hi]) kk43 rfl (Can.own 0 rfl) (idx_get H7).2.2 rfl rfl rfl rfl rfl) rfl rfl rfl rfl rfl ?_
              refine TA.one 11 (by kernel_rfl) ?_
              refine TX.y (listed' := #[true, true, true, true, true, true, true, true, true, true, true, true, false, false, false, false]) [] rfl (Y.load_el (us := [.int .i64 E8.No, .int .i64 E8.Level, strV E8.Lo, strV E8.Hi]) (u := .agg #[.int .i64 E8.No, .int .i64 E8.Level, strV E8.Lo, strV E8.Hi]) kk43 rfl (Can.own 0 rfl) (idx_get H9).2.2 rfl rfl rfl rfl rfl) rfl rfl rfl rfl rfl ?_
              refine TA.one 12 (by kernel_rfl) ?_
              refine TX.y (listed' := #[true, true, true, true, true, true, true, true, true, true, true, true, true, false, false, false]) [] rfl (Y.index ke26 (Can.own 0 rfl) H9 rfl rfl) rfl rfl rfl rfl rfl ?_
              refine TA.one 13 (by kernel_rfl) ?_
              refine TX.ef0 (listed' := #[true, true, true, true, true, true, true, true, true, true, true, true, true, true, false, false]) [] rfl (Ef.store_el (us := [.int .i64 E6.No, .int .i64 E6.Level, strV E6.Lo, strV E6.Hi]) (is' := [.own V_s0 (lc (S1.2.2.set S1.1.toNat E6))]) E6 0 kk43 rfl rfl (idx_get H9).2.2 rfl rfl (Cel.plain rfl rfl) rfl rfl rfl rfl) rfl rfl rfl (fun _ => rfl) (fun _ => ?_)
              refine TA.one 14 (by kernel_rfl) ?_
              refine TX.y (listed' := #[true, true, true, true, true, true, true, true, true, true, true, true, true, true, true, false]) [] rfl (Y.index ke26 (Can.own 0 rfl) H11 rfl rfl) rfl rfl rfl rfl rfl ?_
              refine TA.one 15 (by kernel_rfl) ?_
              refine TX.ef0 (listed' := #[true, true, true, true, true, true, true, true, true, true, true, true, true, true, true, true]) [] rfl (Ef.store_el (us := [.int .i64 E8.No, .int .i64 E8.Level, strV E8.Lo, strV E8.Hi]) (is' := [.own V_s0 (lc ((S1.2.2.set S1.1.toNat E6).set S1.2.1.toNat E8))]) E8 0 kk43 rfl rfl (idx_get H11).2.2 rfl rfl (Cel.plain rfl rfl) rfl rfl rfl rfl) rfl rfl rfl (fun _ => rfl) (fun _ => ?_)
              refine TA.nil (by kernel_rfl) ?_
              exact TE.jb_go () [0] ⟨rfl, rfl, rfl, trivial⟩ rfl
            · refine TX.y (listed' := #[true, true, true, true, true, true, true, false, true, true, true, true, false, false, false, false]) [] rfl (Y.load_el (us := [.int .i64 E8.No, .int .i64 E8.Level, strV E8.Lo, strV E8.Hi]) (u := .agg #[.int .i64 E8.No, .int .i64 E8.Level, strV E8.Lo, strV E8.Hi]) kk43 rfl (Can.own 0 rfl) (idx_get H9).2.2 rfl rfl rfl rfl rfl) rfl rfl rfl rfl rfl ?_
              refine TA.one 7 (by kernel_rfl) ?_
              refine TX.y (listed' := #[true, true, true, true, true, true, true, true, true, true, true, true, false, false, false, false]) [] rfl (Y.load_el (us := [.int .i64 E6.No, .int .i64 E6.Level, strV E6.Lo, strV E6.Hi]) (u := .agg #[.int .i64 E6.No, .int .i64 E6.Level, strV E6.Lo, strV E6.Hi]) kk43 rfl (Can.own 0 rfl) (idx_get H7).2.2 rfl rfl rfl rfl rfl) rfl rfl rfl rfl rfl ?_
              refine TA.one 12 (by kernel_rfl) ?_
              refine TX.y (listed' := #[true, true, true, true, true, true, true, true, true, true, true, true, true, false, false, false]) [] rfl (Y.index ke26 (Can.own 0 rfl) H9 rfl rfl) rfl rfl rfl rfl rfl ?_
              refine TA.one 13 (by kernel_rfl) ?_
              refine TX.ef0 (listed' := #[true, true, true, true, true, true, true, true, true, true, true, true, true, true, false, false]) [] rfl (Ef.store_el (us := [.int .i64 E6.No, .int .i64 E6.Level, strV E6.Lo, strV E6.Hi]) (is' := [.own V_s0 (lc (S1.2.2.set S1.1.toNat E6))]) E6 0 kk43 rfl rfl (idx_get H9).2.2 rfl rfl (Cel.plain rfl rfl) rfl rfl rfl rfl) rfl rfl rfl (fun _ => rfl) (fun _ => ?_)
              refine TA.one 14 (by kernel_rfl) ?_
              refine TX.y (listed' := #[true, true, true, true, true, true, true, true, true, true, true, true, true, true, true, false]) [] rfl (Y.index ke26 (Can.own 0 rfl) H11 rfl rfl) rfl rfl rfl rfl rfl ?_
              refine TA.one 15 (by kernel_rfl) ?_
              refine TX.ef0 (listed' := #[true, true, true, true, true, true, true, true, true, true, true, true, true, true, true, true]) [] rfl (Ef.store_el (us := [.int .i64 E8.No, .int .i64 E8.Level, strV E8.Lo, strV E8.Hi]) (is' := [.own V_s0 (lc ((S1.2.2.set S1.1.toNat E6).set S1.2.1.toNat E8))]) E8 0 kk43 rfl rfl (idx_get H11).2.2 rfl rfl (Cel.plain rfl rfl) rfl rfl rfl rfl) rfl rfl rfl (fun _ => rfl) (fun _ => ?_)
              refine TA.nil (by kernel_rfl) ?_
              exact TE.jb_go () [0] ⟨rfl, rfl, rfl, trivial⟩ rfl
        · refine TX.y (listed' := #[true, true, true, true, true, true, false, false, true, true, true, false, false, false, false, false]) [] rfl (Y.index ke26 (Can.own 0 rfl) H9 rfl rfl) rfl rfl rfl rfl rfl ?_
          refine TA.two 6 11 (by kernel_rfl) ?_ ?_
          · refine TX.y (listed' := #[true, true, true, true, true, true, true, false, true, true, true, false, false, false, false, false]) [] rfl (Y.index ke26 (Can.own 0 rfl) H7 rfl rfl) rfl rfl rfl rfl rfl ?_
            refine TA.two 7 11 (by kernel_rfl) ?_ ?_
            · refine TX.y (listed' := #[true, true, true, true, true, true, true, true, true, true, true, false, false, false, false, false]) [] rfl (Y.load_el (us := [.int .i64 E6.No, .int .i64 E6.Level, strV E6.Lo, strV E6.Hi]) (u := .agg #[.int .i64 E6.No, .int .i64 E6.Level, strV E6.Lo, strV E6.Hi]) kk43 rfl (Can.own 0 rfl) (idx_get H7).2.2 rfl rfl rfl rfl rfl) rfl rfl rfl rfl rfl ?_
              refine TA.one 11 (by kernel_rfl) ?_
              refine TX.y (listed' := #[true, true, true, true, true, true, true, true, true, true, true, true, false, false, false, false]) [] rfl (Y.load_el (us := [.int .i64 E8.No, .int .i64 E8.Level, strV E8.Lo, strV E8.Hi]) (u := .agg #[.int .i64 E8.No, .int .i64 E8.Level, strV E8.Lo, strV E8.Hi]) kk43 rfl (Can.own 0 rfl) (idx_get H9).2.2 rfl rfl rfl rfl rfl) rfl rfl rfl rfl rfl ?_
              refine TA.one 12 (by kernel_rfl) ?_
              refine TX.y (listed' := #[true, true, true, true, true, true, true, true, true, true, true, true, true, false, false, false]) [] rfl (Y.index ke26 (Can.own 0 rfl) H9 rfl rfl) rfl rfl rfl rfl rfl ?_
              refine TA.one 13 (by kernel_rfl) ?_
              refine TX.ef0 (listed' := #[true, true, true, true, true, true, true, true, true, true, true, true, true, true, false, false]) [] rfl (Ef.store_el (us := [.int .i64 E6.No, .int .i64 E6.Level, strV E6.Lo, strV E6.Hi]) (is' := [.own V_s0 (lc (S1.2.2.set S1.1.toNat E6))]) E6 0 kk43 rfl rfl (idx_get H9).2.2 rfl rfl (Cel.plain rfl rfl) rfl rfl rfl rfl) rfl rfl rfl (fun _ => rfl) (fun _ => ?_)
              refine TA.one 14 (by kernel_rfl) ?_
              refine TX.y (listed' := #[true, true, true, true, true, true, true, true, true, true, true, true, true, true, true, false]) [] rfl (Y.index ke26 (Can.own 0 rfl) H11 rfl rfl) rfl rfl rfl rfl rfl ?_
              refine TA.one 15 (by kernel_rfl) ?_
              refine TX.ef0 (listed' := #[true, true, true, true, true, true, true, true, true, true, true, true, true, true, true, true]) [] rfl (Ef.store_el (us := [.int .i64 E8.No, .int .i64 E8.Level, strV E8.Lo, strV E8.Hi]) (is' := [.own V_s0 (lc ((S1.2.2.set S1.1.toNat E6).set S1.2.1.toNat E8))]) E8 0 kk43 rfl rfl (idx_get H11).2.2 rfl rfl (Cel.plain rfl rfl) rfl rfl rfl rfl) rfl rfl rfl (fun _ => rfl) (fun _ => ?_)
              refine TA.nil (by kernel_rfl) ?_
              exact TE.jb_go () [0] ⟨rfl, rfl, rfl, trivial⟩ rfl
            · refine TX.y (listed' := #[true, true, true, true, true, true, true, false, true, true, true, true, false, false, false, false]) [] rfl (Y.load_el (us := [.int .i64 E8.No, .int .i64 E8.Level, strV E8.Lo, strV E8.Hi]) (u := .agg #[.int .i64 E8.No, .int .i64 E8.Level, strV E8.Lo, strV E8.Hi]) kk43 rfl (Can.own 0 rfl) (idx_get H9).2.2 rfl rfl rfl rfl rfl) rfl rfl rfl rfl rfl ?_
              refine TA.one 7 (by kernel_rfl) ?_
              refine TX.y (listed' := #[true, true, true, true, true, true, true, true, true, true, true, true, false, false, false, false]) [] rfl (Y.load_el (us := [.int .i64 E6.No, .int .i64 E6.Level, strV E6.Lo, strV E6.Hi]) (u := .agg #[.int .i64 E6.No, .int .i64 E6.Level, strV E6.Lo, strV E6.Hi]) kk43 rfl (Can.own 0 rfl) (idx_get H7).2.2 rfl rfl rfl rfl rfl) rfl rfl rfl rfl rfl ?_
              refine TA.one 12 (by kernel_rfl) ?_
              refine TX.y (listed' := #[true, true, true, true, true, true, true, true, true, true, true, true, true, false, false, false]) [] rfl (Y.index ke26 (Can.own 0 rfl) H9 rfl rfl) rfl rfl rfl rfl rfl ?_
              refine TA.one 13 (by kernel_rfl) ?_
              refine TX.ef0 (listed' := #[true, true, true, true, true, true, true, true, true, true, true, true, true, true, false, false]) [] rfl (Ef.store_el (us := [.int .i64 E6.No, .int .i64 E6.Level, strV E6.Lo, strV E6.Hi]) (is' := [.own V_s0 (lc (S1.2.2.set S1.1.toNat E6))]) E6 0 kk43 rfl rfl (idx_get H9).2.2 rfl rfl (Cel.plain rfl rfl) rfl rfl rfl rfl) rfl rfl rfl (fun _ => rfl) (fun _ => ?_)
              refine TA.one 14 (by kernel_rfl) ?_
              refine TX.y (listed' := #[true, true, true, true, true, true, true, true, true, true, true, true, true, true, true, false]) [] rfl (Y.index ke26 (Can.own 0 rfl) H11 rfl rfl) rfl rfl rfl rfl rfl ?_
              refine TA.one 15 (by kernel_rfl) ?_
              refine TX.ef0 (listed' := #[true, true, true, true, true, true, true, true, true, true, true, true, true, true, true, true]) [] rfl (Ef.store_el (us := [.int .i64 E8.No, .int .i64 E8.Level, strV E8.Lo, strV E8.Hi]) (is' := [.own V_s0 (lc ((S1.2.2.set S1.1.toNat E6).set S1.2.1.toNat E8))]) E8 0 kk43 rfl rfl (idx_get H11).2.2 rfl rfl (Cel.plain rfl rfl) rfl rfl rfl rfl) rfl rfl rfl (fun _ => rfl) (fun _ => ?_)
              refine TA.nil (by kernel_rfl) ?_
              exact TE.jb_go () [0] ⟨rfl, rfl, rfl, trivial⟩ rfl
          · refine TX.y (listed' := #[true, true, true, true, true, true, false, false, true, true, true, true, false, false, false, false]) [] rfl (Y.load_el (us := [.int .i64 E8.No, .int .i64 E8.Level, strV E8.Lo, strV E8.Hi]) (u := .agg #[.int .i64 E8.No, .int .i64 E8.Level, strV E8.Lo, strV E8.Hi]) kk43 rfl (Can.own 0 rfl) (idx_get H9).2.2 rfl rfl rfl rfl rfl) rfl rfl rfl rfl rfl ?_
            refine TA.one 6 (by kernel_rfl) ?_
            refine TX.y (listed' := #[true, true, true, true, true, true, true, false, true, true, true, true, false, false, false, false]) [] rfl (Y.index ke26 (Can.own 0 rfl) H7 rfl rfl) rfl rfl rfl rfl rfl ?_
            refine TA.one 7 (by kernel_rfl) ?_
            refine TX.y (listed' := #[true, true, true, true, true, true, true, true, true, true, true, true, false, false, false, false]) [] rfl (Y.load_el (us := [.int .i64 E6.No, .int .i64 E6.Level, strV E6.Lo, strV E6.Hi]) (u := .agg #[.int .i64 E6.No, .int .i64 E6.Level, strV E6.Lo, strV E6.Hi]) kk43 rfl (Can.own 0 rfl) (idx_get H7).2.2 rfl rfl rfl rfl rfl) rfl rfl rfl rfl rfl ?_
            refine TA.one 12 (by kernel_rfl) ?_
            refine TX.y (listed' := #[true, true, true, true, true, true, true, true, true, true, true, true, true, false, false, false]) [] rfl (Y.index ke26 (Can.own 0 rfl) H9 rfl rfl) rfl rfl rfl rfl rfl ?_
            refine TA.one 13 (by kernel_rfl) ?_
            refine TX.ef0 (listed' := #[true, true, true, true, true, true, true, true, true, true, true, true, true, true, false, false]) [] rfl (Ef.store_el (us := [.int .i64 E6.No, .int .i64 E6.Level, strV E6.Lo, strV E6.Hi]) (is' := [.own V_s0 (lc (S1.2.2.set S1.1.toNat E6))]) E6 0 kk43 rfl rfl (idx_get H9).2.2 rfl rfl (Cel.plain rfl rfl) rfl rfl rfl rfl) rfl rfl rfl (fun _ => rfl) (fun _ => ?_)
            refine TA.one 14 (by kernel_rfl) ?_
            refine TX.y (listed' := #[true, true, true, true, true, true, true, true, true, true, true, true, true, true, true, false]) [] rfl (Y.index ke26 (Can.own 0 rfl) H11 rfl rfl) rfl rfl rfl rfl rfl ?_
            refine TA.one 15 (by kernel_rfl) ?_
            refine TX.ef0 (listed' := #[true, true, true, true, true, true, true, true, true, true, true, true, true, true, true, true]) [] rfl (Ef.store_el (us := [.int .i64 E8.No, .int .i64 E8.Level, strV E8.Lo, strV E8.Hi]) (is' := [.own V_s0 (lc ((S1.2.2.set S1.1.toNat E6).set S1.2.1.toNat E8))]) E8 0 kk43 rfl rfl (idx_get H11).2.2 rfl rfl (Cel.plain rfl rfl) rfl rfl rfl rfl) rfl rfl rfl (fun _ => rfl) (fun _ => ?_)
            refine TA.nil (by kernel_rfl) ?_
            exact TE.jb_go () [0] ⟨rfl, rfl, rfl, trivial⟩ rfl
      · refine TE.block_normal ?_
        refine TE.next ?_
        refine TW.region ?_
        refine TO.y (Y.move rfl) rfl rfl rfl ?_
        refine TO.y (Y.add rfl rfl) rfl rfl rfl ?_
        refine TO.y (Y.move rfl) rfl rfl rfl ?_
        refine TO.y (Y.sub rfl rfl) rfl rfl rfl ?_
        refine TO.y (Y.assign rfl) rfl rfl rfl ?_
        refine TO.y (Y.assign rfl) rfl rfl rfl ?_
        refine TO.nil ?_
        exact TE.lp_go () [0] ⟨rfl, rfl, rfl, trivial⟩ rfl
    · refine TW.exit ?_
      refine TE.then_exit ?_
      refine TE.lp_exit ?_
      refine TE.block_exit ?_
      exact TE.jn_go () [0] trivial rfl
  · exact TE.leaf fun _ _ hf_ hs_ => ret_any (rs := []) (vs := []) (.inr rfl) rfl trivial hf_ hs_ ⟨(), rfl, hs_.pulls [0] rfl⟩

/-- slices.Insert[[]loop.example/g00950/impl.File,loop.example/g00950/impl.File] -/
noncomputable def slices_Insert_68810 (s : List File) (i : Int) (v : List File) : Option (List File) := ins 48 s i v

theorem slices_Insert_68810_con (s : List File) (i : Int) (v : List File) (V_s0 V_v0 : Value) (r : List File) (hm : slices_Insert_68810 s i v = some r) :
    Con Try.prog 57 [V_s0, .int .i64 i, V_v0] [.own V_s0 (lc s), .own V_v0 (lc v)] [] (fun X : Value => X) (fun X => [.own X (lc r)]) := by
  refine Con.intro (args := [V_s0, .int .i64 i, V_v0]) (n := 95) (val := fun _ (X : Value) => X) (post := fun r X => [.own X (lc r)]) (m := slices_Insert_68810 s i v) Try.func57 rfl rfl rfl hm ?_
  intro w S _
  unfold slices_Insert_68810
  refine TW.known fun r0 hr0 => ?_
  obtain ⟨h0, h1, h2, h3, rfl⟩ := ins_eq hr0
  obtain ⟨I, rfl⟩ := Int.eq_ofNat_of_zero_le h0
  rw [Int.toNat_natCast]
  have h1n : I ≤ s.length := by omega
  clear hr0 hm
  have wr : ∀ q : Nat, q ≤ 4611686018427387904 → IntKind.i64.wrap (q : Int) = (q : Int) := fun q hq => by rw [IntKind.wrap_i64]; omega
  have wr2 : ∀ a b : Nat, a + b ≤ 4611686018427387904 → IntKind.i64.wrap ((a : Int) + (b : Int)) = ((a + b : Nat) : Int) := fun a b hq => by rw [IntKind.wrap_i64]; omega
  obtain ⟨z0, hpc⟩ : ∃ z, piece s (I : Int) ((s.length : Nat) : Int) = some z := ⟨_, if_pos ⟨by omega, by omega, by omega⟩⟩
  refine TW.seq ?_
  refine TW.region ?_
  refine TO.y (Y.assign rfl) rfl rfl rfl ?_
  refine TO.nil ?_
  refine TE.next ?_
  refine TW.seq ?_
  refine TW.region ?_
  refine TO.y (Y.move rfl) rfl rfl rfl ?_
  refine TO.y (Y.move rfl) rfl rfl rfl ?_
  refine TO.y (Y.subs hpc ke26 (Can.own 0 rfl) rfl ⟨_, rfl⟩ rfl) rfl rfl rfl ?_
  refine TO.nil ?_
  refine TE.next ?_
  refine TW.seq ?_
  refine TW.region ?_
  refine TO.y (Y.move rfl) rfl rfl rfl ?_
  refine TO.y (Y.len (l := v) ke26 (Can.own 1 rfl) rfl) rfl rfl rfl ?_
  refine TO.y (Y.assign rfl) rfl rfl rfl ?_
  refine TO.nil ?_
  refine TE.next ?_
  refine TW.seq ?_
  refine TW.seq ?_
  refine TW.region ?_
  refine TO.y (Y.move rfl) rfl rfl rfl ?_
  refine TO.y (Y.eql rfl rfl) rfl rfl rfl ?_
  refine TO.nil ?_
  refine TE.next ?_
  by_cases hm0 : v = []
  · subst hm0
    rw [show s.take I ++ ([] ++ s.drop I) = s by simp]
    refine TW.cond_t rfl (by simp) ?_
    refine TW.seq ?_
    refine TW.region ?_
    refine TO.y (Y.move rfl) rfl rfl rfl ?_
    refine TO.y (Y.assign rfl) rfl rfl rfl ?_
    refine TO.nil ?_
    refine TE.next ?_
    refine TW.ret ?_
    refine TE.then_ret ?_
    exact TE.leaf fun _ _ hf_ hs_ => ret_any (rs := [.tmp 6]) (vs := [V_s0]) (.inl rfl) rfl ⟨rfl, trivial⟩ hf_ hs_ ⟨V_s0, rfl, hs_.pulls [0] rfl⟩
  · have hm1 : 0 < v.length := List.length_pos_iff.2 hm0
    refine TW.cond_f rfl (decide_eq_false (by omega)) ?_
    refine TW.skip ?_
    refine TE.next ?_
    refine TW.seq ?_
    refine TW.region ?_
    refine TO.y (Y.move rfl) rfl rfl rfl ?_
    refine TO.y (Y.len (l := s) ke26 (Can.own 0 rfl) rfl) rfl rfl rfl ?_
    refine TO.y (Y.assign rfl) rfl rfl rfl ?_
    refine TO.nil ?_
    refine TE.next ?_
    refine TW.seq ?_
    refine TW.seq ?_
    refine TW.region ?_
    refine TO.y (Y.move rfl) rfl rfl rfl ?_
    refine TO.y (Y.move rfl) rfl rfl rfl ?_
    refine TO.y (Y.eql rfl rfl) rfl rfl rfl ?_
    refine TO.nil ?_
    refine TE.next ?_
    by_cases hin : I = s.length
    · have happ : app 48 s v = some (s ++ v) := by unfold app; rw [if_pos ⟨h2, by omega⟩]
      rw [show s.take I ++ (v ++ s.drop I) = s ++ v by rw [hin]; simp]
      refine TW.cond_t rfl (decide_eq_true (by omega)) ?_
      refine TW.seq ?_
      refine TW.region ?_
      refine TO.y (Y.move rfl) rfl rfl rfl ?_
      refine TO.y (Y.move rfl) rfl rfl rfl ?_
      refine TO.ef (Ef.appN (α := File) (is' := []) [0, 0] happ ke26 kz43 rfl rfl rfl rfl rfl) rfl rfl rfl (fun X => ?_)
      refine TO.y (Y.assign rfl) rfl rfl rfl ?_
      refine TO.nil ?_
      refine TE.next ?_
      refine TW.ret ?_
      refine TE.then_ret ?_
      exact TE.leaf fun _ _ hf_ hs_ => ret_any (rs := [.tmp 6]) (vs := [X]) (.inl rfl) rfl ⟨rfl, trivial⟩ hf_ hs_ ⟨X, rfl, hs_.pulls [0] rfl⟩
    · refine TW.cond_f rfl (decide_eq_false (by omega)) ?_
      refine TW.skip ?_
      refine TE.next ?_
      refine TW.openRows (α := File) (by omega) hm1 ?_
      intro b cap e cur b2 cap2 e2 cur2 hV hU hbb hc1 hc2 hc3 hc4 hl1 hl2 ho1 ho2
      subst hV hU
      have hsz : Enc.sz File = 4 := rfl
      rw [hsz] at hl1 hl2 ho1 ho2
      have e1 := wr2 s.length v.length h3
      refine TW.seq ?_
      refine TW.seq ?_
      refine TW.region ?_
      refine TO.y (Y.move rfl) rfl rfl rfl ?_
      refine TO.y (Y.move rfl) rfl rfl rfl ?_
      refine TO.y (Y.add rfl rfl) rfl rfl rfl ?_
      refine TO.y (Y.move rfl) rfl rfl rfl ?_
      refine TO.y (Y.capRaw ke26 rfl) rfl rfl rfl ?_
      refine TO.y (Y.gtr rfl rfl) rfl rfl rfl ?_
      refine TO.nil ?_
      refine TE.next ?_
      by_cases hroom : cap < s.length + v.length
      · refine TW.cond_t rfl (by rw [e1]; exact decide_eq_true (by omega)) ?_
        refine TW.seq ?_
        refine TW.region ?_
        refine TO.y (Y.move rfl) rfl rfl rfl ?_
        refine TO.y (Y.move rfl) rfl rfl rfl ?_
        refine TO.y (Y.toRaw (hi := I) ke26 (by omega) rfl rfl rfl) rfl rfl rfl ?_
        refine TO.y (Y.move rfl) rfl rfl rfl ?_
        refine TO.y (Y.move rfl) rfl rfl rfl ?_
        refine TO.y (Y.add rfl rfl) rfl rfl rfl ?_
        refine TO.y (Y.move rfl) rfl rfl rfl ?_
        refine TO.y (Y.sub rfl rfl) rfl rfl rfl ?_
        have e2 : IntKind.i64.wrap (IntKind.i64.wrap ((s.length : Int) + (v.length : Int)) - (I : Int)) = ((s.length + v.length - I : Nat) : Int) := by rw [e1, IntKind.wrap_i64]; omega
        refine TO.ef (Ef.rawGrow (N := s.length + v.length) (q := s.length + v.length - I) 0 ke26 ki3 kz43 rfl rfl rfl rfl rfl e2 (by omega) (by omega) hl1 (by omega) hroom (by omega) h2) rfl rfl rfl (fun X => ?_)
        refine TO.y (Y.assign rfl) rfl rfl rfl ?_
        refine TO.nil ?_
        refine TE.next ?_
        obtain ⟨⟨⟨g, gc⟩, ge, zs⟩, hz1, hz2, hz3⟩ := X
        dsimp only at hz1 hz2 hz3 ⊢
        obtain ⟨q1, q2, q3, q4, q5, q6⟩ := insA (G := gc) (zs := zs) h1n hc1 hc3 hl1 hl2 hz1 hz2
        have m1 : 0 + I * 4 + v.length * 4 ≤ gc * 4 := by omega
        have m2 : 0 + (I + v.length) * 4 + (s.length - I) * 4 ≤ gc * 4 := by omega
        have m3 : 0 + v.length * 4 ≤ cap2 * 4 := by omega
        have m4 : 0 + I * 4 + (s.length - I) * 4 ≤ cap * 4 := by omega
        refine TW.seq ?_
        refine TW.region ?_
        refine TO.y (Y.move rfl) rfl rfl rfl ?_
        refine TO.y (Y.move rfl) rfl rfl rfl ?_
        refine TO.y (Y.fromRaw (lo := I) ke26 (by omega) (by omega) rfl rfl rfl) rfl rfl rfl ?_
        refine TO.y (Y.move rfl) rfl rfl rfl ?_
        refine TO.ef (Ef.rawCopy (sl := v.length) 0 2 ke26 rfl rfl rfl rfl (by omega) (by rw [q3]; exact m1) (by rw [hl2]; exact m3) (by rw [List.drop_zero]; exact ho2) rfl) rfl rfl rfl (fun _ => ?_)
        refine TO.nil ?_
        refine TE.next ?_
        refine TW.seq ?_
        refine TW.draw (isH := []) hMix ?_
        refine TA.y (listed' := #[true, false, false, false, false, false, false, false, false]) 0 [] rfl (Y.move rfl) rfl rfl rfl (by kernel_rfl) (by kernel_rfl) (by kernel_rfl) rfl rfl ?_
        refine TA.y (listed' := #[true, true, false, false, false, false, false, false, false]) 1 [] rfl (Y.move rfl) rfl rfl rfl (by kernel_rfl) (by kernel_rfl) (by kernel_rfl) rfl rfl ?_
        refine TA.y (listed' := #[true, true, true, false, false, false, false, false, false]) 2 [] rfl (Y.move rfl) rfl rfl rfl (by kernel_rfl) (by kernel_rfl) (by kernel_rfl) rfl rfl ?_
        refine TA.y (listed' := #[true, true, true, true, false, false, false, false, false]) 3 [] rfl (Y.add rfl rfl) rfl rfl rfl (by kernel_rfl) (by kernel_rfl) (by kernel_rfl) rfl rfl ?_
        refine TA.y (listed' := #[true, true, true, true, true, false, false, false, false]) 4 [] rfl (Y.fromRaw (lo := I + v.length) ke26 (by omega) (by omega) (wr2 I v.length (by omega)) rfl rfl) rfl rfl rfl (by kernel_rfl) (by kernel_rfl) (by kernel_rfl) rfl rfl ?_
        refine TA.y (listed' := #[true, true, true, true, true, true, false, false, false]) 5 [] rfl (Y.move rfl) rfl rfl rfl (by kernel_rfl) (by kernel_rfl) (by kernel_rfl) rfl rfl ?_
        refine TA.y (listed' := #[true, true, true, true, true, true, true, false, false]) 6 [] rfl (Y.move rfl) rfl rfl rfl (by kernel_rfl) (by kernel_rfl) (by kernel_rfl) rfl rfl ?_
        refine TA.y (listed' := #[true, true, true, true, true, true, true, true, false]) 7 [] rfl (Y.fromRaw (lo := I) ke26 (by omega) (by omega) rfl rfl rfl) rfl rfl rfl (by kernel_rfl) (by kernel_rfl) (by kernel_rfl) rfl rfl ?_
        refine TA.one 8 (by kernel_rfl) ?_
        refine TX.ef (listed' := #[true, true, true, true, true, true, true, true, true]) [] rfl (Ef.rawCopy (sl := s.length - I) 0 1 ke26 rfl rfl rfl rfl (by omega) (by rw [q4]; exact m2) (by rw [hl1]; exact m4) (ins_one ho1 h1n) rfl) rfl rfl rfl rfl (fun _ => rfl) (fun _ => ?_)
        refine TA.nil (by kernel_rfl) ?_
        refine TE.next ?_
        refine TW.seq ?_
        refine TW.region ?_
        refine TO.y (Y.move rfl) rfl rfl rfl ?_
        refine TO.y (Y.assign rfl) rfl rfl rfl ?_
        refine TO.nil ?_
        refine TE.next ?_
        refine TW.ret ?_
        refine TE.then_ret ?_
        refine TE.ghost (Gh.fold (α := File) (l := s) (k := v) (i := I) [0, 2, 2, 0, 0] rfl h1n hz2 hz3 q5 q6) (fun _ => ?_)
        exact TE.leaf fun _ _ hf_ hs_ => ret_any (rs := [.tmp 6]) (vs := [.slice (some ⟨g, 0, none⟩) (s.length + v.length) gc]) (.inl rfl) rfl ⟨rfl, trivial⟩ hf_ hs_ ⟨(.slice (some ⟨g, 0, none⟩) (s.length + v.length) gc), rfl, hs_.pulls [0] rfl⟩
      · refine TW.cond_f rfl (by rw [e1]; exact decide_eq_false (by omega)) ?_
        refine TW.skip ?_
        refine TE.next ?_
        refine TW.seq ?_
        refine TW.region ?_
        refine TO.y (Y.move rfl) rfl rfl rfl ?_
        refine TO.y (Y.move rfl) rfl rfl rfl ?_
        refine TO.y (Y.move rfl) rfl rfl rfl ?_
        refine TO.y (Y.add rfl rfl) rfl rfl rfl ?_
        refine TO.y (Y.toRaw (hi := s.length + v.length) ke26 (by omega) e1 rfl rfl) rfl rfl rfl ?_
        refine TO.y (Y.assign rfl) rfl rfl rfl ?_
        refine TO.nil ?_
        refine TE.next ?_
        obtain ⟨q1, q2, q3, q4, q5⟩ := insB h1n (by omega) hc3 hl1 hl2
        have m1 : 0 + I * 4 + v.length * 4 ≤ cap * 4 := by omega
        have m2 : 0 + (I + v.length) * 4 + (s.length - I) * 4 ≤ cap * 4 := by omega
        have m3 : 0 + v.length * 4 ≤ cap2 * 4 := by omega
        have m4 : 0 + I * 4 + (s.length - I) * 4 ≤ cap * 4 := by omega
        have hne : cur ≠ [] := by intro e; rw [e] at hl1; simp at hl1; omega
        refine TW.seq ?_
        refine TW.seq ?_
        refine TW.region ?_
        refine TO.y (Y.move rfl) rfl rfl rfl ?_
        refine TO.y (Y.move rfl) rfl rfl rfl ?_
        refine TO.y (Y.move rfl) rfl rfl rfl ?_
        refine TO.y (Y.move rfl) rfl rfl rfl ?_
        refine TO.y (Y.add rfl rfl) rfl rfl rfl ?_
        refine TO.y (Y.fromRaw (lo := I + v.length) ke26 (by omega) (by omega) (wr2 I v.length (by omega)) rfl rfl) rfl rfl rfl ?_
        refine TO.ef (Ef.overlaps (tr := 4) 1 0 Try.func82 (by kernel_rfl) (by kernel_rfl) (by kernel_rfl) (by kernel_rfl) ke26 rfl rfl (Ne.symm hbb) rfl rfl hne) rfl rfl rfl (fun _ => ?_)
        refine TO.y (Y.not rfl) rfl rfl rfl ?_
        refine TO.nil ?_
        refine TE.next ?_
        refine TW.cond_true rfl ?_
        refine TW.seq ?_
        refine TW.draw (isH := []) hMix ?_
        refine TA.y (listed' := #[true, false, false, false, false, false, false, false, false]) 0 [] rfl (Y.move rfl) rfl rfl rfl (by kernel_rfl) (by kernel_rfl) (by kernel_rfl) rfl rfl ?_
        refine TA.y (listed' := #[true, true, false, false, false, false, false, false, false]) 1 [] rfl (Y.move rfl) rfl rfl rfl (by kernel_rfl) (by kernel_rfl) (by kernel_rfl) rfl rfl ?_
        refine TA.y (listed' := #[true, true, true, false, false, false, false, false, false]) 2 [] rfl (Y.move rfl) rfl rfl rfl (by kernel_rfl) (by kernel_rfl) (by kernel_rfl) rfl rfl ?_
        refine TA.y (listed' := #[true, true, true, true, false, false, false, false, false]) 3 [] rfl (Y.add rfl rfl) rfl rfl rfl (by kernel_rfl) (by kernel_rfl) (by kernel_rfl) rfl rfl ?_
        refine TA.y (listed' := #[true, true, true, true, true, false, false, false, false]) 4 [] rfl (Y.fromRaw (lo := I + v.length) ke26 (by omega) (by omega) (wr2 I v.length (by omega)) rfl rfl) rfl rfl rfl (by kernel_rfl) (by kernel_rfl) (by kernel_rfl) rfl rfl ?_
        refine TA.y (listed' := #[true, true, true, true, true, true, false, false, false]) 5 [] rfl (Y.move rfl) rfl rfl rfl (by kernel_rfl) (by kernel_rfl) (by kernel_rfl) rfl rfl ?_
        refine TA.y (listed' := #[true, true, true, true, true, true, true, false, false]) 6 [] rfl (Y.move rfl) rfl rfl rfl (by kernel_rfl) (by kernel_rfl) (by kernel_rfl) rfl rfl ?_
        refine TA.y (listed' := #[true, true, true, true, true, true, true, true, false]) 7 [] rfl (Y.fromRaw (lo := I) ke26 (by omega) (by omega) rfl rfl rfl) rfl rfl rfl (by kernel_rfl) (by kernel_rfl) (by kernel_rfl) rfl rfl ?_
        refine TA.one 8 (by kernel_rfl) ?_
        refine TX.ef (listed' := #[true, true, true, true, true, true, true, true, true]) [] rfl (Ef.rawCopy (sl := s.length - I) 0 0 ke26 rfl rfl rfl rfl (by omega) (by rw [hl1]; exact m2) (by rw [hl1]; exact m4) (ins_one ho1 h1n) rfl) rfl rfl rfl rfl (fun _ => rfl) (fun _ => ?_)
        refine TA.nil (by kernel_rfl) ?_
        refine TE.next ?_
        refine TW.seq ?_
        refine TW.region ?_
        refine TO.y (Y.move rfl) rfl rfl rfl ?_
        refine TO.y (Y.move rfl) rfl rfl rfl ?_
        refine TO.y (Y.fromRaw (lo := I) ke26 (by omega) (by omega) rfl rfl rfl) rfl rfl rfl ?_
        refine TO.y (Y.move rfl) rfl rfl rfl ?_
        refine TO.ef (Ef.rawCopy (sl := v.length) 0 1 ke26 rfl rfl rfl rfl (by omega) (by rw [q3]; exact m1) (by rw [hl2]; exact m3) (by rw [List.drop_zero]; exact ho2) rfl) rfl rfl rfl (fun _ => ?_)
        refine TO.nil ?_
        refine TE.next ?_
        refine TW.seq ?_
        refine TW.region ?_
        refine TO.y (Y.move rfl) rfl rfl rfl ?_
        refine TO.y (Y.assign rfl) rfl rfl rfl ?_
        refine TO.nil ?_
        refine TE.next ?_
        refine TW.ret ?_
        refine TE.then_ret ?_
        refine TE.ghost (Gh.fold (α := File) (l := s) (k := v) (i := I) [0, 1, 1, 0] rfl h1n (by omega) hc2 q4 q5) (fun _ => ?_)
        exact TE.leaf fun _ _ hf_ hs_ => ret_any (rs := [.tmp 6]) (vs := [.slice (some ⟨b, 0, none⟩) (s.length + v.length) cap]) (.inl rfl) rfl ⟨rfl, trivial⟩ hf_ hs_ ⟨(.slice (some ⟨b, 0, none⟩) (s.length + v.length) cap), rfl, hs_.pulls [0] rfl⟩

/-- loop.example/g00950/impl.FilesAdd -/
noncomputable def impl_FilesAdd (l : List File) (f : File) : Option (List File × Bool) :=
  (impl_FilesOk l).bind fun R2 =>
  if (!R2) = true then (some ([], false))
  else (bindC (loopO (fun (S7 : Int) => (if (decide (S7 < ((l.length : Nat) : Int))) = true then ((idx l S7).bind fun E14 =>
  (impl_compareFiles E14 f).bind fun R16 =>
  some (decide (R16 < (0 : Int))))
  else (some false)).bind (fun (T11 : Bool) =>
  if T11 = true then (some (.go (IntKind.i64.wrap (S7 + (1 : Int)))))
  else (some (.done (.go S7)))))
  (0 : Int))
  (fun (T9 : Int) => (slices_Clone_68810 l).bind fun R20 =>
  (slices_Insert_68810 R20 T9 ([f])).bind fun R25 =>
  (impl_FilesOk R25).bind fun R32 =>
  if (!R32) = true then (some (R20, false))
  else (some (R25, true))))

theorem impl_FilesAdd_con (l : List File) (f : File) (V_l0 : Value) (r : List File × Bool) (hm : impl_FilesAdd l f = some r) :
    Con Try.prog 19 [V_l0, .agg #[.int .i64 f.No, .int .i64 f.Level, strV f.Lo, strV f.Hi]] [] [(V_l0, lc l)] (fun X : Value => .tuple #[X, .bool r.2]) (fun X => [.own X (lc r.1)]) := by
  refine Con.intro (args := [V_l0, .agg #[.int .i64 f.No, .int .i64 f.Level, strV f.Lo, strV f.Hi]]) (n := 38) (val := fun r (X : Value) => .tuple #[X, .bool r.2]) (post := fun r X => [.own X (lc r.1)]) (m := impl_FilesAdd l f) Try.func19 rfl rfl rfl hm ?_
  intro w S hrd
  have HB_V_l0 := hrd _ (.head _)
  clear hrd
  unfold impl_FilesAdd
  refine TW.seq ?_
  refine TW.region ?_
  refine TO.ef (Ef.box rfl (Cel.plain rfl rfl)) rfl rfl rfl (fun B1 => ?_)
  refine TO.y (Y.assign rfl) rfl rfl rfl ?_
  refine TO.y (Y.assign rfl) rfl rfl rfl ?_
  refine TO.nil ?_
  refine TE.next ?_
  refine TW.seq ?_
  refine TW.seq ?_
  refine TW.region ?_
  refine TO.y (Y.move rfl) rfl rfl rfl ?_
  refine TO.bind fun R2 H3 => ?_
  refine TO.ef (Ef.call (rest := [.box B1 43 [.int .i64 f.No, .int .i64 f.Level, strV f.Lo, strV f.Hi]]) [0] (impl_FilesOk_con l V_l0 R2 H3) kc44 rfl rfl ⟨(Base.can HB_V_l0), trivial⟩) rfl rfl rfl (fun _ => ?_)
  refine TO.y (Y.not rfl) rfl rfl rfl ?_
  refine TO.nil ?_
  refine TE.next ?_
  refine TW.cond rfl (fun H5 => ?_) (fun H5 => ?_)
  · refine TW.seq ?_
    refine TW.region ?_
    refine TO.y (Y.assign rfl) rfl rfl rfl ?_
    refine TO.y (Y.assign rfl) rfl rfl rfl ?_
    refine TO.nil ?_
    refine TE.next ?_
    refine TW.ret ?_
    refine TE.then_ret ?_
    exact TE.leaf fun _ _ hf_ hs_ => ret_any (rs := [.tmp 4, .tmp 5]) (vs := [.slice none 0 0, .bool false]) (.inl rfl) rfl ⟨rfl, ⟨rfl, trivial⟩⟩ hf_ hs_ ⟨(.slice none 0 0), rfl, (hs_.nilItem 4).pulls [0] rfl⟩
  · refine TW.skip ?_
    refine TE.next ?_
    refine TW.seq ?_
    refine TW.region ?_
    refine TO.y (Y.assign rfl) rfl rfl rfl ?_
    refine TO.nil ?_
    refine TE.next ?_
    refine TW.seq ?_
    refine TW.joinX (τ := Int) (X := Unit) (fun T _ => [(0, V_l0), (3, .pointer (some ⟨B1, 0, none⟩)), (6, .int .i64 T)]) (fun _ _ => [.box B1 43 [.int .i64 f.No, .int .i64 f.Level, strV f.Lo, strV f.Hi]]) ?_ (fun T9 X10 => ?_)
    · refine TW.block ?_
      refine TW.loopX (σ := Int) (X := Unit) (fun T _ => [(0, V_l0), (3, .pointer (some ⟨B1, 0, none⟩)), (6, .int .i64 T)]) (fun _ _ => [.box B1 43 [.int .i64 f.No, .int .i64 f.Level, strV f.Lo, strV f.Hi]]) () [0] ⟨rfl, rfl, rfl, trivial⟩ rfl (fun S7 X8 => ?_)
      refine TW.seq ?_
      refine TW.seq ?_
      refine TW.joinBX (τ := Bool) (X := Unit) (fun T _ => [(0, V_l0), (3, .pointer (some ⟨B1, 0, none⟩)), (6, .int .i64 S7), (23, .bool T)]) (fun _ _ => [.box B1 43 [.int .i64 f.No, .int .i64 f.Level, strV f.Lo, strV f.Hi]]) ?_ (fun T11 X12 => ?_)
      · refine TW.draw (isH := [.box B1 43 [.int .i64 f.No, .int .i64 f.Level, strV f.Lo, strV f.Hi]]) hMix ?_
        refine TA.y (listed' := #[true, false, false, false, false, false, false, false, false, false, false, false, false]) 0 [0] rfl (Y.move rfl) rfl rfl rfl (by kernel_rfl) (by kernel_rfl) (by kernel_rfl) rfl rfl ?_
        refine TA.y (listed' := #[true, true, false, false, false, false, false, false, false, false, false, false, false]) 1 [0] rfl (Y.move rfl) rfl rfl rfl (by kernel_rfl) (by kernel_rfl) (by kernel_rfl) rfl rfl ?_
        refine TA.y (listed' := #[true, true, true, false, false, false, false, false, false, false, false, false, false]) 2 [0] rfl (Y.len (l := l) ke26 (Base.can HB_V_l0) rfl) rfl rfl rfl (by kernel_rfl) (by kernel_rfl) (by kernel_rfl) rfl rfl ?_
        refine TA.y (listed' := #[true, true, true, true, false, false, false, false, false, false, false, false, false]) 3 [0] rfl (Y.lss rfl rfl) rfl rfl rfl (by kernel_rfl) (by kernel_rfl) (by kernel_rfl) rfl rfl ?_
        refine TA.y (listed' := #[true, true, true, true, true, false, false, false, false, false, false, false, false]) 4 [0] rfl (Y.move rfl) rfl rfl rfl (by kernel_rfl) (by kernel_rfl) (by kernel_rfl) rfl rfl ?_
        refine TA.ite (b := decide (S7 < ((l.length : Nat) : Int))) (fun H13 => ?_) (fun H13 => ?_)
        · refine TA.y (listed' := #[true, true, true, true, true, true, false, false, false, false, false, false, false]) 5 [0] rfl (Y.move rfl) (Gd.at 4 true 15 (decide (S7 < ((l.length : Nat) : Int))) rfl rfl rfl (beq_tt H13)) rfl rfl (by kernel_rfl) (by kernel_rfl) (by kernel_rfl) rfl rfl ?_
          refine TA.y (listed' := #[true, true, true, true, true, true, true, false, false, false, false, false, false]) 6 [0] rfl (Y.move rfl) (Gd.at 4 true 15 (decide (S7 < ((l.length : Nat) : Int))) rfl rfl rfl (beq_tt H13)) rfl rfl (by kernel_rfl) (by kernel_rfl) (by kernel_rfl) rfl rfl ?_
          refine TA.bind fun E14 H15 => ?_
          refine TA.y (listed' := #[true, true, true, true, true, true, true, true, false, false, false, false, false]) 7 [0] rfl (Y.index ke26 (Base.can HB_V_l0) H15 rfl rfl) (Gd.at 4 true 15 (decide (S7 < ((l.length : Nat) : Int))) rfl rfl rfl (beq_tt H13)) rfl rfl (by kernel_rfl) (by kernel_rfl) (by kernel_rfl) rfl rfl ?_
          refine TA.y (listed' := #[true, true, true, true, true, true, true, true, true, false, false, false, false]) 8 [0] rfl (Y.load_el (us := [.int .i64 E14.No, .int .i64 E14.Level, strV E14.Lo, strV E14.Hi]) (u := .agg #[.int .i64 E14.No, .int .i64 E14.Level, strV E14.Lo, strV E14.Hi]) kk43 rfl (Base.can HB_V_l0) (idx_get H15).2.2 rfl rfl rfl rfl rfl) (Gd.at 4 true 15 (decide (S7 < ((l.length : Nat) : Int))) rfl rfl rfl (beq_tt H13)) rfl rfl (by kernel_rfl) (by kernel_rfl) (by kernel_rfl) rfl rfl ?_
          refine TA.y (listed' := #[true, true, true, true, true, true, true, true, true, true, false, false, false]) 9 [0] rfl (Y.load_box (v := .agg #[.int .i64 f.No, .int .i64 f.Level, strV f.Lo, strV f.Hi]) 0 kk43 rfl rfl rfl) (Gd.at 4 true 15 (decide (S7 < ((l.length : Nat) : Int))) rfl rfl rfl (beq_tt H13)) rfl rfl (by kernel_rfl) (by kernel_rfl) (by kernel_rfl) rfl rfl ?_
          refine TA.bind fun R16 H17 => ?_
          refine TA.one 10 (by kernel_rfl) ?_
          refine TX.ef (listed' := #[true, true, true, true, true, true, true, true, true, true, true, false, false]) [0] rfl (Ef.call (rest := [.box B1 43 [.int .i64 f.No, .int .i64 f.Level, strV f.Lo, strV f.Hi]]) [0] (impl_compareFiles_con E14 f  R16 H17) kc56 rfl rfl trivial) (Gd.at 4 true 15 (decide (S7 < ((l.length : Nat) : Int))) rfl rfl rfl (beq_tt H13)) rfl rfl rfl (fun _ => rfl) (fun _ => ?_)
          refine TA.y (listed' := #[true, true, true, true, true, true, true, true, true, true, true, true, false]) 11 [0] rfl (Y.lss rfl rfl) (Gd.at 4 true 15 (decide (S7 < ((l.length : Nat) : Int))) rfl rfl rfl (beq_tt H13)) rfl rfl (by kernel_rfl) (by kernel_rfl) (by kernel_rfl) rfl rfl ?_
          refine TA.y (listed' := #[true, true, true, true, true, true, true, true, true, true, true, true, true]) 12 [0] rfl (Y.pick_t H13 rfl rfl) rfl rfl rfl (by kernel_rfl) (by kernel_rfl) (by kernel_rfl) rfl rfl ?_
          refine TA.nil (by kernel_rfl) ?_
          exact TE.jb_go () [0] ⟨rfl, rfl, rfl, rfl, trivial⟩ rfl
        · refine TA.off (listed' := #[true, true, true, true, true, true, false, false, false, false, false, false, false]) 5 [0] rfl (Gd.at 4 true 15 (decide (S7 < ((l.length : Nat) : Int))) rfl rfl rfl (beq_ft H13)) rfl rfl (by kernel_rfl) (by kernel_rfl) (by kernel_rfl) rfl rfl ?_
          refine TA.off (listed' := #[true, true, true, true, true, true, true, false, false, false, false, false, false]) 6 [0] rfl (Gd.at 4 true 15 (decide (S7 < ((l.length : Nat) : Int))) rfl rfl rfl (beq_ft H13)) rfl rfl (by kernel_rfl) (by kernel_rfl) (by kernel_rfl) rfl rfl ?_
          refine TA.off (listed' := #[true, true, true, true, true, true, true, true, false, false, false, false, false]) 7 [0] rfl (Gd.at 4 true 15 (decide (S7 < ((l.length : Nat) : Int))) rfl rfl rfl (beq_ft H13)) rfl rfl (by kernel_rfl) (by kernel_rfl) (by kernel_rfl) rfl rfl ?_
          refine TA.off (listed' := #[true, true, true, true, true, true, true, true, true, false, false, false, false]) 8 [0] rfl (Gd.at 4 true 15 (decide (S7 < ((l.length : Nat) : Int))) rfl rfl rfl (beq_ft H13)) rfl rfl (by kernel_rfl) (by kernel_rfl) (by kernel_rfl) rfl rfl ?_
          refine TA.off (listed' := #[true, true, true, true, true, true, true, true, true, true, false, false, false]) 9 [0] rfl (Gd.at 4 true 15 (decide (S7 < ((l.length : Nat) : Int))) rfl rfl rfl (beq_ft H13)) rfl rfl (by kernel_rfl) (by kernel_rfl) (by kernel_rfl) rfl rfl ?_
          refine TA.off (listed' := #[true, true, true, true, true, true, true, true, true, true, true, false, false]) 10 [0] rfl (Gd.at 4 true 15 (decide (S7 < ((l.length : Nat) : Int))) rfl rfl rfl (beq_ft H13)) rfl rfl (by kernel_rfl) (by kernel_rfl) (by kernel_rfl) rfl rfl ?_
          refine TA.off (listed' := #[true, true, true, true, true, true, true, true, true, true, true, true, false]) 11 [0] rfl (Gd.at 4 true 15 (decide (S7 < ((l.length : Nat) : Int))) rfl rfl rfl (beq_ft H13)) rfl rfl (by kernel_rfl) (by kernel_rfl) (by kernel_rfl) rfl rfl ?_
          refine TA.y (listed' := #[true, true, true, true, true, true, true, true, true, true, true, true, true]) 12 [0] rfl (Y.pick_f H13 rfl rfl) rfl rfl rfl (by kernel_rfl) (by kernel_rfl) (by kernel_rfl) rfl rfl ?_
          refine TA.nil (by kernel_rfl) ?_
          exact TE.jb_go () [0] ⟨rfl, rfl, rfl, rfl, trivial⟩ rfl
      · refine TE.next ?_
        refine TW.cond rfl (fun H19 => ?_) (fun H19 => ?_)
        · refine TW.skip ?_
          refine TE.next ?_
          refine TW.block ?_
          refine TW.region ?_
          refine TO.y (Y.move rfl) rfl rfl rfl ?_
          refine TO.y (Y.add rfl rfl) rfl rfl rfl ?_
          refine TO.y (Y.assign rfl) rfl rfl rfl ?_
          refine TO.nil ?_
          refine TE.block_normal ?_
          exact TE.lp_go () [0] ⟨rfl, rfl, rfl, trivial⟩ rfl
        · refine TW.exit ?_
          refine TE.then_exit ?_
          refine TE.lp_exit ?_
          refine TE.block_exit ?_
          exact TE.jn_go () [0] ⟨rfl, rfl, rfl, trivial⟩ rfl
    · refine TE.next ?_
      refine TW.seq ?_
      refine TW.bind fun R20 H21 => ?_
      refine TW.bind fun R25 H26 => ?_
      refine TW.joinU (X := Value) (fun _ X => [(0, V_l0), (7, X)]) (fun _ X => [.own X (lc R25)]) ?_ (fun _ X29 => ?_)
      · refine TW.draw (isH := [.box B1 43 [.int .i64 f.No, .int .i64 f.Level, strV f.Lo, strV f.Hi]]) hMix ?_
        refine TA.y (listed' := #[true, false, false, false, false, false, false]) 0 [0] rfl (Y.move rfl) rfl rfl rfl (by kernel_rfl) (by kernel_rfl) (by kernel_rfl) rfl rfl ?_
        refine TA.y (listed' := #[true, false, true, false, false, false, false]) 2 [0] rfl (Y.move rfl) rfl rfl rfl (by kernel_rfl) (by kernel_rfl) (by kernel_rfl) rfl rfl ?_
        refine TA.y (listed' := #[true, false, true, true, false, false, false]) 3 [0] rfl (Y.load_box (v := .agg #[.int .i64 f.No, .int .i64 f.Level, strV f.Lo, strV f.Hi]) 0 kk43 rfl rfl rfl) rfl rfl rfl (by kernel_rfl) (by kernel_rfl) (by kernel_rfl) rfl rfl ?_
        refine TA.two 1 4 (by kernel_rfl) ?_ ?_
        · refine TX.ef (listed' := #[true, true, true, true, false, false, false]) [1] rfl (Ef.call (rest := [.box B1 43 [.int .i64 f.No, .int .i64 f.Level, strV f.Lo, strV f.Hi]]) [0] (slices_Clone_68810_con l V_l0 R20 H21) kc45 rfl rfl ⟨(Base.can HB_V_l0), trivial⟩) rfl rfl rfl rfl (fun _ => rfl) (fun Y30 => ?_)
          refine TA.one 4 (by kernel_rfl) ?_
          refine TX.ef (listed' := #[true, true, true, true, true, false, false]) [2] rfl (Ef.buildSlice (α := File) (Vs := [.agg #[.int .i64 f.No, .int .i64 f.Level, strV f.Lo, strV f.Hi]]) [f] ke26 kz43 rfl rfl rfl rfl rfl) rfl rfl rfl rfl (fun _ => rfl) (fun B32 => ?_)
          refine TA.one 5 (by kernel_rfl) ?_
          refine TX.ef (listed' := #[true, true, true, true, true, true, false]) [1] rfl (Ef.call (rest := [.box B1 43 [.int .i64 f.No, .int .i64 f.Level, strV f.Lo, strV f.Hi]]) [1, 0, 0] (slices_Insert_68810_con R20 T9 ([f]) Y30 (.slice (some ⟨B32, 0, none⟩) 1 1) R25 H26) kc57 rfl rfl trivial) rfl rfl rfl rfl (fun _ => rfl) (fun Y33 => ?_)
          refine TA.y (listed' := #[true, true, true, true, true, true, true]) 6 [1] rfl (Y.assign rfl) rfl rfl rfl (by kernel_rfl) (by kernel_rfl) (by kernel_rfl) rfl rfl ?_
          refine TA.nil (by kernel_rfl) ?_
          exact TE.jb_go Y33 [0] ⟨rfl, rfl, trivial⟩ rfl
        · refine TX.ef (listed' := #[true, false, true, true, true, false, false]) [1] rfl (Ef.buildSlice (α := File) (Vs := [.agg #[.int .i64 f.No, .int .i64 f.Level, strV f.Lo, strV f.Hi]]) [f] ke26 kz43 rfl rfl rfl rfl rfl) rfl rfl rfl rfl (fun _ => rfl) (fun B31 => ?_)
          refine TA.one 1 (by kernel_rfl) ?_
          refine TX.ef (listed' := #[true, true, true, true, true, false, false]) [2] rfl (Ef.call (rest := [.own (.slice (some ⟨B31, 0, none⟩) 1 1) (lc ([f])), .box B1 43 [.int .i64 f.No, .int .i64 f.Level, strV f.Lo, strV f.Hi]]) [0, 0] (slices_Clone_68810_con l V_l0 R20 H21) kc45 rfl rfl ⟨(Base.can HB_V_l0), trivial⟩) rfl rfl rfl rfl (fun _ => rfl) (fun Y32 => ?_)
          refine TA.one 5 (by kernel_rfl) ?_
          refine TX.ef (listed' := #[true, true, true, true, true, true, false]) [1] rfl (Ef.call (rest := [.box B1 43 [.int .i64 f.No, .int .i64 f.Level, strV f.Lo, strV f.Hi]]) [0, 0, 0] (slices_Insert_68810_con R20 T9 ([f]) Y32 (.slice (some ⟨B31, 0, none⟩) 1 1) R25 H26) kc57 rfl rfl trivial) rfl rfl rfl rfl (fun _ => rfl) (fun Y33 => ?_)
          refine TA.y (listed' := #[true, true, true, true, true, true, true]) 6 [1] rfl (Y.assign rfl) rfl rfl rfl (by kernel_rfl) (by kernel_rfl) (by kernel_rfl) rfl rfl ?_
          refine TA.nil (by kernel_rfl) ?_
          exact TE.jb_go Y33 [0] ⟨rfl, rfl, trivial⟩ rfl
      · refine TE.next ?_
        refine TW.seq ?_
        refine TW.seq ?_
        refine TW.region ?_
        refine TO.y (Y.move rfl) rfl rfl rfl ?_
        refine TO.bind fun R32 H33 => ?_
        refine TO.ef (Ef.call (rest := [.own X29 (lc R25)]) [0] (impl_FilesOk_con R25 X29 R32 H33) kc44 rfl rfl ⟨(Can.own 0 rfl), trivial⟩) rfl rfl rfl (fun _ => ?_)
        refine TO.y (Y.not rfl) rfl rfl rfl ?_
        refine TO.nil ?_
        refine TE.next ?_
        refine TW.cond rfl (fun H35 => ?_) (fun H35 => ?_)
        · refine TW.seq ?_
          refine TW.region ?_
          refine TO.y (Y.move rfl) rfl rfl rfl ?_
          refine TO.ef (Ef.call (rest := [.own X29 (lc R25)]) [0] (slices_Clone_68810_con l V_l0 R20 H21) kc45 rfl rfl ⟨(Base.can HB_V_l0), trivial⟩) rfl rfl rfl (fun Y36 => ?_)
          refine TO.y (Y.assign rfl) rfl rfl rfl ?_
          refine TO.y (Y.assign rfl) rfl rfl rfl ?_
          refine TO.nil ?_
          refine TE.next ?_
          refine TW.ret ?_
          refine TE.then_ret ?_
          exact TE.leaf fun _ _ hf_ hs_ => ret_any (rs := [.tmp 4, .tmp 5]) (vs := [Y36, .bool false]) (.inl rfl) rfl ⟨rfl, ⟨rfl, trivial⟩⟩ hf_ hs_ ⟨Y36, rfl, hs_.pulls [0] rfl⟩
        · refine TW.skip ?_
          refine TE.next ?_
          refine TW.seq ?_
          refine TW.region ?_
          refine TO.y (Y.move rfl) rfl rfl rfl ?_
          refine TO.y (Y.assign rfl) rfl rfl rfl ?_
          refine TO.y (Y.assign rfl) rfl rfl rfl ?_
          refine TO.nil ?_
          refine TE.next ?_
          refine TW.ret ?_
          exact TE.leaf fun _ _ hf_ hs_ => ret_any (rs := [.tmp 4, .tmp 5]) (vs := [X29, .bool true]) (.inl rfl) rfl ⟨rfl, ⟨rfl, trivial⟩⟩ hf_ hs_ ⟨X29, rfl, hs_.pulls [0] rfl⟩

/-- loop.example/g00950/impl.EditFiles -/
noncomputable def impl_EditFiles (l : List File) (e : Edit) : Option (List File × Bool) :=
  (impl_FilesOk l).bind fun R2 =>
  if (!R2) = true then (some ([], false))
  else ((slices_Clone_68810 l).bind fun R7 =>
  bindC (loopO (fun (S10 : Int × List File) => if (decide (S10.1 < ((e.Drop.length : Nat) : Int))) = true then ((idx e.Drop S10.1).bind fun E15 =>
  (impl_FilesDrop S10.2 E15).bind fun R17 =>
  if (!R17.2) = true then (some (.done (.done (R7, false))))
  else (some (.go (IntKind.i64.wrap (S10.1 + (1 : Int)), R17.1))))
  else (some (.done (.go S10.2))))
  ((0 : Int), R7))
  (fun (T12 : List File) => bindC (loopO (fun (S22 : Int × List File) => if (decide (S22.1 < ((e.Add.length : Nat) : Int))) = true then ((idx e.Add S22.1).bind fun E27 =>
  (impl_FilesAdd S22.2 E27).bind fun R30 =>
  if (!R30.2) = true then (some (.done (.done (R7, false))))
  else (some (.go (IntKind.i64.wrap (S22.1 + (1 : Int)), R30.1))))
  else (some (.done (.go S22.2))))
  ((0 : Int), T12))
  (fun (T24 : List File) => some (T24, true))))

theorem impl_EditFiles_con (l : List File) (e : Edit) (V_l0 : Value) (V_e0 : Value) (V_e1 : Value) (r : List File × Bool) (hm : impl_EditFiles l e = some r) :
    Con Try.prog 13 [V_l0, .agg #[V_e0, V_e1]] [] [(V_l0, lc l), (V_e0, lc e.Add), (V_e1, lc e.Drop)] (fun X : Value => .tuple #[X, .bool r.2]) (fun X => [.own X (lc r.1)]) := by
  refine Con.intro (args := [V_l0, .agg #[V_e0, V_e1]]) (n := 59) (val := fun r (X : Value) => .tuple #[X, .bool r.2]) (post := fun r X => [.own X (lc r.1)]) (m := impl_EditFiles l e) Try.func13 rfl rfl rfl hm ?_
  intro w S hrd
  have HB_V_l0 := hrd _ (.head _)
  have HB_V_e0 := hrd _ (.tail _ (.head _))
  have HB_V_e1 := hrd _ (.tail _ (.tail _ (.head _)))
  clear hrd
  unfold impl_EditFiles
  refine TW.seq ?_
  refine TW.region ?_
  refine TO.ef (Ef.box rfl (Cel.agg ⟨(One.can (Base.can HB_V_e0)), (One.can (Base.can HB_V_e1)), trivial⟩)) rfl rfl rfl (fun B1 => ?_)
  refine TO.y (Y.assign rfl) rfl rfl rfl ?_
  refine TO.y (Y.assign rfl) rfl rfl rfl ?_
  refine TO.nil ?_
  refine TE.next ?_
  refine TW.seq ?_
  refine TW.seq ?_
  refine TW.region ?_
  refine TO.y (Y.move rfl) rfl rfl rfl ?_
  refine TO.bind fun R2 H3 => ?_
  refine TO.ef (Ef.call (rest := [.box B1 34 [V_e0, V_e1]]) [0] (impl_FilesOk_con l V_l0 R2 H3) kc44 rfl rfl ⟨(Base.can HB_V_l0), trivial⟩) rfl rfl rfl (fun _ => ?_)
  refine TO.y (Y.not rfl) rfl rfl rfl ?_
  refine TO.nil ?_
  refine TE.next ?_
  refine TW.cond rfl (fun H5 => ?_) (fun H5 => ?_)
  · refine TW.seq ?_
    refine TW.region ?_
    refine TO.y (Y.assign rfl) rfl rfl rfl ?_
    refine TO.y (Y.assign rfl) rfl rfl rfl ?_
    refine TO.nil ?_
    refine TE.next ?_
    refine TW.ret ?_
    refine TE.then_ret ?_
    exact TE.leaf fun _ _ hf_ hs_ => ret_any (rs := [.tmp 4, .tmp 5]) (vs := [.slice none 0 0, .bool false]) (.inl rfl) rfl ⟨rfl, ⟨rfl, trivial⟩⟩ hf_ hs_ ⟨(.slice none 0 0), rfl, (hs_.nilItem 4).pulls [0] rfl⟩
  · refine TW.skip ?_
    refine TE.next ?_
    refine TW.seq ?_
    refine TW.region ?_
    refine TO.y (Y.move rfl) rfl rfl rfl ?_
    refine TO.bind fun R7 H8 => ?_
    refine TO.ef (Ef.call (rest := [.box B1 34 [V_e0, V_e1]]) [0] (slices_Clone_68810_con l V_l0 R7 H8) kc45 rfl rfl ⟨(Base.can HB_V_l0), trivial⟩) rfl rfl rfl (fun Y9 => ?_)
    refine TO.y (Y.assign rfl) rfl rfl rfl ?_
    refine TO.nil ?_
    refine TE.next ?_
    refine TW.seq ?_
    refine TW.seq ?_
    refine TW.region ?_
    refine TO.y (Y.field_box kf34_1 rfl rfl) rfl rfl rfl ?_
    refine TO.y (Y.load_box (v := V_e1) 1 kk32 rfl rfl rfl) rfl rfl rfl ?_
    refine TO.y (Y.len (l := e.Drop) ke32 (Base.can HB_V_e1) rfl) rfl rfl rfl ?_
    refine TO.y (Y.move rfl) rfl rfl rfl ?_
    refine TO.nil ?_
    refine TE.next ?_
    refine TW.joinX (τ := List File) (X := Value) (fun _ X => [(0, V_l0), (3, .pointer (some ⟨B1, 0, none⟩)), (6, X)]) (fun T X => [.box B1 34 [V_e0, V_e1], .own X (lc T)]) ?_ (fun T12 X13 => ?_)
    · refine TW.block ?_
      refine TW.loopX (σ := Int × List File) (X := Value) (fun T X => [(0, V_l0), (3, .pointer (some ⟨B1, 0, none⟩)), (6, X), (21, V_e1), (22, .int .i64 ((e.Drop.length : Nat) : Int)), (23, .int .i64 T.1)]) (fun T X => [.box B1 34 [V_e0, V_e1], .own X (lc T.2)]) Y9 [1, 0] ⟨rfl, rfl, rfl, rfl, rfl, rfl, trivial⟩ rfl (fun S10 X11 => ?_)
      refine TW.seq ?_
      refine TW.region ?_
      refine TO.y (Y.lss rfl rfl) rfl rfl rfl ?_
      refine TO.nil ?_
      refine TE.next ?_
      refine TW.seq ?_
      refine TW.cond rfl (fun H14 => ?_) (fun H14 => ?_)
      · refine TW.skip ?_
        refine TE.next ?_
        refine TW.seq ?_
        refine TW.block ?_
        refine TW.seq ?_
        refine TW.region ?_
        refine TO.bind fun E15 H16 => ?_
        refine TO.y (Y.index ke32 (Base.can HB_V_e1) H16 rfl rfl) rfl rfl rfl ?_
        refine TO.y (Y.load_el (us := [.int .i64 E15]) (u := .int .i64 E15) kk3 rfl (Base.can HB_V_e1) (idx_get H16).2.2 rfl rfl rfl rfl rfl) rfl rfl rfl ?_
        refine TO.y (Y.assign rfl) rfl rfl rfl ?_
        refine TO.nil ?_
        refine TE.next ?_
        refine TW.seq ?_
        refine TW.region ?_
        refine TO.y (Y.move rfl) rfl rfl rfl ?_
        refine TO.y (Y.move rfl) rfl rfl rfl ?_
        refine TO.bind fun R17 H18 => ?_
        refine TO.ef (Ef.call (rest := [.box B1 34 [V_e0, V_e1], .own X11 (lc S10.2)]) [0, 0] (impl_FilesDrop_con S10.2 E15 X11 R17 H18) kc28 rfl rfl ⟨(Can.own 1 rfl), trivial⟩) rfl rfl rfl (fun Y19 => ?_)
        refine TO.y (Y.move rfl) rfl rfl rfl ?_
        refine TO.y (Y.extract rfl rfl) rfl rfl rfl ?_
        refine TO.y (Y.extract rfl rfl) rfl rfl rfl ?_
        refine TO.y (Y.assign rfl) rfl rfl rfl ?_
        refine TO.y (Y.assign rfl) rfl rfl rfl ?_
        refine TO.nil ?_
        refine TE.next ?_
        refine TW.seq ?_
        refine TW.seq ?_
        refine TW.region ?_
        refine TO.y (Y.move rfl) rfl rfl rfl ?_
        refine TO.y (Y.not rfl) rfl rfl rfl ?_
        refine TO.nil ?_
        refine TE.next ?_
        refine TW.cond rfl (fun H20 => ?_) (fun H20 => ?_)
        · refine TW.seq ?_
          refine TW.region ?_
          refine TO.y (Y.move rfl) rfl rfl rfl ?_
          refine TO.ef (Ef.call (rest := [.own Y19 (lc R17.1), .box B1 34 [V_e0, V_e1], .own X11 (lc S10.2)]) [0, 0, 0] (slices_Clone_68810_con l V_l0 R7 H8) kc45 rfl rfl ⟨(Base.can HB_V_l0), trivial⟩) rfl rfl rfl (fun Y21 => ?_)
          refine TO.y (Y.assign rfl) rfl rfl rfl ?_
          refine TO.y (Y.assign rfl) rfl rfl rfl ?_
          refine TO.nil ?_
          refine TE.next ?_
          refine TW.ret ?_
          refine TE.then_ret ?_
          refine TE.block_ret ?_
          refine TE.then_ret ?_
          refine TE.lp_ret ?_
          refine TE.block_ret ?_
          refine TE.jn_done ?_
          refine TE.then_ret ?_
          exact TE.leaf fun _ _ hf_ hs_ => ret_any (rs := [.tmp 4, .tmp 5]) (vs := [Y21, .bool false]) (.inl rfl) rfl ⟨rfl, ⟨rfl, trivial⟩⟩ hf_ hs_ ⟨Y21, rfl, hs_.pulls [0] rfl⟩
        · refine TW.skip ?_
          refine TE.next ?_
          refine TW.region ?_
          refine TO.y (Y.move rfl) rfl rfl rfl ?_
          refine TO.y (Y.assign rfl) rfl rfl rfl ?_
          refine TO.nil ?_
          refine TE.block_normal ?_
          refine TE.next ?_
          refine TW.region ?_
          refine TO.y (Y.add rfl rfl) rfl rfl rfl ?_
          refine TO.y (Y.move rfl) rfl rfl rfl ?_
          refine TO.nil ?_
          exact TE.lp_go Y19 [1, 0] ⟨rfl, rfl, rfl, rfl, rfl, rfl, trivial⟩ rfl
      · refine TW.exit ?_
        refine TE.then_exit ?_
        refine TE.lp_exit ?_
        refine TE.block_exit ?_
        exact TE.jn_go X11 [0, 0] ⟨rfl, rfl, rfl, trivial⟩ rfl
    · refine TE.next ?_
      refine TW.seq ?_
      refine TW.seq ?_
      refine TW.region ?_
      refine TO.y (Y.field_box kf34_0 rfl rfl) rfl rfl rfl ?_
      refine TO.y (Y.load_box (v := V_e0) 0 kk26 rfl rfl rfl) rfl rfl rfl ?_
      refine TO.y (Y.len (l := e.Add) ke26 (Base.can HB_V_e0) rfl) rfl rfl rfl ?_
      refine TO.y (Y.move rfl) rfl rfl rfl ?_
      refine TO.nil ?_
      refine TE.next ?_
      refine TW.joinX (τ := List File) (X := Value) (fun _ X => [(6, X)]) (fun T X => [.own X (lc T)]) ?_ (fun T24 X25 => ?_)
      · refine TW.block ?_
        refine TW.loopX (σ := Int × List File) (X := Value) (fun T X => [(0, V_l0), (6, X), (40, V_e0), (41, .int .i64 ((e.Add.length : Nat) : Int)), (42, .int .i64 T.1)]) (fun T X => [.own X (lc T.2)]) X13 [1] ⟨rfl, rfl, rfl, rfl, rfl, trivial⟩ rfl (fun S22 X23 => ?_)
        refine TW.seq ?_
        refine TW.region ?_
        refine TO.y (Y.lss rfl rfl) rfl rfl rfl ?_
        refine TO.nil ?_
        refine TE.next ?_
        refine TW.seq ?_
        refine TW.cond rfl (fun H26 => ?_) (fun H26 => ?_)
        · refine TW.skip ?_
          refine TE.next ?_
          refine TW.seq ?_
          refine TW.block ?_
          refine TW.seq ?_
          refine TW.region ?_
          refine TO.bind fun E27 H28 => ?_
          refine TO.y (Y.index ke26 (Base.can HB_V_e0) H28 rfl rfl) rfl rfl rfl ?_
          refine TO.y (Y.load_el (us := [.int .i64 E27.No, .int .i64 E27.Level, strV E27.Lo, strV E27.Hi]) (u := .agg #[.int .i64 E27.No, .int .i64 E27.Level, strV E27.Lo, strV E27.Hi]) kk43 rfl (Base.can HB_V_e0) (idx_get H28).2.2 rfl rfl rfl rfl rfl) rfl rfl rfl ?_
          refine TO.ef (Ef.alloc kz43 rfl) rfl rfl rfl (fun B29 => ?_)
          refine TO.ef0 (Ef.store_box (us := [.int .i64 E27.No, .int .i64 E27.Level, strV E27.Lo, strV E27.Hi]) (vs' := [.int .i64 E27.No, .int .i64 E27.Level, strV E27.Lo, strV E27.Hi]) (is' := [.box B29 43 [.int .i64 E27.No, .int .i64 E27.Level, strV E27.Lo, strV E27.Hi], .own X23 (lc S22.2)]) 0 kk43 rfl rfl rfl (Cel.plain rfl rfl) rfl rfl rfl rfl) rfl rfl (fun _ => ?_)
          refine TO.nil ?_
          refine TE.next ?_
          refine TW.seq ?_
          refine TW.region ?_
          refine TO.y (Y.move rfl) rfl rfl rfl ?_
          refine TO.y (Y.load_box (v := .agg #[.int .i64 E27.No, .int .i64 E27.Level, strV E27.Lo, strV E27.Hi]) 0 kk43 rfl rfl rfl) rfl rfl rfl ?_
          refine TO.bind fun R30 H31 => ?_
          refine TO.ef (Ef.call (rest := [.box B29 43 [.int .i64 E27.No, .int .i64 E27.Level, strV E27.Lo, strV E27.Hi], .own X23 (lc S22.2)]) [0, 0] (impl_FilesAdd_con S22.2 E27 X23 R30 H31) kc19 rfl rfl ⟨(Can.own 1 rfl), trivial⟩) rfl rfl rfl (fun Y32 => ?_)
          refine TO.y (Y.move rfl) rfl rfl rfl ?_
          refine TO.y (Y.extract rfl rfl) rfl rfl rfl ?_
          refine TO.y (Y.extract rfl rfl) rfl rfl rfl ?_
          refine TO.y (Y.assign rfl) rfl rfl rfl ?_
          refine TO.y (Y.assign rfl) rfl rfl rfl ?_
          refine TO.nil ?_
          refine TE.next ?_
          refine TW.seq ?_
          refine TW.seq ?_
          refine TW.region ?_
          refine TO.y (Y.move rfl) rfl rfl rfl ?_
          refine TO.y (Y.not rfl) rfl rfl rfl ?_
          refine TO.nil ?_
          refine TE.next ?_
          refine TW.cond rfl (fun H33 => ?_) (fun H33 => ?_)
          · refine TW.seq ?_
            refine TW.region ?_
            refine TO.y (Y.move rfl) rfl rfl rfl ?_
            refine TO.ef (Ef.call (rest := [.own Y32 (lc R30.1), .box B29 43 [.int .i64 E27.No, .int .i64 E27.Level, strV E27.Lo, strV E27.Hi], .own X23 (lc S22.2)]) [0, 0, 0] (slices_Clone_68810_con l V_l0 R7 H8) kc45 rfl rfl ⟨(Base.can HB_V_l0), trivial⟩) rfl rfl rfl (fun Y34 => ?_)
            refine TO.y (Y.assign rfl) rfl rfl rfl ?_
            refine TO.y (Y.assign rfl) rfl rfl rfl ?_
            refine TO.nil ?_
            refine TE.next ?_
            refine TW.ret ?_
            refine TE.then_ret ?_
            refine TE.block_ret ?_
            refine TE.then_ret ?_
            refine TE.lp_ret ?_
            refine TE.block_ret ?_
            refine TE.jn_done ?_
            refine TE.then_ret ?_
            exact TE.leaf fun _ _ hf_ hs_ => ret_any (rs := [.tmp 4, .tmp 5]) (vs := [Y34, .bool false]) (.inl rfl) rfl ⟨rfl, ⟨rfl, trivial⟩⟩ hf_ hs_ ⟨Y34, rfl, hs_.pulls [0] rfl⟩
          · refine TW.skip ?_
            refine TE.next ?_
            refine TW.region ?_
            refine TO.y (Y.move rfl) rfl rfl rfl ?_
            refine TO.y (Y.assign rfl) rfl rfl rfl ?_
            refine TO.nil ?_
            refine TE.block_normal ?_
            refine TE.next ?_
            refine TW.region ?_
            refine TO.y (Y.add rfl rfl) rfl rfl rfl ?_
            refine TO.y (Y.move rfl) rfl rfl rfl ?_
            refine TO.nil ?_
            exact TE.lp_go Y32 [0] ⟨rfl, rfl, rfl, rfl, rfl, trivial⟩ rfl
        · refine TW.exit ?_
          refine TE.then_exit ?_
          refine TE.lp_exit ?_
          refine TE.block_exit ?_
          exact TE.jn_go X23 [0] ⟨rfl, trivial⟩ rfl
      · refine TE.next ?_
        refine TW.seq ?_
        refine TW.region ?_
        refine TO.y (Y.move rfl) rfl rfl rfl ?_
        refine TO.y (Y.assign rfl) rfl rfl rfl ?_
        refine TO.y (Y.assign rfl) rfl rfl rfl ?_
        refine TO.nil ?_
        refine TE.next ?_
        refine TW.ret ?_
        exact TE.leaf fun _ _ hf_ hs_ => ret_any (rs := [.tmp 4, .tmp 5]) (vs := [X25, .bool true]) (.inl rfl) rfl ⟨rfl, ⟨rfl, trivial⟩⟩ hf_ hs_ ⟨X25, rfl, hs_.pulls [0] rfl⟩

/-- loop.example/g00950/impl.Replay -/
noncomputable def impl_Replay (log : List (List UInt8)) : Option (List File × Int) :=
  bindC (loopO (fun (S1 : Int × List File) => if (decide (S1.1 < ((log.length : Nat) : Int))) = true then ((idx log S1.1).bind fun E6 =>
  (impl_ReadEdit E6).bind fun R8 =>
  if (!R8.2) = true then (some (.done (.done (S1.2, S1.1))))
  else ((impl_EditFiles S1.2 R8.1).bind fun R13 =>
  if (!R13.2) = true then (some (.done (.done (S1.2, S1.1))))
  else (some (.go (IntKind.i64.wrap (S1.1 + (1 : Int)), R13.1)))))
  else (some (.done (.go S1.2))))
  ((0 : Int), ([] : List File)))
  (fun (T3 : List File) => some (T3, ((log.length : Nat) : Int)))

theorem impl_Replay_con (log : List (List UInt8)) (V_log0 : Value) (r : List File × Int) (hm : impl_Replay log = some r) :
    Con Try.prog 7 [V_log0] [] [(V_log0, lc log)] (fun X : Value => .tuple #[X, .int .i64 r.2]) (fun X => [.own X (lc r.1)]) := by
  refine Con.intro (args := [V_log0]) (n := 41) (val := fun r (X : Value) => .tuple #[X, .int .i64 r.2]) (post := fun r X => [.own X (lc r.1)]) (m := impl_Replay log) Try.func7 rfl rfl rfl hm ?_
  intro w S hrd
  have HB_V_log0 := hrd _ (.head _)
  clear hrd
  unfold impl_Replay
  refine TW.seq ?_
  refine TW.region ?_
  refine TO.y (Y.assign rfl) rfl rfl rfl ?_
  refine TO.y (Y.assign rfl) rfl rfl rfl ?_
  refine TO.nil ?_
  refine TE.next ?_
  refine TW.seq ?_
  refine TW.region ?_
  refine TO.y (Y.assign rfl) rfl rfl rfl ?_
  refine TO.nil ?_
  refine TE.next ?_
  refine TW.seq ?_
  refine TW.seq ?_
  refine TW.region ?_
  refine TO.y (Y.move rfl) rfl rfl rfl ?_
  refine TO.y (Y.len (l := log) ke24 (Base.can HB_V_log0) rfl) rfl rfl rfl ?_
  refine TO.y (Y.move rfl) rfl rfl rfl ?_
  refine TO.nil ?_
  refine TE.next ?_
  refine TW.joinX (τ := List File) (X := Value) (fun _ X => [(0, V_log0), (4, X)]) (fun T X => [.own X (lc T)]) ?_ (fun T3 X4 => ?_)
  · refine TW.block ?_
    refine TW.nilItem 4 ?_
    refine TW.loopX (σ := Int × List File) (X := Value) (fun T X => [(0, V_log0), (4, X), (10, V_log0), (11, .int .i64 ((log.length : Nat) : Int)), (12, .int .i64 T.1)]) (fun T X => [.own X (lc T.2)]) (.slice none 0 0) [0] ⟨rfl, rfl, rfl, rfl, rfl, trivial⟩ rfl (fun S1 X2 => ?_)
    refine TW.seq ?_
    refine TW.region ?_
    refine TO.y (Y.lss rfl rfl) rfl rfl rfl ?_
    refine TO.nil ?_
    refine TE.next ?_
    refine TW.seq ?_
    refine TW.cond rfl (fun H5 => ?_) (fun H5 => ?_)
    · refine TW.skip ?_
      refine TE.next ?_
      refine TW.seq ?_
      refine TW.block ?_
      refine TW.seq ?_
      refine TW.region ?_
      refine TO.y (Y.move rfl) rfl rfl rfl ?_
      refine TO.bind fun E6 H7 => ?_
      refine TO.y (Y.index ke24 (Base.can HB_V_log0) H7 rfl rfl) rfl rfl rfl ?_
      refine TO.y (Y.load_el (us := [strV E6]) (u := strV E6) kk9 rfl (Base.can HB_V_log0) (idx_get H7).2.2 rfl rfl rfl rfl rfl) rfl rfl rfl ?_
      refine TO.y (Y.assign rfl) rfl rfl rfl ?_
      refine TO.y (Y.assign rfl) rfl rfl rfl ?_
      refine TO.nil ?_
      refine TE.next ?_
      refine TW.seq ?_
      refine TW.region ?_
      refine TO.y (Y.move rfl) rfl rfl rfl ?_
      refine TO.bind fun R8 H9 => ?_
      refine TO.ef (Ef.call (rest := [.own X2 (lc S1.2)]) [0] (impl_ReadEdit_con E6  R8 H9) kc12 rfl rfl trivial) rfl rfl rfl (fun Y10 => ?_)
      refine TO.y (Y.move rfl) rfl rfl rfl ?_
      refine TO.y (Y.extract rfl rfl) rfl rfl rfl ?_
      refine TO.y (Y.extract rfl rfl) rfl rfl rfl ?_
      refine TO.ef (Ef.alloc kz34 rfl) rfl rfl rfl (fun B11 => ?_)
      refine TO.ef0 (Ef.store_box (us := [Y10.1, Y10.2]) (vs' := [Y10.1, Y10.2]) (is' := [.box B11 34 [Y10.1, Y10.2], .own Y10.1 (lc R8.1.Add), .own Y10.2 (lc R8.1.Drop), .own X2 (lc S1.2)]) 0 kk34 rfl rfl rfl (Cel.agg ⟨(One.can (Can.own 1 rfl)), (One.can (Can.own 2 rfl)), trivial⟩) rfl rfl rfl rfl) rfl rfl (fun _ => ?_)
      refine TO.y (Y.assign rfl) rfl rfl rfl ?_
      refine TO.nil ?_
      refine TE.next ?_
      refine TW.seq ?_
      refine TW.seq ?_
      refine TW.region ?_
      refine TO.y (Y.move rfl) rfl rfl rfl ?_
      refine TO.y (Y.not rfl) rfl rfl rfl ?_
      refine TO.nil ?_
      refine TE.next ?_
      refine TW.cond rfl (fun H12 => ?_) (fun H12 => ?_)
      · refine TW.seq ?_
        refine TW.region ?_
        refine TO.y (Y.move rfl) rfl rfl rfl ?_
        refine TO.y (Y.move rfl) rfl rfl rfl ?_
        refine TO.y (Y.assign rfl) rfl rfl rfl ?_
        refine TO.y (Y.assign rfl) rfl rfl rfl ?_
        refine TO.nil ?_
        refine TE.next ?_
        refine TW.ret ?_
        refine TE.then_ret ?_
        refine TE.block_ret ?_
        refine TE.then_ret ?_
        refine TE.lp_ret ?_
        refine TE.block_ret ?_
        refine TE.jn_done ?_
        refine TE.then_ret ?_
        exact TE.leaf fun _ _ hf_ hs_ => ret_any (rs := [.tmp 2, .tmp 3]) (vs := [X2, .int .i64 S1.1]) (.inl rfl) rfl ⟨rfl, ⟨rfl, trivial⟩⟩ hf_ hs_ ⟨X2, rfl, hs_.pulls [3] rfl⟩
      · refine TW.skip ?_
        refine TE.next ?_
        refine TW.seq ?_
        refine TW.region ?_
        refine TO.y (Y.move rfl) rfl rfl rfl ?_
        refine TO.y (Y.load_box (v := .agg #[Y10.1, Y10.2]) 0 kk34 rfl rfl rfl) rfl rfl rfl ?_
        refine TO.bind fun R13 H14 => ?_
        refine TO.ef (Ef.call (rest := [.box B11 34 [Y10.1, Y10.2], .own Y10.1 (lc R8.1.Add), .own Y10.2 (lc R8.1.Drop), .own X2 (lc S1.2)]) [0, 0, 0, 0] (impl_EditFiles_con S1.2 R8.1 X2 Y10.1 Y10.2 R13 H14) kc13 rfl rfl ⟨(Can.own 3 rfl), (Can.own 1 rfl), (Can.own 2 rfl), trivial⟩) rfl rfl rfl (fun Y15 => ?_)
        refine TO.y (Y.move rfl) rfl rfl rfl ?_
        refine TO.y (Y.extract rfl rfl) rfl rfl rfl ?_
        refine TO.y (Y.extract rfl rfl) rfl rfl rfl ?_
        refine TO.y (Y.assign rfl) rfl rfl rfl ?_
        refine TO.y (Y.assign rfl) rfl rfl rfl ?_
        refine TO.nil ?_
        refine TE.next ?_
        refine TW.seq ?_
        refine TW.seq ?_
        refine TW.region ?_
        refine TO.y (Y.move rfl) rfl rfl rfl ?_
        refine TO.y (Y.not rfl) rfl rfl rfl ?_
        refine TO.nil ?_
        refine TE.next ?_
        refine TW.cond rfl (fun H16 => ?_) (fun H16 => ?_)
        · refine TW.seq ?_
          refine TW.region ?_
          refine TO.y (Y.move rfl) rfl rfl rfl ?_
          refine TO.y (Y.move rfl) rfl rfl rfl ?_
          refine TO.y (Y.assign rfl) rfl rfl rfl ?_
          refine TO.y (Y.assign rfl) rfl rfl rfl ?_
          refine TO.nil ?_
          refine TE.next ?_
          refine TW.ret ?_
          refine TE.then_ret ?_
          refine TE.block_ret ?_
          refine TE.then_ret ?_
          refine TE.lp_ret ?_
          refine TE.block_ret ?_
          refine TE.jn_done ?_
          refine TE.then_ret ?_
          exact TE.leaf fun _ _ hf_ hs_ => ret_any (rs := [.tmp 2, .tmp 3]) (vs := [X2, .int .i64 S1.1]) (.inl rfl) rfl ⟨rfl, ⟨rfl, trivial⟩⟩ hf_ hs_ ⟨X2, rfl, hs_.pulls [4] rfl⟩
        · refine TW.skip ?_
          refine TE.next ?_
          refine TW.region ?_
          refine TO.y (Y.move rfl) rfl rfl rfl ?_
          refine TO.y (Y.assign rfl) rfl rfl rfl ?_
          refine TO.nil ?_
          refine TE.block_normal ?_
          refine TE.next ?_
          refine TW.region ?_
          refine TO.y (Y.add rfl rfl) rfl rfl rfl ?_
          refine TO.y (Y.move rfl) rfl rfl rfl ?_
          refine TO.nil ?_
          exact TE.lp_go Y15 [0] ⟨rfl, rfl, rfl, rfl, rfl, trivial⟩ rfl
    · refine TW.exit ?_
      refine TE.then_exit ?_
      refine TE.lp_exit ?_
      refine TE.block_exit ?_
      exact TE.jn_go X2 [0] ⟨rfl, rfl, trivial⟩ rfl
  · refine TE.next ?_
    refine TW.seq ?_
    refine TW.region ?_
    refine TO.y (Y.move rfl) rfl rfl rfl ?_
    refine TO.y (Y.move rfl) rfl rfl rfl ?_
    refine TO.y (Y.len (l := log) ke24 (Base.can HB_V_log0) rfl) rfl rfl rfl ?_
    refine TO.y (Y.assign rfl) rfl rfl rfl ?_
    refine TO.y (Y.assign rfl) rfl rfl rfl ?_
    refine TO.nil ?_
    refine TE.next ?_
    refine TW.ret ?_
    exact TE.leaf fun _ _ hf_ hs_ => ret_any (rs := [.tmp 2, .tmp 3]) (vs := [X4, .int .i64 ((log.length : Nat) : Int)]) (.inl rfl) rfl ⟨rfl, ⟨rfl, trivial⟩⟩ hf_ hs_ ⟨X4, rfl, hs_.pulls [0] rfl⟩

/-- loop.example/g00950/spec.ReadVar -/
noncomputable def spec_ReadVar (s : List UInt8) : Option (Int × Int) :=
  bindC (loopO (fun (S1 : Int) => (if (decide (S1 ≤ (7 : Int))) = true then (some (decide (S1 ≤ ((s.length : Nat) : Int))))
  else (some false)).bind (fun (T5 : Bool) =>
  if T5 = true then (bindC (loopO (fun (S9 : Int × Int) => if (decide (S9.2 ≥ (0 : Int))) = true then ((sidx s S9.2).bind fun E14 =>
  some (.go (IntKind.i64.wrap (IntKind.i64.wrap (S9.1 * (128 : Int)) + (Int.tmod (IntKind.i64.wrap ((E14.toNat : Nat) : Int)) (128 : Int))), IntKind.i64.wrap (S9.2 - (1 : Int)))))
  else (some (.done (.go S9.1))))
  ((0 : Int), IntKind.i64.wrap (S1 - (1 : Int))))
  (fun (T11 : Int) => (ssub s 0 S1).bind fun E16 =>
  (spec_Var T11).bind fun R18 =>
  if (decide (R18 = E16)) = true then (some (.done (.done (T11, S1))))
  else (some (.go (IntKind.i64.wrap (S1 + (1 : Int)))))))
  else (some (.done (.go ())))))
  (1 : Int))
  (fun (T3 : Unit) => some ((0 : Int), (0 : Int)))

theorem spec_ReadVar_con (s : List UInt8)  (r : Int × Int) (hm : spec_ReadVar s = some r) :
    Con Try.prog 78 [strV s] [] [] (fun _ : Unit => .tuple #[.int .i64 r.1, .int .i64 r.2]) (fun _ => []) := by
  refine Con.intro (args := [strV s]) (n := 39) (val := fun r (_ : Unit) => .tuple #[.int .i64 r.1, .int .i64 r.2]) (post := fun _ _ => []) (m := spec_ReadVar s) Try.func78 rfl rfl rfl hm ?_
  intro w S _
  unfold spec_ReadVar
  refine TW.seq ?_
  refine TW.region ?_
  refine TO.y (Y.assign rfl) rfl rfl rfl ?_
  refine TO.y (Y.assign rfl) rfl rfl rfl ?_
  refine TO.nil ?_
  refine TE.next ?_
  refine TW.seq ?_
  refine TW.seq ?_
  refine TW.region ?_
  refine TO.y (Y.assign rfl) rfl rfl rfl ?_
  refine TO.nil ?_
  refine TE.next ?_
  refine TW.joinX (τ := Unit) (X := Unit) (fun _ _ => []) (fun _ _ => []) ?_ (fun T3 X4 => ?_)
  · refine TW.block ?_
    refine TW.loopX (σ := Int) (X := Unit) (fun T _ => [(0, strV s), (4, .int .i64 T)]) (fun _ _ => []) () [] ⟨rfl, rfl, trivial⟩ rfl (fun S1 X2 => ?_)
    refine TW.seq ?_
    refine TW.seq ?_
    refine TW.joinBX (τ := Bool) (X := Unit) (fun T _ => [(0, strV s), (4, .int .i64 S1), (14, .bool T)]) (fun _ _ => []) ?_ (fun T5 X6 => ?_)
    · refine TW.region ?_
      refine TO.y (Y.move rfl) rfl rfl rfl ?_
      refine TO.y (Y.leq rfl rfl) rfl rfl rfl ?_
      refine TO.y (Y.move rfl) rfl rfl rfl ?_
      refine TO.ite (b := decide (S1 ≤ (7 : Int))) (fun H7 => ?_) (fun H7 => ?_)
      · refine TO.y (Y.move rfl) (Gd.at 2 true 9 (decide (S1 ≤ (7 : Int))) rfl rfl rfl (beq_tt H7)) rfl rfl ?_
        refine TO.y (Y.move rfl) (Gd.at 2 true 9 (decide (S1 ≤ (7 : Int))) rfl rfl rfl (beq_tt H7)) rfl rfl ?_
        refine TO.y (Y.slen ks9 rfl) (Gd.at 2 true 9 (decide (S1 ≤ (7 : Int))) rfl rfl rfl (beq_tt H7)) rfl rfl ?_
        refine TO.y (Y.leq rfl rfl) (Gd.at 2 true 9 (decide (S1 ≤ (7 : Int))) rfl rfl rfl (beq_tt H7)) rfl rfl ?_
        refine TO.y (Y.pick_t H7 rfl rfl) rfl rfl rfl ?_
        refine TO.nil ?_
        exact TE.jb_go () [] ⟨rfl, rfl, rfl, trivial⟩ rfl
      · refine TO.off (Gd.at 2 true 9 (decide (S1 ≤ (7 : Int))) rfl rfl rfl (beq_ft H7)) rfl rfl ?_
        refine TO.off (Gd.at 2 true 9 (decide (S1 ≤ (7 : Int))) rfl rfl rfl (beq_ft H7)) rfl rfl ?_
        refine TO.off (Gd.at 2 true 9 (decide (S1 ≤ (7 : Int))) rfl rfl rfl (beq_ft H7)) rfl rfl ?_
        refine TO.off (Gd.at 2 true 9 (decide (S1 ≤ (7 : Int))) rfl rfl rfl (beq_ft H7)) rfl rfl ?_
        refine TO.y (Y.pick_f H7 rfl rfl) rfl rfl rfl ?_
        refine TO.nil ?_
        exact TE.jb_go () [] ⟨rfl, rfl, rfl, trivial⟩ rfl
    · refine TE.next ?_
      refine TW.cond rfl (fun H8 => ?_) (fun H8 => ?_)
      · refine TW.skip ?_
        refine TE.next ?_
        refine TW.seq ?_
        refine TW.block ?_
        refine TW.seq ?_
        refine TW.region ?_
        refine TO.y (Y.assign rfl) rfl rfl rfl ?_
        refine TO.nil ?_
        refine TE.next ?_
        refine TW.seq ?_
        refine TW.seq ?_
        refine TW.region ?_
        refine TO.y (Y.move rfl) rfl rfl rfl ?_
        refine TO.y (Y.sub rfl rfl) rfl rfl rfl ?_
        refine TO.y (Y.assign rfl) rfl rfl rfl ?_
        refine TO.nil ?_
        refine TE.next ?_
        refine TW.joinX (τ := Int) (X := Unit) (fun T _ => [(0, strV s), (4, .int .i64 S1), (5, .int .i64 T)]) (fun _ _ => []) ?_ (fun T11 X12 => ?_)
        · refine TW.block ?_
          refine TW.loopX (σ := Int × Int) (X := Unit) (fun T _ => [(0, strV s), (4, .int .i64 S1), (5, .int .i64 T.1), (6, .int .i64 T.2)]) (fun _ _ => []) () [] ⟨rfl, rfl, rfl, rfl, trivial⟩ rfl (fun S9 X10 => ?_)
          refine TW.seq ?_
          refine TW.seq ?_
          refine TW.region ?_
          refine TO.y (Y.move rfl) rfl rfl rfl ?_
          refine TO.y (Y.geq rfl rfl) rfl rfl rfl ?_
          refine TO.nil ?_
          refine TE.next ?_
          refine TW.cond rfl (fun H13 => ?_) (fun H13 => ?_)
          · refine TW.skip ?_
            refine TE.next ?_
            refine TW.seq ?_
            refine TW.block ?_
            refine TW.region ?_
            refine TO.y (Y.move rfl) rfl rfl rfl ?_
            refine TO.y (Y.mul rfl rfl) rfl rfl rfl ?_
            refine TO.y (Y.move rfl) rfl rfl rfl ?_
            refine TO.y (Y.move rfl) rfl rfl rfl ?_
            refine TO.bind fun E14 H15 => ?_
            refine TO.y (Y.sidx H15 ks9 rfl rfl) rfl rfl rfl ?_
            refine TO.y (Y.conv ki5 ki3 rfl) rfl rfl rfl ?_
            refine TO.y (Y.rem (by decide) rfl rfl) rfl rfl rfl ?_
            refine TO.y (Y.add rfl rfl) rfl rfl rfl ?_
            refine TO.y (Y.assign rfl) rfl rfl rfl ?_
            refine TO.nil ?_
            refine TE.block_normal ?_
            refine TE.next ?_
            refine TW.region ?_
            refine TO.y (Y.move rfl) rfl rfl rfl ?_
            refine TO.y (Y.sub rfl rfl) rfl rfl rfl ?_
            refine TO.y (Y.assign rfl) rfl rfl rfl ?_
            refine TO.nil ?_
            exact TE.lp_go () [] ⟨rfl, rfl, rfl, rfl, trivial⟩ rfl
          · refine TW.exit ?_
            refine TE.then_exit ?_
            refine TE.lp_exit ?_
            refine TE.block_exit ?_
            exact TE.jn_go () [] ⟨rfl, rfl, rfl, trivial⟩ rfl
        · refine TE.next ?_
          refine TW.seq ?_
          refine TW.draw (isH := []) hMix ?_
          refine TA.y (listed' := #[true, false, false, false, false, false]) 0 [] rfl (Y.move rfl) rfl rfl rfl (by kernel_rfl) (by kernel_rfl) (by kernel_rfl) rfl rfl ?_
          refine TA.y (listed' := #[true, false, true, false, false, false]) 2 [] rfl (Y.move rfl) rfl rfl rfl (by kernel_rfl) (by kernel_rfl) (by kernel_rfl) rfl rfl ?_
          refine TA.y (listed' := #[true, false, true, true, false, false]) 3 [] rfl (Y.move rfl) rfl rfl rfl (by kernel_rfl) (by kernel_rfl) (by kernel_rfl) rfl rfl ?_
          refine TA.bind fun E16 H17 => ?_
          refine TA.y (listed' := #[true, false, true, true, true, false]) 4 [] rfl (Y.ssub_to H17 ks9 rfl rfl) rfl rfl rfl (by kernel_rfl) (by kernel_rfl) (by kernel_rfl) rfl rfl ?_
          refine TA.bind fun R18 H19 => ?_
          refine TA.one 1 (by kernel_rfl) ?_
          refine TX.ef (listed' := #[true, true, true, true, true, false]) [] rfl (Ef.call (rest := []) [] (spec_Var_con T11  R18 H19) kc66 rfl rfl trivial) rfl rfl rfl rfl (fun _ => rfl) (fun _ => ?_)
          refine TA.y (listed' := #[true, true, true, true, true, true]) 5 [] rfl (Y.seql rfl rfl) rfl rfl rfl (by kernel_rfl) (by kernel_rfl) (by kernel_rfl) rfl rfl ?_
          refine TA.nil (by kernel_rfl) ?_
          refine TE.next ?_
          refine TW.cond rfl (fun H21 => ?_) (fun H21 => ?_)
          · refine TW.seq ?_
            refine TW.region ?_
            refine TO.y (Y.move rfl) rfl rfl rfl ?_
            refine TO.y (Y.move rfl) rfl rfl rfl ?_
            refine TO.y (Y.assign rfl) rfl rfl rfl ?_
            refine TO.y (Y.assign rfl) rfl rfl rfl ?_
            refine TO.nil ?_
            refine TE.next ?_
            refine TW.ret ?_
            refine TE.block_ret ?_
            refine TE.then_ret ?_
            refine TE.lp_ret ?_
            refine TE.block_ret ?_
            refine TE.jn_done ?_
            refine TE.then_ret ?_
            exact TE.leaf fun _ _ hf_ hs_ => ret_any (rs := [.tmp 2, .tmp 3]) (vs := [.int .i64 T11, .int .i64 S1]) (.inl rfl) rfl ⟨rfl, ⟨rfl, trivial⟩⟩ hf_ hs_ ⟨(), rfl, hs_.pulls [] rfl⟩
          · refine TW.skip ?_
            refine TE.block_normal ?_
            refine TE.next ?_
            refine TW.region ?_
            refine TO.y (Y.move rfl) rfl rfl rfl ?_
            refine TO.y (Y.add rfl rfl) rfl rfl rfl ?_
            refine TO.y (Y.assign rfl) rfl rfl rfl ?_
            refine TO.nil ?_
            exact TE.lp_go () [] ⟨rfl, rfl, trivial⟩ rfl
      · refine TW.exit ?_
        refine TE.then_exit ?_
        refine TE.lp_exit ?_
        refine TE.block_exit ?_
        exact TE.jn_go () [] trivial rfl
  · refine TE.next ?_
    refine TW.seq ?_
    refine TW.region ?_
    refine TO.y (Y.assign rfl) rfl rfl rfl ?_
    refine TO.y (Y.assign rfl) rfl rfl rfl ?_
    refine TO.nil ?_
    refine TE.next ?_
    refine TW.ret ?_
    exact TE.leaf fun _ _ hf_ hs_ => ret_any (rs := [.tmp 2, .tmp 3]) (vs := [.int .i64 (0 : Int), .int .i64 (0 : Int)]) (.inl rfl) rfl ⟨rfl, ⟨rfl, trivial⟩⟩ hf_ hs_ ⟨(), rfl, hs_.pulls [] rfl⟩

end Go.Proofs.Ytiabgnjihoknnaa
