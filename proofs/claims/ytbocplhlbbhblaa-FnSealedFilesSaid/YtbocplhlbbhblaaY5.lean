/-
  The functions that a law reaches, each as a pure function, with the proof that the program computes it, and the step from a pure law to the given statement. Conditions: none.
-/
import Derived.Test.YtbocplhlbbhblaaY4
set_option linter.unusedVariables false
set_option maxRecDepth 100000
set_option maxHeartbeats 4000000
namespace Go.Proofs.Ytbocplhlbbhblaa
open Go Sl

/-- loop.example/g00950/impl.OpenFile -/
noncomputable def impl_OpenFile (key : List UInt8) (n : Int) (s : List UInt8) : Option (List UInt8 × Bool) :=
  (impl_FileKey key n).bind fun R1 =>
  (impl_unsummed s).bind fun R4 =>
  (if (!R4.2) = true then (some true)
  else (if (decide (R1 = ([]))) = true then (some true)
  else (some (decide (((R4.1.length : Nat) : Int) > (2000 : Int)))))).bind (fun (T7 : Bool) =>
  if T7 = true then (some ([], false))
  else ((impl_NonceOf (5 : Int) n).bind fun R12 =>
  (impl_ChaStream R1 (1 : Int) R12 R4.1).bind fun R15 =>
  some (R15, true)))

theorem impl_OpenFile_con (key : List UInt8) (n : Int) (s : List UInt8)  (r : List UInt8 × Bool) (hm : impl_OpenFile key n s = some r) :
    Con Try.prog 7 [strV key, .int .i64 n, strV s] [] [] (fun _ : Unit => .tuple #[strV r.1, .bool r.2]) (fun _ => []) := by
  refine Con.intro (args := [strV key, .int .i64 n, strV s]) (n := 35) (val := fun r (_ : Unit) => .tuple #[strV r.1, .bool r.2]) (post := fun _ _ => []) (m := impl_OpenFile key n s) Try.func7 rfl rfl rfl hm ?_
  intro w S _
  unfold impl_OpenFile
  refine TW.seq ?_
  refine TW.region ?_
  refine TO.y (Y.assign rfl) rfl rfl rfl ?_
  refine TO.y (Y.assign rfl) rfl rfl rfl ?_
  refine TO.nil ?_
  refine TE.next ?_
  refine TW.seq ?_
  refine TW.region ?_
  refine TO.y (Y.move rfl) rfl rfl rfl ?_
  refine TO.y (Y.move rfl) rfl rfl rfl ?_
  refine TO.bind fun R1 H2 => ?_
  refine TO.ef (Ef.call (rest := []) [] (impl_FileKey_con key n  R1 H2) kc11 rfl rfl trivial) rfl rfl rfl (fun _ => ?_)
  refine TO.y (Y.assign rfl) rfl rfl rfl ?_
  refine TO.nil ?_
  refine TE.next ?_
  refine TW.seq ?_
  refine TW.region ?_
  refine TO.y (Y.move rfl) rfl rfl rfl ?_
  refine TO.bind fun R4 H5 => ?_
  refine TO.ef (Ef.call (rest := []) [] (impl_unsummed_con s  R4 H5) kc24 rfl rfl trivial) rfl rfl rfl (fun _ => ?_)
  refine TO.y (Y.move rfl) rfl rfl rfl ?_
  refine TO.y (Y.extract rfl rfl) rfl rfl rfl ?_
  refine TO.y (Y.extract rfl rfl) rfl rfl rfl ?_
  refine TO.y (Y.assign rfl) rfl rfl rfl ?_
  refine TO.y (Y.assign rfl) rfl rfl rfl ?_
  refine TO.nil ?_
  refine TE.next ?_
  refine TW.seq ?_
  refine TW.seq ?_
  refine TW.joinBX (τ := Bool) (X := Unit) (fun T _ => [(1, .int .i64 n), (8, strV R1), (9, strV R4.1), (29, .bool T)]) (fun _ _ => []) ?_ (fun T7 X8 => ?_)
  · refine TW.region ?_
    refine TO.y (Y.move rfl) rfl rfl rfl ?_
    refine TO.y (Y.not rfl) rfl rfl rfl ?_
    refine TO.y (Y.move rfl) rfl rfl rfl ?_
    refine TO.ite (b := !R4.2) (fun H9 => ?_) (fun H9 => ?_)
    · refine TO.off (Gd.at 2 false 21 (!R4.2) rfl rfl rfl (beq_tf H9)) rfl rfl ?_
      refine TO.off (Gd.at 2 false 21 (!R4.2) rfl rfl rfl (beq_tf H9)) rfl rfl ?_
      refine TO.y (Y.pick_t H9 rfl rfl) rfl rfl rfl ?_
      refine TO.y (Y.move rfl) rfl rfl rfl ?_
      refine TO.off (Gd.at 6 false 25 true rfl rfl rfl rfl) rfl rfl ?_
      refine TO.off (Gd.at 6 false 25 true rfl rfl rfl rfl) rfl rfl ?_
      refine TO.off (Gd.at 6 false 25 true rfl rfl rfl rfl) rfl rfl ?_
      refine TO.y (Y.pick_t rfl rfl rfl) rfl rfl rfl ?_
      refine TO.nil ?_
      exact TE.jb_go () [] ⟨rfl, rfl, rfl, rfl, trivial⟩ rfl
    · refine TO.y (Y.move rfl) (Gd.at 2 false 21 (!R4.2) rfl rfl rfl (beq_ff H9)) rfl rfl ?_
      refine TO.y (Y.seql rfl rfl) (Gd.at 2 false 21 (!R4.2) rfl rfl rfl (beq_ff H9)) rfl rfl ?_
      refine TO.y (Y.pick_f H9 rfl rfl) rfl rfl rfl ?_
      refine TO.y (Y.move rfl) rfl rfl rfl ?_
      refine TO.ite (b := decide (R1 = ([]))) (fun H10 => ?_) (fun H10 => ?_)
      · refine TO.off (Gd.at 6 false 25 (decide (R1 = ([]))) rfl rfl rfl (beq_tf H10)) rfl rfl ?_
        refine TO.off (Gd.at 6 false 25 (decide (R1 = ([]))) rfl rfl rfl (beq_tf H10)) rfl rfl ?_
        refine TO.off (Gd.at 6 false 25 (decide (R1 = ([]))) rfl rfl rfl (beq_tf H10)) rfl rfl ?_
        refine TO.y (Y.pick_t H10 rfl rfl) rfl rfl rfl ?_
        refine TO.nil ?_
        exact TE.jb_go () [] ⟨rfl, rfl, rfl, rfl, trivial⟩ rfl
      · refine TO.y (Y.move rfl) (Gd.at 6 false 25 (decide (R1 = ([]))) rfl rfl rfl (beq_ff H10)) rfl rfl ?_
        refine TO.y (Y.slen ks9 rfl) (Gd.at 6 false 25 (decide (R1 = ([]))) rfl rfl rfl (beq_ff H10)) rfl rfl ?_
        refine TO.y (Y.gtr rfl rfl) (Gd.at 6 false 25 (decide (R1 = ([]))) rfl rfl rfl (beq_ff H10)) rfl rfl ?_
        refine TO.y (Y.pick_f H10 rfl rfl) rfl rfl rfl ?_
        refine TO.nil ?_
        exact TE.jb_go () [] ⟨rfl, rfl, rfl, rfl, trivial⟩ rfl
  · refine TE.next ?_
    refine TW.cond rfl (fun H11 => ?_) (fun H11 => ?_)
    · refine TW.seq ?_
      refine TW.region ?_
      refine TO.y (Y.assign rfl) rfl rfl rfl ?_
      refine TO.y (Y.assign rfl) rfl rfl rfl ?_
      refine TO.nil ?_
      refine TE.next ?_
      refine TW.ret ?_
      refine TE.then_ret ?_
      exact TE.leaf fun _ _ hf_ hs_ => ret_any (rs := [.tmp 6, .tmp 7]) (vs := [strV ([]), .bool false]) (.inl rfl) rfl ⟨rfl, ⟨rfl, trivial⟩⟩ hf_ hs_ ⟨(), rfl, hs_.pulls [] rfl⟩
    · refine TW.skip ?_
      refine TE.next ?_
      refine TW.seq ?_
      refine TW.region ?_
      refine TO.y (Y.move rfl) rfl rfl rfl ?_
      refine TO.y (Y.move rfl) rfl rfl rfl ?_
      refine TO.bind fun R12 H13 => ?_
      refine TO.ef (Ef.call (rest := []) [] (impl_NonceOf_con (5 : Int) n  R12 H13) kc17 rfl rfl trivial) rfl rfl rfl (fun _ => ?_)
      refine TO.y (Y.move rfl) rfl rfl rfl ?_
      refine TO.bind fun R15 H16 => ?_
      refine TO.ef (Ef.call (rest := []) [] (impl_ChaStream_con R1 (1 : Int) R12 R4.1  R15 H16) kc13 rfl rfl trivial) rfl rfl rfl (fun _ => ?_)
      refine TO.y (Y.assign rfl) rfl rfl rfl ?_
      refine TO.y (Y.assign rfl) rfl rfl rfl ?_
      refine TO.nil ?_
      refine TE.next ?_
      refine TW.ret ?_
      exact TE.leaf fun _ _ hf_ hs_ => ret_any (rs := [.tmp 6, .tmp 7]) (vs := [strV R15, .bool true]) (.inl rfl) rfl ⟨rfl, ⟨rfl, trivial⟩⟩ hf_ hs_ ⟨(), rfl, hs_.pulls [] rfl⟩

/-- loop.example/g00950/spec.OpenFile -/
noncomputable def spec_OpenFile (key : List UInt8) (n : Int) (s : List UInt8) : Option (List UInt8 × Bool) :=
  (spec_FileKey key n).bind fun R1 =>
  (if (decide (R1 = ([]))) = true then (some true)
  else (some (decide (((s.length : Nat) : Int) < (4 : Int))))).bind (fun (T4 : Bool) =>
  if T4 = true then (some ([], false))
  else ((ssub s (4 : Int) (s.length : Int)).bind fun E8 =>
  (spec_NonceOf (5 : Int) n).bind fun R10 =>
  (spec_ChaStream R1 (1 : Int) R10 E8).bind fun R13 =>
  (spec_SealFile key n R13).bind fun R16 =>
  if (!(decide (R16 = s))) = true then (some ([], false))
  else (some (R13, true))))

theorem spec_OpenFile_con (key : List UInt8) (n : Int) (s : List UInt8)  (r : List UInt8 × Bool) (hm : spec_OpenFile key n s = some r) :
    Con Try.prog 8 [strV key, .int .i64 n, strV s] [] [] (fun _ : Unit => .tuple #[strV r.1, .bool r.2]) (fun _ => []) := by
  refine Con.intro (args := [strV key, .int .i64 n, strV s]) (n := 33) (val := fun r (_ : Unit) => .tuple #[strV r.1, .bool r.2]) (post := fun _ _ => []) (m := spec_OpenFile key n s) Try.func8 rfl rfl rfl hm ?_
  intro w S _
  unfold spec_OpenFile
  refine TW.seq ?_
  refine TW.region ?_
  refine TO.y (Y.assign rfl) rfl rfl rfl ?_
  refine TO.y (Y.assign rfl) rfl rfl rfl ?_
  refine TO.nil ?_
  refine TE.next ?_
  refine TW.seq ?_
  refine TW.region ?_
  refine TO.y (Y.move rfl) rfl rfl rfl ?_
  refine TO.y (Y.move rfl) rfl rfl rfl ?_
  refine TO.bind fun R1 H2 => ?_
  refine TO.ef (Ef.call (rest := []) [] (spec_FileKey_con key n  R1 H2) kc25 rfl rfl trivial) rfl rfl rfl (fun _ => ?_)
  refine TO.y (Y.assign rfl) rfl rfl rfl ?_
  refine TO.nil ?_
  refine TE.next ?_
  refine TW.seq ?_
  refine TW.seq ?_
  refine TW.joinBX (τ := Bool) (X := Unit) (fun T _ => [(0, strV key), (1, .int .i64 n), (2, strV s), (8, strV R1), (19, .bool T)]) (fun _ _ => []) ?_ (fun T4 X5 => ?_)
  · refine TW.region ?_
    refine TO.y (Y.move rfl) rfl rfl rfl ?_
    refine TO.y (Y.seql rfl rfl) rfl rfl rfl ?_
    refine TO.y (Y.move rfl) rfl rfl rfl ?_
    refine TO.ite (b := decide (R1 = ([]))) (fun H6 => ?_) (fun H6 => ?_)
    · refine TO.off (Gd.at 2 false 15 (decide (R1 = ([]))) rfl rfl rfl (beq_tf H6)) rfl rfl ?_
      refine TO.off (Gd.at 2 false 15 (decide (R1 = ([]))) rfl rfl rfl (beq_tf H6)) rfl rfl ?_
      refine TO.off (Gd.at 2 false 15 (decide (R1 = ([]))) rfl rfl rfl (beq_tf H6)) rfl rfl ?_
      refine TO.y (Y.pick_t H6 rfl rfl) rfl rfl rfl ?_
      refine TO.nil ?_
      exact TE.jb_go () [] ⟨rfl, rfl, rfl, rfl, rfl, trivial⟩ rfl
    · refine TO.y (Y.move rfl) (Gd.at 2 false 15 (decide (R1 = ([]))) rfl rfl rfl (beq_ff H6)) rfl rfl ?_
      refine TO.y (Y.slen ks9 rfl) (Gd.at 2 false 15 (decide (R1 = ([]))) rfl rfl rfl (beq_ff H6)) rfl rfl ?_
      refine TO.y (Y.lss rfl rfl) (Gd.at 2 false 15 (decide (R1 = ([]))) rfl rfl rfl (beq_ff H6)) rfl rfl ?_
      refine TO.y (Y.pick_f H6 rfl rfl) rfl rfl rfl ?_
      refine TO.nil ?_
      exact TE.jb_go () [] ⟨rfl, rfl, rfl, rfl, rfl, trivial⟩ rfl
  · refine TE.next ?_
    refine TW.cond rfl (fun H7 => ?_) (fun H7 => ?_)
    · refine TW.seq ?_
      refine TW.region ?_
      refine TO.y (Y.assign rfl) rfl rfl rfl ?_
      refine TO.y (Y.assign rfl) rfl rfl rfl ?_
      refine TO.nil ?_
      refine TE.next ?_
      refine TW.ret ?_
      refine TE.then_ret ?_
      exact TE.leaf fun _ _ hf_ hs_ => ret_any (rs := [.tmp 6, .tmp 7]) (vs := [strV ([]), .bool false]) (.inl rfl) rfl ⟨rfl, ⟨rfl, trivial⟩⟩ hf_ hs_ ⟨(), rfl, hs_.pulls [] rfl⟩
    · refine TW.skip ?_
      refine TE.next ?_
      refine TW.seq ?_
      refine TW.draw (isH := []) hMix ?_
      refine TA.y (listed' := #[true, false, false, false, false, false, false]) 0 [] rfl (Y.move rfl) rfl rfl rfl (by kernel_rfl) (by kernel_rfl) (by kernel_rfl) rfl rfl ?_
      refine TA.y (listed' := #[true, true, false, false, false, false, false]) 1 [] rfl (Y.move rfl) rfl rfl rfl (by kernel_rfl) (by kernel_rfl) (by kernel_rfl) rfl rfl ?_
      refine TA.y (listed' := #[true, true, false, true, false, false, false]) 3 [] rfl (Y.move rfl) rfl rfl rfl (by kernel_rfl) (by kernel_rfl) (by kernel_rfl) rfl rfl ?_
      refine TA.bind fun E8 H9 => ?_
      refine TA.y (listed' := #[true, true, false, true, true, false, false]) 4 [] rfl (Y.ssub_from H9 ks9 rfl rfl) rfl rfl rfl (by kernel_rfl) (by kernel_rfl) (by kernel_rfl) rfl rfl ?_
      refine TA.bind fun R10 H11 => ?_
      refine TA.one 2 (by kernel_rfl) ?_
      refine TX.ef (listed' := #[true, true, true, true, true, false, false]) [] rfl (Ef.call (rest := []) [] (spec_NonceOf_con (5 : Int) n  R10 H11) kc26 rfl rfl trivial) rfl rfl rfl rfl (fun _ => rfl) (fun _ => ?_)
      refine TA.bind fun R13 H14 => ?_
      refine TA.one 5 (by kernel_rfl) ?_
      refine TX.ef (listed' := #[true, true, true, true, true, true, false]) [] rfl (Ef.call (rest := []) [] (spec_ChaStream_con R1 (1 : Int) R10 E8  R13 H14) kc14 rfl rfl trivial) rfl rfl rfl rfl (fun _ => rfl) (fun _ => ?_)
      refine TA.y (listed' := #[true, true, true, true, true, true, true]) 6 [] rfl (Y.assign rfl) rfl rfl rfl (by kernel_rfl) (by kernel_rfl) (by kernel_rfl) rfl rfl ?_
      refine TA.nil (by kernel_rfl) ?_
      refine TE.next ?_
      refine TW.seq ?_
      refine TW.seq ?_
      refine TW.region ?_
      refine TO.y (Y.move rfl) rfl rfl rfl ?_
      refine TO.y (Y.move rfl) rfl rfl rfl ?_
      refine TO.y (Y.move rfl) rfl rfl rfl ?_
      refine TO.bind fun R16 H17 => ?_
      refine TO.ef (Ef.call (rest := []) [] (spec_SealFile_con key n R13  R16 H17) kc21 rfl rfl trivial) rfl rfl rfl (fun _ => ?_)
      refine TO.y (Y.move rfl) rfl rfl rfl ?_
      refine TO.y (Y.sneq rfl rfl) rfl rfl rfl ?_
      refine TO.nil ?_
      refine TE.next ?_
      refine TW.cond rfl (fun H19 => ?_) (fun H19 => ?_)
      · refine TW.seq ?_
        refine TW.region ?_
        refine TO.y (Y.assign rfl) rfl rfl rfl ?_
        refine TO.y (Y.assign rfl) rfl rfl rfl ?_
        refine TO.nil ?_
        refine TE.next ?_
        refine TW.ret ?_
        refine TE.then_ret ?_
        exact TE.leaf fun _ _ hf_ hs_ => ret_any (rs := [.tmp 6, .tmp 7]) (vs := [strV ([]), .bool false]) (.inl rfl) rfl ⟨rfl, ⟨rfl, trivial⟩⟩ hf_ hs_ ⟨(), rfl, hs_.pulls [] rfl⟩
      · refine TW.skip ?_
        refine TE.next ?_
        refine TW.seq ?_
        refine TW.region ?_
        refine TO.y (Y.move rfl) rfl rfl rfl ?_
        refine TO.y (Y.assign rfl) rfl rfl rfl ?_
        refine TO.y (Y.assign rfl) rfl rfl rfl ?_
        refine TO.nil ?_
        refine TE.next ?_
        refine TW.ret ?_
        exact TE.leaf fun _ _ hf_ hs_ => ret_any (rs := [.tmp 6, .tmp 7]) (vs := [strV R13, .bool true]) (.inl rfl) rfl ⟨rfl, ⟨rfl, trivial⟩⟩ hf_ hs_ ⟨(), rfl, hs_.pulls [] rfl⟩

/-- loop.example/g00950/laws.at -/
noncomputable def laws_at (code : List UInt8) (i : Int) : Option Int :=
  if (decide (i < ((code.length : Nat) : Int))) = true then ((idx code i).bind fun E2 =>
  some (IntKind.i64.wrap ((E2.toNat : Nat) : Int)))
  else (some (Int.tmod (IntKind.i64.wrap (IntKind.i64.wrap (i * (37 : Int)) + (IntKind.i64.wrap (((code.length : Nat) : Int) * (11 : Int))))) (256 : Int)))

theorem laws_at_con (code : List UInt8) (i : Int) (V_code0 : Value) (r : Int) (hm : laws_at code i = some r) :
    Con Try.prog 9 [V_code0, .int .i64 i] [] [(V_code0, lc code)] (fun _ : Unit => .int .i64 r) (fun _ => []) := by
  refine Con.intro (args := [V_code0, .int .i64 i]) (n := 21) (val := fun r (_ : Unit) => .int .i64 r) (post := fun _ _ => []) (m := laws_at code i) Try.func9 rfl rfl rfl hm ?_
  intro w S hrd
  have HB_V_code0 := hrd _ (.head _)
  clear hrd
  unfold laws_at
  refine TW.seq ?_
  refine TW.region ?_
  refine TO.y (Y.assign rfl) rfl rfl rfl ?_
  refine TO.nil ?_
  refine TE.next ?_
  refine TW.seq ?_
  refine TW.seq ?_
  refine TW.region ?_
  refine TO.y (Y.move rfl) rfl rfl rfl ?_
  refine TO.y (Y.move rfl) rfl rfl rfl ?_
  refine TO.y (Y.len (l := code) ke22 (Base.can HB_V_code0) rfl) rfl rfl rfl ?_
  refine TO.y (Y.lss rfl rfl) rfl rfl rfl ?_
  refine TO.nil ?_
  refine TE.next ?_
  refine TW.cond rfl (fun H1 => ?_) (fun H1 => ?_)
  · refine TW.seq ?_
    refine TW.region ?_
    refine TO.y (Y.move rfl) rfl rfl rfl ?_
    refine TO.y (Y.move rfl) rfl rfl rfl ?_
    refine TO.bind fun E2 H3 => ?_
    refine TO.y (Y.index ke22 (Base.can HB_V_code0) H3 rfl rfl) rfl rfl rfl ?_
    refine TO.y (Y.load_el (us := [.int .u8 ((E2.toNat : Nat) : Int)]) (u := .int .u8 ((E2.toNat : Nat) : Int)) kk5 rfl (Base.can HB_V_code0) (idx_get H3).2.2 rfl rfl rfl rfl rfl) rfl rfl rfl ?_
    refine TO.y (Y.conv ki5 ki3 rfl) rfl rfl rfl ?_
    refine TO.y (Y.assign rfl) rfl rfl rfl ?_
    refine TO.nil ?_
    refine TE.next ?_
    refine TW.ret ?_
    refine TE.then_ret ?_
    exact TE.leaf fun _ _ hf_ hs_ => ret_any (rs := [.tmp 4]) (vs := [.int .i64 (IntKind.i64.wrap ((E2.toNat : Nat) : Int))]) (.inl rfl) rfl ⟨rfl, trivial⟩ hf_ hs_ ⟨(), rfl, hs_.pulls [] rfl⟩
  · refine TW.skip ?_
    refine TE.next ?_
    refine TW.seq ?_
    refine TW.region ?_
    refine TO.y (Y.move rfl) rfl rfl rfl ?_
    refine TO.y (Y.mul rfl rfl) rfl rfl rfl ?_
    refine TO.y (Y.move rfl) rfl rfl rfl ?_
    refine TO.y (Y.len (l := code) ke22 (Base.can HB_V_code0) rfl) rfl rfl rfl ?_
    refine TO.y (Y.mul rfl rfl) rfl rfl rfl ?_
    refine TO.y (Y.add rfl rfl) rfl rfl rfl ?_
    refine TO.y (Y.rem (by decide) rfl rfl) rfl rfl rfl ?_
    refine TO.y (Y.assign rfl) rfl rfl rfl ?_
    refine TO.nil ?_
    refine TE.next ?_
    refine TW.ret ?_
    exact TE.leaf fun _ _ hf_ hs_ => ret_any (rs := [.tmp 4]) (vs := [.int .i64 (Int.tmod (IntKind.i64.wrap (IntKind.i64.wrap (i * (37 : Int)) + (IntKind.i64.wrap (((code.length : Nat) : Int) * (11 : Int))))) (256 : Int))]) (.inl rfl) rfl ⟨rfl, trivial⟩ hf_ hs_ ⟨(), rfl, hs_.pulls [] rfl⟩

/-- loop.example/g00950/impl.summed -/
noncomputable def impl_summed (s : List UInt8) : Option (List UInt8) :=
  (impl_Crc s).bind fun R1 =>
  (impl_Fixed R1 (4 : Int)).bind fun R4 =>
  (cat R4 s).bind fun E7 =>
  some E7

theorem impl_summed_con (s : List UInt8)  (r : List UInt8) (hm : impl_summed s = some r) :
    Con Try.prog 27 [strV s] [] [] (fun _ : Unit => strV r) (fun _ => []) := by
  refine Con.intro (args := [strV s]) (n := 8) (val := fun r (_ : Unit) => strV r) (post := fun _ _ => []) (m := impl_summed s) Try.func27 rfl rfl rfl hm ?_
  intro w S _
  unfold impl_summed
  refine TW.seq ?_
  refine TW.region ?_
  refine TO.y (Y.assign rfl) rfl rfl rfl ?_
  refine TO.nil ?_
  refine TE.next ?_
  refine TW.seq ?_
  refine TW.region ?_
  refine TO.y (Y.move rfl) rfl rfl rfl ?_
  refine TO.bind fun R1 H2 => ?_
  refine TO.ef (Ef.call (rest := []) [] (impl_Crc_con s  R1 H2) kc40 rfl rfl trivial) rfl rfl rfl (fun _ => ?_)
  refine TO.bind fun R4 H5 => ?_
  refine TO.ef (Ef.call (rest := []) [] (impl_Fixed_con R1 (4 : Int)  R4 H5) kc36 rfl rfl trivial) rfl rfl rfl (fun _ => ?_)
  refine TO.y (Y.move rfl) rfl rfl rfl ?_
  refine TO.bind fun E7 H8 => ?_
  refine TO.y (Y.cat H8 rfl rfl) rfl rfl rfl ?_
  refine TO.y (Y.assign rfl) rfl rfl rfl ?_
  refine TO.nil ?_
  refine TE.next ?_
  refine TW.ret ?_
  exact TE.leaf fun _ _ hf_ hs_ => ret_any (rs := [.tmp 2]) (vs := [strV E7]) (.inl rfl) rfl ⟨rfl, trivial⟩ hf_ hs_ ⟨(), rfl, hs_.pulls [] rfl⟩

/-- loop.example/g00950/impl.SealFile -/
noncomputable def impl_SealFile (key : List UInt8) (n : Int) (text : List UInt8) : Option (List UInt8) :=
  (impl_FileKey key n).bind fun R1 =>
  (if (decide (R1 = ([]))) = true then (some true)
  else (some (decide (((text.length : Nat) : Int) > (2000 : Int))))).bind (fun (T4 : Bool) =>
  if T4 = true then (some ([]))
  else ((impl_NonceOf (5 : Int) n).bind fun R8 =>
  (impl_ChaStream R1 (1 : Int) R8 text).bind fun R11 =>
  (impl_summed R11).bind fun R14 =>
  some R14))

theorem impl_SealFile_con (key : List UInt8) (n : Int) (text : List UInt8)  (r : List UInt8) (hm : impl_SealFile key n text = some r) :
    Con Try.prog 10 [strV key, .int .i64 n, strV text] [] [] (fun _ : Unit => strV r) (fun _ => []) := by
  refine Con.intro (args := [strV key, .int .i64 n, strV text]) (n := 24) (val := fun r (_ : Unit) => strV r) (post := fun _ _ => []) (m := impl_SealFile key n text) Try.func10 rfl rfl rfl hm ?_
  intro w S _
  unfold impl_SealFile
  refine TW.seq ?_
  refine TW.region ?_
  refine TO.y (Y.assign rfl) rfl rfl rfl ?_
  refine TO.nil ?_
  refine TE.next ?_
  refine TW.seq ?_
  refine TW.region ?_
  refine TO.y (Y.move rfl) rfl rfl rfl ?_
  refine TO.y (Y.move rfl) rfl rfl rfl ?_
  refine TO.bind fun R1 H2 => ?_
  refine TO.ef (Ef.call (rest := []) [] (impl_FileKey_con key n  R1 H2) kc11 rfl rfl trivial) rfl rfl rfl (fun _ => ?_)
  refine TO.y (Y.assign rfl) rfl rfl rfl ?_
  refine TO.nil ?_
  refine TE.next ?_
  refine TW.seq ?_
  refine TW.seq ?_
  refine TW.joinBX (τ := Bool) (X := Unit) (fun T _ => [(1, .int .i64 n), (2, strV text), (7, strV R1), (17, .bool T)]) (fun _ _ => []) ?_ (fun T4 X5 => ?_)
  · refine TW.region ?_
    refine TO.y (Y.move rfl) rfl rfl rfl ?_
    refine TO.y (Y.seql rfl rfl) rfl rfl rfl ?_
    refine TO.y (Y.move rfl) rfl rfl rfl ?_
    refine TO.ite (b := decide (R1 = ([]))) (fun H6 => ?_) (fun H6 => ?_)
    · refine TO.off (Gd.at 2 false 13 (decide (R1 = ([]))) rfl rfl rfl (beq_tf H6)) rfl rfl ?_
      refine TO.off (Gd.at 2 false 13 (decide (R1 = ([]))) rfl rfl rfl (beq_tf H6)) rfl rfl ?_
      refine TO.off (Gd.at 2 false 13 (decide (R1 = ([]))) rfl rfl rfl (beq_tf H6)) rfl rfl ?_
      refine TO.y (Y.pick_t H6 rfl rfl) rfl rfl rfl ?_
      refine TO.nil ?_
      exact TE.jb_go () [] ⟨rfl, rfl, rfl, rfl, trivial⟩ rfl
    · refine TO.y (Y.move rfl) (Gd.at 2 false 13 (decide (R1 = ([]))) rfl rfl rfl (beq_ff H6)) rfl rfl ?_
      refine TO.y (Y.slen ks9 rfl) (Gd.at 2 false 13 (decide (R1 = ([]))) rfl rfl rfl (beq_ff H6)) rfl rfl ?_
      refine TO.y (Y.gtr rfl rfl) (Gd.at 2 false 13 (decide (R1 = ([]))) rfl rfl rfl (beq_ff H6)) rfl rfl ?_
      refine TO.y (Y.pick_f H6 rfl rfl) rfl rfl rfl ?_
      refine TO.nil ?_
      exact TE.jb_go () [] ⟨rfl, rfl, rfl, rfl, trivial⟩ rfl
  · refine TE.next ?_
    refine TW.cond rfl (fun H7 => ?_) (fun H7 => ?_)
    · refine TW.seq ?_
      refine TW.region ?_
      refine TO.y (Y.assign rfl) rfl rfl rfl ?_
      refine TO.nil ?_
      refine TE.next ?_
      refine TW.ret ?_
      refine TE.then_ret ?_
      exact TE.leaf fun _ _ hf_ hs_ => ret_any (rs := [.tmp 6]) (vs := [strV ([])]) (.inl rfl) rfl ⟨rfl, trivial⟩ hf_ hs_ ⟨(), rfl, hs_.pulls [] rfl⟩
    · refine TW.skip ?_
      refine TE.next ?_
      refine TW.seq ?_
      refine TW.region ?_
      refine TO.y (Y.move rfl) rfl rfl rfl ?_
      refine TO.y (Y.move rfl) rfl rfl rfl ?_
      refine TO.bind fun R8 H9 => ?_
      refine TO.ef (Ef.call (rest := []) [] (impl_NonceOf_con (5 : Int) n  R8 H9) kc17 rfl rfl trivial) rfl rfl rfl (fun _ => ?_)
      refine TO.y (Y.move rfl) rfl rfl rfl ?_
      refine TO.bind fun R11 H12 => ?_
      refine TO.ef (Ef.call (rest := []) [] (impl_ChaStream_con R1 (1 : Int) R8 text  R11 H12) kc13 rfl rfl trivial) rfl rfl rfl (fun _ => ?_)
      refine TO.bind fun R14 H15 => ?_
      refine TO.ef (Ef.call (rest := []) [] (impl_summed_con R11  R14 H15) kc27 rfl rfl trivial) rfl rfl rfl (fun _ => ?_)
      refine TO.y (Y.assign rfl) rfl rfl rfl ?_
      refine TO.nil ?_
      refine TE.next ?_
      refine TW.ret ?_
      exact TE.leaf fun _ _ hf_ hs_ => ret_any (rs := [.tmp 6]) (vs := [strV R14]) (.inl rfl) rfl ⟨rfl, trivial⟩ hf_ hs_ ⟨(), rfl, hs_.pulls [] rfl⟩

/-- loop.example/g00950/laws.FnSealedFiles -/
noncomputable def laws_FnSealedFiles (code : List UInt8) : Option Bool :=
  (laws_big code).bind fun R1 =>
  if R1 = true then (some true)
  else ((spec_DrawOpenFile code).bind fun R5 =>
  (impl_OpenFile R5.1 R5.2.1 R5.2.2).bind fun R8 =>
  (spec_OpenFile R5.1 R5.2.1 R5.2.2).bind fun R11 =>
  (if (!(decide (R8.2 = R11.2))) = true then (some true)
  else (some (!(decide (R8.1 = R11.1))))).bind (fun (T14 : Bool) =>
  if T14 = true then (some false)
  else (if (!R8.2) = true then (some true)
  else ((laws_at code (0 : Int)).bind fun R19 =>
  (nz ((R5.2.2.length : Nat) : Int)).bind fun E22 =>
  (ssub R5.2.2 0 (Int.tmod R19 ((R5.2.2.length : Nat) : Int))).bind fun E24 =>
  (sidx R5.2.2 (Int.tmod R19 ((R5.2.2.length : Nat) : Int))).bind fun E26 =>
  (ssub R5.2.2 (IntKind.i64.wrap (Int.tmod R19 ((R5.2.2.length : Nat) : Int) + (1 : Int))) (R5.2.2.length : Int)).bind fun E28 =>
  (laws_at code (1 : Int)).bind fun R30 =>
  (cat E24 ([(E26 ^^^ (toU8 (IntKind.i64.wrap ((1 : Int) + (Int.tmod R30 (255 : Int))))))])).bind fun E34 =>
  (cat E34 E28).bind fun E36 =>
  (impl_OpenFile R5.1 R5.2.1 E36).bind fun R38 =>
  ((impl_SealFile R5.1 R5.2.1 R8.1).bind fun R43 =>
  if (decide (R43 = R5.2.2)) = true then (if (!R38.2) = true then ((impl_FileKey R5.1 R5.2.1).bind fun R48 =>
  some (decide (((R48.length : Nat) : Int) = (32 : Int))))
  else (some false))
  else (some false)).bind (fun (T41 : Bool) =>
  some T41)))))

theorem laws_FnSealedFiles_con (code : List UInt8) (V_code0 : Value) (r : Bool) (hm : laws_FnSealedFiles code = some r) :
    Con Try.prog 3 [V_code0] [] [(V_code0, lc code)] (fun _ : Unit => .bool r) (fun _ => []) := by
  refine Con.intro (args := [V_code0]) (n := 95) (val := fun r (_ : Unit) => .bool r) (post := fun _ _ => []) (m := laws_FnSealedFiles code) Try.func3 rfl rfl rfl hm ?_
  intro w S hrd
  have HB_V_code0 := hrd _ (.head _)
  clear hrd
  unfold laws_FnSealedFiles
  refine TW.seq ?_
  refine TW.region ?_
  refine TO.y (Y.assign rfl) rfl rfl rfl ?_
  refine TO.nil ?_
  refine TE.next ?_
  refine TW.seq ?_
  refine TW.seq ?_
  refine TW.region ?_
  refine TO.y (Y.move rfl) rfl rfl rfl ?_
  refine TO.bind fun R1 H2 => ?_
  refine TO.ef (Ef.call (rest := []) [] (laws_big_con code V_code0 R1 H2) kc5 rfl rfl ⟨(Base.can HB_V_code0), trivial⟩) rfl rfl rfl (fun _ => ?_)
  refine TO.nil ?_
  refine TE.next ?_
  refine TW.cond rfl (fun H4 => ?_) (fun H4 => ?_)
  · refine TW.seq ?_
    refine TW.region ?_
    refine TO.y (Y.assign rfl) rfl rfl rfl ?_
    refine TO.nil ?_
    refine TE.next ?_
    refine TW.ret ?_
    refine TE.then_ret ?_
    exact TE.leaf fun _ _ hf_ hs_ => ret_any (rs := [.tmp 2]) (vs := [.bool true]) (.inl rfl) rfl ⟨rfl, trivial⟩ hf_ hs_ ⟨(), rfl, hs_.pulls [] rfl⟩
  · refine TW.skip ?_
    refine TE.next ?_
    refine TW.seq ?_
    refine TW.region ?_
    refine TO.y (Y.move rfl) rfl rfl rfl ?_
    refine TO.bind fun R5 H6 => ?_
    refine TO.ef (Ef.call (rest := []) [] (spec_DrawOpenFile_con code V_code0 R5 H6) kc6 rfl rfl ⟨(Base.can HB_V_code0), trivial⟩) rfl rfl rfl (fun _ => ?_)
    refine TO.y (Y.move rfl) rfl rfl rfl ?_
    refine TO.y (Y.extract rfl rfl) rfl rfl rfl ?_
    refine TO.y (Y.extract rfl rfl) rfl rfl rfl ?_
    refine TO.y (Y.extract rfl rfl) rfl rfl rfl ?_
    refine TO.y (Y.assign rfl) rfl rfl rfl ?_
    refine TO.y (Y.assign rfl) rfl rfl rfl ?_
    refine TO.y (Y.assign rfl) rfl rfl rfl ?_
    refine TO.nil ?_
    refine TE.next ?_
    refine TW.seq ?_
    refine TW.region ?_
    refine TO.y (Y.move rfl) rfl rfl rfl ?_
    refine TO.y (Y.move rfl) rfl rfl rfl ?_
    refine TO.y (Y.move rfl) rfl rfl rfl ?_
    refine TO.bind fun R8 H9 => ?_
    refine TO.ef (Ef.call (rest := []) [] (impl_OpenFile_con R5.1 R5.2.1 R5.2.2  R8 H9) kc7 rfl rfl trivial) rfl rfl rfl (fun _ => ?_)
    refine TO.y (Y.move rfl) rfl rfl rfl ?_
    refine TO.y (Y.extract rfl rfl) rfl rfl rfl ?_
    refine TO.y (Y.extract rfl rfl) rfl rfl rfl ?_
    refine TO.y (Y.assign rfl) rfl rfl rfl ?_
    refine TO.y (Y.assign rfl) rfl rfl rfl ?_
    refine TO.nil ?_
    refine TE.next ?_
    refine TW.seq ?_
    refine TW.region ?_
    refine TO.y (Y.move rfl) rfl rfl rfl ?_
    refine TO.y (Y.move rfl) rfl rfl rfl ?_
    refine TO.y (Y.move rfl) rfl rfl rfl ?_
    refine TO.bind fun R11 H12 => ?_
    refine TO.ef (Ef.call (rest := []) [] (spec_OpenFile_con R5.1 R5.2.1 R5.2.2  R11 H12) kc8 rfl rfl trivial) rfl rfl rfl (fun _ => ?_)
    refine TO.y (Y.move rfl) rfl rfl rfl ?_
    refine TO.y (Y.extract rfl rfl) rfl rfl rfl ?_
    refine TO.y (Y.extract rfl rfl) rfl rfl rfl ?_
    refine TO.y (Y.assign rfl) rfl rfl rfl ?_
    refine TO.y (Y.assign rfl) rfl rfl rfl ?_
    refine TO.nil ?_
    refine TE.next ?_
    refine TW.seq ?_
    refine TW.seq ?_
    refine TW.joinBX (τ := Bool) (X := Unit) (fun T _ => [(0, V_code0), (3, strV R5.1), (4, .int .i64 R5.2.1), (5, strV R5.2.2), (6, strV R8.1), (7, .bool R8.2), (43, .bool T)]) (fun _ _ => []) ?_ (fun T14 X15 => ?_)
    · refine TW.region ?_
      refine TO.y (Y.move rfl) rfl rfl rfl ?_
      refine TO.y (Y.move rfl) rfl rfl rfl ?_
      refine TO.y (Y.neb kb4 rfl rfl) rfl rfl rfl ?_
      refine TO.y (Y.move rfl) rfl rfl rfl ?_
      refine TO.ite (b := !(decide (R8.2 = R11.2))) (fun H16 => ?_) (fun H16 => ?_)
      · refine TO.off (Gd.at 3 false 39 (!(decide (R8.2 = R11.2))) rfl rfl rfl (beq_tf H16)) rfl rfl ?_
        refine TO.off (Gd.at 3 false 39 (!(decide (R8.2 = R11.2))) rfl rfl rfl (beq_tf H16)) rfl rfl ?_
        refine TO.off (Gd.at 3 false 39 (!(decide (R8.2 = R11.2))) rfl rfl rfl (beq_tf H16)) rfl rfl ?_
        refine TO.y (Y.pick_t H16 rfl rfl) rfl rfl rfl ?_
        refine TO.nil ?_
        exact TE.jb_go () [] ⟨rfl, rfl, rfl, rfl, rfl, rfl, rfl, trivial⟩ rfl
      · refine TO.y (Y.move rfl) (Gd.at 3 false 39 (!(decide (R8.2 = R11.2))) rfl rfl rfl (beq_ff H16)) rfl rfl ?_
        refine TO.y (Y.move rfl) (Gd.at 3 false 39 (!(decide (R8.2 = R11.2))) rfl rfl rfl (beq_ff H16)) rfl rfl ?_
        refine TO.y (Y.sneq rfl rfl) (Gd.at 3 false 39 (!(decide (R8.2 = R11.2))) rfl rfl rfl (beq_ff H16)) rfl rfl ?_
        refine TO.y (Y.pick_f H16 rfl rfl) rfl rfl rfl ?_
        refine TO.nil ?_
        exact TE.jb_go () [] ⟨rfl, rfl, rfl, rfl, rfl, rfl, rfl, trivial⟩ rfl
    · refine TE.next ?_
      refine TW.cond rfl (fun H17 => ?_) (fun H17 => ?_)
      · refine TW.seq ?_
        refine TW.region ?_
        refine TO.y (Y.assign rfl) rfl rfl rfl ?_
        refine TO.nil ?_
        refine TE.next ?_
        refine TW.ret ?_
        refine TE.then_ret ?_
        exact TE.leaf fun _ _ hf_ hs_ => ret_any (rs := [.tmp 2]) (vs := [.bool false]) (.inl rfl) rfl ⟨rfl, trivial⟩ hf_ hs_ ⟨(), rfl, hs_.pulls [] rfl⟩
      · refine TW.skip ?_
        refine TE.next ?_
        refine TW.seq ?_
        refine TW.seq ?_
        refine TW.region ?_
        refine TO.y (Y.move rfl) rfl rfl rfl ?_
        refine TO.y (Y.not rfl) rfl rfl rfl ?_
        refine TO.nil ?_
        refine TE.next ?_
        refine TW.cond rfl (fun H18 => ?_) (fun H18 => ?_)
        · refine TW.seq ?_
          refine TW.region ?_
          refine TO.y (Y.assign rfl) rfl rfl rfl ?_
          refine TO.nil ?_
          refine TE.next ?_
          refine TW.ret ?_
          refine TE.then_ret ?_
          exact TE.leaf fun _ _ hf_ hs_ => ret_any (rs := [.tmp 2]) (vs := [.bool true]) (.inl rfl) rfl ⟨rfl, trivial⟩ hf_ hs_ ⟨(), rfl, hs_.pulls [] rfl⟩
        · refine TW.skip ?_
          refine TE.next ?_
          refine TW.seq ?_
          refine TW.region ?_
          refine TO.y (Y.move rfl) rfl rfl rfl ?_
          refine TO.bind fun R19 H20 => ?_
          refine TO.ef (Ef.call (rest := []) [] (laws_at_con code (0 : Int) V_code0 R19 H20) kc9 rfl rfl ⟨(Base.can HB_V_code0), trivial⟩) rfl rfl rfl (fun _ => ?_)
          refine TO.y (Y.move rfl) rfl rfl rfl ?_
          refine TO.y (Y.slen ks9 rfl) rfl rfl rfl ?_
          refine TO.bind fun E22 H23 => ?_
          refine TO.y (Y.rem (nz_ne H23) rfl rfl) rfl rfl rfl ?_
          refine TO.y (Y.assign rfl) rfl rfl rfl ?_
          refine TO.nil ?_
          refine TE.next ?_
          refine TW.seq ?_
          refine TW.draw (isH := []) hMix ?_
          refine TA.y (listed' := #[true, false, false, false, false, false, false, false, false, false, false, false, false, false, false, false, false, false, false, false, false]) 0 [] rfl (Y.move rfl) rfl rfl rfl (by kernel_rfl) (by kernel_rfl) (by kernel_rfl) rfl rfl ?_
          refine TA.y (listed' := #[true, true, false, false, false, false, false, false, false, false, false, false, false, false, false, false, false, false, false, false, false]) 1 [] rfl (Y.move rfl) rfl rfl rfl (by kernel_rfl) (by kernel_rfl) (by kernel_rfl) rfl rfl ?_
          refine TA.bind fun E24 H25 => ?_
          refine TA.y (listed' := #[true, true, true, false, false, false, false, false, false, false, false, false, false, false, false, false, false, false, false, false, false]) 2 [] rfl (Y.ssub_to H25 ks9 rfl rfl) rfl rfl rfl (by kernel_rfl) (by kernel_rfl) (by kernel_rfl) rfl rfl ?_
          refine TA.y (listed' := #[true, true, true, true, false, false, false, false, false, false, false, false, false, false, false, false, false, false, false, false, false]) 3 [] rfl (Y.move rfl) rfl rfl rfl (by kernel_rfl) (by kernel_rfl) (by kernel_rfl) rfl rfl ?_
          refine TA.y (listed' := #[true, true, true, true, true, false, false, false, false, false, false, false, false, false, false, false, false, false, false, false, false]) 4 [] rfl (Y.move rfl) rfl rfl rfl (by kernel_rfl) (by kernel_rfl) (by kernel_rfl) rfl rfl ?_
          refine TA.bind fun E26 H27 => ?_
          refine TA.y (listed' := #[true, true, true, true, true, true, false, false, false, false, false, false, false, false, false, false, false, false, false, false, false]) 5 [] rfl (Y.sidx H27 ks9 rfl rfl) rfl rfl rfl (by kernel_rfl) (by kernel_rfl) (by kernel_rfl) rfl rfl ?_
          refine TA.y (listed' := #[true, true, true, true, true, true, true, false, false, false, false, false, false, false, false, false, false, false, false, false, false]) 6 [] rfl (Y.move rfl) rfl rfl rfl (by kernel_rfl) (by kernel_rfl) (by kernel_rfl) rfl rfl ?_
          refine TA.y (listed' := #[true, true, true, true, true, true, true, false, false, false, false, false, false, false, false, true, false, false, false, false, false]) 15 [] rfl (Y.move rfl) rfl rfl rfl (by kernel_rfl) (by kernel_rfl) (by kernel_rfl) rfl rfl ?_
          refine TA.y (listed' := #[true, true, true, true, true, true, true, false, false, false, false, false, false, false, false, true, true, false, false, false, false]) 16 [] rfl (Y.move rfl) rfl rfl rfl (by kernel_rfl) (by kernel_rfl) (by kernel_rfl) rfl rfl ?_
          refine TA.y (listed' := #[true, true, true, true, true, true, true, false, false, false, false, false, false, false, false, true, true, true, false, false, false]) 17 [] rfl (Y.add rfl rfl) rfl rfl rfl (by kernel_rfl) (by kernel_rfl) (by kernel_rfl) rfl rfl ?_
          refine TA.bind fun E28 H29 => ?_
          refine TA.y (listed' := #[true, true, true, true, true, true, true, false, false, false, false, false, false, false, false, true, true, true, true, false, false]) 18 [] rfl (Y.ssub_from H29 ks9 rfl rfl) rfl rfl rfl (by kernel_rfl) (by kernel_rfl) (by kernel_rfl) rfl rfl ?_
          refine TA.bind fun R30 H31 => ?_
          refine TA.one 7 (by kernel_rfl) ?_
          refine TX.ef (listed' := #[true, true, true, true, true, true, true, true, false, false, false, false, false, false, false, true, true, true, true, false, false]) [] rfl (Ef.call (rest := []) [] (laws_at_con code (1 : Int) V_code0 R30 H31) kc9 rfl rfl ⟨(Base.can HB_V_code0), trivial⟩) rfl rfl rfl rfl (fun _ => rfl) (fun _ => ?_)
          refine TA.y (listed' := #[true, true, true, true, true, true, true, true, true, false, false, false, false, false, false, true, true, true, true, false, false]) 8 [] rfl (Y.rem (by decide) rfl rfl) rfl rfl rfl (by kernel_rfl) (by kernel_rfl) (by kernel_rfl) rfl rfl ?_
          refine TA.y (listed' := #[true, true, true, true, true, true, true, true, true, true, false, false, false, false, false, true, true, true, true, false, false]) 9 [] rfl (Y.add rfl rfl) rfl rfl rfl (by kernel_rfl) (by kernel_rfl) (by kernel_rfl) rfl rfl ?_
          refine TA.y (listed' := #[true, true, true, true, true, true, true, true, true, true, true, false, false, false, false, true, true, true, true, false, false]) 10 [] rfl (Y.conv8 ki3 ki5 rfl) rfl rfl rfl (by kernel_rfl) (by kernel_rfl) (by kernel_rfl) rfl rfl ?_
          refine TA.y (listed' := #[true, true, true, true, true, true, true, true, true, true, true, true, false, false, false, true, true, true, true, false, false]) 11 [] rfl (Y.xor8 rfl rfl) rfl rfl rfl (by kernel_rfl) (by kernel_rfl) (by kernel_rfl) rfl rfl ?_
          refine TA.one 12 (by kernel_rfl) ?_
          refine TX.ef (listed' := #[true, true, true, true, true, true, true, true, true, true, true, true, true, false, false, true, true, true, true, false, false]) [] rfl (Ef.buildSlice (α := UInt8) (Vs := [.int .u8 (((E26 ^^^ (toU8 (IntKind.i64.wrap ((1 : Int) + (Int.tmod R30 (255 : Int)))))).toNat : Nat) : Int)]) [(E26 ^^^ (toU8 (IntKind.i64.wrap ((1 : Int) + (Int.tmod R30 (255 : Int))))))] ke22 kz5 rfl rfl rfl rfl rfl) rfl rfl rfl rfl (fun _ => rfl) (fun B33 => ?_)
          refine TA.one 13 (by kernel_rfl) ?_
          refine TX.y (listed' := #[true, true, true, true, true, true, true, true, true, true, true, true, true, true, false, true, true, true, true, false, false]) [] rfl (Y.toStr ke22 ki5 ks9 (Can.own 0 rfl) rfl) rfl rfl rfl rfl rfl ?_
          refine TA.bind fun E34 H35 => ?_
          refine TA.y (listed' := #[true, true, true, true, true, true, true, true, true, true, true, true, true, true, true, true, true, true, true, false, false]) 14 [] rfl (Y.cat H35 rfl rfl) rfl rfl rfl (by kernel_rfl) (by kernel_rfl) (by kernel_rfl) rfl rfl ?_
          refine TA.bind fun E36 H37 => ?_
          refine TA.y (listed' := #[true, true, true, true, true, true, true, true, true, true, true, true, true, true, true, true, true, true, true, true, false]) 19 [] rfl (Y.cat H37 rfl rfl) rfl rfl rfl (by kernel_rfl) (by kernel_rfl) (by kernel_rfl) rfl rfl ?_
          refine TA.y (listed' := #[true, true, true, true, true, true, true, true, true, true, true, true, true, true, true, true, true, true, true, true, true]) 20 [] rfl (Y.assign rfl) rfl rfl rfl (by kernel_rfl) (by kernel_rfl) (by kernel_rfl) rfl rfl ?_
          refine TA.nil (by kernel_rfl) ?_
          refine TE.next ?_
          refine TW.seq ?_
          refine TW.region ?_
          refine TO.y (Y.move rfl) rfl rfl rfl ?_
          refine TO.y (Y.move rfl) rfl rfl rfl ?_
          refine TO.y (Y.move rfl) rfl rfl rfl ?_
          refine TO.bind fun R38 H39 => ?_
          refine TO.ef (Ef.call (rest := [.own (.slice (some ⟨B33, 0, none⟩) 1 1) (lc ([(E26 ^^^ (toU8 (IntKind.i64.wrap ((1 : Int) + (Int.tmod R30 (255 : Int))))))]))]) [0] (impl_OpenFile_con R5.1 R5.2.1 E36  R38 H39) kc7 rfl rfl trivial) rfl rfl rfl (fun _ => ?_)
          refine TO.y (Y.move rfl) rfl rfl rfl ?_
          refine TO.y (Y.extract rfl rfl) rfl rfl rfl ?_
          refine TO.y (Y.extract rfl rfl) rfl rfl rfl ?_
          refine TO.y (Y.assign rfl) rfl rfl rfl ?_
          refine TO.y (Y.assign rfl) rfl rfl rfl ?_
          refine TO.nil ?_
          refine TE.next ?_
          refine TW.seq ?_
          refine TW.joinBX (τ := Bool) (X := Unit) (fun T _ => [(2, .bool T)]) (fun _ _ => []) ?_ (fun T41 X42 => ?_)
          · refine TW.region ?_
            refine TO.y (Y.move rfl) rfl rfl rfl ?_
            refine TO.y (Y.move rfl) rfl rfl rfl ?_
            refine TO.y (Y.move rfl) rfl rfl rfl ?_
            refine TO.bind fun R43 H44 => ?_
            refine TO.ef (Ef.call (rest := [.own (.slice (some ⟨B33, 0, none⟩) 1 1) (lc ([(E26 ^^^ (toU8 (IntKind.i64.wrap ((1 : Int) + (Int.tmod R30 (255 : Int))))))]))]) [0] (impl_SealFile_con R5.1 R5.2.1 R8.1  R43 H44) kc10 rfl rfl trivial) rfl rfl rfl (fun _ => ?_)
            refine TO.y (Y.move rfl) rfl rfl rfl ?_
            refine TO.y (Y.seql rfl rfl) rfl rfl rfl ?_
            refine TO.y (Y.move rfl) rfl rfl rfl ?_
            refine TO.ite (b := decide (R43 = R5.2.2)) (fun H46 => ?_) (fun H46 => ?_)
            · refine TO.y (Y.move rfl) (Gd.at 6 true 84 (decide (R43 = R5.2.2)) rfl rfl rfl (beq_tt H46)) rfl rfl ?_
              refine TO.y (Y.not rfl) (Gd.at 6 true 84 (decide (R43 = R5.2.2)) rfl rfl rfl (beq_tt H46)) rfl rfl ?_
              refine TO.y (Y.pick_t H46 rfl rfl) rfl rfl rfl ?_
              refine TO.y (Y.move rfl) rfl rfl rfl ?_
              refine TO.ite (b := !R38.2) (fun H47 => ?_) (fun H47 => ?_)
              · refine TO.y (Y.move rfl) (Gd.at 10 true 88 (!R38.2) rfl rfl rfl (beq_tt H47)) rfl rfl ?_
                refine TO.y (Y.move rfl) (Gd.at 10 true 88 (!R38.2) rfl rfl rfl (beq_tt H47)) rfl rfl ?_
                refine TO.bind fun R48 H49 => ?_
                refine TO.ef (Ef.call (rest := [.own (.slice (some ⟨B33, 0, none⟩) 1 1) (lc ([(E26 ^^^ (toU8 (IntKind.i64.wrap ((1 : Int) + (Int.tmod R30 (255 : Int))))))]))]) [0] (impl_FileKey_con R5.1 R5.2.1  R48 H49) kc11 rfl rfl trivial) (Gd.at 10 true 88 (!R38.2) rfl rfl rfl (beq_tt H47)) rfl rfl (fun _ => ?_)
                refine TO.y (Y.slen ks9 rfl) (Gd.at 10 true 88 (!R38.2) rfl rfl rfl (beq_tt H47)) rfl rfl ?_
                refine TO.y (Y.eql rfl rfl) (Gd.at 10 true 88 (!R38.2) rfl rfl rfl (beq_tt H47)) rfl rfl ?_
                refine TO.y (Y.pick_t H47 rfl rfl) rfl rfl rfl ?_
                refine TO.y (Y.assign rfl) rfl rfl rfl ?_
                refine TO.nil ?_
                exact TE.jb_go () [] ⟨rfl, trivial⟩ rfl
              · refine TO.off (Gd.at 10 true 88 (!R38.2) rfl rfl rfl (beq_ft H47)) rfl rfl ?_
                refine TO.off (Gd.at 10 true 88 (!R38.2) rfl rfl rfl (beq_ft H47)) rfl rfl ?_
                refine TO.off (Gd.at 10 true 88 (!R38.2) rfl rfl rfl (beq_ft H47)) rfl rfl ?_
                refine TO.off (Gd.at 10 true 88 (!R38.2) rfl rfl rfl (beq_ft H47)) rfl rfl ?_
                refine TO.off (Gd.at 10 true 88 (!R38.2) rfl rfl rfl (beq_ft H47)) rfl rfl ?_
                refine TO.y (Y.pick_f H47 rfl rfl) rfl rfl rfl ?_
                refine TO.y (Y.assign rfl) rfl rfl rfl ?_
                refine TO.nil ?_
                exact TE.jb_go () [] ⟨rfl, trivial⟩ rfl
            · refine TO.off (Gd.at 6 true 84 (decide (R43 = R5.2.2)) rfl rfl rfl (beq_ft H46)) rfl rfl ?_
              refine TO.off (Gd.at 6 true 84 (decide (R43 = R5.2.2)) rfl rfl rfl (beq_ft H46)) rfl rfl ?_
              refine TO.y (Y.pick_f H46 rfl rfl) rfl rfl rfl ?_
              refine TO.y (Y.move rfl) rfl rfl rfl ?_
              refine TO.off (Gd.at 10 true 88 false rfl rfl rfl rfl) rfl rfl ?_
              refine TO.off (Gd.at 10 true 88 false rfl rfl rfl rfl) rfl rfl ?_
              refine TO.off (Gd.at 10 true 88 false rfl rfl rfl rfl) rfl rfl ?_
              refine TO.off (Gd.at 10 true 88 false rfl rfl rfl rfl) rfl rfl ?_
              refine TO.off (Gd.at 10 true 88 false rfl rfl rfl rfl) rfl rfl ?_
              refine TO.y (Y.pick_f rfl rfl rfl) rfl rfl rfl ?_
              refine TO.y (Y.assign rfl) rfl rfl rfl ?_
              refine TO.nil ?_
              exact TE.jb_go () [] ⟨rfl, trivial⟩ rfl
          · refine TE.next ?_
            refine TW.ret ?_
            exact TE.leaf fun _ _ hf_ hs_ => ret_any (rs := [.tmp 2]) (vs := [.bool T41]) (.inl rfl) rfl ⟨rfl, trivial⟩ hf_ hs_ ⟨(), rfl, hs_.pulls [] rfl⟩

end Go.Proofs.Ytbocplhlbbhblaa
