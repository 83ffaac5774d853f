/-
  The functions that a law reaches, each as a pure function, with the proof that the program computes it, and the step from a pure law to the given statement. Conditions: none.
-/
import Derived.Test.YtbocplhlbbhblaaC3
set_option linter.unusedVariables false
set_option maxRecDepth 100000
set_option maxHeartbeats 4000000
namespace Go.Proofs.Ytbocplhlbbhblaa
open Go Sl

/-- loop.example/g00950/impl.NonceOf -/
noncomputable def impl_NonceOf (kind : Int) (n : Int) : Option (List UInt8) :=
  ((impl_inRange kind (0 : Int) (255 : Int)).bind fun R3 =>
  if (!R3) = true then (some true)
  else ((impl_inRange n (0 : Int) (562949953421311 : Int)).bind fun R7 =>
  some (!R7))).bind (fun (T1 : Bool) =>
  if T1 = true then (some ([]))
  else ((impl_Fixed n (7 : Int)).bind fun R12 =>
  (cat ([toU8 kind, (0 : UInt8), (0 : UInt8), (0 : UInt8), (0 : UInt8)]) R12).bind fun E17 =>
  some E17))

theorem impl_NonceOf_con (kind : Int) (n : Int)  (r : List UInt8) (hm : impl_NonceOf kind n = some r) :
    Con Try.prog 17 [.int .i64 kind, .int .i64 n] [] [] (fun _ : Unit => strV r) (fun _ => []) := by
  refine Con.intro (args := [.int .i64 kind, .int .i64 n]) (n := 20) (val := fun r (_ : Unit) => strV r) (post := fun _ _ => []) (m := impl_NonceOf kind n) Try.func17 rfl rfl rfl hm ?_
  intro w S _
  unfold impl_NonceOf
  refine TW.seq ?_
  refine TW.region ?_
  refine TO.y (Y.assign rfl) rfl rfl rfl ?_
  refine TO.nil ?_
  refine TE.next ?_
  refine TW.seq ?_
  refine TW.seq ?_
  refine TW.joinBX (τ := Bool) (X := Unit) (fun T _ => [(0, .int .i64 kind), (1, .int .i64 n), (12, .bool T)]) (fun _ _ => []) ?_ (fun T1 X2 => ?_)
  · refine TW.region ?_
    refine TO.y (Y.move rfl) rfl rfl rfl ?_
    refine TO.bind fun R3 H4 => ?_
    refine TO.ef (Ef.call (rest := []) [] (impl_inRange_con kind (0 : Int) (255 : Int)  R3 H4) kc35 rfl rfl trivial) rfl rfl rfl (fun _ => ?_)
    refine TO.y (Y.not rfl) rfl rfl rfl ?_
    refine TO.y (Y.move rfl) rfl rfl rfl ?_
    refine TO.ite (b := !R3) (fun H6 => ?_) (fun H6 => ?_)
    · refine TO.off (Gd.at 3 false 8 (!R3) rfl rfl rfl (beq_tf H6)) rfl rfl ?_
      refine TO.off (Gd.at 3 false 8 (!R3) rfl rfl rfl (beq_tf H6)) rfl rfl ?_
      refine TO.off (Gd.at 3 false 8 (!R3) rfl rfl rfl (beq_tf H6)) rfl rfl ?_
      refine TO.y (Y.pick_t H6 rfl rfl) rfl rfl rfl ?_
      refine TO.nil ?_
      exact TE.jb_go () [] ⟨rfl, rfl, rfl, trivial⟩ rfl
    · refine TO.y (Y.move rfl) (Gd.at 3 false 8 (!R3) rfl rfl rfl (beq_ff H6)) rfl rfl ?_
      refine TO.bind fun R7 H8 => ?_
      refine TO.ef (Ef.call (rest := []) [] (impl_inRange_con n (0 : Int) (562949953421311 : Int)  R7 H8) kc35 rfl rfl trivial) (Gd.at 3 false 8 (!R3) rfl rfl rfl (beq_ff H6)) rfl rfl (fun _ => ?_)
      refine TO.y (Y.not rfl) (Gd.at 3 false 8 (!R3) rfl rfl rfl (beq_ff H6)) rfl rfl ?_
      refine TO.y (Y.pick_f H6 rfl rfl) rfl rfl rfl ?_
      refine TO.nil ?_
      exact TE.jb_go () [] ⟨rfl, rfl, rfl, trivial⟩ rfl
  · refine TE.next ?_
    refine TW.cond rfl (fun H10 => ?_) (fun H10 => ?_)
    · refine TW.seq ?_
      refine TW.region ?_
      refine TO.y (Y.assign rfl) rfl rfl rfl ?_
      refine TO.nil ?_
      refine TE.next ?_
      refine TW.ret ?_
      refine TE.then_ret ?_
      exact TE.leaf fun _ _ hf_ hs_ => ret_any (rs := [.tmp 4]) (vs := [strV ([])]) (.inl rfl) rfl ⟨rfl, trivial⟩ hf_ hs_ ⟨(), rfl, hs_.pulls [] rfl⟩
    · refine TW.skip ?_
      refine TE.next ?_
      refine TW.seq ?_
      refine TW.bind fun R12 H13 => ?_
      refine TW.bind fun E17 H18 => ?_
      refine TW.joinU (X := Unit) (fun _ _ => [(4, strV E17)]) (fun _ _ => []) ?_ (fun _ X20 => ?_)
      · refine TW.draw (isH := []) hMix ?_
        refine TA.y (listed' := #[true, false, false, false, false, false, false, false]) 0 [] rfl (Y.move rfl) rfl rfl rfl (by kernel_rfl) (by kernel_rfl) (by kernel_rfl) rfl rfl ?_
        refine TA.y (listed' := #[true, true, false, false, false, false, false, false]) 1 [] rfl (Y.conv8 ki3 ki5 rfl) rfl rfl rfl (by kernel_rfl) (by kernel_rfl) (by kernel_rfl) rfl rfl ?_
        refine TA.y (listed' := #[true, true, false, false, true, false, false, false]) 4 [] rfl (Y.move rfl) rfl rfl rfl (by kernel_rfl) (by kernel_rfl) (by kernel_rfl) rfl rfl ?_
        refine TA.two 2 5 (by kernel_rfl) ?_ ?_
        · refine TX.ef (listed' := #[true, true, true, false, true, false, false, false]) [] rfl (Ef.buildSlice (α := UInt8) (Vs := [.int .u8 (((toU8 kind).toNat : Nat) : Int), .int .u8 (0 : Int), .int .u8 (0 : Int), .int .u8 (0 : Int), .int .u8 (0 : Int)]) [toU8 kind, (0 : UInt8), (0 : UInt8), (0 : UInt8), (0 : UInt8)] ke22 kz5 rfl rfl rfl rfl rfl) rfl rfl rfl rfl (fun _ => rfl) (fun B21 => ?_)
          refine TA.two 3 5 (by kernel_rfl) ?_ ?_
          · refine TX.y (listed' := #[true, true, true, true, true, false, false, false]) [] rfl (Y.toStr ke22 ki5 ks9 (Can.own 0 rfl) rfl) rfl rfl rfl rfl rfl ?_
            refine TA.one 5 (by kernel_rfl) ?_
            refine TX.ef (listed' := #[true, true, true, true, true, true, false, false]) [] rfl (Ef.call (rest := [.own (.slice (some ⟨B21, 0, none⟩) 5 5) (lc ([toU8 kind, (0 : UInt8), (0 : UInt8), (0 : UInt8), (0 : UInt8)]))]) [0] (impl_Fixed_con n (7 : Int)  R12 H13) kc36 rfl rfl trivial) rfl rfl rfl rfl (fun _ => rfl) (fun _ => ?_)
            refine TA.y (listed' := #[true, true, true, true, true, true, true, false]) 6 [] rfl (Y.cat H18 rfl rfl) rfl rfl rfl (by kernel_rfl) (by kernel_rfl) (by kernel_rfl) rfl rfl ?_
            refine TA.y (listed' := #[true, true, true, true, true, true, true, true]) 7 [] rfl (Y.assign rfl) rfl rfl rfl (by kernel_rfl) (by kernel_rfl) (by kernel_rfl) rfl rfl ?_
            refine TA.nil (by kernel_rfl) ?_
            exact TE.jb_go () [] ⟨rfl, trivial⟩ rfl
          · refine TX.ef (listed' := #[true, true, true, false, true, true, false, false]) [] rfl (Ef.call (rest := [.own (.slice (some ⟨B21, 0, none⟩) 5 5) (lc ([toU8 kind, (0 : UInt8), (0 : UInt8), (0 : UInt8), (0 : UInt8)]))]) [0] (impl_Fixed_con n (7 : Int)  R12 H13) kc36 rfl rfl trivial) rfl rfl rfl rfl (fun _ => rfl) (fun _ => ?_)
            refine TA.one 3 (by kernel_rfl) ?_
            refine TX.y (listed' := #[true, true, true, true, true, true, false, false]) [] rfl (Y.toStr ke22 ki5 ks9 (Can.own 0 rfl) rfl) rfl rfl rfl rfl rfl ?_
            refine TA.y (listed' := #[true, true, true, true, true, true, true, false]) 6 [] rfl (Y.cat H18 rfl rfl) rfl rfl rfl (by kernel_rfl) (by kernel_rfl) (by kernel_rfl) rfl rfl ?_
            refine TA.y (listed' := #[true, true, true, true, true, true, true, true]) 7 [] rfl (Y.assign rfl) rfl rfl rfl (by kernel_rfl) (by kernel_rfl) (by kernel_rfl) rfl rfl ?_
            refine TA.nil (by kernel_rfl) ?_
            exact TE.jb_go () [] ⟨rfl, trivial⟩ rfl
        · refine TX.ef (listed' := #[true, true, false, false, true, true, false, false]) [] rfl (Ef.call (rest := []) [] (impl_Fixed_con n (7 : Int)  R12 H13) kc36 rfl rfl trivial) rfl rfl rfl rfl (fun _ => rfl) (fun _ => ?_)
          refine TA.one 2 (by kernel_rfl) ?_
          refine TX.ef (listed' := #[true, true, true, false, true, true, false, false]) [] rfl (Ef.buildSlice (α := UInt8) (Vs := [.int .u8 (((toU8 kind).toNat : Nat) : Int), .int .u8 (0 : Int), .int .u8 (0 : Int), .int .u8 (0 : Int), .int .u8 (0 : Int)]) [toU8 kind, (0 : UInt8), (0 : UInt8), (0 : UInt8), (0 : UInt8)] ke22 kz5 rfl rfl rfl rfl rfl) rfl rfl rfl rfl (fun _ => rfl) (fun B23 => ?_)
          refine TA.one 3 (by kernel_rfl) ?_
          refine TX.y (listed' := #[true, true, true, true, true, true, false, false]) [] rfl (Y.toStr ke22 ki5 ks9 (Can.own 0 rfl) rfl) rfl rfl rfl rfl rfl ?_
          refine TA.y (listed' := #[true, true, true, true, true, true, true, false]) 6 [] rfl (Y.cat H18 rfl rfl) rfl rfl rfl (by kernel_rfl) (by kernel_rfl) (by kernel_rfl) rfl rfl ?_
          refine TA.y (listed' := #[true, true, true, true, true, true, true, true]) 7 [] rfl (Y.assign rfl) rfl rfl rfl (by kernel_rfl) (by kernel_rfl) (by kernel_rfl) rfl rfl ?_
          refine TA.nil (by kernel_rfl) ?_
          exact TE.jb_go () [] ⟨rfl, trivial⟩ rfl
      · refine TE.next ?_
        refine TW.ret ?_
        exact TE.leaf fun _ _ hf_ hs_ => ret_any (rs := [.tmp 4]) (vs := [strV E17]) (.inl rfl) rfl ⟨rfl, trivial⟩ hf_ hs_ ⟨(), rfl, hs_.pulls [] rfl⟩

/-- loop.example/g00950/laws.FnCha -/
noncomputable def laws_FnCha (code : List UInt8) : Option Bool :=
  (laws_big code).bind fun R1 =>
  if R1 = true then (some true)
  else ((spec_DrawChaStream code).bind fun R5 =>
  (impl_ChaStream R5.1 R5.2.1 R5.2.2.1 R5.2.2.2).bind fun R8 =>
  (spec_ChaStream R5.1 R5.2.1 R5.2.2.1 R5.2.2.2).bind fun R11 =>
  if (!(decide (R8 = R11))) = true then (some false)
  else ((if (!(decide (R8 = ([])))) = true then (if (!(decide (((R8.length : Nat) : Int) = ((R5.2.2.2.length : Nat) : Int)))) = true then (some true)
  else ((impl_ChaStream R5.1 R5.2.1 R5.2.2.1 R8).bind fun R19 =>
  some (!(decide (R19 = R5.2.2.2)))))
  else (some false)).bind (fun (T15 : Bool) =>
  if T15 = true then (some false)
  else ((if (decide (((R5.2.2.2.length : Nat) : Int) > (64 : Int))) = true then (if (!(decide (R8 = ([])))) = true then ((ssub R8 (64 : Int) (R8.length : Int)).bind fun E27 =>
  (ssub R5.2.2.2 (64 : Int) (R5.2.2.2.length : Int)).bind fun E29 =>
  (impl_ChaStream R5.1 (IntKind.i64.wrap (R5.2.1 + (1 : Int))) R5.2.2.1 E29).bind fun R31 =>
  some (!(decide (E27 = R31))))
  else (some false))
  else (some false)).bind (fun (T23 : Bool) =>
  if T23 = true then (some false)
  else (bindC (loopO (fun (S36 : Int × List UInt8) => if (decide (S36.1 < (32 : Int))) = true then ((app 1 S36.2 ([toU8 S36.1])).bind fun E43 =>
  some (.go (IntKind.i64.wrap (S36.1 + (1 : Int)), E43)))
  else (some (.done (.go S36.2))))
  ((0 : Int), ([] : List UInt8)))
  (fun (T38 : List UInt8) => (impl_ChaBlock T38 (1 : Int) ([0, 0, 0, 9, 0, 0, 0, 74, 0, 0, 0, 0])).bind fun R45 =>
  ((spec_Hex R45).bind fun R50 =>
  if (decide (R50 = ([49, 48, 102, 49, 101, 55, 101, 52, 100, 49, 51, 98, 53, 57, 49, 53, 53, 48, 48, 102, 100, 100, 49, 102, 97, 51, 50, 48, 55, 49, 99, 52, 99, 55, 100, 49, 102, 52, 99, 55, 51, 51, 99, 48, 54, 56, 48, 51, 48, 52, 50, 50, 97, 97, 57, 97, 99, 51, 100, 52, 54, 99, 52, 101, 100, 50, 56, 50, 54, 52, 52, 54, 48, 55, 57, 102, 97, 97, 48, 57, 49, 52, 99, 50, 100, 55, 48, 53, 100, 57, 56, 98, 48, 50, 97, 50, 98, 53, 49, 50, 57, 99, 100, 49, 100, 101, 49, 54, 52, 101, 98, 57, 99, 98, 100, 48, 56, 51, 101, 56, 97, 50, 53, 48, 51, 99, 52, 101]))) = true then ((laws_at code (0 : Int)).bind fun R54 =>
  (impl_NonceOf (3 : Int) R54).bind fun R57 =>
  some (decide (((R57.length : Nat) : Int) = (12 : Int))))
  else (some false)).bind (fun (T48 : Bool) =>
  some T48))))))))

theorem laws_FnCha_con (code : List UInt8) (V_code0 : Value) (r : Bool) (hm : laws_FnCha code = some r) :
    Con Try.prog 4 [V_code0] [] [(V_code0, lc code)] (fun _ : Unit => .bool r) (fun _ => []) := by
  refine Con.intro (args := [V_code0]) (n := 92) (val := fun r (_ : Unit) => .bool r) (post := fun _ _ => []) (m := laws_FnCha code) Try.func4 rfl rfl rfl hm ?_
  intro w S hrd
  have HB_V_code0 := hrd _ (.head _)
  clear hrd
  unfold laws_FnCha
  refine TW.seq ?_
  refine TW.region ?_
  refine TO.y (Y.assign rfl) rfl rfl rfl ?_
  refine TO.nil ?_
  refine TE.next ?_
  refine TW.seq ?_
  refine TW.seq ?_
  refine TW.region ?_
  refine TO.y (Y.move rfl) rfl rfl rfl ?_
  refine TO.bind fun R1 H2 => ?_
  refine TO.ef (Ef.call (rest := []) [] (laws_big_con code V_code0 R1 H2) kc5 rfl rfl ⟨(Base.can HB_V_code0), trivial⟩) rfl rfl rfl (fun _ => ?_)
  refine TO.nil ?_
  refine TE.next ?_
  refine TW.cond rfl (fun H4 => ?_) (fun H4 => ?_)
  · refine TW.seq ?_
    refine TW.region ?_
    refine TO.y (Y.assign rfl) rfl rfl rfl ?_
    refine TO.nil ?_
    refine TE.next ?_
    refine TW.ret ?_
    refine TE.then_ret ?_
    exact TE.leaf fun _ _ hf_ hs_ => ret_any (rs := [.tmp 2]) (vs := [.bool true]) (.inl rfl) rfl ⟨rfl, trivial⟩ hf_ hs_ ⟨(), rfl, hs_.pulls [] rfl⟩
  · refine TW.skip ?_
    refine TE.next ?_
    refine TW.seq ?_
    refine TW.region ?_
    refine TO.y (Y.move rfl) rfl rfl rfl ?_
    refine TO.bind fun R5 H6 => ?_
    refine TO.ef (Ef.call (rest := []) [] (spec_DrawChaStream_con code V_code0 R5 H6) kc12 rfl rfl ⟨(Base.can HB_V_code0), trivial⟩) rfl rfl rfl (fun _ => ?_)
    refine TO.y (Y.move rfl) rfl rfl rfl ?_
    refine TO.y (Y.extract rfl rfl) rfl rfl rfl ?_
    refine TO.y (Y.extract rfl rfl) rfl rfl rfl ?_
    refine TO.y (Y.extract rfl rfl) rfl rfl rfl ?_
    refine TO.y (Y.extract rfl rfl) rfl rfl rfl ?_
    refine TO.y (Y.assign rfl) rfl rfl rfl ?_
    refine TO.y (Y.assign rfl) rfl rfl rfl ?_
    refine TO.y (Y.assign rfl) rfl rfl rfl ?_
    refine TO.y (Y.assign rfl) rfl rfl rfl ?_
    refine TO.nil ?_
    refine TE.next ?_
    refine TW.seq ?_
    refine TW.region ?_
    refine TO.y (Y.move rfl) rfl rfl rfl ?_
    refine TO.y (Y.move rfl) rfl rfl rfl ?_
    refine TO.y (Y.move rfl) rfl rfl rfl ?_
    refine TO.y (Y.move rfl) rfl rfl rfl ?_
    refine TO.bind fun R8 H9 => ?_
    refine TO.ef (Ef.call (rest := []) [] (impl_ChaStream_con R5.1 R5.2.1 R5.2.2.1 R5.2.2.2  R8 H9) kc13 rfl rfl trivial) rfl rfl rfl (fun _ => ?_)
    refine TO.y (Y.assign rfl) rfl rfl rfl ?_
    refine TO.nil ?_
    refine TE.next ?_
    refine TW.seq ?_
    refine TW.seq ?_
    refine TW.region ?_
    refine TO.y (Y.move rfl) rfl rfl rfl ?_
    refine TO.y (Y.move rfl) rfl rfl rfl ?_
    refine TO.y (Y.move rfl) rfl rfl rfl ?_
    refine TO.y (Y.move rfl) rfl rfl rfl ?_
    refine TO.y (Y.move rfl) rfl rfl rfl ?_
    refine TO.bind fun R11 H12 => ?_
    refine TO.ef (Ef.call (rest := []) [] (spec_ChaStream_con R5.1 R5.2.1 R5.2.2.1 R5.2.2.2  R11 H12) kc14 rfl rfl trivial) rfl rfl rfl (fun _ => ?_)
    refine TO.y (Y.sneq rfl rfl) rfl rfl rfl ?_
    refine TO.nil ?_
    refine TE.next ?_
    refine TW.cond rfl (fun H14 => ?_) (fun H14 => ?_)
    · refine TW.seq ?_
      refine TW.region ?_
      refine TO.y (Y.assign rfl) rfl rfl rfl ?_
      refine TO.nil ?_
      refine TE.next ?_
      refine TW.ret ?_
      refine TE.then_ret ?_
      exact TE.leaf fun _ _ hf_ hs_ => ret_any (rs := [.tmp 2]) (vs := [.bool false]) (.inl rfl) rfl ⟨rfl, trivial⟩ hf_ hs_ ⟨(), rfl, hs_.pulls [] rfl⟩
    · refine TW.skip ?_
      refine TE.next ?_
      refine TW.seq ?_
      refine TW.seq ?_
      refine TW.joinBX (τ := Bool) (X := Unit) (fun T _ => [(0, V_code0), (3, strV R5.1), (4, .int .i64 R5.2.1), (5, strV R5.2.2.1), (6, strV R5.2.2.2), (7, strV R8), (49, .bool T)]) (fun _ _ => []) ?_ (fun T15 X16 => ?_)
      · refine TW.region ?_
        refine TO.y (Y.move rfl) rfl rfl rfl ?_
        refine TO.y (Y.sneq rfl rfl) rfl rfl rfl ?_
        refine TO.y (Y.move rfl) rfl rfl rfl ?_
        refine TO.ite (b := !(decide (R8 = ([])))) (fun H17 => ?_) (fun H17 => ?_)
        · refine TO.y (Y.move rfl) (Gd.at 2 true 34 (!(decide (R8 = ([])))) rfl rfl rfl (beq_tt H17)) rfl rfl ?_
          refine TO.y (Y.slen ks9 rfl) (Gd.at 2 true 34 (!(decide (R8 = ([])))) rfl rfl rfl (beq_tt H17)) rfl rfl ?_
          refine TO.y (Y.move rfl) (Gd.at 2 true 34 (!(decide (R8 = ([])))) rfl rfl rfl (beq_tt H17)) rfl rfl ?_
          refine TO.y (Y.slen ks9 rfl) (Gd.at 2 true 34 (!(decide (R8 = ([])))) rfl rfl rfl (beq_tt H17)) rfl rfl ?_
          refine TO.y (Y.neq rfl rfl) (Gd.at 2 true 34 (!(decide (R8 = ([])))) rfl rfl rfl (beq_tt H17)) rfl rfl ?_
          refine TO.y (Y.move rfl) (Gd.at 2 true 34 (!(decide (R8 = ([])))) rfl rfl rfl (beq_tt H17)) rfl rfl ?_
          refine TO.ite (b := !(decide (((R8.length : Nat) : Int) = ((R5.2.2.2.length : Nat) : Int)))) (fun H18 => ?_) (fun H18 => ?_)
          · refine TO.off (Gd.at 8 false 40 (!(decide (((R8.length : Nat) : Int) = ((R5.2.2.2.length : Nat) : Int)))) rfl rfl rfl (beq_tf H18)) rfl rfl ?_
            refine TO.off (Gd.at 8 false 40 (!(decide (((R8.length : Nat) : Int) = ((R5.2.2.2.length : Nat) : Int)))) rfl rfl rfl (beq_tf H18)) rfl rfl ?_
            refine TO.off (Gd.at 8 false 40 (!(decide (((R8.length : Nat) : Int) = ((R5.2.2.2.length : Nat) : Int)))) rfl rfl rfl (beq_tf H18)) rfl rfl ?_
            refine TO.off (Gd.at 8 false 40 (!(decide (((R8.length : Nat) : Int) = ((R5.2.2.2.length : Nat) : Int)))) rfl rfl rfl (beq_tf H18)) rfl rfl ?_
            refine TO.off (Gd.at 8 false 40 (!(decide (((R8.length : Nat) : Int) = ((R5.2.2.2.length : Nat) : Int)))) rfl rfl rfl (beq_tf H18)) rfl rfl ?_
            refine TO.off (Gd.at 8 false 40 (!(decide (((R8.length : Nat) : Int) = ((R5.2.2.2.length : Nat) : Int)))) rfl rfl rfl (beq_tf H18)) rfl rfl ?_
            refine TO.off (Gd.at 8 false 40 (!(decide (((R8.length : Nat) : Int) = ((R5.2.2.2.length : Nat) : Int)))) rfl rfl rfl (beq_tf H18)) rfl rfl ?_
            refine TO.y (Y.pick_t H18 rfl rfl) (Gd.at 2 true 34 (!(decide (R8 = ([])))) rfl rfl rfl (beq_tt H17)) rfl rfl ?_
            refine TO.y (Y.pick_t H17 rfl rfl) rfl rfl rfl ?_
            refine TO.nil ?_
            exact TE.jb_go () [] ⟨rfl, rfl, rfl, rfl, rfl, rfl, rfl, trivial⟩ rfl
          · refine TO.y (Y.move rfl) (Gd.at 8 false 40 (!(decide (((R8.length : Nat) : Int) = ((R5.2.2.2.length : Nat) : Int)))) rfl rfl rfl (beq_ff H18)) rfl rfl ?_
            refine TO.y (Y.move rfl) (Gd.at 8 false 40 (!(decide (((R8.length : Nat) : Int) = ((R5.2.2.2.length : Nat) : Int)))) rfl rfl rfl (beq_ff H18)) rfl rfl ?_
            refine TO.y (Y.move rfl) (Gd.at 8 false 40 (!(decide (((R8.length : Nat) : Int) = ((R5.2.2.2.length : Nat) : Int)))) rfl rfl rfl (beq_ff H18)) rfl rfl ?_
            refine TO.y (Y.move rfl) (Gd.at 8 false 40 (!(decide (((R8.length : Nat) : Int) = ((R5.2.2.2.length : Nat) : Int)))) rfl rfl rfl (beq_ff H18)) rfl rfl ?_
            refine TO.bind fun R19 H20 => ?_
            refine TO.ef (Ef.call (rest := []) [] (impl_ChaStream_con R5.1 R5.2.1 R5.2.2.1 R8  R19 H20) kc13 rfl rfl trivial) (Gd.at 8 false 40 (!(decide (((R8.length : Nat) : Int) = ((R5.2.2.2.length : Nat) : Int)))) rfl rfl rfl (beq_ff H18)) rfl rfl (fun _ => ?_)
            refine TO.y (Y.move rfl) (Gd.at 8 false 40 (!(decide (((R8.length : Nat) : Int) = ((R5.2.2.2.length : Nat) : Int)))) rfl rfl rfl (beq_ff H18)) rfl rfl ?_
            refine TO.y (Y.sneq rfl rfl) (Gd.at 8 false 40 (!(decide (((R8.length : Nat) : Int) = ((R5.2.2.2.length : Nat) : Int)))) rfl rfl rfl (beq_ff H18)) rfl rfl ?_
            refine TO.y (Y.pick_f H18 rfl rfl) (Gd.at 2 true 34 (!(decide (R8 = ([])))) rfl rfl rfl (beq_tt H17)) rfl rfl ?_
            refine TO.y (Y.pick_t H17 rfl rfl) rfl rfl rfl ?_
            refine TO.nil ?_
            exact TE.jb_go () [] ⟨rfl, rfl, rfl, rfl, rfl, rfl, rfl, trivial⟩ rfl
        · refine TO.off (Gd.at 2 true 34 (!(decide (R8 = ([])))) rfl rfl rfl (beq_ft H17)) rfl rfl ?_
          refine TO.off (Gd.at 2 true 34 (!(decide (R8 = ([])))) rfl rfl rfl (beq_ft H17)) rfl rfl ?_
          refine TO.off (Gd.at 2 true 34 (!(decide (R8 = ([])))) rfl rfl rfl (beq_ft H17)) rfl rfl ?_
          refine TO.off (Gd.at 2 true 34 (!(decide (R8 = ([])))) rfl rfl rfl (beq_ft H17)) rfl rfl ?_
          refine TO.off (Gd.at 2 true 34 (!(decide (R8 = ([])))) rfl rfl rfl (beq_ft H17)) rfl rfl ?_
          refine TO.off (Gd.at 2 true 34 (!(decide (R8 = ([])))) rfl rfl rfl (beq_ft H17)) rfl rfl ?_
          refine TO.off (Gd.un 8 false 40 rfl rfl rfl) rfl rfl ?_
          refine TO.off (Gd.un 8 false 40 rfl rfl rfl) rfl rfl ?_
          refine TO.off (Gd.un 8 false 40 rfl rfl rfl) rfl rfl ?_
          refine TO.off (Gd.un 8 false 40 rfl rfl rfl) rfl rfl ?_
          refine TO.off (Gd.un 8 false 40 rfl rfl rfl) rfl rfl ?_
          refine TO.off (Gd.un 8 false 40 rfl rfl rfl) rfl rfl ?_
          refine TO.off (Gd.un 8 false 40 rfl rfl rfl) rfl rfl ?_
          refine TO.off (Gd.at 2 true 34 (!(decide (R8 = ([])))) rfl rfl rfl (beq_ft H17)) rfl rfl ?_
          refine TO.y (Y.pick_f H17 rfl rfl) rfl rfl rfl ?_
          refine TO.nil ?_
          exact TE.jb_go () [] ⟨rfl, rfl, rfl, rfl, rfl, rfl, rfl, trivial⟩ rfl
      · refine TE.next ?_
        refine TW.cond rfl (fun H22 => ?_) (fun H22 => ?_)
        · refine TW.seq ?_
          refine TW.region ?_
          refine TO.y (Y.assign rfl) rfl rfl rfl ?_
          refine TO.nil ?_
          refine TE.next ?_
          refine TW.ret ?_
          refine TE.then_ret ?_
          exact TE.leaf fun _ _ hf_ hs_ => ret_any (rs := [.tmp 2]) (vs := [.bool false]) (.inl rfl) rfl ⟨rfl, trivial⟩ hf_ hs_ ⟨(), rfl, hs_.pulls [] rfl⟩
        · refine TW.skip ?_
          refine TE.next ?_
          refine TW.seq ?_
          refine TW.seq ?_
          refine TW.joinBX (τ := Bool) (X := Unit) (fun T _ => [(0, V_code0), (68, .bool T)]) (fun _ _ => []) ?_ (fun T23 X24 => ?_)
          · refine TW.draw (isH := []) hMix ?_
            refine TA.y (listed' := #[true, false, false, false, false, false, false, false, false, false, false, false, false, false, false, false, false, false, false]) 0 [] rfl (Y.move rfl) rfl rfl rfl (by kernel_rfl) (by kernel_rfl) (by kernel_rfl) rfl rfl ?_
            refine TA.y (listed' := #[true, true, false, false, false, false, false, false, false, false, false, false, false, false, false, false, false, false, false]) 1 [] rfl (Y.slen ks9 rfl) rfl rfl rfl (by kernel_rfl) (by kernel_rfl) (by kernel_rfl) rfl rfl ?_
            refine TA.y (listed' := #[true, true, true, false, false, false, false, false, false, false, false, false, false, false, false, false, false, false, false]) 2 [] rfl (Y.gtr rfl rfl) rfl rfl rfl (by kernel_rfl) (by kernel_rfl) (by kernel_rfl) rfl rfl ?_
            refine TA.y (listed' := #[true, true, true, true, false, false, false, false, false, false, false, false, false, false, false, false, false, false, false]) 3 [] rfl (Y.move rfl) rfl rfl rfl (by kernel_rfl) (by kernel_rfl) (by kernel_rfl) rfl rfl ?_
            refine TA.ite (b := decide (((R5.2.2.2.length : Nat) : Int) > (64 : Int))) (fun H25 => ?_) (fun H25 => ?_)
            · refine TA.y (listed' := #[true, true, true, true, true, false, false, false, false, false, false, false, false, false, false, false, false, false, false]) 4 [] rfl (Y.move rfl) (Gd.at 3 true 53 (decide (((R5.2.2.2.length : Nat) : Int) > (64 : Int))) rfl rfl rfl (beq_tt H25)) rfl rfl (by kernel_rfl) (by kernel_rfl) (by kernel_rfl) rfl rfl ?_
              refine TA.y (listed' := #[true, true, true, true, true, true, false, false, false, false, false, false, false, false, false, false, false, false, false]) 5 [] rfl (Y.sneq rfl rfl) (Gd.at 3 true 53 (decide (((R5.2.2.2.length : Nat) : Int) > (64 : Int))) rfl rfl rfl (beq_tt H25)) rfl rfl (by kernel_rfl) (by kernel_rfl) (by kernel_rfl) rfl rfl ?_
              refine TA.y (listed' := #[true, true, true, true, true, true, true, false, false, false, false, false, false, false, false, false, false, false, false]) 6 [] rfl (Y.pick_t H25 rfl rfl) rfl rfl rfl (by kernel_rfl) (by kernel_rfl) (by kernel_rfl) rfl rfl ?_
              refine TA.y (listed' := #[true, true, true, true, true, true, true, true, false, false, false, false, false, false, false, false, false, false, false]) 7 [] rfl (Y.move rfl) rfl rfl rfl (by kernel_rfl) (by kernel_rfl) (by kernel_rfl) rfl rfl ?_
              refine TA.ite (b := !(decide (R8 = ([])))) (fun H26 => ?_) (fun H26 => ?_)
              · refine TA.y (listed' := #[true, true, true, true, true, true, true, true, true, false, false, false, false, false, false, false, false, false, false]) 8 [] rfl (Y.move rfl) (Gd.at 7 true 57 (!(decide (R8 = ([])))) rfl rfl rfl (beq_tt H26)) rfl rfl (by kernel_rfl) (by kernel_rfl) (by kernel_rfl) rfl rfl ?_
                refine TA.bind fun E27 H28 => ?_
                refine TA.y (listed' := #[true, true, true, true, true, true, true, true, true, true, false, false, false, false, false, false, false, false, false]) 9 [] rfl (Y.ssub_from H28 ks9 rfl rfl) (Gd.at 7 true 57 (!(decide (R8 = ([])))) rfl rfl rfl (beq_tt H26)) rfl rfl (by kernel_rfl) (by kernel_rfl) (by kernel_rfl) rfl rfl ?_
                refine TA.y (listed' := #[true, true, true, true, true, true, true, true, true, true, true, false, false, false, false, false, false, false, false]) 10 [] rfl (Y.move rfl) (Gd.at 7 true 57 (!(decide (R8 = ([])))) rfl rfl rfl (beq_tt H26)) rfl rfl (by kernel_rfl) (by kernel_rfl) (by kernel_rfl) rfl rfl ?_
                refine TA.y (listed' := #[true, true, true, true, true, true, true, true, true, true, true, true, false, false, false, false, false, false, false]) 11 [] rfl (Y.move rfl) (Gd.at 7 true 57 (!(decide (R8 = ([])))) rfl rfl rfl (beq_tt H26)) rfl rfl (by kernel_rfl) (by kernel_rfl) (by kernel_rfl) rfl rfl ?_
                refine TA.y (listed' := #[true, true, true, true, true, true, true, true, true, true, true, true, true, false, false, false, false, false, false]) 12 [] rfl (Y.add rfl rfl) (Gd.at 7 true 57 (!(decide (R8 = ([])))) rfl rfl rfl (beq_tt H26)) rfl rfl (by kernel_rfl) (by kernel_rfl) (by kernel_rfl) rfl rfl ?_
                refine TA.y (listed' := #[true, true, true, true, true, true, true, true, true, true, true, true, true, true, false, false, false, false, false]) 13 [] rfl (Y.move rfl) (Gd.at 7 true 57 (!(decide (R8 = ([])))) rfl rfl rfl (beq_tt H26)) rfl rfl (by kernel_rfl) (by kernel_rfl) (by kernel_rfl) rfl rfl ?_
                refine TA.y (listed' := #[true, true, true, true, true, true, true, true, true, true, true, true, true, true, true, false, false, false, false]) 14 [] rfl (Y.move rfl) (Gd.at 7 true 57 (!(decide (R8 = ([])))) rfl rfl rfl (beq_tt H26)) rfl rfl (by kernel_rfl) (by kernel_rfl) (by kernel_rfl) rfl rfl ?_
                refine TA.bind fun E29 H30 => ?_
                refine TA.y (listed' := #[true, true, true, true, true, true, true, true, true, true, true, true, true, true, true, true, false, false, false]) 15 [] rfl (Y.ssub_from H30 ks9 rfl rfl) (Gd.at 7 true 57 (!(decide (R8 = ([])))) rfl rfl rfl (beq_tt H26)) rfl rfl (by kernel_rfl) (by kernel_rfl) (by kernel_rfl) rfl rfl ?_
                refine TA.bind fun R31 H32 => ?_
                refine TA.one 16 (by kernel_rfl) ?_
                refine TX.ef (listed' := #[true, true, true, true, true, true, true, true, true, true, true, true, true, true, true, true, true, false, false]) [] rfl (Ef.call (rest := []) [] (impl_ChaStream_con R5.1 (IntKind.i64.wrap (R5.2.1 + (1 : Int))) R5.2.2.1 E29  R31 H32) kc13 rfl rfl trivial) (Gd.at 7 true 57 (!(decide (R8 = ([])))) rfl rfl rfl (beq_tt H26)) rfl rfl rfl (fun _ => rfl) (fun _ => ?_)
                refine TA.y (listed' := #[true, true, true, true, true, true, true, true, true, true, true, true, true, true, true, true, true, true, false]) 17 [] rfl (Y.sneq rfl rfl) (Gd.at 7 true 57 (!(decide (R8 = ([])))) rfl rfl rfl (beq_tt H26)) rfl rfl (by kernel_rfl) (by kernel_rfl) (by kernel_rfl) rfl rfl ?_
                refine TA.y (listed' := #[true, true, true, true, true, true, true, true, true, true, true, true, true, true, true, true, true, true, true]) 18 [] rfl (Y.pick_t H26 rfl rfl) rfl rfl rfl (by kernel_rfl) (by kernel_rfl) (by kernel_rfl) rfl rfl ?_
                refine TA.nil (by kernel_rfl) ?_
                exact TE.jb_go () [] ⟨rfl, rfl, trivial⟩ rfl
              · refine TA.off (listed' := #[true, true, true, true, true, true, true, true, true, false, false, false, false, false, false, false, false, false, false]) 8 [] rfl (Gd.at 7 true 57 (!(decide (R8 = ([])))) rfl rfl rfl (beq_ft H26)) rfl rfl (by kernel_rfl) (by kernel_rfl) (by kernel_rfl) rfl rfl ?_
                refine TA.off (listed' := #[true, true, true, true, true, true, true, true, true, true, false, false, false, false, false, false, false, false, false]) 9 [] rfl (Gd.at 7 true 57 (!(decide (R8 = ([])))) rfl rfl rfl (beq_ft H26)) rfl rfl (by kernel_rfl) (by kernel_rfl) (by kernel_rfl) rfl rfl ?_
                refine TA.off (listed' := #[true, true, true, true, true, true, true, true, true, true, true, false, false, false, false, false, false, false, false]) 10 [] rfl (Gd.at 7 true 57 (!(decide (R8 = ([])))) rfl rfl rfl (beq_ft H26)) rfl rfl (by kernel_rfl) (by kernel_rfl) (by kernel_rfl) rfl rfl ?_
                refine TA.off (listed' := #[true, true, true, true, true, true, true, true, true, true, true, true, false, false, false, false, false, false, false]) 11 [] rfl (Gd.at 7 true 57 (!(decide (R8 = ([])))) rfl rfl rfl (beq_ft H26)) rfl rfl (by kernel_rfl) (by kernel_rfl) (by kernel_rfl) rfl rfl ?_
                refine TA.off (listed' := #[true, true, true, true, true, true, true, true, true, true, true, true, true, false, false, false, false, false, false]) 12 [] rfl (Gd.at 7 true 57 (!(decide (R8 = ([])))) rfl rfl rfl (beq_ft H26)) rfl rfl (by kernel_rfl) (by kernel_rfl) (by kernel_rfl) rfl rfl ?_
                refine TA.off (listed' := #[true, true, true, true, true, true, true, true, true, true, true, true, true, true, false, false, false, false, false]) 13 [] rfl (Gd.at 7 true 57 (!(decide (R8 = ([])))) rfl rfl rfl (beq_ft H26)) rfl rfl (by kernel_rfl) (by kernel_rfl) (by kernel_rfl) rfl rfl ?_
                refine TA.off (listed' := #[true, true, true, true, true, true, true, true, true, true, true, true, true, true, true, false, false, false, false]) 14 [] rfl (Gd.at 7 true 57 (!(decide (R8 = ([])))) rfl rfl rfl (beq_ft H26)) rfl rfl (by kernel_rfl) (by kernel_rfl) (by kernel_rfl) rfl rfl ?_
                refine TA.off (listed' := #[true, true, true, true, true, true, true, true, true, true, true, true, true, true, true, true, false, false, false]) 15 [] rfl (Gd.at 7 true 57 (!(decide (R8 = ([])))) rfl rfl rfl (beq_ft H26)) rfl rfl (by kernel_rfl) (by kernel_rfl) (by kernel_rfl) rfl rfl ?_
                refine TA.off (listed' := #[true, true, true, true, true, true, true, true, true, true, true, true, true, true, true, true, true, false, false]) 16 [] rfl (Gd.at 7 true 57 (!(decide (R8 = ([])))) rfl rfl rfl (beq_ft H26)) rfl rfl (by kernel_rfl) (by kernel_rfl) (by kernel_rfl) rfl rfl ?_
                refine TA.off (listed' := #[true, true, true, true, true, true, true, true, true, true, true, true, true, true, true, true, true, true, false]) 17 [] rfl (Gd.at 7 true 57 (!(decide (R8 = ([])))) rfl rfl rfl (beq_ft H26)) rfl rfl (by kernel_rfl) (by kernel_rfl) (by kernel_rfl) rfl rfl ?_
                refine TA.y (listed' := #[true, true, true, true, true, true, true, true, true, true, true, true, true, true, true, true, true, true, true]) 18 [] rfl (Y.pick_f H26 rfl rfl) rfl rfl rfl (by kernel_rfl) (by kernel_rfl) (by kernel_rfl) rfl rfl ?_
                refine TA.nil (by kernel_rfl) ?_
                exact TE.jb_go () [] ⟨rfl, rfl, trivial⟩ rfl
            · refine TA.off (listed' := #[true, true, true, true, true, false, false, false, false, false, false, false, false, false, false, false, false, false, false]) 4 [] rfl (Gd.at 3 true 53 (decide (((R5.2.2.2.length : Nat) : Int) > (64 : Int))) rfl rfl rfl (beq_ft H25)) rfl rfl (by kernel_rfl) (by kernel_rfl) (by kernel_rfl) rfl rfl ?_
              refine TA.off (listed' := #[true, true, true, true, true, true, false, false, false, false, false, false, false, false, false, false, false, false, false]) 5 [] rfl (Gd.at 3 true 53 (decide (((R5.2.2.2.length : Nat) : Int) > (64 : Int))) rfl rfl rfl (beq_ft H25)) rfl rfl (by kernel_rfl) (by kernel_rfl) (by kernel_rfl) rfl rfl ?_
              refine TA.y (listed' := #[true, true, true, true, true, true, true, false, false, false, false, false, false, false, false, false, false, false, false]) 6 [] rfl (Y.pick_f H25 rfl rfl) rfl rfl rfl (by kernel_rfl) (by kernel_rfl) (by kernel_rfl) rfl rfl ?_
              refine TA.y (listed' := #[true, true, true, true, true, true, true, true, false, false, false, false, false, false, false, false, false, false, false]) 7 [] rfl (Y.move rfl) rfl rfl rfl (by kernel_rfl) (by kernel_rfl) (by kernel_rfl) rfl rfl ?_
              refine TA.off (listed' := #[true, true, true, true, true, true, true, true, true, false, false, false, false, false, false, false, false, false, false]) 8 [] rfl (Gd.at 7 true 57 false rfl rfl rfl rfl) rfl rfl (by kernel_rfl) (by kernel_rfl) (by kernel_rfl) rfl rfl ?_
              refine TA.off (listed' := #[true, true, true, true, true, true, true, true, true, true, false, false, false, false, false, false, false, false, false]) 9 [] rfl (Gd.at 7 true 57 false rfl rfl rfl rfl) rfl rfl (by kernel_rfl) (by kernel_rfl) (by kernel_rfl) rfl rfl ?_
              refine TA.off (listed' := #[true, true, true, true, true, true, true, true, true, true, true, false, false, false, false, false, false, false, false]) 10 [] rfl (Gd.at 7 true 57 false rfl rfl rfl rfl) rfl rfl (by kernel_rfl) (by kernel_rfl) (by kernel_rfl) rfl rfl ?_
              refine TA.off (listed' := #[true, true, true, true, true, true, true, true, true, true, true, true, false, false, false, false, false, false, false]) 11 [] rfl (Gd.at 7 true 57 false rfl rfl rfl rfl) rfl rfl (by kernel_rfl) (by kernel_rfl) (by kernel_rfl) rfl rfl ?_
              refine TA.off (listed' := #[true, true, true, true, true, true, true, true, true, true, true, true, true, false, false, false, false, false, false]) 12 [] rfl (Gd.at 7 true 57 false rfl rfl rfl rfl) rfl rfl (by kernel_rfl) (by kernel_rfl) (by kernel_rfl) rfl rfl ?_
              refine TA.off (listed' := #[true, true, true, true, true, true, true, true, true, true, true, true, true, true, false, false, false, false, false]) 13 [] rfl (Gd.at 7 true 57 false rfl rfl rfl rfl) rfl rfl (by kernel_rfl) (by kernel_rfl) (by kernel_rfl) rfl rfl ?_
              refine TA.off (listed' := #[true, true, true, true, true, true, true, true, true, true, true, true, true, true, true, false, false, false, false]) 14 [] rfl (Gd.at 7 true 57 false rfl rfl rfl rfl) rfl rfl (by kernel_rfl) (by kernel_rfl) (by kernel_rfl) rfl rfl ?_
              refine TA.off (listed' := #[true, true, true, true, true, true, true, true, true, true, true, true, true, true, true, true, false, false, false]) 15 [] rfl (Gd.at 7 true 57 false rfl rfl rfl rfl) rfl rfl (by kernel_rfl) (by kernel_rfl) (by kernel_rfl) rfl rfl ?_
              refine TA.off (listed' := #[true, true, true, true, true, true, true, true, true, true, true, true, true, true, true, true, true, false, false]) 16 [] rfl (Gd.at 7 true 57 false rfl rfl rfl rfl) rfl rfl (by kernel_rfl) (by kernel_rfl) (by kernel_rfl) rfl rfl ?_
              refine TA.off (listed' := #[true, true, true, true, true, true, true, true, true, true, true, true, true, true, true, true, true, true, false]) 17 [] rfl (Gd.at 7 true 57 false rfl rfl rfl rfl) rfl rfl (by kernel_rfl) (by kernel_rfl) (by kernel_rfl) rfl rfl ?_
              refine TA.y (listed' := #[true, true, true, true, true, true, true, true, true, true, true, true, true, true, true, true, true, true, true]) 18 [] rfl (Y.pick_f rfl rfl rfl) rfl rfl rfl (by kernel_rfl) (by kernel_rfl) (by kernel_rfl) rfl rfl ?_
              refine TA.nil (by kernel_rfl) ?_
              exact TE.jb_go () [] ⟨rfl, rfl, trivial⟩ rfl
          · refine TE.next ?_
            refine TW.cond rfl (fun H34 => ?_) (fun H34 => ?_)
            · refine TW.seq ?_
              refine TW.region ?_
              refine TO.y (Y.assign rfl) rfl rfl rfl ?_
              refine TO.nil ?_
              refine TE.next ?_
              refine TW.ret ?_
              refine TE.then_ret ?_
              exact TE.leaf fun _ _ hf_ hs_ => ret_any (rs := [.tmp 2]) (vs := [.bool false]) (.inl rfl) rfl ⟨rfl, trivial⟩ hf_ hs_ ⟨(), rfl, hs_.pulls [] rfl⟩
            · refine TW.skip ?_
              refine TE.next ?_
              refine TW.seq ?_
              refine TW.region ?_
              refine TO.ef (Ef.buildSlice (α := UInt8) (Vs := []) ([] : List UInt8) ke22 kz5 rfl rfl rfl rfl rfl) rfl rfl rfl (fun B35 => ?_)
              refine TO.y (Y.assign rfl) rfl rfl rfl ?_
              refine TO.nil ?_
              refine TE.next ?_
              refine TW.seq ?_
              refine TW.seq ?_
              refine TW.region ?_
              refine TO.y (Y.assign rfl) rfl rfl rfl ?_
              refine TO.nil ?_
              refine TE.next ?_
              refine TW.joinX (τ := List UInt8) (X := Value) (fun _ X => [(0, V_code0), (8, X)]) (fun T X => [.own X (lc T)]) ?_ (fun T38 X39 => ?_)
              · refine TW.block ?_
                refine TW.loopX (σ := Int × List UInt8) (X := Value) (fun T X => [(0, V_code0), (8, X), (9, .int .i64 T.1)]) (fun T X => [.own X (lc T.2)]) (.slice (some ⟨B35, 0, none⟩) 0 0) [0] ⟨rfl, rfl, rfl, trivial⟩ rfl (fun S36 X37 => ?_)
                refine TW.seq ?_
                refine TW.seq ?_
                refine TW.region ?_
                refine TO.y (Y.move rfl) rfl rfl rfl ?_
                refine TO.y (Y.lss rfl rfl) rfl rfl rfl ?_
                refine TO.nil ?_
                refine TE.next ?_
                refine TW.cond rfl (fun H40 => ?_) (fun H40 => ?_)
                · refine TW.skip ?_
                  refine TE.next ?_
                  refine TW.seq ?_
                  refine TW.block ?_
                  refine TW.region ?_
                  refine TO.y (Y.move rfl) rfl rfl rfl ?_
                  refine TO.y (Y.move rfl) rfl rfl rfl ?_
                  refine TO.y (Y.conv8 ki3 ki5 rfl) rfl rfl rfl ?_
                  refine TO.ef (Ef.buildSlice (α := UInt8) (Vs := [.int .u8 (((toU8 S36.1).toNat : Nat) : Int)]) [toU8 S36.1] ke22 kz5 rfl rfl rfl rfl rfl) rfl rfl rfl (fun B41 => ?_)
                  refine TO.bind fun E43 H44 => ?_
                  refine TO.ef (Ef.append (α := UInt8) (is' := [.own (.slice (some ⟨B41, 0, none⟩) 1 1) (lc ([toU8 S36.1]))]) [1, 0] H44 ke22 kz5 rfl rfl rfl rfl rfl (Can.own 0 rfl)) rfl rfl rfl (fun V42 => ?_)
                  refine TO.y (Y.assign rfl) rfl rfl rfl ?_
                  refine TO.nil ?_
                  refine TE.block_normal ?_
                  refine TE.next ?_
                  refine TW.region ?_
                  refine TO.y (Y.move rfl) rfl rfl rfl ?_
                  refine TO.y (Y.add rfl rfl) rfl rfl rfl ?_
                  refine TO.y (Y.assign rfl) rfl rfl rfl ?_
                  refine TO.nil ?_
                  exact TE.lp_go V42 [0] ⟨rfl, rfl, rfl, trivial⟩ rfl
                · refine TW.exit ?_
                  refine TE.then_exit ?_
                  refine TE.lp_exit ?_
                  refine TE.block_exit ?_
                  exact TE.jn_go X37 [0] ⟨rfl, rfl, trivial⟩ rfl
              · refine TE.next ?_
                refine TW.seq ?_
                refine TW.region ?_
                refine TO.y (Y.move rfl) rfl rfl rfl ?_
                refine TO.y (Y.toStr ke22 ki5 ks9 (Can.own 0 rfl) rfl) rfl rfl rfl ?_
                refine TO.bind fun R45 H46 => ?_
                refine TO.ef (Ef.call (rest := [.own X39 (lc T38)]) [0] (impl_ChaBlock_con T38 (1 : Int) ([0, 0, 0, 9, 0, 0, 0, 74, 0, 0, 0, 0])  R45 H46) kc15 rfl rfl trivial) rfl rfl rfl (fun _ => ?_)
                refine TO.y (Y.assign rfl) rfl rfl rfl ?_
                refine TO.nil ?_
                refine TE.next ?_
                refine TW.seq ?_
                refine TW.joinBX (τ := Bool) (X := Unit) (fun T _ => [(2, .bool T)]) (fun _ _ => []) ?_ (fun T48 X49 => ?_)
                · refine TW.region ?_
                  refine TO.y (Y.move rfl) rfl rfl rfl ?_
                  refine TO.bind fun R50 H51 => ?_
                  refine TO.ef (Ef.call (rest := [.own X39 (lc T38)]) [0] (spec_Hex_con R45  R50 H51) kc16 rfl rfl trivial) rfl rfl rfl (fun _ => ?_)
                  refine TO.y (Y.seql rfl rfl) rfl rfl rfl ?_
                  refine TO.y (Y.move rfl) rfl rfl rfl ?_
                  refine TO.ite (b := decide (R50 = ([49, 48, 102, 49, 101, 55, 101, 52, 100, 49, 51, 98, 53, 57, 49, 53, 53, 48, 48, 102, 100, 100, 49, 102, 97, 51, 50, 48, 55, 49, 99, 52, 99, 55, 100, 49, 102, 52, 99, 55, 51, 51, 99, 48, 54, 56, 48, 51, 48, 52, 50, 50, 97, 97, 57, 97, 99, 51, 100, 52, 54, 99, 52, 101, 100, 50, 56, 50, 54, 52, 52, 54, 48, 55, 57, 102, 97, 97, 48, 57, 49, 52, 99, 50, 100, 55, 48, 53, 100, 57, 56, 98, 48, 50, 97, 50, 98, 53, 49, 50, 57, 99, 100, 49, 100, 101, 49, 54, 52, 101, 98, 57, 99, 98, 100, 48, 56, 51, 101, 56, 97, 50, 53, 48, 51, 99, 52, 101]))) (fun H53 => ?_) (fun H53 => ?_)
                  · refine TO.y (Y.move rfl) (Gd.at 3 true 85 (decide (R50 = ([49, 48, 102, 49, 101, 55, 101, 52, 100, 49, 51, 98, 53, 57, 49, 53, 53, 48, 48, 102, 100, 100, 49, 102, 97, 51, 50, 48, 55, 49, 99, 52, 99, 55, 100, 49, 102, 52, 99, 55, 51, 51, 99, 48, 54, 56, 48, 51, 48, 52, 50, 50, 97, 97, 57, 97, 99, 51, 100, 52, 54, 99, 52, 101, 100, 50, 56, 50, 54, 52, 52, 54, 48, 55, 57, 102, 97, 97, 48, 57, 49, 52, 99, 50, 100, 55, 48, 53, 100, 57, 56, 98, 48, 50, 97, 50, 98, 53, 49, 50, 57, 99, 100, 49, 100, 101, 49, 54, 52, 101, 98, 57, 99, 98, 100, 48, 56, 51, 101, 56, 97, 50, 53, 48, 51, 99, 52, 101]))) rfl rfl rfl (beq_tt H53)) rfl rfl ?_
                    refine TO.bind fun R54 H55 => ?_
                    refine TO.ef (Ef.call (rest := [.own X39 (lc T38)]) [0] (laws_at_con code (0 : Int) V_code0 R54 H55) kc9 rfl rfl ⟨(Base.can HB_V_code0), trivial⟩) (Gd.at 3 true 85 (decide (R50 = ([49, 48, 102, 49, 101, 55, 101, 52, 100, 49, 51, 98, 53, 57, 49, 53, 53, 48, 48, 102, 100, 100, 49, 102, 97, 51, 50, 48, 55, 49, 99, 52, 99, 55, 100, 49, 102, 52, 99, 55, 51, 51, 99, 48, 54, 56, 48, 51, 48, 52, 50, 50, 97, 97, 57, 97, 99, 51, 100, 52, 54, 99, 52, 101, 100, 50, 56, 50, 54, 52, 52, 54, 48, 55, 57, 102, 97, 97, 48, 57, 49, 52, 99, 50, 100, 55, 48, 53, 100, 57, 56, 98, 48, 50, 97, 50, 98, 53, 49, 50, 57, 99, 100, 49, 100, 101, 49, 54, 52, 101, 98, 57, 99, 98, 100, 48, 56, 51, 101, 56, 97, 50, 53, 48, 51, 99, 52, 101]))) rfl rfl rfl (beq_tt H53)) rfl rfl (fun _ => ?_)
                    refine TO.bind fun R57 H58 => ?_
                    refine TO.ef (Ef.call (rest := [.own X39 (lc T38)]) [0] (impl_NonceOf_con (3 : Int) R54  R57 H58) kc17 rfl rfl trivial) (Gd.at 3 true 85 (decide (R50 = ([49, 48, 102, 49, 101, 55, 101, 52, 100, 49, 51, 98, 53, 57, 49, 53, 53, 48, 48, 102, 100, 100, 49, 102, 97, 51, 50, 48, 55, 49, 99, 52, 99, 55, 100, 49, 102, 52, 99, 55, 51, 51, 99, 48, 54, 56, 48, 51, 48, 52, 50, 50, 97, 97, 57, 97, 99, 51, 100, 52, 54, 99, 52, 101, 100, 50, 56, 50, 54, 52, 52, 54, 48, 55, 57, 102, 97, 97, 48, 57, 49, 52, 99, 50, 100, 55, 48, 53, 100, 57, 56, 98, 48, 50, 97, 50, 98, 53, 49, 50, 57, 99, 100, 49, 100, 101, 49, 54, 52, 101, 98, 57, 99, 98, 100, 48, 56, 51, 101, 56, 97, 50, 53, 48, 51, 99, 52, 101]))) rfl rfl rfl (beq_tt H53)) rfl rfl (fun _ => ?_)
                    refine TO.y (Y.slen ks9 rfl) (Gd.at 3 true 85 (decide (R50 = ([49, 48, 102, 49, 101, 55, 101, 52, 100, 49, 51, 98, 53, 57, 49, 53, 53, 48, 48, 102, 100, 100, 49, 102, 97, 51, 50, 48, 55, 49, 99, 52, 99, 55, 100, 49, 102, 52, 99, 55, 51, 51, 99, 48, 54, 56, 48, 51, 48, 52, 50, 50, 97, 97, 57, 97, 99, 51, 100, 52, 54, 99, 52, 101, 100, 50, 56, 50, 54, 52, 52, 54, 48, 55, 57, 102, 97, 97, 48, 57, 49, 52, 99, 50, 100, 55, 48, 53, 100, 57, 56, 98, 48, 50, 97, 50, 98, 53, 49, 50, 57, 99, 100, 49, 100, 101, 49, 54, 52, 101, 98, 57, 99, 98, 100, 48, 56, 51, 101, 56, 97, 50, 53, 48, 51, 99, 52, 101]))) rfl rfl rfl (beq_tt H53)) rfl rfl ?_
                    refine TO.y (Y.eql rfl rfl) (Gd.at 3 true 85 (decide (R50 = ([49, 48, 102, 49, 101, 55, 101, 52, 100, 49, 51, 98, 53, 57, 49, 53, 53, 48, 48, 102, 100, 100, 49, 102, 97, 51, 50, 48, 55, 49, 99, 52, 99, 55, 100, 49, 102, 52, 99, 55, 51, 51, 99, 48, 54, 56, 48, 51, 48, 52, 50, 50, 97, 97, 57, 97, 99, 51, 100, 52, 54, 99, 52, 101, 100, 50, 56, 50, 54, 52, 52, 54, 48, 55, 57, 102, 97, 97, 48, 57, 49, 52, 99, 50, 100, 55, 48, 53, 100, 57, 56, 98, 48, 50, 97, 50, 98, 53, 49, 50, 57, 99, 100, 49, 100, 101, 49, 54, 52, 101, 98, 57, 99, 98, 100, 48, 56, 51, 101, 56, 97, 50, 53, 48, 51, 99, 52, 101]))) rfl rfl rfl (beq_tt H53)) rfl rfl ?_
                    refine TO.y (Y.pick_t H53 rfl rfl) rfl rfl rfl ?_
                    refine TO.y (Y.assign rfl) rfl rfl rfl ?_
                    refine TO.nil ?_
                    exact TE.jb_go () [] ⟨rfl, trivial⟩ rfl
                  · refine TO.off (Gd.at 3 true 85 (decide (R50 = ([49, 48, 102, 49, 101, 55, 101, 52, 100, 49, 51, 98, 53, 57, 49, 53, 53, 48, 48, 102, 100, 100, 49, 102, 97, 51, 50, 48, 55, 49, 99, 52, 99, 55, 100, 49, 102, 52, 99, 55, 51, 51, 99, 48, 54, 56, 48, 51, 48, 52, 50, 50, 97, 97, 57, 97, 99, 51, 100, 52, 54, 99, 52, 101, 100, 50, 56, 50, 54, 52, 52, 54, 48, 55, 57, 102, 97, 97, 48, 57, 49, 52, 99, 50, 100, 55, 48, 53, 100, 57, 56, 98, 48, 50, 97, 50, 98, 53, 49, 50, 57, 99, 100, 49, 100, 101, 49, 54, 52, 101, 98, 57, 99, 98, 100, 48, 56, 51, 101, 56, 97, 50, 53, 48, 51, 99, 52, 101]))) rfl rfl rfl (beq_ft H53)) rfl rfl ?_
                    refine TO.off (Gd.at 3 true 85 (decide (R50 = ([49, 48, 102, 49, 101, 55, 101, 52, 100, 49, 51, 98, 53, 57, 49, 53, 53, 48, 48, 102, 100, 100, 49, 102, 97, 51, 50, 48, 55, 49, 99, 52, 99, 55, 100, 49, 102, 52, 99, 55, 51, 51, 99, 48, 54, 56, 48, 51, 48, 52, 50, 50, 97, 97, 57, 97, 99, 51, 100, 52, 54, 99, 52, 101, 100, 50, 56, 50, 54, 52, 52, 54, 48, 55, 57, 102, 97, 97, 48, 57, 49, 52, 99, 50, 100, 55, 48, 53, 100, 57, 56, 98, 48, 50, 97, 50, 98, 53, 49, 50, 57, 99, 100, 49, 100, 101, 49, 54, 52, 101, 98, 57, 99, 98, 100, 48, 56, 51, 101, 56, 97, 50, 53, 48, 51, 99, 52, 101]))) rfl rfl rfl (beq_ft H53)) rfl rfl ?_
                    refine TO.off (Gd.at 3 true 85 (decide (R50 = ([49, 48, 102, 49, 101, 55, 101, 52, 100, 49, 51, 98, 53, 57, 49, 53, 53, 48, 48, 102, 100, 100, 49, 102, 97, 51, 50, 48, 55, 49, 99, 52, 99, 55, 100, 49, 102, 52, 99, 55, 51, 51, 99, 48, 54, 56, 48, 51, 48, 52, 50, 50, 97, 97, 57, 97, 99, 51, 100, 52, 54, 99, 52, 101, 100, 50, 56, 50, 54, 52, 52, 54, 48, 55, 57, 102, 97, 97, 48, 57, 49, 52, 99, 50, 100, 55, 48, 53, 100, 57, 56, 98, 48, 50, 97, 50, 98, 53, 49, 50, 57, 99, 100, 49, 100, 101, 49, 54, 52, 101, 98, 57, 99, 98, 100, 48, 56, 51, 101, 56, 97, 50, 53, 48, 51, 99, 52, 101]))) rfl rfl rfl (beq_ft H53)) rfl rfl ?_
                    refine TO.off (Gd.at 3 true 85 (decide (R50 = ([49, 48, 102, 49, 101, 55, 101, 52, 100, 49, 51, 98, 53, 57, 49, 53, 53, 48, 48, 102, 100, 100, 49, 102, 97, 51, 50, 48, 55, 49, 99, 52, 99, 55, 100, 49, 102, 52, 99, 55, 51, 51, 99, 48, 54, 56, 48, 51, 48, 52, 50, 50, 97, 97, 57, 97, 99, 51, 100, 52, 54, 99, 52, 101, 100, 50, 56, 50, 54, 52, 52, 54, 48, 55, 57, 102, 97, 97, 48, 57, 49, 52, 99, 50, 100, 55, 48, 53, 100, 57, 56, 98, 48, 50, 97, 50, 98, 53, 49, 50, 57, 99, 100, 49, 100, 101, 49, 54, 52, 101, 98, 57, 99, 98, 100, 48, 56, 51, 101, 56, 97, 50, 53, 48, 51, 99, 52, 101]))) rfl rfl rfl (beq_ft H53)) rfl rfl ?_
                    refine TO.off (Gd.at 3 true 85 (decide (R50 = ([49, 48, 102, 49, 101, 55, 101, 52, 100, 49, 51, 98, 53, 57, 49, 53, 53, 48, 48, 102, 100, 100, 49, 102, 97, 51, 50, 48, 55, 49, 99, 52, 99, 55, 100, 49, 102, 52, 99, 55, 51, 51, 99, 48, 54, 56, 48, 51, 48, 52, 50, 50, 97, 97, 57, 97, 99, 51, 100, 52, 54, 99, 52, 101, 100, 50, 56, 50, 54, 52, 52, 54, 48, 55, 57, 102, 97, 97, 48, 57, 49, 52, 99, 50, 100, 55, 48, 53, 100, 57, 56, 98, 48, 50, 97, 50, 98, 53, 49, 50, 57, 99, 100, 49, 100, 101, 49, 54, 52, 101, 98, 57, 99, 98, 100, 48, 56, 51, 101, 56, 97, 50, 53, 48, 51, 99, 52, 101]))) rfl rfl rfl (beq_ft H53)) rfl rfl ?_
                    refine TO.y (Y.pick_f H53 rfl rfl) rfl rfl rfl ?_
                    refine TO.y (Y.assign rfl) rfl rfl rfl ?_
                    refine TO.nil ?_
                    exact TE.jb_go () [] ⟨rfl, trivial⟩ rfl
                · refine TE.next ?_
                  refine TW.ret ?_
                  exact TE.leaf fun _ _ hf_ hs_ => ret_any (rs := [.tmp 2]) (vs := [.bool T48]) (.inl rfl) rfl ⟨rfl, trivial⟩ hf_ hs_ ⟨(), rfl, hs_.pulls [] rfl⟩

end Go.Proofs.Ytbocplhlbbhblaa
