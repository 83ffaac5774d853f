/-
  The functions that a law reaches, each as a pure function, with the proof that the program computes it, and the step from a pure law to the given statement. Conditions: none.
-/
import Derived.Test.YtbocplhlbbhblaaY2
set_option linter.unusedVariables false
set_option maxRecDepth 100000
set_option maxHeartbeats 4000000
namespace Go.Proofs.Ytbocplhlbbhblaa
open Go Sl

/-- loop.example/g00950/spec.l1Spoil -/
noncomputable def spec_l1Spoil (c : L1Cur) (s : List UInt8) : Option (List UInt8 × L1Cur) :=
  if (decide (((s.length : Nat) : Int) = (0 : Int))) = true then ((spec_l1Text c (3 : Int)).bind fun R2 =>
  some (R2.1, { b := c.b, i := R2.2.i, h := R2.2.h : L1Cur }))
  else ((spec_l1Below c ((s.length : Nat) : Int)).bind fun R5 =>
  (spec_l1Below ({ b := c.b, i := R5.2.i, h := R5.2.h : L1Cur }) (4 : Int)).bind fun R8 =>
  if (decide (R8.1 = (0 : Int))) = true then ((ssub s 0 R5.1).bind fun E12 =>
  (ssub s (IntKind.i64.wrap (R5.1 + (1 : Int))) (s.length : Int)).bind fun E14 =>
  (cat E12 E14).bind fun E16 =>
  some (E16, { b := c.b, i := R8.2.i, h := R8.2.h : L1Cur }))
  else (if (decide (R8.1 = (1 : Int))) = true then ((ssub s 0 R5.1).bind fun E19 =>
  (ssub s R5.1 (s.length : Int)).bind fun E21 =>
  (spec_l1Byte ({ b := c.b, i := R8.2.i, h := R8.2.h : L1Cur })).bind fun R23 =>
  (cat E19 ([toU8 R23.1])).bind fun E27 =>
  (cat E27 E21).bind fun E29 =>
  some (E29, { b := c.b, i := R23.2.i, h := R23.2.h : L1Cur }))
  else (if (decide (R8.1 = (2 : Int))) = true then ((ssub s 0 R5.1).bind fun E32 =>
  some (E32, { b := c.b, i := R8.2.i, h := R8.2.h : L1Cur }))
  else ((ssub s 0 R5.1).bind fun E34 =>
  (sidx s R5.1).bind fun E36 =>
  (ssub s (IntKind.i64.wrap (R5.1 + (1 : Int))) (s.length : Int)).bind fun E38 =>
  (spec_l1Below ({ b := c.b, i := R8.2.i, h := R8.2.h : L1Cur }) (255 : Int)).bind fun R40 =>
  (cat E34 ([toU8 (ixor .i64 (IntKind.i64.wrap ((E36.toNat : Nat) : Int)) (IntKind.i64.wrap ((1 : Int) + R40.1)))])).bind fun E44 =>
  (cat E44 E38).bind fun E46 =>
  some (E46, { b := c.b, i := R40.2.i, h := R40.2.h : L1Cur })))))

theorem spec_l1Spoil_con (c : L1Cur) (s : List UInt8) (V_c0 : Value) (B_c : Nat) (r : List UInt8 × L1Cur) (hm : spec_l1Spoil c s = some r) :
    Con Try.prog 23 [.pointer (some ⟨B_c, 0, none⟩), strV s] [.box B_c 56 [V_c0, .int .i64 c.i, .int .i64 c.h]] [(V_c0, lc c.b)] (fun _ : Unit => strV r.1) (fun _ => [.box B_c 56 [V_c0, .int .i64 r.2.i, .int .i64 r.2.h]]) := by
  refine Con.intro (args := [.pointer (some ⟨B_c, 0, none⟩), strV s]) (n := 67) (val := fun r (_ : Unit) => strV r.1) (post := fun r _ => [.box B_c 56 [V_c0, .int .i64 r.2.i, .int .i64 r.2.h]]) (m := spec_l1Spoil c s) Try.func23 rfl rfl rfl hm ?_
  intro w S hrd
  have HB_V_c0 := hrd _ (.head _)
  clear hrd
  unfold spec_l1Spoil
  refine TW.seq ?_
  refine TW.region ?_
  refine TO.y (Y.assign rfl) rfl rfl rfl ?_
  refine TO.nil ?_
  refine TE.next ?_
  refine TW.seq ?_
  refine TW.seq ?_
  refine TW.region ?_
  refine TO.y (Y.move rfl) rfl rfl rfl ?_
  refine TO.y (Y.slen ks9 rfl) rfl rfl rfl ?_
  refine TO.y (Y.eql rfl rfl) rfl rfl rfl ?_
  refine TO.nil ?_
  refine TE.next ?_
  refine TW.cond rfl (fun H1 => ?_) (fun H1 => ?_)
  · refine TW.seq ?_
    refine TW.region ?_
    refine TO.y (Y.move rfl) rfl rfl rfl ?_
    refine TO.bind fun R2 H3 => ?_
    refine TO.ef (Ef.call (rest := []) [0] (spec_l1Text_con c (3 : Int) V_c0 B_c R2 H3) kc22 rfl rfl ⟨(Base.can HB_V_c0), trivial⟩) rfl rfl rfl (fun _ => ?_)
    refine TO.y (Y.assign rfl) rfl rfl rfl ?_
    refine TO.nil ?_
    refine TE.next ?_
    refine TW.ret ?_
    refine TE.then_ret ?_
    exact TE.leaf fun _ _ hf_ hs_ => ret_any (rs := [.tmp 4]) (vs := [strV R2.1]) (.inl rfl) rfl ⟨rfl, trivial⟩ hf_ hs_ ⟨(), rfl, hs_.pulls [0] rfl⟩
  · refine TW.skip ?_
    refine TE.next ?_
    refine TW.seq ?_
    refine TW.region ?_
    refine TO.y (Y.move rfl) rfl rfl rfl ?_
    refine TO.y (Y.move rfl) rfl rfl rfl ?_
    refine TO.y (Y.slen ks9 rfl) rfl rfl rfl ?_
    refine TO.bind fun R5 H6 => ?_
    refine TO.ef (Ef.call (rest := []) [0] (spec_l1Below_con c ((s.length : Nat) : Int) V_c0 B_c R5 H6) kc20 rfl rfl ⟨(Base.can HB_V_c0), trivial⟩) rfl rfl rfl (fun _ => ?_)
    refine TO.y (Y.assign rfl) rfl rfl rfl ?_
    refine TO.nil ?_
    refine TE.next ?_
    refine TW.seq ?_
    refine TW.seq ?_
    refine TW.region ?_
    refine TO.y (Y.move rfl) rfl rfl rfl ?_
    refine TO.bind fun R8 H9 => ?_
    refine TO.ef (Ef.call (rest := []) [0] (spec_l1Below_con ({ b := c.b, i := R5.2.i, h := R5.2.h : L1Cur }) (4 : Int) V_c0 B_c R8 H9) kc20 rfl rfl ⟨(Base.can HB_V_c0), trivial⟩) rfl rfl rfl (fun _ => ?_)
    refine TO.nil ?_
    refine TE.next ?_
    refine TW.block ?_
    refine TW.seq ?_
    refine TW.region ?_
    refine TO.y (Y.eql rfl rfl) rfl rfl rfl ?_
    refine TO.y (Y.assign rfl) rfl rfl rfl ?_
    refine TO.nil ?_
    refine TE.next ?_
    refine TW.cond rfl (fun H11 => ?_) (fun H11 => ?_)
    · refine TW.seq ?_
      refine TW.draw (isH := [.box B_c 56 [V_c0, .int .i64 R8.2.i, .int .i64 R8.2.h]]) hMix ?_
      refine TA.y (listed' := #[true, false, false, false, false, false, false, false, false]) 0 [0] rfl (Y.move rfl) rfl rfl rfl (by kernel_rfl) (by kernel_rfl) (by kernel_rfl) rfl rfl ?_
      refine TA.y (listed' := #[true, true, false, false, false, false, false, false, false]) 1 [0] rfl (Y.move rfl) rfl rfl rfl (by kernel_rfl) (by kernel_rfl) (by kernel_rfl) rfl rfl ?_
      refine TA.bind fun E12 H13 => ?_
      refine TA.y (listed' := #[true, true, true, false, false, false, false, false, false]) 2 [0] rfl (Y.ssub_to H13 ks9 rfl rfl) rfl rfl rfl (by kernel_rfl) (by kernel_rfl) (by kernel_rfl) rfl rfl ?_
      refine TA.y (listed' := #[true, true, true, true, false, false, false, false, false]) 3 [0] rfl (Y.move rfl) rfl rfl rfl (by kernel_rfl) (by kernel_rfl) (by kernel_rfl) rfl rfl ?_
      refine TA.y (listed' := #[true, true, true, true, true, false, false, false, false]) 4 [0] rfl (Y.move rfl) rfl rfl rfl (by kernel_rfl) (by kernel_rfl) (by kernel_rfl) rfl rfl ?_
      refine TA.y (listed' := #[true, true, true, true, true, true, false, false, false]) 5 [0] rfl (Y.add rfl rfl) rfl rfl rfl (by kernel_rfl) (by kernel_rfl) (by kernel_rfl) rfl rfl ?_
      refine TA.bind fun E14 H15 => ?_
      refine TA.y (listed' := #[true, true, true, true, true, true, true, false, false]) 6 [0] rfl (Y.ssub_from H15 ks9 rfl rfl) rfl rfl rfl (by kernel_rfl) (by kernel_rfl) (by kernel_rfl) rfl rfl ?_
      refine TA.bind fun E16 H17 => ?_
      refine TA.y (listed' := #[true, true, true, true, true, true, true, true, false]) 7 [0] rfl (Y.cat H17 rfl rfl) rfl rfl rfl (by kernel_rfl) (by kernel_rfl) (by kernel_rfl) rfl rfl ?_
      refine TA.y (listed' := #[true, true, true, true, true, true, true, true, true]) 8 [0] rfl (Y.assign rfl) rfl rfl rfl (by kernel_rfl) (by kernel_rfl) (by kernel_rfl) rfl rfl ?_
      refine TA.nil (by kernel_rfl) ?_
      refine TE.next ?_
      refine TW.ret ?_
      refine TE.block_ret ?_
      refine TE.then_ret ?_
      exact TE.leaf fun _ _ hf_ hs_ => ret_any (rs := [.tmp 4]) (vs := [strV E16]) (.inl rfl) rfl ⟨rfl, trivial⟩ hf_ hs_ ⟨(), rfl, hs_.pulls [0] rfl⟩
    · refine TW.seq ?_
      refine TW.region ?_
      refine TO.y (Y.eql rfl rfl) rfl rfl rfl ?_
      refine TO.y (Y.assign rfl) rfl rfl rfl ?_
      refine TO.nil ?_
      refine TE.next ?_
      refine TW.cond rfl (fun H18 => ?_) (fun H18 => ?_)
      · refine TW.seq ?_
        refine TW.draw (isH := []) hMix ?_
        refine TA.y (listed' := #[true, false, false, false, false, false, false, false, false, false, false, false, false, false]) 0 [] rfl (Y.move rfl) rfl rfl rfl (by kernel_rfl) (by kernel_rfl) (by kernel_rfl) rfl rfl ?_
        refine TA.y (listed' := #[true, true, false, false, false, false, false, false, false, false, false, false, false, false]) 1 [] rfl (Y.move rfl) rfl rfl rfl (by kernel_rfl) (by kernel_rfl) (by kernel_rfl) rfl rfl ?_
        refine TA.bind fun E19 H20 => ?_
        refine TA.y (listed' := #[true, true, true, false, false, false, false, false, false, false, false, false, false, false]) 2 [] rfl (Y.ssub_to H20 ks9 rfl rfl) rfl rfl rfl (by kernel_rfl) (by kernel_rfl) (by kernel_rfl) rfl rfl ?_
        refine TA.y (listed' := #[true, true, true, true, false, false, false, false, false, false, false, false, false, false]) 3 [] rfl (Y.move rfl) rfl rfl rfl (by kernel_rfl) (by kernel_rfl) (by kernel_rfl) rfl rfl ?_
        refine TA.y (listed' := #[true, true, true, true, false, false, false, false, false, true, false, false, false, false]) 9 [] rfl (Y.move rfl) rfl rfl rfl (by kernel_rfl) (by kernel_rfl) (by kernel_rfl) rfl rfl ?_
        refine TA.y (listed' := #[true, true, true, true, false, false, false, false, false, true, true, false, false, false]) 10 [] rfl (Y.move rfl) rfl rfl rfl (by kernel_rfl) (by kernel_rfl) (by kernel_rfl) rfl rfl ?_
        refine TA.bind fun E21 H22 => ?_
        refine TA.y (listed' := #[true, true, true, true, false, false, false, false, false, true, true, true, false, false]) 11 [] rfl (Y.ssub_from H22 ks9 rfl rfl) rfl rfl rfl (by kernel_rfl) (by kernel_rfl) (by kernel_rfl) rfl rfl ?_
        refine TA.bind fun R23 H24 => ?_
        refine TA.one 4 (by kernel_rfl) ?_
        refine TX.ef (listed' := #[true, true, true, true, true, false, false, false, false, true, true, true, false, false]) [] rfl (Ef.call (rest := []) [0] (spec_l1Byte_con ({ b := c.b, i := R8.2.i, h := R8.2.h : L1Cur }) V_c0 B_c R23 H24) kc37 rfl rfl ⟨(Base.can HB_V_c0), trivial⟩) rfl rfl rfl rfl (fun _ => rfl) (fun _ => ?_)
        refine TA.y (listed' := #[true, true, true, true, true, true, false, false, false, true, true, true, false, false]) 5 [] rfl (Y.conv8 ki3 ki5 rfl) rfl rfl rfl (by kernel_rfl) (by kernel_rfl) (by kernel_rfl) rfl rfl ?_
        refine TA.one 6 (by kernel_rfl) ?_
        refine TX.ef (listed' := #[true, true, true, true, true, true, true, false, false, true, true, true, false, false]) [] rfl (Ef.buildSlice (α := UInt8) (Vs := [.int .u8 (((toU8 R23.1).toNat : Nat) : Int)]) [toU8 R23.1] ke22 kz5 rfl rfl rfl rfl rfl) rfl rfl rfl rfl (fun _ => rfl) (fun B26 => ?_)
        refine TA.one 7 (by kernel_rfl) ?_
        refine TX.y (listed' := #[true, true, true, true, true, true, true, true, false, true, true, true, false, false]) [] rfl (Y.toStr ke22 ki5 ks9 (Can.own 0 rfl) rfl) rfl rfl rfl rfl rfl ?_
        refine TA.bind fun E27 H28 => ?_
        refine TA.y (listed' := #[true, true, true, true, true, true, true, true, true, true, true, true, false, false]) 8 [] rfl (Y.cat H28 rfl rfl) rfl rfl rfl (by kernel_rfl) (by kernel_rfl) (by kernel_rfl) rfl rfl ?_
        refine TA.bind fun E29 H30 => ?_
        refine TA.y (listed' := #[true, true, true, true, true, true, true, true, true, true, true, true, true, false]) 12 [] rfl (Y.cat H30 rfl rfl) rfl rfl rfl (by kernel_rfl) (by kernel_rfl) (by kernel_rfl) rfl rfl ?_
        refine TA.y (listed' := #[true, true, true, true, true, true, true, true, true, true, true, true, true, true]) 13 [] rfl (Y.assign rfl) rfl rfl rfl (by kernel_rfl) (by kernel_rfl) (by kernel_rfl) rfl rfl ?_
        refine TA.nil (by kernel_rfl) ?_
        refine TE.next ?_
        refine TW.ret ?_
        refine TE.block_ret ?_
        refine TE.then_ret ?_
        exact TE.leaf fun _ _ hf_ hs_ => ret_any (rs := [.tmp 4]) (vs := [strV E29]) (.inl rfl) rfl ⟨rfl, trivial⟩ hf_ hs_ ⟨(), rfl, hs_.pulls [1] rfl⟩
      · refine TW.seq ?_
        refine TW.region ?_
        refine TO.y (Y.eql rfl rfl) rfl rfl rfl ?_
        refine TO.y (Y.assign rfl) rfl rfl rfl ?_
        refine TO.nil ?_
        refine TE.next ?_
        refine TW.cond rfl (fun H31 => ?_) (fun H31 => ?_)
        · refine TW.seq ?_
          refine TW.region ?_
          refine TO.y (Y.move rfl) rfl rfl rfl ?_
          refine TO.y (Y.move rfl) rfl rfl rfl ?_
          refine TO.bind fun E32 H33 => ?_
          refine TO.y (Y.ssub_to H33 ks9 rfl rfl) rfl rfl rfl ?_
          refine TO.y (Y.assign rfl) rfl rfl rfl ?_
          refine TO.nil ?_
          refine TE.next ?_
          refine TW.ret ?_
          refine TE.block_ret ?_
          refine TE.then_ret ?_
          exact TE.leaf fun _ _ hf_ hs_ => ret_any (rs := [.tmp 4]) (vs := [strV E32]) (.inl rfl) rfl ⟨rfl, trivial⟩ hf_ hs_ ⟨(), rfl, hs_.pulls [0] rfl⟩
        · refine TW.skip ?_
          refine TE.block_normal ?_
          refine TE.next ?_
          refine TW.seq ?_
          refine TW.draw (isH := []) hMix ?_
          refine TA.y (listed' := #[true, false, false, false, false, false, false, false, false, false, false, false, false, false, false, false, false, false, false, false, false]) 0 [] rfl (Y.move rfl) rfl rfl rfl (by kernel_rfl) (by kernel_rfl) (by kernel_rfl) rfl rfl ?_
          refine TA.y (listed' := #[true, true, false, false, false, false, false, false, false, false, false, false, false, false, false, false, false, false, false, false, false]) 1 [] rfl (Y.move rfl) rfl rfl rfl (by kernel_rfl) (by kernel_rfl) (by kernel_rfl) rfl rfl ?_
          refine TA.bind fun E34 H35 => ?_
          refine TA.y (listed' := #[true, true, true, false, false, false, false, false, false, false, false, false, false, false, false, false, false, false, false, false, false]) 2 [] rfl (Y.ssub_to H35 ks9 rfl rfl) rfl rfl rfl (by kernel_rfl) (by kernel_rfl) (by kernel_rfl) rfl rfl ?_
          refine TA.y (listed' := #[true, true, true, true, false, false, false, false, false, false, false, false, false, false, false, false, false, false, false, false, false]) 3 [] rfl (Y.move rfl) rfl rfl rfl (by kernel_rfl) (by kernel_rfl) (by kernel_rfl) rfl rfl ?_
          refine TA.y (listed' := #[true, true, true, true, true, false, false, false, false, false, false, false, false, false, false, false, false, false, false, false, false]) 4 [] rfl (Y.move rfl) rfl rfl rfl (by kernel_rfl) (by kernel_rfl) (by kernel_rfl) rfl rfl ?_
          refine TA.bind fun E36 H37 => ?_
          refine TA.y (listed' := #[true, true, true, true, true, true, false, false, false, false, false, false, false, false, false, false, false, false, false, false, false]) 5 [] rfl (Y.sidx H37 ks9 rfl rfl) rfl rfl rfl (by kernel_rfl) (by kernel_rfl) (by kernel_rfl) rfl rfl ?_
          refine TA.y (listed' := #[true, true, true, true, true, true, true, false, false, false, false, false, false, false, false, false, false, false, false, false, false]) 6 [] rfl (Y.conv ki5 ki3 rfl) rfl rfl rfl (by kernel_rfl) (by kernel_rfl) (by kernel_rfl) rfl rfl ?_
          refine TA.y (listed' := #[true, true, true, true, true, true, true, true, false, false, false, false, false, false, false, false, false, false, false, false, false]) 7 [] rfl (Y.move rfl) rfl rfl rfl (by kernel_rfl) (by kernel_rfl) (by kernel_rfl) rfl rfl ?_
          refine TA.y (listed' := #[true, true, true, true, true, true, true, true, false, false, false, false, false, false, false, true, false, false, false, false, false]) 15 [] rfl (Y.move rfl) rfl rfl rfl (by kernel_rfl) (by kernel_rfl) (by kernel_rfl) rfl rfl ?_
          refine TA.y (listed' := #[true, true, true, true, true, true, true, true, false, false, false, false, false, false, false, true, true, false, false, false, false]) 16 [] rfl (Y.move rfl) rfl rfl rfl (by kernel_rfl) (by kernel_rfl) (by kernel_rfl) rfl rfl ?_
          refine TA.y (listed' := #[true, true, true, true, true, true, true, true, false, false, false, false, false, false, false, true, true, true, false, false, false]) 17 [] rfl (Y.add rfl rfl) rfl rfl rfl (by kernel_rfl) (by kernel_rfl) (by kernel_rfl) rfl rfl ?_
          refine TA.bind fun E38 H39 => ?_
          refine TA.y (listed' := #[true, true, true, true, true, true, true, true, false, false, false, false, false, false, false, true, true, true, true, false, false]) 18 [] rfl (Y.ssub_from H39 ks9 rfl rfl) rfl rfl rfl (by kernel_rfl) (by kernel_rfl) (by kernel_rfl) rfl rfl ?_
          refine TA.bind fun R40 H41 => ?_
          refine TA.one 8 (by kernel_rfl) ?_
          refine TX.ef (listed' := #[true, true, true, true, true, true, true, true, true, false, false, false, false, false, false, true, true, true, true, false, false]) [] rfl (Ef.call (rest := []) [0] (spec_l1Below_con ({ b := c.b, i := R8.2.i, h := R8.2.h : L1Cur }) (255 : Int) V_c0 B_c R40 H41) kc20 rfl rfl ⟨(Base.can HB_V_c0), trivial⟩) rfl rfl rfl rfl (fun _ => rfl) (fun _ => ?_)
          refine TA.y (listed' := #[true, true, true, true, true, true, true, true, true, true, false, false, false, false, false, true, true, true, true, false, false]) 9 [] rfl (Y.add rfl rfl) rfl rfl rfl (by kernel_rfl) (by kernel_rfl) (by kernel_rfl) rfl rfl ?_
          refine TA.y (listed' := #[true, true, true, true, true, true, true, true, true, true, true, false, false, false, false, true, true, true, true, false, false]) 10 [] rfl (Y.xor rfl rfl) rfl rfl rfl (by kernel_rfl) (by kernel_rfl) (by kernel_rfl) rfl rfl ?_
          refine TA.y (listed' := #[true, true, true, true, true, true, true, true, true, true, true, true, false, false, false, true, true, true, true, false, false]) 11 [] rfl (Y.conv8 ki3 ki5 rfl) rfl rfl rfl (by kernel_rfl) (by kernel_rfl) (by kernel_rfl) rfl rfl ?_
          refine TA.one 12 (by kernel_rfl) ?_
          refine TX.ef (listed' := #[true, true, true, true, true, true, true, true, true, true, true, true, true, false, false, true, true, true, true, false, false]) [] rfl (Ef.buildSlice (α := UInt8) (Vs := [.int .u8 (((toU8 (ixor .i64 (IntKind.i64.wrap ((E36.toNat : Nat) : Int)) (IntKind.i64.wrap ((1 : Int) + R40.1)))).toNat : Nat) : Int)]) [toU8 (ixor .i64 (IntKind.i64.wrap ((E36.toNat : Nat) : Int)) (IntKind.i64.wrap ((1 : Int) + R40.1)))] ke22 kz5 rfl rfl rfl rfl rfl) rfl rfl rfl rfl (fun _ => rfl) (fun B43 => ?_)
          refine TA.one 13 (by kernel_rfl) ?_
          refine TX.y (listed' := #[true, true, true, true, true, true, true, true, true, true, true, true, true, true, false, true, true, true, true, false, false]) [] rfl (Y.toStr ke22 ki5 ks9 (Can.own 0 rfl) rfl) rfl rfl rfl rfl rfl ?_
          refine TA.bind fun E44 H45 => ?_
          refine TA.y (listed' := #[true, true, true, true, true, true, true, true, true, true, true, true, true, true, true, true, true, true, true, false, false]) 14 [] rfl (Y.cat H45 rfl rfl) rfl rfl rfl (by kernel_rfl) (by kernel_rfl) (by kernel_rfl) rfl rfl ?_
          refine TA.bind fun E46 H47 => ?_
          refine TA.y (listed' := #[true, true, true, true, true, true, true, true, true, true, true, true, true, true, true, true, true, true, true, true, false]) 19 [] rfl (Y.cat H47 rfl rfl) rfl rfl rfl (by kernel_rfl) (by kernel_rfl) (by kernel_rfl) rfl rfl ?_
          refine TA.y (listed' := #[true, true, true, true, true, true, true, true, true, true, true, true, true, true, true, true, true, true, true, true, true]) 20 [] rfl (Y.assign rfl) rfl rfl rfl (by kernel_rfl) (by kernel_rfl) (by kernel_rfl) rfl rfl ?_
          refine TA.nil (by kernel_rfl) ?_
          refine TE.next ?_
          refine TW.ret ?_
          exact TE.leaf fun _ _ hf_ hs_ => ret_any (rs := [.tmp 4]) (vs := [strV E46]) (.inl rfl) rfl ⟨rfl, trivial⟩ hf_ hs_ ⟨(), rfl, hs_.pulls [1] rfl⟩

/-- loop.example/g00950/spec.DrawOpenFile -/
noncomputable def spec_DrawOpenFile (code : List UInt8) : Option (List UInt8 × Int × List UInt8) :=
  (spec_l1New code).bind fun R1 =>
  (spec_l3Key ({ b := code, i := R1.i, h := R1.h : L1Cur })).bind fun R4 =>
  (spec_l1Below ({ b := code, i := R4.2.i, h := R4.2.h : L1Cur }) (5 : Int)).bind fun R7 =>
  (spec_l1Text ({ b := code, i := R7.2.i, h := R7.2.h : L1Cur }) (70 : Int)).bind fun R10 =>
  (spec_SealFile R4.1 R7.1 R10.1).bind fun R13 =>
  (spec_l1Below ({ b := code, i := R10.2.i, h := R10.2.h : L1Cur }) (5 : Int)).bind fun R16 =>
  if (decide (R16.1 = (0 : Int))) = true then ((spec_l1Spoil ({ b := code, i := R16.2.i, h := R16.2.h : L1Cur }) R13).bind fun R20 =>
  some (R4.1, R7.1, R20.1))
  else (if (decide (R16.1 = (1 : Int))) = true then (some (R4.1, IntKind.i64.wrap (R7.1 + (1 : Int)), R13))
  else (if (decide (R16.1 = (2 : Int))) = true then ((spec_l3Key ({ b := code, i := R16.2.i, h := R16.2.h : L1Cur })).bind fun R25 =>
  some (R25.1, R7.1, R13))
  else (some (R4.1, R7.1, R13))))

theorem spec_DrawOpenFile_con (code : List UInt8) (V_code0 : Value) (r : List UInt8 × Int × List UInt8) (hm : spec_DrawOpenFile code = some r) :
    Con Try.prog 6 [V_code0] [] [(V_code0, lc code)] (fun _ : Unit => .tuple #[strV r.1, .int .i64 r.2.1, strV r.2.2]) (fun _ => []) := by
  refine Con.intro (args := [V_code0]) (n := 44) (val := fun r (_ : Unit) => .tuple #[strV r.1, .int .i64 r.2.1, strV r.2.2]) (post := fun _ _ => []) (m := spec_DrawOpenFile code) Try.func6 rfl rfl rfl hm ?_
  intro w S hrd
  have HB_V_code0 := hrd _ (.head _)
  clear hrd
  unfold spec_DrawOpenFile
  refine TW.seq ?_
  refine TW.region ?_
  refine TO.y (Y.assign rfl) rfl rfl rfl ?_
  refine TO.y (Y.assign rfl) rfl rfl rfl ?_
  refine TO.y (Y.assign rfl) rfl rfl rfl ?_
  refine TO.nil ?_
  refine TE.next ?_
  refine TW.seq ?_
  refine TW.region ?_
  refine TO.y (Y.move rfl) rfl rfl rfl ?_
  refine TO.bind fun R1 H2 => ?_
  refine TO.ef (Ef.call (rest := []) [] (spec_l1New_con code V_code0 R1 H2) kc18 rfl rfl ⟨(Base.can HB_V_code0), trivial⟩) rfl rfl rfl (fun Y3 => ?_)
  refine TO.y (Y.assign rfl) rfl rfl rfl ?_
  refine TO.nil ?_
  refine TE.next ?_
  refine TW.seq ?_
  refine TW.region ?_
  refine TO.y (Y.move rfl) rfl rfl rfl ?_
  refine TO.bind fun R4 H5 => ?_
  refine TO.ef (Ef.call (rest := []) [0] (spec_l3Key_con ({ b := code, i := R1.i, h := R1.h : L1Cur }) V_code0 Y3 R4 H5) kc19 rfl rfl ⟨(Base.can HB_V_code0), trivial⟩) rfl rfl rfl (fun _ => ?_)
  refine TO.y (Y.assign rfl) rfl rfl rfl ?_
  refine TO.nil ?_
  refine TE.next ?_
  refine TW.seq ?_
  refine TW.region ?_
  refine TO.y (Y.move rfl) rfl rfl rfl ?_
  refine TO.bind fun R7 H8 => ?_
  refine TO.ef (Ef.call (rest := []) [0] (spec_l1Below_con ({ b := code, i := R4.2.i, h := R4.2.h : L1Cur }) (5 : Int) V_code0 Y3 R7 H8) kc20 rfl rfl ⟨(Base.can HB_V_code0), trivial⟩) rfl rfl rfl (fun _ => ?_)
  refine TO.y (Y.assign rfl) rfl rfl rfl ?_
  refine TO.nil ?_
  refine TE.next ?_
  refine TW.seq ?_
  refine TW.region ?_
  refine TO.y (Y.move rfl) rfl rfl rfl ?_
  refine TO.y (Y.move rfl) rfl rfl rfl ?_
  refine TO.y (Y.move rfl) rfl rfl rfl ?_
  refine TO.bind fun R10 H11 => ?_
  refine TO.ef (Ef.call (rest := []) [0] (spec_l1Text_con ({ b := code, i := R7.2.i, h := R7.2.h : L1Cur }) (70 : Int) V_code0 Y3 R10 H11) kc22 rfl rfl ⟨(Base.can HB_V_code0), trivial⟩) rfl rfl rfl (fun _ => ?_)
  refine TO.bind fun R13 H14 => ?_
  refine TO.ef (Ef.call (rest := [.box Y3 56 [V_code0, .int .i64 R10.2.i, .int .i64 R10.2.h]]) [0] (spec_SealFile_con R4.1 R7.1 R10.1  R13 H14) kc21 rfl rfl trivial) rfl rfl rfl (fun _ => ?_)
  refine TO.y (Y.assign rfl) rfl rfl rfl ?_
  refine TO.nil ?_
  refine TE.next ?_
  refine TW.seq ?_
  refine TW.seq ?_
  refine TW.region ?_
  refine TO.y (Y.move rfl) rfl rfl rfl ?_
  refine TO.bind fun R16 H17 => ?_
  refine TO.ef (Ef.call (rest := []) [0] (spec_l1Below_con ({ b := code, i := R10.2.i, h := R10.2.h : L1Cur }) (5 : Int) V_code0 Y3 R16 H17) kc20 rfl rfl ⟨(Base.can HB_V_code0), trivial⟩) rfl rfl rfl (fun _ => ?_)
  refine TO.nil ?_
  refine TE.next ?_
  refine TW.block ?_
  refine TW.seq ?_
  refine TW.region ?_
  refine TO.y (Y.eql rfl rfl) rfl rfl rfl ?_
  refine TO.y (Y.assign rfl) rfl rfl rfl ?_
  refine TO.nil ?_
  refine TE.next ?_
  refine TW.cond rfl (fun H19 => ?_) (fun H19 => ?_)
  · refine TW.seq ?_
    refine TW.region ?_
    refine TO.y (Y.move rfl) rfl rfl rfl ?_
    refine TO.y (Y.move rfl) rfl rfl rfl ?_
    refine TO.y (Y.move rfl) rfl rfl rfl ?_
    refine TO.y (Y.move rfl) rfl rfl rfl ?_
    refine TO.bind fun R20 H21 => ?_
    refine TO.ef (Ef.call (rest := []) [0] (spec_l1Spoil_con ({ b := code, i := R16.2.i, h := R16.2.h : L1Cur }) R13 V_code0 Y3 R20 H21) kc23 rfl rfl ⟨(Base.can HB_V_code0), trivial⟩) rfl rfl rfl (fun _ => ?_)
    refine TO.y (Y.assign rfl) rfl rfl rfl ?_
    refine TO.y (Y.assign rfl) rfl rfl rfl ?_
    refine TO.y (Y.assign rfl) rfl rfl rfl ?_
    refine TO.nil ?_
    refine TE.next ?_
    refine TW.ret ?_
    refine TE.block_ret ?_
    refine TE.then_ret ?_
    exact TE.leaf fun _ _ hf_ hs_ => ret_any (rs := [.tmp 2, .tmp 3, .tmp 4]) (vs := [strV R4.1, .int .i64 R7.1, strV R20.1]) (.inl rfl) rfl ⟨rfl, ⟨rfl, ⟨rfl, trivial⟩⟩⟩ hf_ hs_ ⟨(), rfl, hs_.pulls [] rfl⟩
  · refine TW.seq ?_
    refine TW.region ?_
    refine TO.y (Y.eql rfl rfl) rfl rfl rfl ?_
    refine TO.y (Y.assign rfl) rfl rfl rfl ?_
    refine TO.nil ?_
    refine TE.next ?_
    refine TW.cond rfl (fun H23 => ?_) (fun H23 => ?_)
    · refine TW.seq ?_
      refine TW.region ?_
      refine TO.y (Y.move rfl) rfl rfl rfl ?_
      refine TO.y (Y.move rfl) rfl rfl rfl ?_
      refine TO.y (Y.add rfl rfl) rfl rfl rfl ?_
      refine TO.y (Y.move rfl) rfl rfl rfl ?_
      refine TO.y (Y.assign rfl) rfl rfl rfl ?_
      refine TO.y (Y.assign rfl) rfl rfl rfl ?_
      refine TO.y (Y.assign rfl) rfl rfl rfl ?_
      refine TO.nil ?_
      refine TE.next ?_
      refine TW.ret ?_
      refine TE.block_ret ?_
      refine TE.then_ret ?_
      exact TE.leaf fun _ _ hf_ hs_ => ret_any (rs := [.tmp 2, .tmp 3, .tmp 4]) (vs := [strV R4.1, .int .i64 (IntKind.i64.wrap (R7.1 + (1 : Int))), strV R13]) (.inl rfl) rfl ⟨rfl, ⟨rfl, ⟨rfl, trivial⟩⟩⟩ hf_ hs_ ⟨(), rfl, hs_.pulls [] rfl⟩
    · refine TW.seq ?_
      refine TW.region ?_
      refine TO.y (Y.eql rfl rfl) rfl rfl rfl ?_
      refine TO.y (Y.assign rfl) rfl rfl rfl ?_
      refine TO.nil ?_
      refine TE.next ?_
      refine TW.cond rfl (fun H24 => ?_) (fun H24 => ?_)
      · refine TW.seq ?_
        refine TW.region ?_
        refine TO.y (Y.move rfl) rfl rfl rfl ?_
        refine TO.bind fun R25 H26 => ?_
        refine TO.ef (Ef.call (rest := []) [0] (spec_l3Key_con ({ b := code, i := R16.2.i, h := R16.2.h : L1Cur }) V_code0 Y3 R25 H26) kc19 rfl rfl ⟨(Base.can HB_V_code0), trivial⟩) rfl rfl rfl (fun _ => ?_)
        refine TO.y (Y.move rfl) rfl rfl rfl ?_
        refine TO.y (Y.move rfl) rfl rfl rfl ?_
        refine TO.y (Y.assign rfl) rfl rfl rfl ?_
        refine TO.y (Y.assign rfl) rfl rfl rfl ?_
        refine TO.y (Y.assign rfl) rfl rfl rfl ?_
        refine TO.nil ?_
        refine TE.next ?_
        refine TW.ret ?_
        refine TE.block_ret ?_
        refine TE.then_ret ?_
        exact TE.leaf fun _ _ hf_ hs_ => ret_any (rs := [.tmp 2, .tmp 3, .tmp 4]) (vs := [strV R25.1, .int .i64 R7.1, strV R13]) (.inl rfl) rfl ⟨rfl, ⟨rfl, ⟨rfl, trivial⟩⟩⟩ hf_ hs_ ⟨(), rfl, hs_.pulls [] rfl⟩
      · refine TW.skip ?_
        refine TE.block_normal ?_
        refine TE.next ?_
        refine TW.seq ?_
        refine TW.region ?_
        refine TO.y (Y.move rfl) rfl rfl rfl ?_
        refine TO.y (Y.move rfl) rfl rfl rfl ?_
        refine TO.y (Y.move rfl) rfl rfl rfl ?_
        refine TO.y (Y.assign rfl) rfl rfl rfl ?_
        refine TO.y (Y.assign rfl) rfl rfl rfl ?_
        refine TO.y (Y.assign rfl) rfl rfl rfl ?_
        refine TO.nil ?_
        refine TE.next ?_
        refine TW.ret ?_
        exact TE.leaf fun _ _ hf_ hs_ => ret_any (rs := [.tmp 2, .tmp 3, .tmp 4]) (vs := [strV R4.1, .int .i64 R7.1, strV R13]) (.inl rfl) rfl ⟨rfl, ⟨rfl, ⟨rfl, trivial⟩⟩⟩ hf_ hs_ ⟨(), rfl, hs_.pulls [] rfl⟩

/-- loop.example/g00950/impl.inRange -/
noncomputable def impl_inRange (n : Int) (least : Int) (most : Int) : Option Bool :=
  (if (decide (n ≥ least)) = true then (some (decide (n ≤ most)))
  else (some false)).bind (fun (T1 : Bool) =>
  some T1)

theorem impl_inRange_con (n : Int) (least : Int) (most : Int)  (r : Bool) (hm : impl_inRange n least most = some r) :
    Con Try.prog 35 [.int .i64 n, .int .i64 least, .int .i64 most] [] [] (fun _ : Unit => .bool r) (fun _ => []) := by
  refine Con.intro (args := [.int .i64 n, .int .i64 least, .int .i64 most]) (n := 15) (val := fun r (_ : Unit) => .bool r) (post := fun _ _ => []) (m := impl_inRange n least most) Try.func35 rfl rfl rfl hm ?_
  intro w S _
  unfold impl_inRange
  refine TW.seq ?_
  refine TW.region ?_
  refine TO.y (Y.assign rfl) rfl rfl rfl ?_
  refine TO.nil ?_
  refine TE.next ?_
  refine TW.seq ?_
  refine TW.joinBX (τ := Bool) (X := Unit) (fun T _ => [(6, .bool T)]) (fun _ _ => []) ?_ (fun T1 X2 => ?_)
  · refine TW.region ?_
    refine TO.y (Y.move rfl) rfl rfl rfl ?_
    refine TO.y (Y.move rfl) rfl rfl rfl ?_
    refine TO.y (Y.geq rfl rfl) rfl rfl rfl ?_
    refine TO.y (Y.move rfl) rfl rfl rfl ?_
    refine TO.ite (b := decide (n ≥ least)) (fun H3 => ?_) (fun H3 => ?_)
    · refine TO.y (Y.move rfl) (Gd.at 3 true 10 (decide (n ≥ least)) rfl rfl rfl (beq_tt H3)) rfl rfl ?_
      refine TO.y (Y.move rfl) (Gd.at 3 true 10 (decide (n ≥ least)) rfl rfl rfl (beq_tt H3)) rfl rfl ?_
      refine TO.y (Y.leq rfl rfl) (Gd.at 3 true 10 (decide (n ≥ least)) rfl rfl rfl (beq_tt H3)) rfl rfl ?_
      refine TO.y (Y.pick_t H3 rfl rfl) rfl rfl rfl ?_
      refine TO.y (Y.assign rfl) rfl rfl rfl ?_
      refine TO.nil ?_
      exact TE.jb_go () [] ⟨rfl, trivial⟩ rfl
    · refine TO.off (Gd.at 3 true 10 (decide (n ≥ least)) rfl rfl rfl (beq_ft H3)) rfl rfl ?_
      refine TO.off (Gd.at 3 true 10 (decide (n ≥ least)) rfl rfl rfl (beq_ft H3)) rfl rfl ?_
      refine TO.off (Gd.at 3 true 10 (decide (n ≥ least)) rfl rfl rfl (beq_ft H3)) rfl rfl ?_
      refine TO.y (Y.pick_f H3 rfl rfl) rfl rfl rfl ?_
      refine TO.y (Y.assign rfl) rfl rfl rfl ?_
      refine TO.nil ?_
      exact TE.jb_go () [] ⟨rfl, trivial⟩ rfl
  · refine TE.next ?_
    refine TW.ret ?_
    exact TE.leaf fun _ _ hf_ hs_ => ret_any (rs := [.tmp 6]) (vs := [.bool T1]) (.inl rfl) rfl ⟨rfl, trivial⟩ hf_ hs_ ⟨(), rfl, hs_.pulls [] rfl⟩

/-- loop.example/g00950/impl.Fixed -/
noncomputable def impl_Fixed (n : Int) (width : Int) : Option (List UInt8) :=
  ((impl_inRange width (1 : Int) (7 : Int)).bind fun R3 =>
  if (!R3) = true then (some true)
  else (if (decide (n < (0 : Int))) = true then (some true)
  else (some (!(decide (ishr .i64 n (IntKind.u64.wrap (IntKind.i64.wrap ((8 : Int) * width))) = (0 : Int))))))).bind (fun (T1 : Bool) =>
  if T1 = true then (some ([]))
  else ((mkLen 1 width).bind fun E10 =>
  bindC (loopO (fun (S12 : Int × Int × List UInt8) => if (decide (S12.2.1 ≥ (0 : Int))) = true then ((idx S12.2.2 S12.2.1).bind fun E17 =>
  some (.go (ishr .i64 S12.1 (8 : Int), IntKind.i64.wrap (S12.2.1 - (1 : Int)), (S12.2.2.set S12.2.1.toNat (toU8 S12.1)))))
  else (some (.done (.go S12.2.2))))
  (n, IntKind.i64.wrap (width - (1 : Int)), (List.replicate E10 (0 : UInt8))))
  (fun (T14 : List UInt8) => some T14)))

theorem impl_Fixed_con (n : Int) (width : Int)  (r : List UInt8) (hm : impl_Fixed n width = some r) :
    Con Try.prog 36 [.int .i64 n, .int .i64 width] [] [] (fun _ : Unit => strV r) (fun _ => []) := by
  refine Con.intro (args := [.int .i64 n, .int .i64 width]) (n := 39) (val := fun r (_ : Unit) => strV r) (post := fun _ _ => []) (m := impl_Fixed n width) Try.func36 rfl rfl rfl hm ?_
  intro w S _
  unfold impl_Fixed
  refine TW.seq ?_
  refine TW.region ?_
  refine TO.y (Y.assign rfl) rfl rfl rfl ?_
  refine TO.nil ?_
  refine TE.next ?_
  refine TW.seq ?_
  refine TW.seq ?_
  refine TW.joinBX (τ := Bool) (X := Unit) (fun T _ => [(0, .int .i64 n), (1, .int .i64 width), (21, .bool T)]) (fun _ _ => []) ?_ (fun T1 X2 => ?_)
  · refine TW.region ?_
    refine TO.y (Y.move rfl) rfl rfl rfl ?_
    refine TO.bind fun R3 H4 => ?_
    refine TO.ef (Ef.call (rest := []) [] (impl_inRange_con width (1 : Int) (7 : Int)  R3 H4) kc35 rfl rfl trivial) rfl rfl rfl (fun _ => ?_)
    refine TO.y (Y.not rfl) rfl rfl rfl ?_
    refine TO.y (Y.move rfl) rfl rfl rfl ?_
    refine TO.ite (b := !R3) (fun H6 => ?_) (fun H6 => ?_)
    · refine TO.off (Gd.at 3 false 10 (!R3) rfl rfl rfl (beq_tf H6)) rfl rfl ?_
      refine TO.off (Gd.at 3 false 10 (!R3) rfl rfl rfl (beq_tf H6)) rfl rfl ?_
      refine TO.y (Y.pick_t H6 rfl rfl) rfl rfl rfl ?_
      refine TO.y (Y.move rfl) rfl rfl rfl ?_
      refine TO.off (Gd.at 7 false 14 true rfl rfl rfl rfl) rfl rfl ?_
      refine TO.off (Gd.at 7 false 14 true rfl rfl rfl rfl) rfl rfl ?_
      refine TO.off (Gd.at 7 false 14 true rfl rfl rfl rfl) rfl rfl ?_
      refine TO.off (Gd.at 7 false 14 true rfl rfl rfl rfl) rfl rfl ?_
      refine TO.off (Gd.at 7 false 14 true rfl rfl rfl rfl) rfl rfl ?_
      refine TO.off (Gd.at 7 false 14 true rfl rfl rfl rfl) rfl rfl ?_
      refine TO.y (Y.pick_t rfl rfl rfl) rfl rfl rfl ?_
      refine TO.nil ?_
      exact TE.jb_go () [] ⟨rfl, rfl, rfl, trivial⟩ rfl
    · refine TO.y (Y.move rfl) (Gd.at 3 false 10 (!R3) rfl rfl rfl (beq_ff H6)) rfl rfl ?_
      refine TO.y (Y.lss rfl rfl) (Gd.at 3 false 10 (!R3) rfl rfl rfl (beq_ff H6)) rfl rfl ?_
      refine TO.y (Y.pick_f H6 rfl rfl) rfl rfl rfl ?_
      refine TO.y (Y.move rfl) rfl rfl rfl ?_
      refine TO.ite (b := decide (n < (0 : Int))) (fun H7 => ?_) (fun H7 => ?_)
      · refine TO.off (Gd.at 7 false 14 (decide (n < (0 : Int))) rfl rfl rfl (beq_tf H7)) rfl rfl ?_
        refine TO.off (Gd.at 7 false 14 (decide (n < (0 : Int))) rfl rfl rfl (beq_tf H7)) rfl rfl ?_
        refine TO.off (Gd.at 7 false 14 (decide (n < (0 : Int))) rfl rfl rfl (beq_tf H7)) rfl rfl ?_
        refine TO.off (Gd.at 7 false 14 (decide (n < (0 : Int))) rfl rfl rfl (beq_tf H7)) rfl rfl ?_
        refine TO.off (Gd.at 7 false 14 (decide (n < (0 : Int))) rfl rfl rfl (beq_tf H7)) rfl rfl ?_
        refine TO.off (Gd.at 7 false 14 (decide (n < (0 : Int))) rfl rfl rfl (beq_tf H7)) rfl rfl ?_
        refine TO.y (Y.pick_t H7 rfl rfl) rfl rfl rfl ?_
        refine TO.nil ?_
        exact TE.jb_go () [] ⟨rfl, rfl, rfl, trivial⟩ rfl
      · refine TO.y (Y.move rfl) (Gd.at 7 false 14 (decide (n < (0 : Int))) rfl rfl rfl (beq_ff H7)) rfl rfl ?_
        refine TO.y (Y.move rfl) (Gd.at 7 false 14 (decide (n < (0 : Int))) rfl rfl rfl (beq_ff H7)) rfl rfl ?_
        refine TO.y (Y.mul rfl rfl) (Gd.at 7 false 14 (decide (n < (0 : Int))) rfl rfl rfl (beq_ff H7)) rfl rfl ?_
        refine TO.y (Y.conv ki3 ki52 rfl) (Gd.at 7 false 14 (decide (n < (0 : Int))) rfl rfl rfl (beq_ff H7)) rfl rfl ?_
        refine TO.y (Y.shr (wrap_u_nonneg rfl _) rfl rfl) (Gd.at 7 false 14 (decide (n < (0 : Int))) rfl rfl rfl (beq_ff H7)) rfl rfl ?_
        refine TO.y (Y.neq rfl rfl) (Gd.at 7 false 14 (decide (n < (0 : Int))) rfl rfl rfl (beq_ff H7)) rfl rfl ?_
        refine TO.y (Y.pick_f H7 rfl rfl) rfl rfl rfl ?_
        refine TO.nil ?_
        exact TE.jb_go () [] ⟨rfl, rfl, rfl, trivial⟩ rfl
  · refine TE.next ?_
    refine TW.cond rfl (fun H8 => ?_) (fun H8 => ?_)
    · refine TW.seq ?_
      refine TW.region ?_
      refine TO.y (Y.assign rfl) rfl rfl rfl ?_
      refine TO.nil ?_
      refine TE.next ?_
      refine TW.ret ?_
      refine TE.then_ret ?_
      exact TE.leaf fun _ _ hf_ hs_ => ret_any (rs := [.tmp 4]) (vs := [strV ([])]) (.inl rfl) rfl ⟨rfl, trivial⟩ hf_ hs_ ⟨(), rfl, hs_.pulls [] rfl⟩
    · refine TW.skip ?_
      refine TE.next ?_
      refine TW.seq ?_
      refine TW.region ?_
      refine TO.y (Y.move rfl) rfl rfl rfl ?_
      refine TO.bind fun E10 H11 => ?_
      refine TO.ef (Ef.make (α := UInt8) (z := (0 : UInt8)) H11 ke22 kz5 rfl rfl rfl rfl) rfl rfl rfl (fun V9 => ?_)
      refine TO.y (Y.assign rfl) rfl rfl rfl ?_
      refine TO.nil ?_
      refine TE.next ?_
      refine TW.seq ?_
      refine TW.seq ?_
      refine TW.region ?_
      refine TO.y (Y.move rfl) rfl rfl rfl ?_
      refine TO.y (Y.sub rfl rfl) rfl rfl rfl ?_
      refine TO.y (Y.assign rfl) rfl rfl rfl ?_
      refine TO.nil ?_
      refine TE.next ?_
      refine TW.joinX (τ := List UInt8) (X := Unit) (fun _ _ => [(5, V9)]) (fun T _ => [.own V9 (lc T)]) ?_ (fun T14 X15 => ?_)
      · refine TW.block ?_
        refine TW.loopX (σ := Int × Int × List UInt8) (X := Unit) (fun T _ => [(0, .int .i64 T.1), (5, V9), (6, .int .i64 T.2.1)]) (fun T _ => [.own V9 (lc T.2.2)]) () [0] ⟨rfl, rfl, rfl, trivial⟩ rfl (fun S12 X13 => ?_)
        refine TW.seq ?_
        refine TW.seq ?_
        refine TW.region ?_
        refine TO.y (Y.move rfl) rfl rfl rfl ?_
        refine TO.y (Y.geq rfl rfl) rfl rfl rfl ?_
        refine TO.nil ?_
        refine TE.next ?_
        refine TW.cond rfl (fun H16 => ?_) (fun H16 => ?_)
        · refine TW.skip ?_
          refine TE.next ?_
          refine TW.seq ?_
          refine TW.block ?_
          refine TW.seq ?_
          refine TW.region ?_
          refine TO.y (Y.move rfl) rfl rfl rfl ?_
          refine TO.y (Y.move rfl) rfl rfl rfl ?_
          refine TO.y (Y.move rfl) rfl rfl rfl ?_
          refine TO.y (Y.conv8 ki3 ki5 rfl) rfl rfl rfl ?_
          refine TO.bind fun E17 H18 => ?_
          refine TO.y (Y.index ke22 (Can.own 0 rfl) H18 rfl rfl) rfl rfl rfl ?_
          refine TO.ef0 (Ef.store_el (us := [.int .u8 (((toU8 S12.1).toNat : Nat) : Int)]) (is' := [.own V9 (lc (S12.2.2.set S12.2.1.toNat (toU8 S12.1)))]) (toU8 S12.1) 0 kk5 rfl rfl (idx_get H18).2.2 rfl rfl (Cel.plain rfl rfl) rfl rfl rfl rfl) rfl rfl (fun _ => ?_)
          refine TO.nil ?_
          refine TE.next ?_
          refine TW.region ?_
          refine TO.y (Y.move rfl) rfl rfl rfl ?_
          refine TO.y (Y.shr (by decide) rfl rfl) rfl rfl rfl ?_
          refine TO.y (Y.assign rfl) rfl rfl rfl ?_
          refine TO.nil ?_
          refine TE.block_normal ?_
          refine TE.next ?_
          refine TW.region ?_
          refine TO.y (Y.move rfl) rfl rfl rfl ?_
          refine TO.y (Y.sub rfl rfl) rfl rfl rfl ?_
          refine TO.y (Y.assign rfl) rfl rfl rfl ?_
          refine TO.nil ?_
          exact TE.lp_go () [0] ⟨rfl, rfl, rfl, trivial⟩ rfl
        · refine TW.exit ?_
          refine TE.then_exit ?_
          refine TE.lp_exit ?_
          refine TE.block_exit ?_
          exact TE.jn_go () [0] ⟨rfl, trivial⟩ rfl
      · refine TE.next ?_
        refine TW.seq ?_
        refine TW.region ?_
        refine TO.y (Y.move rfl) rfl rfl rfl ?_
        refine TO.y (Y.toStr ke22 ki5 ks9 (Can.own 0 rfl) rfl) rfl rfl rfl ?_
        refine TO.y (Y.assign rfl) rfl rfl rfl ?_
        refine TO.nil ?_
        refine TE.next ?_
        refine TW.ret ?_
        exact TE.leaf fun _ _ hf_ hs_ => ret_any (rs := [.tmp 4]) (vs := [strV T14]) (.inl rfl) rfl ⟨rfl, trivial⟩ hf_ hs_ ⟨(), rfl, hs_.pulls [] rfl⟩

/-- loop.example/g00950/impl.NonceOf -/
noncomputable def impl_NonceOf (kind : Int) (n : Int) : Option (List UInt8) :=
  ((impl_inRange kind (0 : Int) (255 : Int)).bind fun R3 =>
  if (!R3) = true then (some true)
  else ((impl_inRange n (0 : Int) (562949953421311 : Int)).bind fun R7 =>
  some (!R7))).bind (fun (T1 : Bool) =>
  if T1 = true then (some ([]))
  else ((impl_Fixed n (7 : Int)).bind fun R12 =>
  (cat ([toU8 kind, (0 : UInt8), (0 : UInt8), (0 : UInt8), (0 : UInt8)]) R12).bind fun E17 =>
  some E17))

theorem impl_NonceOf_con (kind : Int) (n : Int)  (r : List UInt8) (hm : impl_NonceOf kind n = some r) :
    Con Try.prog 17 [.int .i64 kind, .int .i64 n] [] [] (fun _ : Unit => strV r) (fun _ => []) := by
  refine Con.intro (args := [.int .i64 kind, .int .i64 n]) (n := 20) (val := fun r (_ : Unit) => strV r) (post := fun _ _ => []) (m := impl_NonceOf kind n) Try.func17 rfl rfl rfl hm ?_
  intro w S _
  unfold impl_NonceOf
  refine TW.seq ?_
  refine TW.region ?_
  refine TO.y (Y.assign rfl) rfl rfl rfl ?_
  refine TO.nil ?_
  refine TE.next ?_
  refine TW.seq ?_
  refine TW.seq ?_
  refine TW.joinBX (τ := Bool) (X := Unit) (fun T _ => [(0, .int .i64 kind), (1, .int .i64 n), (12, .bool T)]) (fun _ _ => []) ?_ (fun T1 X2 => ?_)
  · refine TW.region ?_
    refine TO.y (Y.move rfl) rfl rfl rfl ?_
    refine TO.bind fun R3 H4 => ?_
    refine TO.ef (Ef.call (rest := []) [] (impl_inRange_con kind (0 : Int) (255 : Int)  R3 H4) kc35 rfl rfl trivial) rfl rfl rfl (fun _ => ?_)
    refine TO.y (Y.not rfl) rfl rfl rfl ?_
    refine TO.y (Y.move rfl) rfl rfl rfl ?_
    refine TO.ite (b := !R3) (fun H6 => ?_) (fun H6 => ?_)
    · refine TO.off (Gd.at 3 false 8 (!R3) rfl rfl rfl (beq_tf H6)) rfl rfl ?_
      refine TO.off (Gd.at 3 false 8 (!R3) rfl rfl rfl (beq_tf H6)) rfl rfl ?_
      refine TO.off (Gd.at 3 false 8 (!R3) rfl rfl rfl (beq_tf H6)) rfl rfl ?_
      refine TO.y (Y.pick_t H6 rfl rfl) rfl rfl rfl ?_
      refine TO.nil ?_
      exact TE.jb_go () [] ⟨rfl, rfl, rfl, trivial⟩ rfl
    · refine TO.y (Y.move rfl) (Gd.at 3 false 8 (!R3) rfl rfl rfl (beq_ff H6)) rfl rfl ?_
      refine TO.bind fun R7 H8 => ?_
      refine TO.ef (Ef.call (rest := []) [] (impl_inRange_con n (0 : Int) (562949953421311 : Int)  R7 H8) kc35 rfl rfl trivial) (Gd.at 3 false 8 (!R3) rfl rfl rfl (beq_ff H6)) rfl rfl (fun _ => ?_)
      refine TO.y (Y.not rfl) (Gd.at 3 false 8 (!R3) rfl rfl rfl (beq_ff H6)) rfl rfl ?_
      refine TO.y (Y.pick_f H6 rfl rfl) rfl rfl rfl ?_
      refine TO.nil ?_
      exact TE.jb_go () [] ⟨rfl, rfl, rfl, trivial⟩ rfl
  · refine TE.next ?_
    refine TW.cond rfl (fun H10 => ?_) (fun H10 => ?_)
    · refine TW.seq ?_
      refine TW.region ?_
      refine TO.y (Y.assign rfl) rfl rfl rfl ?_
      refine TO.nil ?_
      refine TE.next ?_
      refine TW.ret ?_
      refine TE.then_ret ?_
      exact TE.leaf fun _ _ hf_ hs_ => ret_any (rs := [.tmp 4]) (vs := [strV ([])]) (.inl rfl) rfl ⟨rfl, trivial⟩ hf_ hs_ ⟨(), rfl, hs_.pulls [] rfl⟩
    · refine TW.skip ?_
      refine TE.next ?_
      refine TW.seq ?_
      refine TW.bind fun R12 H13 => ?_
      refine TW.bind fun E17 H18 => ?_
      refine TW.joinU (X := Unit) (fun _ _ => [(4, strV E17)]) (fun _ _ => []) ?_ (fun _ X20 => ?_)
      · refine TW.draw (isH := []) hMix ?_
        refine TA.y (listed' := #[true, false, false, false, false, false, false, false]) 0 [] rfl (Y.move rfl) rfl rfl rfl (by kernel_rfl) (by kernel_rfl) (by kernel_rfl) rfl rfl ?_
        refine TA.y (listed' := #[true, true, false, false, false, false, false, false]) 1 [] rfl (Y.conv8 ki3 ki5 rfl) rfl rfl rfl (by kernel_rfl) (by kernel_rfl) (by kernel_rfl) rfl rfl ?_
        refine TA.y (listed' := #[true, true, false, false, true, false, false, false]) 4 [] rfl (Y.move rfl) rfl rfl rfl (by kernel_rfl) (by kernel_rfl) (by kernel_rfl) rfl rfl ?_
        refine TA.two 2 5 (by kernel_rfl) ?_ ?_
        · refine TX.ef (listed' := #[true, true, true, false, true, false, false, false]) [] rfl (Ef.buildSlice (α := UInt8) (Vs := [.int .u8 (((toU8 kind).toNat : Nat) : Int), .int .u8 (0 : Int), .int .u8 (0 : Int), .int .u8 (0 : Int), .int .u8 (0 : Int)]) [toU8 kind, (0 : UInt8), (0 : UInt8), (0 : UInt8), (0 : UInt8)] ke22 kz5 rfl rfl rfl rfl rfl) rfl rfl rfl rfl (fun _ => rfl) (fun B21 => ?_)
          refine TA.two 3 5 (by kernel_rfl) ?_ ?_
          · refine TX.y (listed' := #[true, true, true, true, true, false, false, false]) [] rfl (Y.toStr ke22 ki5 ks9 (Can.own 0 rfl) rfl) rfl rfl rfl rfl rfl ?_
            refine TA.one 5 (by kernel_rfl) ?_
            refine TX.ef (listed' := #[true, true, true, true, true, true, false, false]) [] rfl (Ef.call (rest := [.own (.slice (some ⟨B21, 0, none⟩) 5 5) (lc ([toU8 kind, (0 : UInt8), (0 : UInt8), (0 : UInt8), (0 : UInt8)]))]) [0] (impl_Fixed_con n (7 : Int)  R12 H13) kc36 rfl rfl trivial) rfl rfl rfl rfl (fun _ => rfl) (fun _ => ?_)
            refine TA.y (listed' := #[true, true, true, true, true, true, true, false]) 6 [] rfl (Y.cat H18 rfl rfl) rfl rfl rfl (by kernel_rfl) (by kernel_rfl) (by kernel_rfl) rfl rfl ?_
            refine TA.y (listed' := #[true, true, true, true, true, true, true, true]) 7 [] rfl (Y.assign rfl) rfl rfl rfl (by kernel_rfl) (by kernel_rfl) (by kernel_rfl) rfl rfl ?_
            refine TA.nil (by kernel_rfl) ?_
            exact TE.jb_go () [] ⟨rfl, trivial⟩ rfl
          · refine TX.ef (listed' := #[true, true, true, false, true, true, false, false]) [] rfl (Ef.call (rest := [.own (.slice (some ⟨B21, 0, none⟩) 5 5) (lc ([toU8 kind, (0 : UInt8), (0 : UInt8), (0 : UInt8), (0 : UInt8)]))]) [0] (impl_Fixed_con n (7 : Int)  R12 H13) kc36 rfl rfl trivial) rfl rfl rfl rfl (fun _ => rfl) (fun _ => ?_)
            refine TA.one 3 (by kernel_rfl) ?_
            refine TX.y (listed' := #[true, true, true, true, true, true, false, false]) [] rfl (Y.toStr ke22 ki5 ks9 (Can.own 0 rfl) rfl) rfl rfl rfl rfl rfl ?_
            refine TA.y (listed' := #[true, true, true, true, true, true, true, false]) 6 [] rfl (Y.cat H18 rfl rfl) rfl rfl rfl (by kernel_rfl) (by kernel_rfl) (by kernel_rfl) rfl rfl ?_
            refine TA.y (listed' := #[true, true, true, true, true, true, true, true]) 7 [] rfl (Y.assign rfl) rfl rfl rfl (by kernel_rfl) (by kernel_rfl) (by kernel_rfl) rfl rfl ?_
            refine TA.nil (by kernel_rfl) ?_
            exact TE.jb_go () [] ⟨rfl, trivial⟩ rfl
        · refine TX.ef (listed' := #[true, true, false, false, true, true, false, false]) [] rfl (Ef.call (rest := []) [] (impl_Fixed_con n (7 : Int)  R12 H13) kc36 rfl rfl trivial) rfl rfl rfl rfl (fun _ => rfl) (fun _ => ?_)
          refine TA.one 2 (by kernel_rfl) ?_
          refine TX.ef (listed' := #[true, true, true, false, true, true, false, false]) [] rfl (Ef.buildSlice (α := UInt8) (Vs := [.int .u8 (((toU8 kind).toNat : Nat) : Int), .int .u8 (0 : Int), .int .u8 (0 : Int), .int .u8 (0 : Int), .int .u8 (0 : Int)]) [toU8 kind, (0 : UInt8), (0 : UInt8), (0 : UInt8), (0 : UInt8)] ke22 kz5 rfl rfl rfl rfl rfl) rfl rfl rfl rfl (fun _ => rfl) (fun B23 => ?_)
          refine TA.one 3 (by kernel_rfl) ?_
          refine TX.y (listed' := #[true, true, true, true, true, true, false, false]) [] rfl (Y.toStr ke22 ki5 ks9 (Can.own 0 rfl) rfl) rfl rfl rfl rfl rfl ?_
          refine TA.y (listed' := #[true, true, true, true, true, true, true, false]) 6 [] rfl (Y.cat H18 rfl rfl) rfl rfl rfl (by kernel_rfl) (by kernel_rfl) (by kernel_rfl) rfl rfl ?_
          refine TA.y (listed' := #[true, true, true, true, true, true, true, true]) 7 [] rfl (Y.assign rfl) rfl rfl rfl (by kernel_rfl) (by kernel_rfl) (by kernel_rfl) rfl rfl ?_
          refine TA.nil (by kernel_rfl) ?_
          exact TE.jb_go () [] ⟨rfl, trivial⟩ rfl
      · refine TE.next ?_
        refine TW.ret ?_
        exact TE.leaf fun _ _ hf_ hs_ => ret_any (rs := [.tmp 4]) (vs := [strV E17]) (.inl rfl) rfl ⟨rfl, trivial⟩ hf_ hs_ ⟨(), rfl, hs_.pulls [] rfl⟩

/-- loop.example/g00950/impl.isCha -/
noncomputable def impl_isCha (key : List UInt8) (counter : Int) (nonce : List UInt8) : Option Bool :=
  (if (decide (((key.length : Nat) : Int) = (32 : Int))) = true then ((impl_inRange counter (0 : Int) (4294967295 : Int)).bind fun R4 =>
  if R4 = true then (some (decide (((nonce.length : Nat) : Int) = (12 : Int))))
  else (some false))
  else (some false)).bind (fun (T1 : Bool) =>
  some T1)

theorem impl_isCha_con (key : List UInt8) (counter : Int) (nonce : List UInt8)  (r : Bool) (hm : impl_isCha key counter nonce = some r) :
    Con Try.prog 30 [strV key, .int .i64 counter, strV nonce] [] [] (fun _ : Unit => .bool r) (fun _ => []) := by
  refine Con.intro (args := [strV key, .int .i64 counter, strV nonce]) (n := 19) (val := fun r (_ : Unit) => .bool r) (post := fun _ _ => []) (m := impl_isCha key counter nonce) Try.func30 rfl rfl rfl hm ?_
  intro w S _
  unfold impl_isCha
  refine TW.seq ?_
  refine TW.region ?_
  refine TO.y (Y.assign rfl) rfl rfl rfl ?_
  refine TO.nil ?_
  refine TE.next ?_
  refine TW.seq ?_
  refine TW.joinBX (τ := Bool) (X := Unit) (fun T _ => [(6, .bool T)]) (fun _ _ => []) ?_ (fun T1 X2 => ?_)
  · refine TW.region ?_
    refine TO.y (Y.move rfl) rfl rfl rfl ?_
    refine TO.y (Y.slen ks9 rfl) rfl rfl rfl ?_
    refine TO.y (Y.eql rfl rfl) rfl rfl rfl ?_
    refine TO.y (Y.move rfl) rfl rfl rfl ?_
    refine TO.ite (b := decide (((key.length : Nat) : Int) = (32 : Int))) (fun H3 => ?_) (fun H3 => ?_)
    · refine TO.y (Y.move rfl) (Gd.at 3 true 10 (decide (((key.length : Nat) : Int) = (32 : Int))) rfl rfl rfl (beq_tt H3)) rfl rfl ?_
      refine TO.bind fun R4 H5 => ?_
      refine TO.ef (Ef.call (rest := []) [] (impl_inRange_con counter (0 : Int) (4294967295 : Int)  R4 H5) kc35 rfl rfl trivial) (Gd.at 3 true 10 (decide (((key.length : Nat) : Int) = (32 : Int))) rfl rfl rfl (beq_tt H3)) rfl rfl (fun _ => ?_)
      refine TO.y (Y.pick_t H3 rfl rfl) rfl rfl rfl ?_
      refine TO.y (Y.move rfl) rfl rfl rfl ?_
      refine TO.ite (b := R4) (fun H7 => ?_) (fun H7 => ?_)
      · refine TO.y (Y.move rfl) (Gd.at 7 true 14 R4 rfl rfl rfl (beq_tt H7)) rfl rfl ?_
        refine TO.y (Y.slen ks9 rfl) (Gd.at 7 true 14 R4 rfl rfl rfl (beq_tt H7)) rfl rfl ?_
        refine TO.y (Y.eql rfl rfl) (Gd.at 7 true 14 R4 rfl rfl rfl (beq_tt H7)) rfl rfl ?_
        refine TO.y (Y.pick_t H7 rfl rfl) rfl rfl rfl ?_
        refine TO.y (Y.assign rfl) rfl rfl rfl ?_
        refine TO.nil ?_
        exact TE.jb_go () [] ⟨rfl, trivial⟩ rfl
      · refine TO.off (Gd.at 7 true 14 R4 rfl rfl rfl (beq_ft H7)) rfl rfl ?_
        refine TO.off (Gd.at 7 true 14 R4 rfl rfl rfl (beq_ft H7)) rfl rfl ?_
        refine TO.off (Gd.at 7 true 14 R4 rfl rfl rfl (beq_ft H7)) rfl rfl ?_
        refine TO.y (Y.pick_f H7 rfl rfl) rfl rfl rfl ?_
        refine TO.y (Y.assign rfl) rfl rfl rfl ?_
        refine TO.nil ?_
        exact TE.jb_go () [] ⟨rfl, trivial⟩ rfl
    · refine TO.off (Gd.at 3 true 10 (decide (((key.length : Nat) : Int) = (32 : Int))) rfl rfl rfl (beq_ft H3)) rfl rfl ?_
      refine TO.off (Gd.at 3 true 10 (decide (((key.length : Nat) : Int) = (32 : Int))) rfl rfl rfl (beq_ft H3)) rfl rfl ?_
      refine TO.y (Y.pick_f H3 rfl rfl) rfl rfl rfl ?_
      refine TO.y (Y.move rfl) rfl rfl rfl ?_
      refine TO.off (Gd.at 7 true 14 false rfl rfl rfl rfl) rfl rfl ?_
      refine TO.off (Gd.at 7 true 14 false rfl rfl rfl rfl) rfl rfl ?_
      refine TO.off (Gd.at 7 true 14 false rfl rfl rfl rfl) rfl rfl ?_
      refine TO.y (Y.pick_f rfl rfl rfl) rfl rfl rfl ?_
      refine TO.y (Y.assign rfl) rfl rfl rfl ?_
      refine TO.nil ?_
      exact TE.jb_go () [] ⟨rfl, trivial⟩ rfl
  · refine TE.next ?_
    refine TW.ret ?_
    exact TE.leaf fun _ _ hf_ hs_ => ret_any (rs := [.tmp 6]) (vs := [.bool T1]) (.inl rfl) rfl ⟨rfl, trivial⟩ hf_ hs_ ⟨(), rfl, hs_.pulls [] rfl⟩

/-- loop.example/g00950/impl.little -/
noncomputable def impl_little (s : List UInt8) (at_ : Int) : Option Int :=
  (sidx s at_).bind fun E1 =>
  (sidx s (IntKind.i64.wrap (at_ + (1 : Int)))).bind fun E3 =>
  (sidx s (IntKind.i64.wrap (at_ + (2 : Int)))).bind fun E5 =>
  (sidx s (IntKind.i64.wrap (at_ + (3 : Int)))).bind fun E7 =>
  some (ior .u32 (ior .u32 (ior .u32 (IntKind.u32.wrap ((E1.toNat : Nat) : Int)) (ishl .u32 (IntKind.u32.wrap ((E3.toNat : Nat) : Int)) (8 : Int))) (ishl .u32 (IntKind.u32.wrap ((E5.toNat : Nat) : Int)) (16 : Int))) (ishl .u32 (IntKind.u32.wrap ((E7.toNat : Nat) : Int)) (24 : Int)))

theorem impl_little_con (s : List UInt8) (at_ : Int)  (r : Int) (hm : impl_little s at_ = some r) :
    Con Try.prog 43 [strV s, .int .i64 at_] [] [] (fun _ : Unit => .int .u32 r) (fun _ => []) := by
  refine Con.intro (args := [strV s, .int .i64 at_]) (n := 30) (val := fun r (_ : Unit) => .int .u32 r) (post := fun _ _ => []) (m := impl_little s at_) Try.func43 rfl rfl rfl hm ?_
  intro w S _
  unfold impl_little
  refine TW.seq ?_
  refine TW.region ?_
  refine TO.y (Y.assign rfl) rfl rfl rfl ?_
  refine TO.nil ?_
  refine TE.next ?_
  refine TW.seq ?_
  refine TW.draw (isH := []) hMix ?_
  refine TA.y (listed' := #[true, false, false, false, false, false, false, false, false, false, false, false, false, false, false, false, false, false, false, false, false, false, false, false, false, false]) 0 [] rfl (Y.move rfl) rfl rfl rfl (by kernel_rfl) (by kernel_rfl) (by kernel_rfl) rfl rfl ?_
  refine TA.y (listed' := #[true, true, false, false, false, false, false, false, false, false, false, false, false, false, false, false, false, false, false, false, false, false, false, false, false, false]) 1 [] rfl (Y.move rfl) rfl rfl rfl (by kernel_rfl) (by kernel_rfl) (by kernel_rfl) rfl rfl ?_
  refine TA.bind fun E1 H2 => ?_
  refine TA.y (listed' := #[true, true, true, false, false, false, false, false, false, false, false, false, false, false, false, false, false, false, false, false, false, false, false, false, false, false]) 2 [] rfl (Y.sidx H2 ks9 rfl rfl) rfl rfl rfl (by kernel_rfl) (by kernel_rfl) (by kernel_rfl) rfl rfl ?_
  refine TA.y (listed' := #[true, true, true, true, false, false, false, false, false, false, false, false, false, false, false, false, false, false, false, false, false, false, false, false, false, false]) 3 [] rfl (Y.conv ki5 ki47 rfl) rfl rfl rfl (by kernel_rfl) (by kernel_rfl) (by kernel_rfl) rfl rfl ?_
  refine TA.y (listed' := #[true, true, true, true, true, false, false, false, false, false, false, false, false, false, false, false, false, false, false, false, false, false, false, false, false, false]) 4 [] rfl (Y.move rfl) rfl rfl rfl (by kernel_rfl) (by kernel_rfl) (by kernel_rfl) rfl rfl ?_
  refine TA.y (listed' := #[true, true, true, true, true, true, false, false, false, false, false, false, false, false, false, false, false, false, false, false, false, false, false, false, false, false]) 5 [] rfl (Y.move rfl) rfl rfl rfl (by kernel_rfl) (by kernel_rfl) (by kernel_rfl) rfl rfl ?_
  refine TA.y (listed' := #[true, true, true, true, true, true, true, false, false, false, false, false, false, false, false, false, false, false, false, false, false, false, false, false, false, false]) 6 [] rfl (Y.add rfl rfl) rfl rfl rfl (by kernel_rfl) (by kernel_rfl) (by kernel_rfl) rfl rfl ?_
  refine TA.bind fun E3 H4 => ?_
  refine TA.y (listed' := #[true, true, true, true, true, true, true, true, false, false, false, false, false, false, false, false, false, false, false, false, false, false, false, false, false, false]) 7 [] rfl (Y.sidx H4 ks9 rfl rfl) rfl rfl rfl (by kernel_rfl) (by kernel_rfl) (by kernel_rfl) rfl rfl ?_
  refine TA.y (listed' := #[true, true, true, true, true, true, true, true, true, false, false, false, false, false, false, false, false, false, false, false, false, false, false, false, false, false]) 8 [] rfl (Y.conv ki5 ki47 rfl) rfl rfl rfl (by kernel_rfl) (by kernel_rfl) (by kernel_rfl) rfl rfl ?_
  refine TA.y (listed' := #[true, true, true, true, true, true, true, true, true, true, false, false, false, false, false, false, false, false, false, false, false, false, false, false, false, false]) 9 [] rfl (Y.shl (by decide) rfl rfl) rfl rfl rfl (by kernel_rfl) (by kernel_rfl) (by kernel_rfl) rfl rfl ?_
  refine TA.y (listed' := #[true, true, true, true, true, true, true, true, true, true, true, false, false, false, false, false, false, false, false, false, false, false, false, false, false, false]) 10 [] rfl (Y.or rfl rfl) rfl rfl rfl (by kernel_rfl) (by kernel_rfl) (by kernel_rfl) rfl rfl ?_
  refine TA.y (listed' := #[true, true, true, true, true, true, true, true, true, true, true, true, false, false, false, false, false, false, false, false, false, false, false, false, false, false]) 11 [] rfl (Y.move rfl) rfl rfl rfl (by kernel_rfl) (by kernel_rfl) (by kernel_rfl) rfl rfl ?_
  refine TA.y (listed' := #[true, true, true, true, true, true, true, true, true, true, true, true, true, false, false, false, false, false, false, false, false, false, false, false, false, false]) 12 [] rfl (Y.move rfl) rfl rfl rfl (by kernel_rfl) (by kernel_rfl) (by kernel_rfl) rfl rfl ?_
  refine TA.y (listed' := #[true, true, true, true, true, true, true, true, true, true, true, true, true, true, false, false, false, false, false, false, false, false, false, false, false, false]) 13 [] rfl (Y.add rfl rfl) rfl rfl rfl (by kernel_rfl) (by kernel_rfl) (by kernel_rfl) rfl rfl ?_
  refine TA.bind fun E5 H6 => ?_
  refine TA.y (listed' := #[true, true, true, true, true, true, true, true, true, true, true, true, true, true, true, false, false, false, false, false, false, false, false, false, false, false]) 14 [] rfl (Y.sidx H6 ks9 rfl rfl) rfl rfl rfl (by kernel_rfl) (by kernel_rfl) (by kernel_rfl) rfl rfl ?_
  refine TA.y (listed' := #[true, true, true, true, true, true, true, true, true, true, true, true, true, true, true, true, false, false, false, false, false, false, false, false, false, false]) 15 [] rfl (Y.conv ki5 ki47 rfl) rfl rfl rfl (by kernel_rfl) (by kernel_rfl) (by kernel_rfl) rfl rfl ?_
  refine TA.y (listed' := #[true, true, true, true, true, true, true, true, true, true, true, true, true, true, true, true, true, false, false, false, false, false, false, false, false, false]) 16 [] rfl (Y.shl (by decide) rfl rfl) rfl rfl rfl (by kernel_rfl) (by kernel_rfl) (by kernel_rfl) rfl rfl ?_
  refine TA.y (listed' := #[true, true, true, true, true, true, true, true, true, true, true, true, true, true, true, true, true, true, false, false, false, false, false, false, false, false]) 17 [] rfl (Y.or rfl rfl) rfl rfl rfl (by kernel_rfl) (by kernel_rfl) (by kernel_rfl) rfl rfl ?_
  refine TA.y (listed' := #[true, true, true, true, true, true, true, true, true, true, true, true, true, true, true, true, true, true, true, false, false, false, false, false, false, false]) 18 [] rfl (Y.move rfl) rfl rfl rfl (by kernel_rfl) (by kernel_rfl) (by kernel_rfl) rfl rfl ?_
  refine TA.y (listed' := #[true, true, true, true, true, true, true, true, true, true, true, true, true, true, true, true, true, true, true, true, false, false, false, false, false, false]) 19 [] rfl (Y.move rfl) rfl rfl rfl (by kernel_rfl) (by kernel_rfl) (by kernel_rfl) rfl rfl ?_
  refine TA.y (listed' := #[true, true, true, true, true, true, true, true, true, true, true, true, true, true, true, true, true, true, true, true, true, false, false, false, false, false]) 20 [] rfl (Y.add rfl rfl) rfl rfl rfl (by kernel_rfl) (by kernel_rfl) (by kernel_rfl) rfl rfl ?_
  refine TA.bind fun E7 H8 => ?_
  refine TA.y (listed' := #[true, true, true, true, true, true, true, true, true, true, true, true, true, true, true, true, true, true, true, true, true, true, false, false, false, false]) 21 [] rfl (Y.sidx H8 ks9 rfl rfl) rfl rfl rfl (by kernel_rfl) (by kernel_rfl) (by kernel_rfl) rfl rfl ?_
  refine TA.y (listed' := #[true, true, true, true, true, true, true, true, true, true, true, true, true, true, true, true, true, true, true, true, true, true, true, false, false, false]) 22 [] rfl (Y.conv ki5 ki47 rfl) rfl rfl rfl (by kernel_rfl) (by kernel_rfl) (by kernel_rfl) rfl rfl ?_
  refine TA.y (listed' := #[true, true, true, true, true, true, true, true, true, true, true, true, true, true, true, true, true, true, true, true, true, true, true, true, false, false]) 23 [] rfl (Y.shl (by decide) rfl rfl) rfl rfl rfl (by kernel_rfl) (by kernel_rfl) (by kernel_rfl) rfl rfl ?_
  refine TA.y (listed' := #[true, true, true, true, true, true, true, true, true, true, true, true, true, true, true, true, true, true, true, true, true, true, true, true, true, false]) 24 [] rfl (Y.or rfl rfl) rfl rfl rfl (by kernel_rfl) (by kernel_rfl) (by kernel_rfl) rfl rfl ?_
  refine TA.y (listed' := #[true, true, true, true, true, true, true, true, true, true, true, true, true, true, true, true, true, true, true, true, true, true, true, true, true, true]) 25 [] rfl (Y.assign rfl) rfl rfl rfl (by kernel_rfl) (by kernel_rfl) (by kernel_rfl) rfl rfl ?_
  refine TA.nil (by kernel_rfl) ?_
  refine TE.next ?_
  refine TW.ret ?_
  exact TE.leaf fun _ _ hf_ hs_ => ret_any (rs := [.tmp 4]) (vs := [.int .u32 (ior .u32 (ior .u32 (ior .u32 (IntKind.u32.wrap ((E1.toNat : Nat) : Int)) (ishl .u32 (IntKind.u32.wrap ((E3.toNat : Nat) : Int)) (8 : Int))) (ishl .u32 (IntKind.u32.wrap ((E5.toNat : Nat) : Int)) (16 : Int))) (ishl .u32 (IntKind.u32.wrap ((E7.toNat : Nat) : Int)) (24 : Int)))]) (.inl rfl) rfl ⟨rfl, trivial⟩ hf_ hs_ ⟨(), rfl, hs_.pulls [] rfl⟩

/-- loop.example/g00950/impl.firstWords -/
noncomputable def impl_firstWords (key : List UInt8) (counter : Int) (nonce : List UInt8) : Option (List Wrd) :=
  (lenIs 16 ([(Wrd.mk (1634760805 : Int)), (Wrd.mk (857760878 : Int)), (Wrd.mk (2036477234 : Int)), (Wrd.mk (1797285236 : Int)), (Wrd.mk (0 : Int)), (Wrd.mk (0 : Int)), (Wrd.mk (0 : Int)), (Wrd.mk (0 : Int)), (Wrd.mk (0 : Int)), (Wrd.mk (0 : Int)), (Wrd.mk (0 : Int)), (Wrd.mk (0 : Int)), (Wrd.mk (0 : Int)), (Wrd.mk (0 : Int)), (Wrd.mk (0 : Int)), (Wrd.mk (0 : Int))])).bind fun E3 =>
  bindC (loopO (fun (S5 : Int × List Wrd) => if (decide (S5.1 < (8 : Int))) = true then ((impl_little key (IntKind.i64.wrap ((4 : Int) * S5.1))).bind fun R10 =>
  (idx S5.2 (IntKind.i64.wrap ((4 : Int) + S5.1))).bind fun E13 =>
  some (.go (IntKind.i64.wrap (S5.1 + (1 : Int)), (S5.2.set ((IntKind.i64.wrap ((4 : Int) + S5.1)).toNat) (Wrd.mk R10)))))
  else (some (.done (.go S5.2))))
  ((0 : Int), ([(Wrd.mk (1634760805 : Int)), (Wrd.mk (857760878 : Int)), (Wrd.mk (2036477234 : Int)), (Wrd.mk (1797285236 : Int)), (Wrd.mk (0 : Int)), (Wrd.mk (0 : Int)), (Wrd.mk (0 : Int)), (Wrd.mk (0 : Int)), (Wrd.mk (0 : Int)), (Wrd.mk (0 : Int)), (Wrd.mk (0 : Int)), (Wrd.mk (0 : Int)), (Wrd.mk (0 : Int)), (Wrd.mk (0 : Int)), (Wrd.mk (0 : Int)), (Wrd.mk (0 : Int))])))
  (fun (T7 : List Wrd) => (idx T7 (12 : Int)).bind fun E15 =>
  bindC (loopO (fun (S17 : Int × List Wrd) => if (decide (S17.1 < (3 : Int))) = true then ((impl_little nonce (IntKind.i64.wrap ((4 : Int) * S17.1))).bind fun R22 =>
  (idx S17.2 (IntKind.i64.wrap ((13 : Int) + S17.1))).bind fun E25 =>
  some (.go (IntKind.i64.wrap (S17.1 + (1 : Int)), (S17.2.set ((IntKind.i64.wrap ((13 : Int) + S17.1)).toNat) (Wrd.mk R22)))))
  else (some (.done (.go S17.2))))
  ((0 : Int), (T7.set ((12 : Int).toNat) (Wrd.mk (IntKind.u32.wrap counter)))))
  (fun (T19 : List Wrd) => (lenIs 16 T19).bind fun E27 =>
  some T19))

theorem impl_firstWords_con (key : List UInt8) (counter : Int) (nonce : List UInt8)  (r : List Wrd) (hm : impl_firstWords key counter nonce = some r) :
    Con Try.prog 32 [strV key, .int .i64 counter, strV nonce] [] [] (fun _ : Unit => arrV r) (fun _ => []) := by
  refine Con.intro (args := [strV key, .int .i64 counter, strV nonce]) (n := 37) (val := fun r (_ : Unit) => arrV r) (post := fun _ _ => []) (m := impl_firstWords key counter nonce) Try.func32 rfl rfl rfl hm ?_
  intro w S _
  unfold impl_firstWords
  refine TW.seq ?_
  refine TW.region ?_
  refine TO.ef (Ef.allocArr (α := Wrd) (List.replicate 16 (Wrd.mk 0)) kz48 rfl (by decide)) rfl rfl rfl (fun B1 => ?_)
  refine TO.nil ?_
  refine TE.next ?_
  refine TW.seq ?_
  refine TW.region ?_
  refine TO.y (Y.build_arr (cells := [.int .u32 (1634760805 : Int), .int .u32 (857760878 : Int), .int .u32 (2036477234 : Int), .int .u32 (1797285236 : Int), .int .u32 (0 : Int), .int .u32 (0 : Int), .int .u32 (0 : Int), .int .u32 (0 : Int), .int .u32 (0 : Int), .int .u32 (0 : Int), .int .u32 (0 : Int), .int .u32 (0 : Int), .int .u32 (0 : Int), .int .u32 (0 : Int), .int .u32 (0 : Int), .int .u32 (0 : Int)]) (v := arrV ([(Wrd.mk (1634760805 : Int)), (Wrd.mk (857760878 : Int)), (Wrd.mk (2036477234 : Int)), (Wrd.mk (1797285236 : Int)), (Wrd.mk (0 : Int)), (Wrd.mk (0 : Int)), (Wrd.mk (0 : Int)), (Wrd.mk (0 : Int)), (Wrd.mk (0 : Int)), (Wrd.mk (0 : Int)), (Wrd.mk (0 : Int)), (Wrd.mk (0 : Int)), (Wrd.mk (0 : Int)), (Wrd.mk (0 : Int)), (Wrd.mk (0 : Int)), (Wrd.mk (0 : Int))])) [(0, [.int .u32 (1634760805 : Int)]), (1, [.int .u32 (857760878 : Int)]), (2, [.int .u32 (2036477234 : Int)]), (3, [.int .u32 (1797285236 : Int)])] ka48 kz48 ⟨rfl, ⟨_, rfl, (Cel.plain rfl rfl)⟩, ⟨rfl, ⟨_, rfl, (Cel.plain rfl rfl)⟩, ⟨rfl, ⟨_, rfl, (Cel.plain rfl rfl)⟩, ⟨rfl, ⟨_, rfl, (Cel.plain rfl rfl)⟩, trivial⟩⟩⟩⟩ rfl rfl rfl) rfl rfl rfl ?_
  refine TO.ef (Ef.allocArr (α := Wrd) (List.replicate 16 (Wrd.mk 0)) kz48 rfl (by decide)) rfl rfl rfl (fun B2 => ?_)
  refine TO.bind fun E3 H4 => ?_
  refine TO.ef0 (Ef.store_arr (α := Wrd) (is' := [.own (arrS B2 16) (lc ([(Wrd.mk (1634760805 : Int)), (Wrd.mk (857760878 : Int)), (Wrd.mk (2036477234 : Int)), (Wrd.mk (1797285236 : Int)), (Wrd.mk (0 : Int)), (Wrd.mk (0 : Int)), (Wrd.mk (0 : Int)), (Wrd.mk (0 : Int)), (Wrd.mk (0 : Int)), (Wrd.mk (0 : Int)), (Wrd.mk (0 : Int)), (Wrd.mk (0 : Int)), (Wrd.mk (0 : Int)), (Wrd.mk (0 : Int)), (Wrd.mk (0 : Int)), (Wrd.mk (0 : Int))])), .own (arrS B1 16) (lc (List.replicate 16 (Wrd.mk 0)))]) 0 kk48 rfl (by decide) (lenIs_eq H4) rfl rfl rfl rfl) rfl rfl (fun _ => ?_)
  refine TO.nil ?_
  refine TE.next ?_
  refine TW.seq ?_
  refine TW.seq ?_
  refine TW.region ?_
  refine TO.y (Y.move rfl) rfl rfl rfl ?_
  refine TO.nil ?_
  refine TE.next ?_
  refine TW.joinX (τ := List Wrd) (X := Unit) (fun _ _ => [(1, .int .i64 counter), (2, strV nonce), (6, .pointer (some ⟨B1, 0, none⟩)), (7, .pointer (some ⟨B2, 0, none⟩))]) (fun T _ => [.own (arrS B1 16) (lc (List.replicate 16 (Wrd.mk 0))), .own (arrS B2 16) (lc T)]) ?_ (fun T7 X8 => ?_)
  · refine TW.block ?_
    refine TW.loopX (σ := Int × List Wrd) (X := Unit) (fun T _ => [(0, strV key), (1, .int .i64 counter), (2, strV nonce), (6, .pointer (some ⟨B1, 0, none⟩)), (7, .pointer (some ⟨B2, 0, none⟩)), (11, .int .i64 T.1)]) (fun T _ => [.own (arrS B1 16) (lc (List.replicate 16 (Wrd.mk 0))), .own (arrS B2 16) (lc T.2)]) () [1, 0] ⟨rfl, rfl, rfl, rfl, rfl, rfl, trivial⟩ rfl (fun S5 X6 => ?_)
    refine TW.seq ?_
    refine TW.region ?_
    refine TO.y (Y.lss rfl rfl) rfl rfl rfl ?_
    refine TO.nil ?_
    refine TE.next ?_
    refine TW.seq ?_
    refine TW.cond rfl (fun H9 => ?_) (fun H9 => ?_)
    · refine TW.skip ?_
      refine TE.next ?_
      refine TW.seq ?_
      refine TW.block ?_
      refine TW.seq ?_
      refine TW.region ?_
      refine TO.y (Y.move rfl) rfl rfl rfl ?_
      refine TO.y (Y.assign rfl) rfl rfl rfl ?_
      refine TO.nil ?_
      refine TE.next ?_
      refine TW.region ?_
      refine TO.y (Y.move rfl) rfl rfl rfl ?_
      refine TO.y (Y.add rfl rfl) rfl rfl rfl ?_
      refine TO.y (Y.move rfl) rfl rfl rfl ?_
      refine TO.y (Y.move rfl) rfl rfl rfl ?_
      refine TO.y (Y.mul rfl rfl) rfl rfl rfl ?_
      refine TO.bind fun R10 H11 => ?_
      refine TO.ef (Ef.call (rest := [.own (arrS B1 16) (lc (List.replicate 16 (Wrd.mk 0))), .own (arrS B2 16) (lc S5.2)]) [0, 0] (impl_little_con key (IntKind.i64.wrap ((4 : Int) * S5.1))  R10 H11) kc43 rfl rfl trivial) rfl rfl rfl (fun _ => ?_)
      refine TO.bind fun E13 H14 => ?_
      refine TO.y (Y.index_arr (α := Wrd) ka48 (Can.own 1 rfl) H14 rfl rfl) rfl rfl rfl ?_
      refine TO.ef0 (Ef.store_el (us := [.int .u32 R10]) (is' := [.own (arrS B1 16) (lc (List.replicate 16 (Wrd.mk 0))), .own (arrS B2 16) (lc (S5.2.set ((IntKind.i64.wrap ((4 : Int) + S5.1)).toNat) (Wrd.mk R10)))]) (Wrd.mk R10) 1 kk47 rfl rfl (idx_get H14).2.2 rfl rfl (Cel.plain rfl rfl) rfl rfl rfl rfl) rfl rfl (fun _ => ?_)
      refine TO.nil ?_
      refine TE.block_normal ?_
      refine TE.next ?_
      refine TW.region ?_
      refine TO.y (Y.add rfl rfl) rfl rfl rfl ?_
      refine TO.y (Y.move rfl) rfl rfl rfl ?_
      refine TO.nil ?_
      exact TE.lp_go () [0, 0] ⟨rfl, rfl, rfl, rfl, rfl, rfl, trivial⟩ rfl
    · refine TW.exit ?_
      refine TE.then_exit ?_
      refine TE.lp_exit ?_
      refine TE.block_exit ?_
      exact TE.jn_go () [0, 0] ⟨rfl, rfl, rfl, rfl, trivial⟩ rfl
  · refine TE.next ?_
    refine TW.seq ?_
    refine TW.region ?_
    refine TO.y (Y.move rfl) rfl rfl rfl ?_
    refine TO.y (Y.conv ki3 ki47 rfl) rfl rfl rfl ?_
    refine TO.bind fun E15 H16 => ?_
    refine TO.y (Y.index_arr (α := Wrd) ka48 (Can.own 1 rfl) H16 rfl rfl) rfl rfl rfl ?_
    refine TO.ef0 (Ef.store_el (us := [.int .u32 (IntKind.u32.wrap counter)]) (is' := [.own (arrS B1 16) (lc (List.replicate 16 (Wrd.mk 0))), .own (arrS B2 16) (lc (T7.set ((12 : Int).toNat) (Wrd.mk (IntKind.u32.wrap counter))))]) (Wrd.mk (IntKind.u32.wrap counter)) 1 kk47 rfl rfl (idx_get H16).2.2 rfl rfl (Cel.plain rfl rfl) rfl rfl rfl rfl) rfl rfl (fun _ => ?_)
    refine TO.nil ?_
    refine TE.next ?_
    refine TW.seq ?_
    refine TW.seq ?_
    refine TW.region ?_
    refine TO.y (Y.move rfl) rfl rfl rfl ?_
    refine TO.nil ?_
    refine TE.next ?_
    refine TW.joinX (τ := List Wrd) (X := Unit) (fun _ _ => [(6, .pointer (some ⟨B1, 0, none⟩)), (7, .pointer (some ⟨B2, 0, none⟩))]) (fun T _ => [.own (arrS B1 16) (lc (List.replicate 16 (Wrd.mk 0))), .own (arrS B2 16) (lc T)]) ?_ (fun T19 X20 => ?_)
    · refine TW.block ?_
      refine TW.loopX (σ := Int × List Wrd) (X := Unit) (fun T _ => [(2, strV nonce), (6, .pointer (some ⟨B1, 0, none⟩)), (7, .pointer (some ⟨B2, 0, none⟩)), (25, .int .i64 T.1)]) (fun T _ => [.own (arrS B1 16) (lc (List.replicate 16 (Wrd.mk 0))), .own (arrS B2 16) (lc T.2)]) () [0, 0] ⟨rfl, rfl, rfl, rfl, trivial⟩ rfl (fun S17 X18 => ?_)
      refine TW.seq ?_
      refine TW.region ?_
      refine TO.y (Y.lss rfl rfl) rfl rfl rfl ?_
      refine TO.nil ?_
      refine TE.next ?_
      refine TW.seq ?_
      refine TW.cond rfl (fun H21 => ?_) (fun H21 => ?_)
      · refine TW.skip ?_
        refine TE.next ?_
        refine TW.seq ?_
        refine TW.block ?_
        refine TW.seq ?_
        refine TW.region ?_
        refine TO.y (Y.move rfl) rfl rfl rfl ?_
        refine TO.y (Y.assign rfl) rfl rfl rfl ?_
        refine TO.nil ?_
        refine TE.next ?_
        refine TW.region ?_
        refine TO.y (Y.move rfl) rfl rfl rfl ?_
        refine TO.y (Y.add rfl rfl) rfl rfl rfl ?_
        refine TO.y (Y.move rfl) rfl rfl rfl ?_
        refine TO.y (Y.move rfl) rfl rfl rfl ?_
        refine TO.y (Y.mul rfl rfl) rfl rfl rfl ?_
        refine TO.bind fun R22 H23 => ?_
        refine TO.ef (Ef.call (rest := [.own (arrS B1 16) (lc (List.replicate 16 (Wrd.mk 0))), .own (arrS B2 16) (lc S17.2)]) [0, 0] (impl_little_con nonce (IntKind.i64.wrap ((4 : Int) * S17.1))  R22 H23) kc43 rfl rfl trivial) rfl rfl rfl (fun _ => ?_)
        refine TO.bind fun E25 H26 => ?_
        refine TO.y (Y.index_arr (α := Wrd) ka48 (Can.own 1 rfl) H26 rfl rfl) rfl rfl rfl ?_
        refine TO.ef0 (Ef.store_el (us := [.int .u32 R22]) (is' := [.own (arrS B1 16) (lc (List.replicate 16 (Wrd.mk 0))), .own (arrS B2 16) (lc (S17.2.set ((IntKind.i64.wrap ((13 : Int) + S17.1)).toNat) (Wrd.mk R22)))]) (Wrd.mk R22) 1 kk47 rfl rfl (idx_get H26).2.2 rfl rfl (Cel.plain rfl rfl) rfl rfl rfl rfl) rfl rfl (fun _ => ?_)
        refine TO.nil ?_
        refine TE.block_normal ?_
        refine TE.next ?_
        refine TW.region ?_
        refine TO.y (Y.add rfl rfl) rfl rfl rfl ?_
        refine TO.y (Y.move rfl) rfl rfl rfl ?_
        refine TO.nil ?_
        exact TE.lp_go () [0, 0] ⟨rfl, rfl, rfl, rfl, trivial⟩ rfl
      · refine TW.exit ?_
        refine TE.then_exit ?_
        refine TE.lp_exit ?_
        refine TE.block_exit ?_
        exact TE.jn_go () [0, 0] ⟨rfl, rfl, trivial⟩ rfl
    · refine TE.next ?_
      refine TW.seq ?_
      refine TW.region ?_
      refine TO.y (Y.load_arr (α := Wrd) kk48 rfl (by decide) (Can.own 1 rfl) rfl) rfl rfl rfl ?_
      refine TO.bind fun E27 H28 => ?_
      refine TO.ef0 (Ef.store_arr (α := Wrd) (is' := [.own (arrS B1 16) (lc T19), .own (arrS B2 16) (lc T19)]) 0 kk48 rfl (by decide) (lenIs_eq H28) rfl rfl rfl rfl) rfl rfl (fun _ => ?_)
      refine TO.nil ?_
      refine TE.next ?_
      refine TW.ret ?_
      exact TE.leaf fun _ _ hf_ hs_ => ret_any (rs := [.cell 6 48]) (vs := [arrV T19]) (.inl rfl) rfl (RV.cell_arr (α := Wrd) (i := 0) rfl rfl kk48 rfl (by decide) trivial) hf_ hs_ ⟨(), rfl, hs_.pulls [] rfl⟩

/-- math/bits.RotateLeft32 -/
noncomputable def math_bits_RotateLeft32 (x : Int) (k : Int) : Option Int :=
  (nn (iand .u64 (IntKind.u64.wrap k) (31 : Int))).bind fun E1 =>
  some (ior .u32 (ishl .u32 x (iand .u64 (IntKind.u64.wrap k) (31 : Int))) (ishr .u32 x (IntKind.u64.wrap ((32 : Int) - (iand .u64 (IntKind.u64.wrap k) (31 : Int))))))

theorem math_bits_RotateLeft32_con (x : Int) (k : Int)  (r : Int) (hm : math_bits_RotateLeft32 x k = some r) :
    Con Try.prog 44 [.int .u32 x, .int .i64 k] [] [] (fun _ : Unit => .int .u32 r) (fun _ => []) := by
  refine Con.intro (args := [.int .u32 x, .int .i64 k]) (n := 17) (val := fun r (_ : Unit) => .int .u32 r) (post := fun _ _ => []) (m := math_bits_RotateLeft32 x k) Try.func44 rfl rfl rfl hm ?_
  intro w S _
  unfold math_bits_RotateLeft32
  refine TW.seq ?_
  refine TW.region ?_
  refine TO.y (Y.assign rfl) rfl rfl rfl ?_
  refine TO.nil ?_
  refine TE.next ?_
  refine TW.seq ?_
  refine TW.region ?_
  refine TO.y (Y.move rfl) rfl rfl rfl ?_
  refine TO.y (Y.conv ki3 ki52 rfl) rfl rfl rfl ?_
  refine TO.y (Y.and rfl rfl) rfl rfl rfl ?_
  refine TO.y (Y.assign rfl) rfl rfl rfl ?_
  refine TO.nil ?_
  refine TE.next ?_
  refine TW.seq ?_
  refine TW.region ?_
  refine TO.y (Y.move rfl) rfl rfl rfl ?_
  refine TO.y (Y.move rfl) rfl rfl rfl ?_
  refine TO.bind fun E1 H2 => ?_
  refine TO.y (Y.shl (nn_ge H2) rfl rfl) rfl rfl rfl ?_
  refine TO.y (Y.move rfl) rfl rfl rfl ?_
  refine TO.y (Y.move rfl) rfl rfl rfl ?_
  refine TO.y (Y.sub rfl rfl) rfl rfl rfl ?_
  refine TO.y (Y.shr (wrap_u_nonneg rfl _) rfl rfl) rfl rfl rfl ?_
  refine TO.y (Y.or rfl rfl) rfl rfl rfl ?_
  refine TO.y (Y.assign rfl) rfl rfl rfl ?_
  refine TO.nil ?_
  refine TE.next ?_
  refine TW.ret ?_
  exact TE.leaf fun _ _ hf_ hs_ => ret_any (rs := [.tmp 4]) (vs := [.int .u32 (ior .u32 (ishl .u32 x (iand .u64 (IntKind.u64.wrap k) (31 : Int))) (ishr .u32 x (IntKind.u64.wrap ((32 : Int) - (iand .u64 (IntKind.u64.wrap k) (31 : Int))))))]) (.inl rfl) rfl ⟨rfl, trivial⟩ hf_ hs_ ⟨(), rfl, hs_.pulls [] rfl⟩

end Go.Proofs.Ytbocplhlbbhblaa
