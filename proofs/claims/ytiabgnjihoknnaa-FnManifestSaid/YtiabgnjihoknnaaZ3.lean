/-
  The functions that a law reaches, each as a pure function, with the proof that the program computes it, and the step from a pure law to the given statement. Conditions: none.
-/
import Derived.Test.YtiabgnjihoknnaaZ2
set_option linter.unusedVariables false
set_option maxRecDepth 100000
set_option maxHeartbeats 4000000
namespace Go.Proofs.Ytiabgnjihoknnaa
open Go Sl

/-- loop.example/g00950/spec.l1Spoil -/
noncomputable def spec_l1Spoil (c : L1Cur) (s : List UInt8) : Option (List UInt8 × L1Cur) :=
  if (decide (((s.length : Nat) : Int) = (0 : Int))) = true then ((spec_l1Text c (3 : Int)).bind fun R2 =>
  some (R2.1, { b := c.b, i := R2.2.i, h := R2.2.h : L1Cur }))
  else ((spec_l1Below c ((s.length : Nat) : Int)).bind fun R5 =>
  (spec_l1Below ({ b := c.b, i := R5.2.i, h := R5.2.h : L1Cur }) (4 : Int)).bind fun R8 =>
  if (decide (R8.1 = (0 : Int))) = true then ((ssub s 0 R5.1).bind fun E12 =>
  (ssub s (IntKind.i64.wrap (R5.1 + (1 : Int))) (s.length : Int)).bind fun E14 =>
  (cat E12 E14).bind fun E16 =>
  some (E16, { b := c.b, i := R8.2.i, h := R8.2.h : L1Cur }))
  else (if (decide (R8.1 = (1 : Int))) = true then ((ssub s 0 R5.1).bind fun E19 =>
  (ssub s R5.1 (s.length : Int)).bind fun E21 =>
  (spec_l1Byte ({ b := c.b, i := R8.2.i, h := R8.2.h : L1Cur })).bind fun R23 =>
  (cat E19 ([toU8 R23.1])).bind fun E27 =>
  (cat E27 E21).bind fun E29 =>
  some (E29, { b := c.b, i := R23.2.i, h := R23.2.h : L1Cur }))
  else (if (decide (R8.1 = (2 : Int))) = true then ((ssub s 0 R5.1).bind fun E32 =>
  some (E32, { b := c.b, i := R8.2.i, h := R8.2.h : L1Cur }))
  else ((ssub s 0 R5.1).bind fun E34 =>
  (sidx s R5.1).bind fun E36 =>
  (ssub s (IntKind.i64.wrap (R5.1 + (1 : Int))) (s.length : Int)).bind fun E38 =>
  (spec_l1Below ({ b := c.b, i := R8.2.i, h := R8.2.h : L1Cur }) (255 : Int)).bind fun R40 =>
  (cat E34 ([toU8 (ixor .i64 (IntKind.i64.wrap ((E36.toNat : Nat) : Int)) (IntKind.i64.wrap ((1 : Int) + R40.1)))])).bind fun E44 =>
  (cat E44 E38).bind fun E46 =>
  some (E46, { b := c.b, i := R40.2.i, h := R40.2.h : L1Cur })))))

theorem spec_l1Spoil_con (c : L1Cur) (s : List UInt8) (V_c0 : Value) (B_c : Nat) (r : List UInt8 × L1Cur) (hm : spec_l1Spoil c s = some r) :
    Con Try.prog 36 [.pointer (some ⟨B_c, 0, none⟩), strV s] [.box B_c 94 [V_c0, .int .i64 c.i, .int .i64 c.h]] [(V_c0, lc c.b)] (fun _ : Unit => strV r.1) (fun _ => [.box B_c 94 [V_c0, .int .i64 r.2.i, .int .i64 r.2.h]]) := by
  refine Con.intro (args := [.pointer (some ⟨B_c, 0, none⟩), strV s]) (n := 67) (val := fun r (_ : Unit) => strV r.1) (post := fun r _ => [.box B_c 94 [V_c0, .int .i64 r.2.i, .int .i64 r.2.h]]) (m := spec_l1Spoil c s) Try.func36 rfl rfl rfl hm ?_
  intro w S hrd
  have HB_V_c0 := hrd _ (.head _)
  clear hrd
  unfold spec_l1Spoil
  refine TW.seq ?_
  refine TW.region ?_
  refine TO.y (Y.assign rfl) rfl rfl rfl ?_
  refine TO.nil ?_
  refine TE.next ?_
  refine TW.seq ?_
  refine TW.seq ?_
  refine TW.region ?_
  refine TO.y (Y.move rfl) rfl rfl rfl ?_
  refine TO.y (Y.slen ks9 rfl) rfl rfl rfl ?_
  refine TO.y (Y.eql rfl rfl) rfl rfl rfl ?_
  refine TO.nil ?_
  refine TE.next ?_
  refine TW.cond rfl (fun H1 => ?_) (fun H1 => ?_)
  · refine TW.seq ?_
    refine TW.region ?_
    refine TO.y (Y.move rfl) rfl rfl rfl ?_
    refine TO.bind fun R2 H3 => ?_
    refine TO.ef (Ef.call (rest := []) [0] (spec_l1Text_con c (3 : Int) V_c0 B_c R2 H3) kc70 rfl rfl ⟨(Base.can HB_V_c0), trivial⟩) rfl rfl rfl (fun _ => ?_)
    refine TO.y (Y.assign rfl) rfl rfl rfl ?_
    refine TO.nil ?_
    refine TE.next ?_
    refine TW.ret ?_
    refine TE.then_ret ?_
    exact TE.leaf fun _ _ hf_ hs_ => ret_any (rs := [.tmp 4]) (vs := [strV R2.1]) (.inl rfl) rfl ⟨rfl, trivial⟩ hf_ hs_ ⟨(), rfl, hs_.pulls [0] rfl⟩
  · refine TW.skip ?_
    refine TE.next ?_
    refine TW.seq ?_
    refine TW.region ?_
    refine TO.y (Y.move rfl) rfl rfl rfl ?_
    refine TO.y (Y.move rfl) rfl rfl rfl ?_
    refine TO.y (Y.slen ks9 rfl) rfl rfl rfl ?_
    refine TO.bind fun R5 H6 => ?_
    refine TO.ef (Ef.call (rest := []) [0] (spec_l1Below_con c ((s.length : Nat) : Int) V_c0 B_c R5 H6) kc31 rfl rfl ⟨(Base.can HB_V_c0), trivial⟩) rfl rfl rfl (fun _ => ?_)
    refine TO.y (Y.assign rfl) rfl rfl rfl ?_
    refine TO.nil ?_
    refine TE.next ?_
    refine TW.seq ?_
    refine TW.seq ?_
    refine TW.region ?_
    refine TO.y (Y.move rfl) rfl rfl rfl ?_
    refine TO.bind fun R8 H9 => ?_
    refine TO.ef (Ef.call (rest := []) [0] (spec_l1Below_con ({ b := c.b, i := R5.2.i, h := R5.2.h : L1Cur }) (4 : Int) V_c0 B_c R8 H9) kc31 rfl rfl ⟨(Base.can HB_V_c0), trivial⟩) rfl rfl rfl (fun _ => ?_)
    refine TO.nil ?_
    refine TE.next ?_
    refine TW.block ?_
    refine TW.seq ?_
    refine TW.region ?_
    refine TO.y (Y.eql rfl rfl) rfl rfl rfl ?_
    refine TO.y (Y.assign rfl) rfl rfl rfl ?_
    refine TO.nil ?_
    refine TE.next ?_
    refine TW.cond rfl (fun H11 => ?_) (fun H11 => ?_)
    · refine TW.seq ?_
      refine TW.draw (isH := [.box B_c 94 [V_c0, .int .i64 R8.2.i, .int .i64 R8.2.h]]) hMix ?_
      refine TA.y (listed' := #[true, false, false, false, false, false, false, false, false]) 0 [0] rfl (Y.move rfl) rfl rfl rfl (by kernel_rfl) (by kernel_rfl) (by kernel_rfl) rfl rfl ?_
      refine TA.y (listed' := #[true, true, false, false, false, false, false, false, false]) 1 [0] rfl (Y.move rfl) rfl rfl rfl (by kernel_rfl) (by kernel_rfl) (by kernel_rfl) rfl rfl ?_
      refine TA.bind fun E12 H13 => ?_
      refine TA.y (listed' := #[true, true, true, false, false, false, false, false, false]) 2 [0] rfl (Y.ssub_to H13 ks9 rfl rfl) rfl rfl rfl (by kernel_rfl) (by kernel_rfl) (by kernel_rfl) rfl rfl ?_
      refine TA.y (listed' := #[true, true, true, true, false, false, false, false, false]) 3 [0] rfl (Y.move rfl) rfl rfl rfl (by kernel_rfl) (by kernel_rfl) (by kernel_rfl) rfl rfl ?_
      refine TA.y (listed' := #[true, true, true, true, true, false, false, false, false]) 4 [0] rfl (Y.move rfl) rfl rfl rfl (by kernel_rfl) (by kernel_rfl) (by kernel_rfl) rfl rfl ?_
      refine TA.y (listed' := #[true, true, true, true, true, true, false, false, false]) 5 [0] rfl (Y.add rfl rfl) rfl rfl rfl (by kernel_rfl) (by kernel_rfl) (by kernel_rfl) rfl rfl ?_
      refine TA.bind fun E14 H15 => ?_
      refine TA.y (listed' := #[true, true, true, true, true, true, true, false, false]) 6 [0] rfl (Y.ssub_from H15 ks9 rfl rfl) rfl rfl rfl (by kernel_rfl) (by kernel_rfl) (by kernel_rfl) rfl rfl ?_
      refine TA.bind fun E16 H17 => ?_
      refine TA.y (listed' := #[true, true, true, true, true, true, true, true, false]) 7 [0] rfl (Y.cat H17 rfl rfl) rfl rfl rfl (by kernel_rfl) (by kernel_rfl) (by kernel_rfl) rfl rfl ?_
      refine TA.y (listed' := #[true, true, true, true, true, true, true, true, true]) 8 [0] rfl (Y.assign rfl) rfl rfl rfl (by kernel_rfl) (by kernel_rfl) (by kernel_rfl) rfl rfl ?_
      refine TA.nil (by kernel_rfl) ?_
      refine TE.next ?_
      refine TW.ret ?_
      refine TE.block_ret ?_
      refine TE.then_ret ?_
      exact TE.leaf fun _ _ hf_ hs_ => ret_any (rs := [.tmp 4]) (vs := [strV E16]) (.inl rfl) rfl ⟨rfl, trivial⟩ hf_ hs_ ⟨(), rfl, hs_.pulls [0] rfl⟩
    · refine TW.seq ?_
      refine TW.region ?_
      refine TO.y (Y.eql rfl rfl) rfl rfl rfl ?_
      refine TO.y (Y.assign rfl) rfl rfl rfl ?_
      refine TO.nil ?_
      refine TE.next ?_
      refine TW.cond rfl (fun H18 => ?_) (fun H18 => ?_)
      · refine TW.seq ?_
        refine TW.draw (isH := []) hMix ?_
        refine TA.y (listed' := #[true, false, false, false, false, false, false, false, false, false, false, false, false, false]) 0 [] rfl (Y.move rfl) rfl rfl rfl (by kernel_rfl) (by kernel_rfl) (by kernel_rfl) rfl rfl ?_
        refine TA.y (listed' := #[true, true, false, false, false, false, false, false, false, false, false, false, false, false]) 1 [] rfl (Y.move rfl) rfl rfl rfl (by kernel_rfl) (by kernel_rfl) (by kernel_rfl) rfl rfl ?_
        refine TA.bind fun E19 H20 => ?_
        refine TA.y (listed' := #[true, true, true, false, false, false, false, false, false, false, false, false, false, false]) 2 [] rfl (Y.ssub_to H20 ks9 rfl rfl) rfl rfl rfl (by kernel_rfl) (by kernel_rfl) (by kernel_rfl) rfl rfl ?_
        refine TA.y (listed' := #[true, true, true, true, false, false, false, false, false, false, false, false, false, false]) 3 [] rfl (Y.move rfl) rfl rfl rfl (by kernel_rfl) (by kernel_rfl) (by kernel_rfl) rfl rfl ?_
        refine TA.y (listed' := #[true, true, true, true, false, false, false, false, false, true, false, false, false, false]) 9 [] rfl (Y.move rfl) rfl rfl rfl (by kernel_rfl) (by kernel_rfl) (by kernel_rfl) rfl rfl ?_
        refine TA.y (listed' := #[true, true, true, true, false, false, false, false, false, true, true, false, false, false]) 10 [] rfl (Y.move rfl) rfl rfl rfl (by kernel_rfl) (by kernel_rfl) (by kernel_rfl) rfl rfl ?_
        refine TA.bind fun E21 H22 => ?_
        refine TA.y (listed' := #[true, true, true, true, false, false, false, false, false, true, true, true, false, false]) 11 [] rfl (Y.ssub_from H22 ks9 rfl rfl) rfl rfl rfl (by kernel_rfl) (by kernel_rfl) (by kernel_rfl) rfl rfl ?_
        refine TA.bind fun R23 H24 => ?_
        refine TA.one 4 (by kernel_rfl) ?_
        refine TX.ef (listed' := #[true, true, true, true, true, false, false, false, false, true, true, true, false, false]) [] rfl (Ef.call (rest := []) [0] (spec_l1Byte_con ({ b := c.b, i := R8.2.i, h := R8.2.h : L1Cur }) V_c0 B_c R23 H24) kc62 rfl rfl ⟨(Base.can HB_V_c0), trivial⟩) rfl rfl rfl rfl (fun _ => rfl) (fun _ => ?_)
        refine TA.y (listed' := #[true, true, true, true, true, true, false, false, false, true, true, true, false, false]) 5 [] rfl (Y.conv8 ki3 ki5 rfl) rfl rfl rfl (by kernel_rfl) (by kernel_rfl) (by kernel_rfl) rfl rfl ?_
        refine TA.one 6 (by kernel_rfl) ?_
        refine TX.ef (listed' := #[true, true, true, true, true, true, true, false, false, true, true, true, false, false]) [] rfl (Ef.buildSlice (α := UInt8) (Vs := [.int .u8 (((toU8 R23.1).toNat : Nat) : Int)]) [toU8 R23.1] ke22 kz5 rfl rfl rfl rfl rfl) rfl rfl rfl rfl (fun _ => rfl) (fun B26 => ?_)
        refine TA.one 7 (by kernel_rfl) ?_
        refine TX.y (listed' := #[true, true, true, true, true, true, true, true, false, true, true, true, false, false]) [] rfl (Y.toStr ke22 ki5 ks9 (Can.own 0 rfl) rfl) rfl rfl rfl rfl rfl ?_
        refine TA.bind fun E27 H28 => ?_
        refine TA.y (listed' := #[true, true, true, true, true, true, true, true, true, true, true, true, false, false]) 8 [] rfl (Y.cat H28 rfl rfl) rfl rfl rfl (by kernel_rfl) (by kernel_rfl) (by kernel_rfl) rfl rfl ?_
        refine TA.bind fun E29 H30 => ?_
        refine TA.y (listed' := #[true, true, true, true, true, true, true, true, true, true, true, true, true, false]) 12 [] rfl (Y.cat H30 rfl rfl) rfl rfl rfl (by kernel_rfl) (by kernel_rfl) (by kernel_rfl) rfl rfl ?_
        refine TA.y (listed' := #[true, true, true, true, true, true, true, true, true, true, true, true, true, true]) 13 [] rfl (Y.assign rfl) rfl rfl rfl (by kernel_rfl) (by kernel_rfl) (by kernel_rfl) rfl rfl ?_
        refine TA.nil (by kernel_rfl) ?_
        refine TE.next ?_
        refine TW.ret ?_
        refine TE.block_ret ?_
        refine TE.then_ret ?_
        exact TE.leaf fun _ _ hf_ hs_ => ret_any (rs := [.tmp 4]) (vs := [strV E29]) (.inl rfl) rfl ⟨rfl, trivial⟩ hf_ hs_ ⟨(), rfl, hs_.pulls [1] rfl⟩
      · refine TW.seq ?_
        refine TW.region ?_
        refine TO.y (Y.eql rfl rfl) rfl rfl rfl ?_
        refine TO.y (Y.assign rfl) rfl rfl rfl ?_
        refine TO.nil ?_
        refine TE.next ?_
        refine TW.cond rfl (fun H31 => ?_) (fun H31 => ?_)
        · refine TW.seq ?_
          refine TW.region ?_
          refine TO.y (Y.move rfl) rfl rfl rfl ?_
          refine TO.y (Y.move rfl) rfl rfl rfl ?_
          refine TO.bind fun E32 H33 => ?_
          refine TO.y (Y.ssub_to H33 ks9 rfl rfl) rfl rfl rfl ?_
          refine TO.y (Y.assign rfl) rfl rfl rfl ?_
          refine TO.nil ?_
          refine TE.next ?_
          refine TW.ret ?_
          refine TE.block_ret ?_
          refine TE.then_ret ?_
          exact TE.leaf fun _ _ hf_ hs_ => ret_any (rs := [.tmp 4]) (vs := [strV E32]) (.inl rfl) rfl ⟨rfl, trivial⟩ hf_ hs_ ⟨(), rfl, hs_.pulls [0] rfl⟩
        · refine TW.skip ?_
          refine TE.block_normal ?_
          refine TE.next ?_
          refine TW.seq ?_
          refine TW.draw (isH := []) hMix ?_
          refine TA.y (listed' := #[true, false, false, false, false, false, false, false, false, false, false, false, false, false, false, false, false, false, false, false, false]) 0 [] rfl (Y.move rfl) rfl rfl rfl (by kernel_rfl) (by kernel_rfl) (by kernel_rfl) rfl rfl ?_
          refine TA.y (listed' := #[true, true, false, false, false, false, false, false, false, false, false, false, false, false, false, false, false, false, false, false, false]) 1 [] rfl (Y.move rfl) rfl rfl rfl (by kernel_rfl) (by kernel_rfl) (by kernel_rfl) rfl rfl ?_
          refine TA.bind fun E34 H35 => ?_
          refine TA.y (listed' := #[true, true, true, false, false, false, false, false, false, false, false, false, false, false, false, false, false, false, false, false, false]) 2 [] rfl (Y.ssub_to H35 ks9 rfl rfl) rfl rfl rfl (by kernel_rfl) (by kernel_rfl) (by kernel_rfl) rfl rfl ?_
          refine TA.y (listed' := #[true, true, true, true, false, false, false, false, false, false, false, false, false, false, false, false, false, false, false, false, false]) 3 [] rfl (Y.move rfl) rfl rfl rfl (by kernel_rfl) (by kernel_rfl) (by kernel_rfl) rfl rfl ?_
          refine TA.y (listed' := #[true, true, true, true, true, false, false, false, false, false, false, false, false, false, false, false, false, false, false, false, false]) 4 [] rfl (Y.move rfl) rfl rfl rfl (by kernel_rfl) (by kernel_rfl) (by kernel_rfl) rfl rfl ?_
          refine TA.bind fun E36 H37 => ?_
          refine TA.y (listed' := #[true, true, true, true, true, true, false, false, false, false, false, false, false, false, false, false, false, false, false, false, false]) 5 [] rfl (Y.sidx H37 ks9 rfl rfl) rfl rfl rfl (by kernel_rfl) (by kernel_rfl) (by kernel_rfl) rfl rfl ?_
          refine TA.y (listed' := #[true, true, true, true, true, true, true, false, false, false, false, false, false, false, false, false, false, false, false, false, false]) 6 [] rfl (Y.conv ki5 ki3 rfl) rfl rfl rfl (by kernel_rfl) (by kernel_rfl) (by kernel_rfl) rfl rfl ?_
          refine TA.y (listed' := #[true, true, true, true, true, true, true, true, false, false, false, false, false, false, false, false, false, false, false, false, false]) 7 [] rfl (Y.move rfl) rfl rfl rfl (by kernel_rfl) (by kernel_rfl) (by kernel_rfl) rfl rfl ?_
          refine TA.y (listed' := #[true, true, true, true, true, true, true, true, false, false, false, false, false, false, false, true, false, false, false, false, false]) 15 [] rfl (Y.move rfl) rfl rfl rfl (by kernel_rfl) (by kernel_rfl) (by kernel_rfl) rfl rfl ?_
          refine TA.y (listed' := #[true, true, true, true, true, true, true, true, false, false, false, false, false, false, false, true, true, false, false, false, false]) 16 [] rfl (Y.move rfl) rfl rfl rfl (by kernel_rfl) (by kernel_rfl) (by kernel_rfl) rfl rfl ?_
          refine TA.y (listed' := #[true, true, true, true, true, true, true, true, false, false, false, false, false, false, false, true, true, true, false, false, false]) 17 [] rfl (Y.add rfl rfl) rfl rfl rfl (by kernel_rfl) (by kernel_rfl) (by kernel_rfl) rfl rfl ?_
          refine TA.bind fun E38 H39 => ?_
          refine TA.y (listed' := #[true, true, true, true, true, true, true, true, false, false, false, false, false, false, false, true, true, true, true, false, false]) 18 [] rfl (Y.ssub_from H39 ks9 rfl rfl) rfl rfl rfl (by kernel_rfl) (by kernel_rfl) (by kernel_rfl) rfl rfl ?_
          refine TA.bind fun R40 H41 => ?_
          refine TA.one 8 (by kernel_rfl) ?_
          refine TX.ef (listed' := #[true, true, true, true, true, true, true, true, true, false, false, false, false, false, false, true, true, true, true, false, false]) [] rfl (Ef.call (rest := []) [0] (spec_l1Below_con ({ b := c.b, i := R8.2.i, h := R8.2.h : L1Cur }) (255 : Int) V_c0 B_c R40 H41) kc31 rfl rfl ⟨(Base.can HB_V_c0), trivial⟩) rfl rfl rfl rfl (fun _ => rfl) (fun _ => ?_)
          refine TA.y (listed' := #[true, true, true, true, true, true, true, true, true, true, false, false, false, false, false, true, true, true, true, false, false]) 9 [] rfl (Y.add rfl rfl) rfl rfl rfl (by kernel_rfl) (by kernel_rfl) (by kernel_rfl) rfl rfl ?_
          refine TA.y (listed' := #[true, true, true, true, true, true, true, true, true, true, true, false, false, false, false, true, true, true, true, false, false]) 10 [] rfl (Y.xor rfl rfl) rfl rfl rfl (by kernel_rfl) (by kernel_rfl) (by kernel_rfl) rfl rfl ?_
          refine TA.y (listed' := #[true, true, true, true, true, true, true, true, true, true, true, true, false, false, false, true, true, true, true, false, false]) 11 [] rfl (Y.conv8 ki3 ki5 rfl) rfl rfl rfl (by kernel_rfl) (by kernel_rfl) (by kernel_rfl) rfl rfl ?_
          refine TA.one 12 (by kernel_rfl) ?_
          refine TX.ef (listed' := #[true, true, true, true, true, true, true, true, true, true, true, true, true, false, false, true, true, true, true, false, false]) [] rfl (Ef.buildSlice (α := UInt8) (Vs := [.int .u8 (((toU8 (ixor .i64 (IntKind.i64.wrap ((E36.toNat : Nat) : Int)) (IntKind.i64.wrap ((1 : Int) + R40.1)))).toNat : Nat) : Int)]) [toU8 (ixor .i64 (IntKind.i64.wrap ((E36.toNat : Nat) : Int)) (IntKind.i64.wrap ((1 : Int) + R40.1)))] ke22 kz5 rfl rfl rfl rfl rfl) rfl rfl rfl rfl (fun _ => rfl) (fun B43 => ?_)
          refine TA.one 13 (by kernel_rfl) ?_
          refine TX.y (listed' := #[true, true, true, true, true, true, true, true, true, true, true, true, true, true, false, true, true, true, true, false, false]) [] rfl (Y.toStr ke22 ki5 ks9 (Can.own 0 rfl) rfl) rfl rfl rfl rfl rfl ?_
          refine TA.bind fun E44 H45 => ?_
          refine TA.y (listed' := #[true, true, true, true, true, true, true, true, true, true, true, true, true, true, true, true, true, true, true, false, false]) 14 [] rfl (Y.cat H45 rfl rfl) rfl rfl rfl (by kernel_rfl) (by kernel_rfl) (by kernel_rfl) rfl rfl ?_
          refine TA.bind fun E46 H47 => ?_
          refine TA.y (listed' := #[true, true, true, true, true, true, true, true, true, true, true, true, true, true, true, true, true, true, true, true, false]) 19 [] rfl (Y.cat H47 rfl rfl) rfl rfl rfl (by kernel_rfl) (by kernel_rfl) (by kernel_rfl) rfl rfl ?_
          refine TA.y (listed' := #[true, true, true, true, true, true, true, true, true, true, true, true, true, true, true, true, true, true, true, true, true]) 20 [] rfl (Y.assign rfl) rfl rfl rfl (by kernel_rfl) (by kernel_rfl) (by kernel_rfl) rfl rfl ?_
          refine TA.nil (by kernel_rfl) ?_
          refine TE.next ?_
          refine TW.ret ?_
          exact TE.leaf fun _ _ hf_ hs_ => ret_any (rs := [.tmp 4]) (vs := [strV E46]) (.inl rfl) rfl ⟨rfl, trivial⟩ hf_ hs_ ⟨(), rfl, hs_.pulls [1] rfl⟩

/-- loop.example/g00950/spec.DrawReplay -/
noncomputable def spec_DrawReplay (code : List UInt8) : Option (List (List UInt8)) :=
  (spec_l1New code).bind fun R1 =>
  (spec_l1Below ({ b := code, i := R1.i, h := R1.h : L1Cur }) (8 : Int)).bind fun R6 =>
  bindC (loopO (fun (S9 : Int × Int × Int × List (List UInt8) × List File) => if (decide (S9.2.2.1 > (0 : Int))) = true then ((spec_l17Edit ({ b := code, i := S9.1, h := S9.2.1 : L1Cur }) S9.2.2.2.2).bind fun R14 =>
  (spec_EditFiles S9.2.2.2.2 R14.1).bind fun R18 =>
  (if R18.2 = true then (some (R14.2.i, R14.2.h, true))
  else ((spec_l1Once ({ b := code, i := R14.2.i, h := R14.2.h : L1Cur }) (10 : Int)).bind fun R24 =>
  some (R24.2.i, R24.2.h, R24.1))).bind (fun (T21 : Int × Int × Bool) =>
  bindC (if T21.2.2 = true then ((spec_ShowEdit R14.1).bind fun R30 =>
  (app 16 S9.2.2.2.1 ([R30])).bind fun E35 =>
  some (.go (E35, R18.1)))
  else (some (.go (S9.2.2.2.1, S9.2.2.2.2))))
  (fun (T27 : List (List UInt8) × List File) => some (.go (T21.1, T21.2.1, IntKind.i64.wrap (S9.2.2.1 - (1 : Int)), T27.1, T27.2)))))
  else (some (.done (.go (S9.1, S9.2.1, S9.2.2.2.1)))))
  (R6.2.i, R6.2.h, R6.1, ([] : List (List UInt8)), ([] : List File)))
  (fun (T11 : Int × Int × List (List UInt8)) => (if (decide (((T11.2.2.length : Nat) : Int) > (0 : Int))) = true then ((spec_l1Once ({ b := code, i := T11.1, h := T11.2.1 : L1Cur }) (5 : Int)).bind fun R40 =>
  some (R40.2.i, R40.2.h, R40.1))
  else (some (T11.1, T11.2.1, false))).bind (fun (T37 : Int × Int × Bool) =>
  bindC (if T37.2.2 = true then ((spec_l1Below ({ b := code, i := T37.1, h := T37.2.1 : L1Cur }) ((T11.2.2.length : Nat) : Int)).bind fun R46 =>
  (idx T11.2.2 R46.1).bind fun E49 =>
  (spec_l1Spoil ({ b := code, i := R46.2.i, h := R46.2.h : L1Cur }) E49).bind fun R51 =>
  some (.go (T11.2.2.set R46.1.toNat R51.1)))
  else (some (.go T11.2.2)))
  (fun (T43 : List (List UInt8)) => some T43)))

theorem spec_DrawReplay_con (code : List UInt8) (V_code0 : Value) (r : List (List UInt8)) (hm : spec_DrawReplay code = some r) :
    Con Try.prog 6 [V_code0] [] [(V_code0, lc code)] (fun X : Value => X) (fun X => [.own X (lc r)]) := by
  refine Con.intro (args := [V_code0]) (n := 62) (val := fun _ (X : Value) => X) (post := fun r X => [.own X (lc r)]) (m := spec_DrawReplay code) Try.func6 rfl rfl rfl hm ?_
  intro w S hrd
  have HB_V_code0 := hrd _ (.head _)
  clear hrd
  unfold spec_DrawReplay
  refine TW.seq ?_
  refine TW.region ?_
  refine TO.y (Y.assign rfl) rfl rfl rfl ?_
  refine TO.nil ?_
  refine TE.next ?_
  refine TW.seq ?_
  refine TW.region ?_
  refine TO.y (Y.move rfl) rfl rfl rfl ?_
  refine TO.bind fun R1 H2 => ?_
  refine TO.ef (Ef.call (rest := []) [] (spec_l1New_con code V_code0 R1 H2) kc30 rfl rfl ⟨(Base.can HB_V_code0), trivial⟩) rfl rfl rfl (fun Y3 => ?_)
  refine TO.y (Y.assign rfl) rfl rfl rfl ?_
  refine TO.nil ?_
  refine TE.next ?_
  refine TW.seq ?_
  refine TW.region ?_
  refine TO.ef (Ef.buildSlice (α := List UInt8) (Vs := []) ([] : List (List UInt8)) ke24 kz9 rfl rfl rfl rfl rfl) rfl rfl rfl (fun B4 => ?_)
  refine TO.y (Y.assign rfl) rfl rfl rfl ?_
  refine TO.nil ?_
  refine TE.next ?_
  refine TW.seq ?_
  refine TW.region ?_
  refine TO.ef (Ef.buildSlice (α := File) (Vs := []) ([] : List File) ke26 kz43 rfl rfl rfl rfl rfl) rfl rfl rfl (fun B5 => ?_)
  refine TO.y (Y.assign rfl) rfl rfl rfl ?_
  refine TO.nil ?_
  refine TE.next ?_
  refine TW.seq ?_
  refine TW.seq ?_
  refine TW.region ?_
  refine TO.y (Y.move rfl) rfl rfl rfl ?_
  refine TO.bind fun R6 H7 => ?_
  refine TO.ef (Ef.call (rest := [.own (.slice (some ⟨B5, 0, none⟩) 0 0) (lc ([] : List File)), .own (.slice (some ⟨B4, 0, none⟩) 0 0) (lc ([] : List (List UInt8)))]) [2, 0, 0] (spec_l1Below_con ({ b := code, i := R1.i, h := R1.h : L1Cur }) (8 : Int) V_code0 Y3 R6 H7) kc31 rfl rfl ⟨(Base.can HB_V_code0), trivial⟩) rfl rfl rfl (fun _ => ?_)
  refine TO.y (Y.assign rfl) rfl rfl rfl ?_
  refine TO.nil ?_
  refine TE.next ?_
  refine TW.joinX (τ := Int × Int × List (List UInt8)) (X := Value) (fun _ X => [(3, .pointer (some ⟨Y3, 0, none⟩)), (4, X)]) (fun T X => [.box Y3 94 [V_code0, .int .i64 T.1, .int .i64 T.2.1], .own X (lc T.2.2)]) ?_ (fun T11 X12 => ?_)
  · refine TW.block ?_
    refine TW.loopX (σ := Int × Int × Int × List (List UInt8) × List File) (X := Value × Value) (fun T X => [(3, .pointer (some ⟨Y3, 0, none⟩)), (4, X.1), (5, X.2), (6, .int .i64 T.2.2.1)]) (fun T X => [.box Y3 94 [V_code0, .int .i64 T.1, .int .i64 T.2.1], .own X.1 (lc T.2.2.2.1), .own X.2 (lc T.2.2.2.2)]) (.slice (some ⟨B4, 0, none⟩) 0 0, .slice (some ⟨B5, 0, none⟩) 0 0) [0, 1, 0] ⟨rfl, rfl, rfl, rfl, trivial⟩ rfl (fun S9 X10 => ?_)
    refine TW.seq ?_
    refine TW.seq ?_
    refine TW.region ?_
    refine TO.y (Y.move rfl) rfl rfl rfl ?_
    refine TO.y (Y.gtr rfl rfl) rfl rfl rfl ?_
    refine TO.nil ?_
    refine TE.next ?_
    refine TW.cond rfl (fun H13 => ?_) (fun H13 => ?_)
    · refine TW.skip ?_
      refine TE.next ?_
      refine TW.seq ?_
      refine TW.block ?_
      refine TW.seq ?_
      refine TW.region ?_
      refine TO.y (Y.move rfl) rfl rfl rfl ?_
      refine TO.y (Y.move rfl) rfl rfl rfl ?_
      refine TO.bind fun R14 H15 => ?_
      refine TO.ef (Ef.call (rest := [.own X10.1 (lc S9.2.2.2.1), .own X10.2 (lc S9.2.2.2.2)]) [0, 0, 0] (spec_l17Edit_con ({ b := code, i := S9.1, h := S9.2.1 : L1Cur }) S9.2.2.2.2 V_code0 Y3 X10.2 R14 H15) kc32 rfl rfl ⟨(Base.can HB_V_code0), (Can.own 1 rfl), trivial⟩) rfl rfl rfl (fun Y16 => ?_)
      refine TO.ef (Ef.alloc kz34 rfl) rfl rfl rfl (fun B17 => ?_)
      refine TO.ef0 (Ef.store_box (us := [Y16.1, Y16.2]) (vs' := [Y16.1, Y16.2]) (is' := [.box B17 34 [Y16.1, Y16.2], .box Y3 94 [V_code0, .int .i64 R14.2.i, .int .i64 R14.2.h], .own Y16.1 (lc R14.1.Add), .own Y16.2 (lc R14.1.Drop), .own X10.1 (lc S9.2.2.2.1), .own X10.2 (lc S9.2.2.2.2)]) 0 kk34 rfl rfl rfl (Cel.agg ⟨(One.can (Can.own 2 rfl)), (One.can (Can.own 3 rfl)), trivial⟩) rfl rfl rfl rfl) rfl rfl (fun _ => ?_)
      refine TO.nil ?_
      refine TE.next ?_
      refine TW.seq ?_
      refine TW.region ?_
      refine TO.y (Y.move rfl) rfl rfl rfl ?_
      refine TO.y (Y.load_box (v := .agg #[Y16.1, Y16.2]) 0 kk34 rfl rfl rfl) rfl rfl rfl ?_
      refine TO.bind fun R18 H19 => ?_
      refine TO.ef (Ef.call (rest := [.box B17 34 [Y16.1, Y16.2], .box Y3 94 [V_code0, .int .i64 R14.2.i, .int .i64 R14.2.h], .own Y16.1 (lc R14.1.Add), .own Y16.2 (lc R14.1.Drop), .own X10.1 (lc S9.2.2.2.1), .own X10.2 (lc S9.2.2.2.2)]) [0, 0, 0, 0, 0, 0] (spec_EditFiles_con S9.2.2.2.2 R14.1 X10.2 Y16.1 Y16.2 R18 H19) kc33 rfl rfl ⟨(Can.own 5 rfl), (Can.own 2 rfl), (Can.own 3 rfl), trivial⟩) rfl rfl rfl (fun Y20 => ?_)
      refine TO.y (Y.move rfl) rfl rfl rfl ?_
      refine TO.y (Y.extract rfl rfl) rfl rfl rfl ?_
      refine TO.y (Y.extract rfl rfl) rfl rfl rfl ?_
      refine TO.y (Y.assign rfl) rfl rfl rfl ?_
      refine TO.y (Y.assign rfl) rfl rfl rfl ?_
      refine TO.nil ?_
      refine TE.next ?_
      refine TW.seq ?_
      refine TW.joinBX (τ := Int × Int × Bool) (X := Unit) (fun T _ => [(3, .pointer (some ⟨Y3, 0, none⟩)), (4, X10.1), (5, X10.2), (6, .int .i64 S9.2.2.1), (7, .pointer (some ⟨B17, 0, none⟩)), (8, Y20), (34, .bool T.2.2)]) (fun T _ => [.box Y3 94 [V_code0, .int .i64 T.1, .int .i64 T.2.1], .box B17 34 [Y16.1, Y16.2], .own X10.1 (lc S9.2.2.2.1), .own X10.2 (lc S9.2.2.2.2), .own Y16.1 (lc R14.1.Add), .own Y16.2 (lc R14.1.Drop), .own Y20 (lc R18.1)]) ?_ (fun T21 X22 => ?_)
      · refine TW.region ?_
        refine TO.y (Y.move rfl) rfl rfl rfl ?_
        refine TO.y (Y.move rfl) rfl rfl rfl ?_
        refine TO.ite (b := R18.2) (fun H23 => ?_) (fun H23 => ?_)
        · refine TO.off (Gd.at 1 false 31 R18.2 rfl rfl rfl (beq_tf H23)) rfl rfl ?_
          refine TO.off (Gd.at 1 false 31 R18.2 rfl rfl rfl (beq_tf H23)) rfl rfl ?_
          refine TO.y (Y.pick_t H23 rfl rfl) rfl rfl rfl ?_
          refine TO.nil ?_
          exact TE.jb_go () [2, 1, 3, 3, 1, 1, 0] ⟨rfl, rfl, rfl, rfl, rfl, rfl, rfl, trivial⟩ rfl
        · refine TO.y (Y.move rfl) (Gd.at 1 false 31 R18.2 rfl rfl rfl (beq_ff H23)) rfl rfl ?_
          refine TO.bind fun R24 H25 => ?_
          refine TO.ef (Ef.call (rest := [.own Y20 (lc R18.1), .box B17 34 [Y16.1, Y16.2], .own Y16.1 (lc R14.1.Add), .own Y16.2 (lc R14.1.Drop), .own X10.1 (lc S9.2.2.2.1), .own X10.2 (lc S9.2.2.2.2)]) [2, 0, 0, 0, 0, 0, 0] (spec_l1Once_con ({ b := code, i := R14.2.i, h := R14.2.h : L1Cur }) (10 : Int) V_code0 Y3 R24 H25) kc34 rfl rfl ⟨(Base.can HB_V_code0), trivial⟩) (Gd.at 1 false 31 R18.2 rfl rfl rfl (beq_ff H23)) rfl rfl (fun _ => ?_)
          refine TO.y (Y.pick_f H23 rfl rfl) rfl rfl rfl ?_
          refine TO.nil ?_
          exact TE.jb_go () [0, 1, 3, 3, 1, 1, 0] ⟨rfl, rfl, rfl, rfl, rfl, rfl, rfl, trivial⟩ rfl
      · refine TE.next ?_
        refine TW.joinX (τ := List (List UInt8) × List File) (X := Value × Value) (fun _ X => [(3, .pointer (some ⟨Y3, 0, none⟩)), (4, X.1), (5, X.2), (6, .int .i64 S9.2.2.1)]) (fun T X => [.box Y3 94 [V_code0, .int .i64 T21.1, .int .i64 T21.2.1], .own X.1 (lc T.1), .own X.2 (lc T.2)]) ?_ (fun T27 X28 => ?_)
        · refine TW.cond rfl (fun H29 => ?_) (fun H29 => ?_)
          · refine TW.seq ?_
            refine TW.region ?_
            refine TO.y (Y.move rfl) rfl rfl rfl ?_
            refine TO.y (Y.load_box (v := .agg #[Y16.1, Y16.2]) 1 kk34 rfl rfl rfl) rfl rfl rfl ?_
            refine TO.bind fun R30 H31 => ?_
            refine TO.ef (Ef.call (rest := [.box Y3 94 [V_code0, .int .i64 T21.1, .int .i64 T21.2.1], .box B17 34 [Y16.1, Y16.2], .own X10.1 (lc S9.2.2.2.1), .own X10.2 (lc S9.2.2.2.2), .own Y16.1 (lc R14.1.Add), .own Y16.2 (lc R14.1.Drop), .own Y20 (lc R18.1)]) [0, 0, 0, 0, 0, 0, 0] (spec_ShowEdit_con R14.1 Y16.1 Y16.2 R30 H31) kc35 rfl rfl ⟨(Can.own 4 rfl), (Can.own 5 rfl), trivial⟩) rfl rfl rfl (fun _ => ?_)
            refine TO.ef (Ef.buildSlice (α := List UInt8) (Vs := [strV R30]) [R30] ke24 kz9 rfl rfl rfl rfl rfl) rfl rfl rfl (fun B33 => ?_)
            refine TO.bind fun E35 H36 => ?_
            refine TO.ef (Ef.append (α := List UInt8) (is' := [.own (.slice (some ⟨B33, 0, none⟩) 1 1) (lc ([R30])), .box Y3 94 [V_code0, .int .i64 T21.1, .int .i64 T21.2.1], .box B17 34 [Y16.1, Y16.2], .own X10.2 (lc S9.2.2.2.2), .own Y16.1 (lc R14.1.Add), .own Y16.2 (lc R14.1.Drop), .own Y20 (lc R18.1)]) [3, 0, 0, 0, 0, 0, 0, 0] H36 ke24 kz9 rfl rfl rfl rfl rfl (Can.own 0 rfl)) rfl rfl rfl (fun V34 => ?_)
            refine TO.y (Y.assign rfl) rfl rfl rfl ?_
            refine TO.nil ?_
            refine TE.next ?_
            refine TW.region ?_
            refine TO.y (Y.move rfl) rfl rfl rfl ?_
            refine TO.y (Y.assign rfl) rfl rfl rfl ?_
            refine TO.nil ?_
            exact TE.jn_go (V34, Y20) [2, 0, 5] ⟨rfl, rfl, rfl, rfl, trivial⟩ rfl
          · refine TW.skip ?_
            exact TE.jn_go (X10.1, X10.2) [0, 1, 1] ⟨rfl, rfl, rfl, rfl, trivial⟩ rfl
        · refine TE.block_normal ?_
          refine TE.next ?_
          refine TW.region ?_
          refine TO.y (Y.move rfl) rfl rfl rfl ?_
          refine TO.y (Y.sub rfl rfl) rfl rfl rfl ?_
          refine TO.y (Y.assign rfl) rfl rfl rfl ?_
          refine TO.nil ?_
          exact TE.lp_go (X28.1, X28.2) [0, 0, 0] ⟨rfl, rfl, rfl, rfl, trivial⟩ rfl
    · refine TW.exit ?_
      refine TE.then_exit ?_
      refine TE.lp_exit ?_
      refine TE.block_exit ?_
      exact TE.jn_go X10.1 [0, 0] ⟨rfl, rfl, trivial⟩ rfl
  · refine TE.next ?_
    refine TW.seq ?_
    refine TW.seq ?_
    refine TW.joinBX (τ := Int × Int × Bool) (X := Unit) (fun T _ => [(3, .pointer (some ⟨Y3, 0, none⟩)), (4, X12), (47, .bool T.2.2)]) (fun T _ => [.box Y3 94 [V_code0, .int .i64 T.1, .int .i64 T.2.1], .own X12 (lc T11.2.2)]) ?_ (fun T37 X38 => ?_)
    · refine TW.region ?_
      refine TO.y (Y.move rfl) rfl rfl rfl ?_
      refine TO.y (Y.len (l := T11.2.2) ke24 (Can.own 1 rfl) rfl) rfl rfl rfl ?_
      refine TO.y (Y.gtr rfl rfl) rfl rfl rfl ?_
      refine TO.y (Y.move rfl) rfl rfl rfl ?_
      refine TO.ite (b := decide (((T11.2.2.length : Nat) : Int) > (0 : Int))) (fun H39 => ?_) (fun H39 => ?_)
      · refine TO.y (Y.move rfl) (Gd.at 3 true 44 (decide (((T11.2.2.length : Nat) : Int) > (0 : Int))) rfl rfl rfl (beq_tt H39)) rfl rfl ?_
        refine TO.bind fun R40 H41 => ?_
        refine TO.ef (Ef.call (rest := [.own X12 (lc T11.2.2)]) [0, 0] (spec_l1Once_con ({ b := code, i := T11.1, h := T11.2.1 : L1Cur }) (5 : Int) V_code0 Y3 R40 H41) kc34 rfl rfl ⟨(Base.can HB_V_code0), trivial⟩) (Gd.at 3 true 44 (decide (((T11.2.2.length : Nat) : Int) > (0 : Int))) rfl rfl rfl (beq_tt H39)) rfl rfl (fun _ => ?_)
        refine TO.y (Y.pick_t H39 rfl rfl) rfl rfl rfl ?_
        refine TO.nil ?_
        exact TE.jb_go () [0, 0] ⟨rfl, rfl, rfl, trivial⟩ rfl
      · refine TO.off (Gd.at 3 true 44 (decide (((T11.2.2.length : Nat) : Int) > (0 : Int))) rfl rfl rfl (beq_ft H39)) rfl rfl ?_
        refine TO.off (Gd.at 3 true 44 (decide (((T11.2.2.length : Nat) : Int) > (0 : Int))) rfl rfl rfl (beq_ft H39)) rfl rfl ?_
        refine TO.y (Y.pick_f H39 rfl rfl) rfl rfl rfl ?_
        refine TO.nil ?_
        exact TE.jb_go () [0, 0] ⟨rfl, rfl, rfl, trivial⟩ rfl
    · refine TE.next ?_
      refine TW.joinX (τ := List (List UInt8)) (X := Unit) (fun _ _ => [(4, X12)]) (fun T _ => [.own X12 (lc T)]) ?_ (fun T43 X44 => ?_)
      · refine TW.cond rfl (fun H45 => ?_) (fun H45 => ?_)
        · refine TW.seq ?_
          refine TW.region ?_
          refine TO.y (Y.move rfl) rfl rfl rfl ?_
          refine TO.y (Y.move rfl) rfl rfl rfl ?_
          refine TO.y (Y.len (l := T11.2.2) ke24 (Can.own 1 rfl) rfl) rfl rfl rfl ?_
          refine TO.bind fun R46 H47 => ?_
          refine TO.ef (Ef.call (rest := [.own X12 (lc T11.2.2)]) [0, 0] (spec_l1Below_con ({ b := code, i := T37.1, h := T37.2.1 : L1Cur }) ((T11.2.2.length : Nat) : Int) V_code0 Y3 R46 H47) kc31 rfl rfl ⟨(Base.can HB_V_code0), trivial⟩) rfl rfl rfl (fun _ => ?_)
          refine TO.y (Y.assign rfl) rfl rfl rfl ?_
          refine TO.nil ?_
          refine TE.next ?_
          refine TW.region ?_
          refine TO.y (Y.move rfl) rfl rfl rfl ?_
          refine TO.y (Y.move rfl) rfl rfl rfl ?_
          refine TO.y (Y.move rfl) rfl rfl rfl ?_
          refine TO.y (Y.move rfl) rfl rfl rfl ?_
          refine TO.y (Y.move rfl) rfl rfl rfl ?_
          refine TO.bind fun E49 H50 => ?_
          refine TO.y (Y.index ke24 (Can.own 1 rfl) H50 rfl rfl) rfl rfl rfl ?_
          refine TO.y (Y.load_el (us := [strV E49]) (u := strV E49) kk9 rfl (Can.own 1 rfl) (idx_get H50).2.2 rfl rfl rfl rfl rfl) rfl rfl rfl ?_
          refine TO.bind fun R51 H52 => ?_
          refine TO.ef (Ef.call (rest := [.own X12 (lc T11.2.2)]) [0, 0] (spec_l1Spoil_con ({ b := code, i := R46.2.i, h := R46.2.h : L1Cur }) E49 V_code0 Y3 R51 H52) kc36 rfl rfl ⟨(Base.can HB_V_code0), trivial⟩) rfl rfl rfl (fun _ => ?_)
          refine TO.y (Y.index ke24 (Can.own 1 rfl) H50 rfl rfl) rfl rfl rfl ?_
          refine TO.ef0 (Ef.store_el (us := [strV R51.1]) (is' := [.box Y3 94 [V_code0, .int .i64 R51.2.i, .int .i64 R51.2.h], .own X12 (lc (T11.2.2.set R46.1.toNat R51.1))]) R51.1 1 kk9 rfl rfl (idx_get H50).2.2 rfl rfl (Cel.plain rfl rfl) rfl rfl rfl rfl) rfl rfl (fun _ => ?_)
          refine TO.nil ?_
          exact TE.jn_go () [1] ⟨rfl, trivial⟩ rfl
        · refine TW.skip ?_
          exact TE.jn_go () [1] ⟨rfl, trivial⟩ rfl
      · refine TE.next ?_
        refine TW.seq ?_
        refine TW.region ?_
        refine TO.y (Y.move rfl) rfl rfl rfl ?_
        refine TO.y (Y.assign rfl) rfl rfl rfl ?_
        refine TO.nil ?_
        refine TE.next ?_
        refine TW.ret ?_
        exact TE.leaf fun _ _ hf_ hs_ => ret_any (rs := [.tmp 2]) (vs := [X12]) (.inl rfl) rfl ⟨rfl, trivial⟩ hf_ hs_ ⟨X12, rfl, hs_.pulls [0] rfl⟩

/-- loop.example/g00950/impl.Crc -/
noncomputable def impl_Crc (s : List UInt8) : Option Int :=
  bindC (loopO (fun (S1 : Int × Int) => if (decide (S1.2 < ((s.length : Nat) : Int))) = true then ((sidx s S1.2).bind fun E6 =>
  bindC (loopO (fun (S8 : Int × Int) => if (decide (S8.2 < (8 : Int))) = true then (bindC (if (decide (iand .u32 S8.1 (1 : Int) = (1 : Int))) = true then (some (.go (ixor .u32 (ishr .u32 S8.1 (1 : Int)) (2197175160 : Int))))
  else (some (.go (ishr .u32 S8.1 (1 : Int)))))
  (fun (T13 : Int) => some (.go (T13, IntKind.i64.wrap (S8.2 + (1 : Int))))))
  else (some (.done (.go S8.1))))
  (ixor .u32 S1.1 (IntKind.u32.wrap ((E6.toNat : Nat) : Int)), (0 : Int)))
  (fun (T10 : Int) => some (.go (T10, IntKind.i64.wrap (S1.2 + (1 : Int))))))
  else (some (.done (.go S1.1))))
  ((4294967295 : Int), (0 : Int)))
  (fun (T3 : Int) => some (IntKind.i64.wrap ((4294967295 : Int) - (IntKind.i64.wrap T3))))

theorem impl_Crc_con (s : List UInt8)  (r : Int) (hm : impl_Crc s = some r) :
    Con Try.prog 72 [strV s] [] [] (fun _ : Unit => .int .i64 r) (fun _ => []) := by
  refine Con.intro (args := [strV s]) (n := 32) (val := fun r (_ : Unit) => .int .i64 r) (post := fun _ _ => []) (m := impl_Crc s) Try.func72 rfl rfl rfl hm ?_
  intro w S _
  unfold impl_Crc
  refine TW.seq ?_
  refine TW.region ?_
  refine TO.y (Y.assign rfl) rfl rfl rfl ?_
  refine TO.nil ?_
  refine TE.next ?_
  refine TW.seq ?_
  refine TW.region ?_
  refine TO.y (Y.assign rfl) rfl rfl rfl ?_
  refine TO.nil ?_
  refine TE.next ?_
  refine TW.seq ?_
  refine TW.seq ?_
  refine TW.region ?_
  refine TO.y (Y.assign rfl) rfl rfl rfl ?_
  refine TO.nil ?_
  refine TE.next ?_
  refine TW.joinX (τ := Int) (X := Unit) (fun T _ => [(3, .int .u32 T)]) (fun _ _ => []) ?_ (fun T3 X4 => ?_)
  · refine TW.block ?_
    refine TW.loopX (σ := Int × Int) (X := Unit) (fun T _ => [(0, strV s), (3, .int .u32 T.1), (4, .int .i64 T.2)]) (fun _ _ => []) () [] ⟨rfl, rfl, rfl, trivial⟩ rfl (fun S1 X2 => ?_)
    refine TW.seq ?_
    refine TW.seq ?_
    refine TW.region ?_
    refine TO.y (Y.move rfl) rfl rfl rfl ?_
    refine TO.y (Y.move rfl) rfl rfl rfl ?_
    refine TO.y (Y.slen ks9 rfl) rfl rfl rfl ?_
    refine TO.y (Y.lss rfl rfl) rfl rfl rfl ?_
    refine TO.nil ?_
    refine TE.next ?_
    refine TW.cond rfl (fun H5 => ?_) (fun H5 => ?_)
    · refine TW.skip ?_
      refine TE.next ?_
      refine TW.seq ?_
      refine TW.block ?_
      refine TW.seq ?_
      refine TW.region ?_
      refine TO.y (Y.move rfl) rfl rfl rfl ?_
      refine TO.y (Y.move rfl) rfl rfl rfl ?_
      refine TO.y (Y.move rfl) rfl rfl rfl ?_
      refine TO.bind fun E6 H7 => ?_
      refine TO.y (Y.sidx H7 ks9 rfl rfl) rfl rfl rfl ?_
      refine TO.y (Y.conv ki5 ki112 rfl) rfl rfl rfl ?_
      refine TO.y (Y.xor rfl rfl) rfl rfl rfl ?_
      refine TO.y (Y.assign rfl) rfl rfl rfl ?_
      refine TO.nil ?_
      refine TE.next ?_
      refine TW.seq ?_
      refine TW.region ?_
      refine TO.y (Y.move rfl) rfl rfl rfl ?_
      refine TO.nil ?_
      refine TE.next ?_
      refine TW.joinX (τ := Int) (X := Unit) (fun T _ => [(0, strV s), (3, .int .u32 T), (4, .int .i64 S1.2)]) (fun _ _ => []) ?_ (fun T10 X11 => ?_)
      · refine TW.block ?_
        refine TW.loopX (σ := Int × Int) (X := Unit) (fun T _ => [(0, strV s), (3, .int .u32 T.1), (4, .int .i64 S1.2), (18, .int .i64 T.2)]) (fun _ _ => []) () [] ⟨rfl, rfl, rfl, rfl, trivial⟩ rfl (fun S8 X9 => ?_)
        refine TW.seq ?_
        refine TW.region ?_
        refine TO.y (Y.lss rfl rfl) rfl rfl rfl ?_
        refine TO.nil ?_
        refine TE.next ?_
        refine TW.seq ?_
        refine TW.cond rfl (fun H12 => ?_) (fun H12 => ?_)
        · refine TW.skip ?_
          refine TE.next ?_
          refine TW.seq ?_
          refine TW.block ?_
          refine TW.seq ?_
          refine TW.region ?_
          refine TO.y (Y.move rfl) rfl rfl rfl ?_
          refine TO.y (Y.and rfl rfl) rfl rfl rfl ?_
          refine TO.y (Y.assign rfl) rfl rfl rfl ?_
          refine TO.nil ?_
          refine TE.next ?_
          refine TW.seq ?_
          refine TW.region ?_
          refine TO.y (Y.move rfl) rfl rfl rfl ?_
          refine TO.y (Y.shr (by decide) rfl rfl) rfl rfl rfl ?_
          refine TO.y (Y.assign rfl) rfl rfl rfl ?_
          refine TO.nil ?_
          refine TE.next ?_
          refine TW.seq ?_
          refine TW.region ?_
          refine TO.y (Y.move rfl) rfl rfl rfl ?_
          refine TO.y (Y.eql rfl rfl) rfl rfl rfl ?_
          refine TO.nil ?_
          refine TE.next ?_
          refine TW.joinX (τ := Int) (X := Unit) (fun T _ => [(0, strV s), (3, .int .u32 T), (4, .int .i64 S1.2), (18, .int .i64 S8.2)]) (fun _ _ => []) ?_ (fun T13 X14 => ?_)
          · refine TW.cond rfl (fun H15 => ?_) (fun H15 => ?_)
            · refine TW.region ?_
              refine TO.y (Y.move rfl) rfl rfl rfl ?_
              refine TO.y (Y.xor rfl rfl) rfl rfl rfl ?_
              refine TO.y (Y.assign rfl) rfl rfl rfl ?_
              refine TO.nil ?_
              exact TE.jn_go () [] ⟨rfl, rfl, rfl, rfl, trivial⟩ rfl
            · refine TW.skip ?_
              exact TE.jn_go () [] ⟨rfl, rfl, rfl, rfl, trivial⟩ rfl
          · refine TE.block_normal ?_
            refine TE.next ?_
            refine TW.region ?_
            refine TO.y (Y.add rfl rfl) rfl rfl rfl ?_
            refine TO.y (Y.move rfl) rfl rfl rfl ?_
            refine TO.nil ?_
            exact TE.lp_go () [] ⟨rfl, rfl, rfl, rfl, trivial⟩ rfl
        · refine TW.exit ?_
          refine TE.then_exit ?_
          refine TE.lp_exit ?_
          refine TE.block_exit ?_
          exact TE.jn_go () [] ⟨rfl, rfl, rfl, trivial⟩ rfl
      · refine TE.block_normal ?_
        refine TE.next ?_
        refine TW.region ?_
        refine TO.y (Y.move rfl) rfl rfl rfl ?_
        refine TO.y (Y.add rfl rfl) rfl rfl rfl ?_
        refine TO.y (Y.assign rfl) rfl rfl rfl ?_
        refine TO.nil ?_
        exact TE.lp_go () [] ⟨rfl, rfl, rfl, trivial⟩ rfl
    · refine TW.exit ?_
      refine TE.then_exit ?_
      refine TE.lp_exit ?_
      refine TE.block_exit ?_
      exact TE.jn_go () [] ⟨rfl, trivial⟩ rfl
  · refine TE.next ?_
    refine TW.seq ?_
    refine TW.region ?_
    refine TO.y (Y.move rfl) rfl rfl rfl ?_
    refine TO.y (Y.conv ki112 ki3 rfl) rfl rfl rfl ?_
    refine TO.y (Y.sub rfl rfl) rfl rfl rfl ?_
    refine TO.y (Y.assign rfl) rfl rfl rfl ?_
    refine TO.nil ?_
    refine TE.next ?_
    refine TW.ret ?_
    exact TE.leaf fun _ _ hf_ hs_ => ret_any (rs := [.tmp 2]) (vs := [.int .i64 (IntKind.i64.wrap ((4294967295 : Int) - (IntKind.i64.wrap T3)))]) (.inl rfl) rfl ⟨rfl, trivial⟩ hf_ hs_ ⟨(), rfl, hs_.pulls [] rfl⟩

/-- loop.example/g00950/impl.inRange -/
noncomputable def impl_inRange (n : Int) (least : Int) (most : Int) : Option Bool :=
  (if (decide (n ≥ least)) = true then (some (decide (n ≤ most)))
  else (some false)).bind (fun (T1 : Bool) =>
  some T1)

theorem impl_inRange_con (n : Int) (least : Int) (most : Int)  (r : Bool) (hm : impl_inRange n least most = some r) :
    Con Try.prog 59 [.int .i64 n, .int .i64 least, .int .i64 most] [] [] (fun _ : Unit => .bool r) (fun _ => []) := by
  refine Con.intro (args := [.int .i64 n, .int .i64 least, .int .i64 most]) (n := 15) (val := fun r (_ : Unit) => .bool r) (post := fun _ _ => []) (m := impl_inRange n least most) Try.func59 rfl rfl rfl hm ?_
  intro w S _
  unfold impl_inRange
  refine TW.seq ?_
  refine TW.region ?_
  refine TO.y (Y.assign rfl) rfl rfl rfl ?_
  refine TO.nil ?_
  refine TE.next ?_
  refine TW.seq ?_
  refine TW.joinBX (τ := Bool) (X := Unit) (fun T _ => [(6, .bool T)]) (fun _ _ => []) ?_ (fun T1 X2 => ?_)
  · refine TW.region ?_
    refine TO.y (Y.move rfl) rfl rfl rfl ?_
    refine TO.y (Y.move rfl) rfl rfl rfl ?_
    refine TO.y (Y.geq rfl rfl) rfl rfl rfl ?_
    refine TO.y (Y.move rfl) rfl rfl rfl ?_
    refine TO.ite (b := decide (n ≥ least)) (fun H3 => ?_) (fun H3 => ?_)
    · refine TO.y (Y.move rfl) (Gd.at 3 true 10 (decide (n ≥ least)) rfl rfl rfl (beq_tt H3)) rfl rfl ?_
      refine TO.y (Y.move rfl) (Gd.at 3 true 10 (decide (n ≥ least)) rfl rfl rfl (beq_tt H3)) rfl rfl ?_
      refine TO.y (Y.leq rfl rfl) (Gd.at 3 true 10 (decide (n ≥ least)) rfl rfl rfl (beq_tt H3)) rfl rfl ?_
      refine TO.y (Y.pick_t H3 rfl rfl) rfl rfl rfl ?_
      refine TO.y (Y.assign rfl) rfl rfl rfl ?_
      refine TO.nil ?_
      exact TE.jb_go () [] ⟨rfl, trivial⟩ rfl
    · refine TO.off (Gd.at 3 true 10 (decide (n ≥ least)) rfl rfl rfl (beq_ft H3)) rfl rfl ?_
      refine TO.off (Gd.at 3 true 10 (decide (n ≥ least)) rfl rfl rfl (beq_ft H3)) rfl rfl ?_
      refine TO.off (Gd.at 3 true 10 (decide (n ≥ least)) rfl rfl rfl (beq_ft H3)) rfl rfl ?_
      refine TO.y (Y.pick_f H3 rfl rfl) rfl rfl rfl ?_
      refine TO.y (Y.assign rfl) rfl rfl rfl ?_
      refine TO.nil ?_
      exact TE.jb_go () [] ⟨rfl, trivial⟩ rfl
  · refine TE.next ?_
    refine TW.ret ?_
    exact TE.leaf fun _ _ hf_ hs_ => ret_any (rs := [.tmp 6]) (vs := [.bool T1]) (.inl rfl) rfl ⟨rfl, trivial⟩ hf_ hs_ ⟨(), rfl, hs_.pulls [] rfl⟩

/-- loop.example/g00950/impl.Fixed -/
noncomputable def impl_Fixed (n : Int) (width : Int) : Option (List UInt8) :=
  ((impl_inRange width (1 : Int) (7 : Int)).bind fun R3 =>
  if (!R3) = true then (some true)
  else (if (decide (n < (0 : Int))) = true then (some true)
  else (some (!(decide (ishr .i64 n (IntKind.u64.wrap (IntKind.i64.wrap ((8 : Int) * width))) = (0 : Int))))))).bind (fun (T1 : Bool) =>
  if T1 = true then (some ([]))
  else ((mkLen 1 width).bind fun E10 =>
  bindC (loopO (fun (S12 : Int × Int × List UInt8) => if (decide (S12.2.1 ≥ (0 : Int))) = true then ((idx S12.2.2 S12.2.1).bind fun E17 =>
  some (.go (ishr .i64 S12.1 (8 : Int), IntKind.i64.wrap (S12.2.1 - (1 : Int)), (S12.2.2.set S12.2.1.toNat (toU8 S12.1)))))
  else (some (.done (.go S12.2.2))))
  (n, IntKind.i64.wrap (width - (1 : Int)), (List.replicate E10 (0 : UInt8))))
  (fun (T14 : List UInt8) => some T14)))

theorem impl_Fixed_con (n : Int) (width : Int)  (r : List UInt8) (hm : impl_Fixed n width = some r) :
    Con Try.prog 71 [.int .i64 n, .int .i64 width] [] [] (fun _ : Unit => strV r) (fun _ => []) := by
  refine Con.intro (args := [.int .i64 n, .int .i64 width]) (n := 39) (val := fun r (_ : Unit) => strV r) (post := fun _ _ => []) (m := impl_Fixed n width) Try.func71 rfl rfl rfl hm ?_
  intro w S _
  unfold impl_Fixed
  refine TW.seq ?_
  refine TW.region ?_
  refine TO.y (Y.assign rfl) rfl rfl rfl ?_
  refine TO.nil ?_
  refine TE.next ?_
  refine TW.seq ?_
  refine TW.seq ?_
  refine TW.joinBX (τ := Bool) (X := Unit) (fun T _ => [(0, .int .i64 n), (1, .int .i64 width), (21, .bool T)]) (fun _ _ => []) ?_ (fun T1 X2 => ?_)
  · refine TW.region ?_
    refine TO.y (Y.move rfl) rfl rfl rfl ?_
    refine TO.bind fun R3 H4 => ?_
    refine TO.ef (Ef.call (rest := []) [] (impl_inRange_con width (1 : Int) (7 : Int)  R3 H4) kc59 rfl rfl trivial) rfl rfl rfl (fun _ => ?_)
    refine TO.y (Y.not rfl) rfl rfl rfl ?_
    refine TO.y (Y.move rfl) rfl rfl rfl ?_
    refine TO.ite (b := !R3) (fun H6 => ?_) (fun H6 => ?_)
    · refine TO.off (Gd.at 3 false 10 (!R3) rfl rfl rfl (beq_tf H6)) rfl rfl ?_
      refine TO.off (Gd.at 3 false 10 (!R3) rfl rfl rfl (beq_tf H6)) rfl rfl ?_
      refine TO.y (Y.pick_t H6 rfl rfl) rfl rfl rfl ?_
      refine TO.y (Y.move rfl) rfl rfl rfl ?_
      refine TO.off (Gd.at 7 false 14 true rfl rfl rfl rfl) rfl rfl ?_
      refine TO.off (Gd.at 7 false 14 true rfl rfl rfl rfl) rfl rfl ?_
      refine TO.off (Gd.at 7 false 14 true rfl rfl rfl rfl) rfl rfl ?_
      refine TO.off (Gd.at 7 false 14 true rfl rfl rfl rfl) rfl rfl ?_
      refine TO.off (Gd.at 7 false 14 true rfl rfl rfl rfl) rfl rfl ?_
      refine TO.off (Gd.at 7 false 14 true rfl rfl rfl rfl) rfl rfl ?_
      refine TO.y (Y.pick_t rfl rfl rfl) rfl rfl rfl ?_
      refine TO.nil ?_
      exact TE.jb_go () [] ⟨rfl, rfl, rfl, trivial⟩ rfl
    · refine TO.y (Y.move rfl) (Gd.at 3 false 10 (!R3) rfl rfl rfl (beq_ff H6)) rfl rfl ?_
      refine TO.y (Y.lss rfl rfl) (Gd.at 3 false 10 (!R3) rfl rfl rfl (beq_ff H6)) rfl rfl ?_
      refine TO.y (Y.pick_f H6 rfl rfl) rfl rfl rfl ?_
      refine TO.y (Y.move rfl) rfl rfl rfl ?_
      refine TO.ite (b := decide (n < (0 : Int))) (fun H7 => ?_) (fun H7 => ?_)
      · refine TO.off (Gd.at 7 false 14 (decide (n < (0 : Int))) rfl rfl rfl (beq_tf H7)) rfl rfl ?_
        refine TO.off (Gd.at 7 false 14 (decide (n < (0 : Int))) rfl rfl rfl (beq_tf H7)) rfl rfl ?_
        refine TO.off (Gd.at 7 false 14 (decide (n < (0 : Int))) rfl rfl rfl (beq_tf H7)) rfl rfl ?_
        refine TO.off (Gd.at 7 false 14 (decide (n < (0 : Int))) rfl rfl rfl (beq_tf H7)) rfl rfl ?_
        refine TO.off (Gd.at 7 false 14 (decide (n < (0 : Int))) rfl rfl rfl (beq_tf H7)) rfl rfl ?_
        refine TO.off (Gd.at 7 false 14 (decide (n < (0 : Int))) rfl rfl rfl (beq_tf H7)) rfl rfl ?_
        refine TO.y (Y.pick_t H7 rfl rfl) rfl rfl rfl ?_
        refine TO.nil ?_
        exact TE.jb_go () [] ⟨rfl, rfl, rfl, trivial⟩ rfl
      · refine TO.y (Y.move rfl) (Gd.at 7 false 14 (decide (n < (0 : Int))) rfl rfl rfl (beq_ff H7)) rfl rfl ?_
        refine TO.y (Y.move rfl) (Gd.at 7 false 14 (decide (n < (0 : Int))) rfl rfl rfl (beq_ff H7)) rfl rfl ?_
        refine TO.y (Y.mul rfl rfl) (Gd.at 7 false 14 (decide (n < (0 : Int))) rfl rfl rfl (beq_ff H7)) rfl rfl ?_
        refine TO.y (Y.conv ki3 ki105 rfl) (Gd.at 7 false 14 (decide (n < (0 : Int))) rfl rfl rfl (beq_ff H7)) rfl rfl ?_
        refine TO.y (Y.shr (wrap_u_nonneg rfl _) rfl rfl) (Gd.at 7 false 14 (decide (n < (0 : Int))) rfl rfl rfl (beq_ff H7)) rfl rfl ?_
        refine TO.y (Y.neq rfl rfl) (Gd.at 7 false 14 (decide (n < (0 : Int))) rfl rfl rfl (beq_ff H7)) rfl rfl ?_
        refine TO.y (Y.pick_f H7 rfl rfl) rfl rfl rfl ?_
        refine TO.nil ?_
        exact TE.jb_go () [] ⟨rfl, rfl, rfl, trivial⟩ rfl
  · refine TE.next ?_
    refine TW.cond rfl (fun H8 => ?_) (fun H8 => ?_)
    · refine TW.seq ?_
      refine TW.region ?_
      refine TO.y (Y.assign rfl) rfl rfl rfl ?_
      refine TO.nil ?_
      refine TE.next ?_
      refine TW.ret ?_
      refine TE.then_ret ?_
      exact TE.leaf fun _ _ hf_ hs_ => ret_any (rs := [.tmp 4]) (vs := [strV ([])]) (.inl rfl) rfl ⟨rfl, trivial⟩ hf_ hs_ ⟨(), rfl, hs_.pulls [] rfl⟩
    · refine TW.skip ?_
      refine TE.next ?_
      refine TW.seq ?_
      refine TW.region ?_
      refine TO.y (Y.move rfl) rfl rfl rfl ?_
      refine TO.bind fun E10 H11 => ?_
      refine TO.ef (Ef.make (α := UInt8) (z := (0 : UInt8)) H11 ke22 kz5 rfl rfl rfl rfl) rfl rfl rfl (fun V9 => ?_)
      refine TO.y (Y.assign rfl) rfl rfl rfl ?_
      refine TO.nil ?_
      refine TE.next ?_
      refine TW.seq ?_
      refine TW.seq ?_
      refine TW.region ?_
      refine TO.y (Y.move rfl) rfl rfl rfl ?_
      refine TO.y (Y.sub rfl rfl) rfl rfl rfl ?_
      refine TO.y (Y.assign rfl) rfl rfl rfl ?_
      refine TO.nil ?_
      refine TE.next ?_
      refine TW.joinX (τ := List UInt8) (X := Unit) (fun _ _ => [(5, V9)]) (fun T _ => [.own V9 (lc T)]) ?_ (fun T14 X15 => ?_)
      · refine TW.block ?_
        refine TW.loopX (σ := Int × Int × List UInt8) (X := Unit) (fun T _ => [(0, .int .i64 T.1), (5, V9), (6, .int .i64 T.2.1)]) (fun T _ => [.own V9 (lc T.2.2)]) () [0] ⟨rfl, rfl, rfl, trivial⟩ rfl (fun S12 X13 => ?_)
        refine TW.seq ?_
        refine TW.seq ?_
        refine TW.region ?_
        refine TO.y (Y.move rfl) rfl rfl rfl ?_
        refine TO.y (Y.geq rfl rfl) rfl rfl rfl ?_
        refine TO.nil ?_
        refine TE.next ?_
        refine TW.cond rfl (fun H16 => ?_) (fun H16 => ?_)
        · refine TW.skip ?_
          refine TE.next ?_
          refine TW.seq ?_
          refine TW.block ?_
          refine TW.seq ?_
          refine TW.region ?_
          refine TO.y (Y.move rfl) rfl rfl rfl ?_
          refine TO.y (Y.move rfl) rfl rfl rfl ?_
          refine TO.y (Y.move rfl) rfl rfl rfl ?_
          refine TO.y (Y.conv8 ki3 ki5 rfl) rfl rfl rfl ?_
          refine TO.bind fun E17 H18 => ?_
          refine TO.y (Y.index ke22 (Can.own 0 rfl) H18 rfl rfl) rfl rfl rfl ?_
          refine TO.ef0 (Ef.store_el (us := [.int .u8 (((toU8 S12.1).toNat : Nat) : Int)]) (is' := [.own V9 (lc (S12.2.2.set S12.2.1.toNat (toU8 S12.1)))]) (toU8 S12.1) 0 kk5 rfl rfl (idx_get H18).2.2 rfl rfl (Cel.plain rfl rfl) rfl rfl rfl rfl) rfl rfl (fun _ => ?_)
          refine TO.nil ?_
          refine TE.next ?_
          refine TW.region ?_
          refine TO.y (Y.move rfl) rfl rfl rfl ?_
          refine TO.y (Y.shr (by decide) rfl rfl) rfl rfl rfl ?_
          refine TO.y (Y.assign rfl) rfl rfl rfl ?_
          refine TO.nil ?_
          refine TE.block_normal ?_
          refine TE.next ?_
          refine TW.region ?_
          refine TO.y (Y.move rfl) rfl rfl rfl ?_
          refine TO.y (Y.sub rfl rfl) rfl rfl rfl ?_
          refine TO.y (Y.assign rfl) rfl rfl rfl ?_
          refine TO.nil ?_
          exact TE.lp_go () [0] ⟨rfl, rfl, rfl, trivial⟩ rfl
        · refine TW.exit ?_
          refine TE.then_exit ?_
          refine TE.lp_exit ?_
          refine TE.block_exit ?_
          exact TE.jn_go () [0] ⟨rfl, trivial⟩ rfl
      · refine TE.next ?_
        refine TW.seq ?_
        refine TW.region ?_
        refine TO.y (Y.move rfl) rfl rfl rfl ?_
        refine TO.y (Y.toStr ke22 ki5 ks9 (Can.own 0 rfl) rfl) rfl rfl rfl ?_
        refine TO.y (Y.assign rfl) rfl rfl rfl ?_
        refine TO.nil ?_
        refine TE.next ?_
        refine TW.ret ?_
        exact TE.leaf fun _ _ hf_ hs_ => ret_any (rs := [.tmp 4]) (vs := [strV T14]) (.inl rfl) rfl ⟨rfl, trivial⟩ hf_ hs_ ⟨(), rfl, hs_.pulls [] rfl⟩

/-- loop.example/g00950/impl.unsummed -/
noncomputable def impl_unsummed (s : List UInt8) : Option (List UInt8 × Bool) :=
  (if (decide (((s.length : Nat) : Int) < (4 : Int))) = true then (some true)
  else ((ssub s (4 : Int) (s.length : Int)).bind fun E4 =>
  (ssub s 0 (4 : Int)).bind fun E6 =>
  (impl_Crc E4).bind fun R8 =>
  (impl_Fixed R8 (4 : Int)).bind fun R11 =>
  some (!(decide (R11 = E6))))).bind (fun (T1 : Bool) =>
  if T1 = true then (some ([], false))
  else ((ssub s (4 : Int) (s.length : Int)).bind fun E15 =>
  some (E15, true)))

theorem impl_unsummed_con (s : List UInt8)  (r : List UInt8 × Bool) (hm : impl_unsummed s = some r) :
    Con Try.prog 40 [strV s] [] [] (fun _ : Unit => .tuple #[strV r.1, .bool r.2]) (fun _ => []) := by
  refine Con.intro (args := [strV s]) (n := 18) (val := fun r (_ : Unit) => .tuple #[strV r.1, .bool r.2]) (post := fun _ _ => []) (m := impl_unsummed s) Try.func40 rfl rfl rfl hm ?_
  intro w S _
  unfold impl_unsummed
  refine TW.seq ?_
  refine TW.region ?_
  refine TO.y (Y.assign rfl) rfl rfl rfl ?_
  refine TO.y (Y.assign rfl) rfl rfl rfl ?_
  refine TO.nil ?_
  refine TE.next ?_
  refine TW.seq ?_
  refine TW.seq ?_
  refine TW.joinBX (τ := Bool) (X := Unit) (fun T _ => [(0, strV s), (15, .bool T)]) (fun _ _ => []) ?_ (fun T1 X2 => ?_)
  · refine TW.draw (isH := []) hMix ?_
    refine TA.y (listed' := #[true, false, false, false, false, false, false, false, false, false, false, false]) 0 [] rfl (Y.move rfl) rfl rfl rfl (by kernel_rfl) (by kernel_rfl) (by kernel_rfl) rfl rfl ?_
    refine TA.y (listed' := #[true, true, false, false, false, false, false, false, false, false, false, false]) 1 [] rfl (Y.slen ks9 rfl) rfl rfl rfl (by kernel_rfl) (by kernel_rfl) (by kernel_rfl) rfl rfl ?_
    refine TA.y (listed' := #[true, true, true, false, false, false, false, false, false, false, false, false]) 2 [] rfl (Y.lss rfl rfl) rfl rfl rfl (by kernel_rfl) (by kernel_rfl) (by kernel_rfl) rfl rfl ?_
    refine TA.y (listed' := #[true, true, true, true, false, false, false, false, false, false, false, false]) 3 [] rfl (Y.move rfl) rfl rfl rfl (by kernel_rfl) (by kernel_rfl) (by kernel_rfl) rfl rfl ?_
    refine TA.ite (b := decide (((s.length : Nat) : Int) < (4 : Int))) (fun H3 => ?_) (fun H3 => ?_)
    · refine TA.off (listed' := #[true, true, true, true, true, false, false, false, false, false, false, false]) 4 [] rfl (Gd.at 3 false 7 (decide (((s.length : Nat) : Int) < (4 : Int))) rfl rfl rfl (beq_tf H3)) rfl rfl (by kernel_rfl) (by kernel_rfl) (by kernel_rfl) rfl rfl ?_
      refine TA.off (listed' := #[true, true, true, true, true, true, false, false, false, false, false, false]) 5 [] rfl (Gd.at 3 false 7 (decide (((s.length : Nat) : Int) < (4 : Int))) rfl rfl rfl (beq_tf H3)) rfl rfl (by kernel_rfl) (by kernel_rfl) (by kernel_rfl) rfl rfl ?_
      refine TA.off (listed' := #[true, true, true, true, true, true, true, false, false, false, false, false]) 6 [] rfl (Gd.at 3 false 7 (decide (((s.length : Nat) : Int) < (4 : Int))) rfl rfl rfl (beq_tf H3)) rfl rfl (by kernel_rfl) (by kernel_rfl) (by kernel_rfl) rfl rfl ?_
      refine TA.off (listed' := #[true, true, true, true, true, true, true, true, false, false, false, false]) 7 [] rfl (Gd.at 3 false 7 (decide (((s.length : Nat) : Int) < (4 : Int))) rfl rfl rfl (beq_tf H3)) rfl rfl (by kernel_rfl) (by kernel_rfl) (by kernel_rfl) rfl rfl ?_
      refine TA.off (listed' := #[true, true, true, true, true, true, true, true, true, false, false, false]) 8 [] rfl (Gd.at 3 false 7 (decide (((s.length : Nat) : Int) < (4 : Int))) rfl rfl rfl (beq_tf H3)) rfl rfl (by kernel_rfl) (by kernel_rfl) (by kernel_rfl) rfl rfl ?_
      refine TA.off (listed' := #[true, true, true, true, true, true, true, true, true, true, false, false]) 9 [] rfl (Gd.at 3 false 7 (decide (((s.length : Nat) : Int) < (4 : Int))) rfl rfl rfl (beq_tf H3)) rfl rfl (by kernel_rfl) (by kernel_rfl) (by kernel_rfl) rfl rfl ?_
      refine TA.off (listed' := #[true, true, true, true, true, true, true, true, true, true, true, false]) 10 [] rfl (Gd.at 3 false 7 (decide (((s.length : Nat) : Int) < (4 : Int))) rfl rfl rfl (beq_tf H3)) rfl rfl (by kernel_rfl) (by kernel_rfl) (by kernel_rfl) rfl rfl ?_
      refine TA.y (listed' := #[true, true, true, true, true, true, true, true, true, true, true, true]) 11 [] rfl (Y.pick_t H3 rfl rfl) rfl rfl rfl (by kernel_rfl) (by kernel_rfl) (by kernel_rfl) rfl rfl ?_
      refine TA.nil (by kernel_rfl) ?_
      exact TE.jb_go () [] ⟨rfl, rfl, trivial⟩ rfl
    · refine TA.y (listed' := #[true, true, true, true, true, false, false, false, false, false, false, false]) 4 [] rfl (Y.move rfl) (Gd.at 3 false 7 (decide (((s.length : Nat) : Int) < (4 : Int))) rfl rfl rfl (beq_ff H3)) rfl rfl (by kernel_rfl) (by kernel_rfl) (by kernel_rfl) rfl rfl ?_
      refine TA.bind fun E4 H5 => ?_
      refine TA.y (listed' := #[true, true, true, true, true, true, false, false, false, false, false, false]) 5 [] rfl (Y.ssub_from H5 ks9 rfl rfl) (Gd.at 3 false 7 (decide (((s.length : Nat) : Int) < (4 : Int))) rfl rfl rfl (beq_ff H3)) rfl rfl (by kernel_rfl) (by kernel_rfl) (by kernel_rfl) rfl rfl ?_
      refine TA.y (listed' := #[true, true, true, true, true, true, false, false, true, false, false, false]) 8 [] rfl (Y.move rfl) (Gd.at 3 false 7 (decide (((s.length : Nat) : Int) < (4 : Int))) rfl rfl rfl (beq_ff H3)) rfl rfl (by kernel_rfl) (by kernel_rfl) (by kernel_rfl) rfl rfl ?_
      refine TA.bind fun E6 H7 => ?_
      refine TA.y (listed' := #[true, true, true, true, true, true, false, false, true, true, false, false]) 9 [] rfl (Y.ssub_to H7 ks9 rfl rfl) (Gd.at 3 false 7 (decide (((s.length : Nat) : Int) < (4 : Int))) rfl rfl rfl (beq_ff H3)) rfl rfl (by kernel_rfl) (by kernel_rfl) (by kernel_rfl) rfl rfl ?_
      refine TA.bind fun R8 H9 => ?_
      refine TA.one 6 (by kernel_rfl) ?_
      refine TX.ef (listed' := #[true, true, true, true, true, true, true, false, true, true, false, false]) [] rfl (Ef.call (rest := []) [] (impl_Crc_con E4  R8 H9) kc72 rfl rfl trivial) (Gd.at 3 false 7 (decide (((s.length : Nat) : Int) < (4 : Int))) rfl rfl rfl (beq_ff H3)) rfl rfl rfl (fun _ => rfl) (fun _ => ?_)
      refine TA.bind fun R11 H12 => ?_
      refine TA.one 7 (by kernel_rfl) ?_
      refine TX.ef (listed' := #[true, true, true, true, true, true, true, true, true, true, false, false]) [] rfl (Ef.call (rest := []) [] (impl_Fixed_con R8 (4 : Int)  R11 H12) kc71 rfl rfl trivial) (Gd.at 3 false 7 (decide (((s.length : Nat) : Int) < (4 : Int))) rfl rfl rfl (beq_ff H3)) rfl rfl rfl (fun _ => rfl) (fun _ => ?_)
      refine TA.y (listed' := #[true, true, true, true, true, true, true, true, true, true, true, false]) 10 [] rfl (Y.sneq rfl rfl) (Gd.at 3 false 7 (decide (((s.length : Nat) : Int) < (4 : Int))) rfl rfl rfl (beq_ff H3)) rfl rfl (by kernel_rfl) (by kernel_rfl) (by kernel_rfl) rfl rfl ?_
      refine TA.y (listed' := #[true, true, true, true, true, true, true, true, true, true, true, true]) 11 [] rfl (Y.pick_f H3 rfl rfl) rfl rfl rfl (by kernel_rfl) (by kernel_rfl) (by kernel_rfl) rfl rfl ?_
      refine TA.nil (by kernel_rfl) ?_
      exact TE.jb_go () [] ⟨rfl, rfl, trivial⟩ rfl
  · refine TE.next ?_
    refine TW.cond rfl (fun H14 => ?_) (fun H14 => ?_)
    · refine TW.seq ?_
      refine TW.region ?_
      refine TO.y (Y.assign rfl) rfl rfl rfl ?_
      refine TO.y (Y.assign rfl) rfl rfl rfl ?_
      refine TO.nil ?_
      refine TE.next ?_
      refine TW.ret ?_
      refine TE.then_ret ?_
      exact TE.leaf fun _ _ hf_ hs_ => ret_any (rs := [.tmp 2, .tmp 3]) (vs := [strV ([]), .bool false]) (.inl rfl) rfl ⟨rfl, ⟨rfl, trivial⟩⟩ hf_ hs_ ⟨(), rfl, hs_.pulls [] rfl⟩
    · refine TW.skip ?_
      refine TE.next ?_
      refine TW.seq ?_
      refine TW.region ?_
      refine TO.y (Y.move rfl) rfl rfl rfl ?_
      refine TO.bind fun E15 H16 => ?_
      refine TO.y (Y.ssub_from H16 ks9 rfl rfl) rfl rfl rfl ?_
      refine TO.y (Y.assign rfl) rfl rfl rfl ?_
      refine TO.y (Y.assign rfl) rfl rfl rfl ?_
      refine TO.nil ?_
      refine TE.next ?_
      refine TW.ret ?_
      exact TE.leaf fun _ _ hf_ hs_ => ret_any (rs := [.tmp 2, .tmp 3]) (vs := [strV E15, .bool true]) (.inl rfl) rfl ⟨rfl, ⟨rfl, trivial⟩⟩ hf_ hs_ ⟨(), rfl, hs_.pulls [] rfl⟩

/-- loop.example/g00950/impl.ReadVar -/
noncomputable def impl_ReadVar (s : List UInt8) : Option (Int × Int) :=
  bindC (loopO (fun (S1 : Int × Int) => (if (decide (S1.2 < (7 : Int))) = true then (some (decide (S1.2 < ((s.length : Nat) : Int))))
  else (some false)).bind (fun (T5 : Bool) =>
  if T5 = true then ((sidx s S1.2).bind fun E9 =>
  if (decide (((E9.toNat : Nat) : Int) ≥ (128 : Int))) = true then (some (.go (ior .i64 S1.1 (ishl .i64 (IntKind.i64.wrap (iand .u8 ((E9.toNat : Nat) : Int) (127 : Int))) (IntKind.u64.wrap (IntKind.i64.wrap ((7 : Int) * S1.2)))), IntKind.i64.wrap (S1.2 + (1 : Int)))))
  else ((if (decide (((E9.toNat : Nat) : Int) = (0 : Int))) = true then (some (decide (S1.2 > (0 : Int))))
  else (some false)).bind (fun (T12 : Bool) =>
  if T12 = true then (some (.done (.done ((0 : Int), (0 : Int)))))
  else (some (.done (.done (ior .i64 S1.1 (ishl .i64 (IntKind.i64.wrap (iand .u8 ((E9.toNat : Nat) : Int) (127 : Int))) (IntKind.u64.wrap (IntKind.i64.wrap ((7 : Int) * S1.2)))), IntKind.i64.wrap (S1.2 + (1 : Int)))))))))
  else (some (.done (.go ())))))
  ((0 : Int), (0 : Int)))
  (fun (T3 : Unit) => some ((0 : Int), (0 : Int)))

theorem impl_ReadVar_con (s : List UInt8)  (r : Int × Int) (hm : impl_ReadVar s = some r) :
    Con Try.prog 73 [strV s] [] [] (fun _ : Unit => .tuple #[.int .i64 r.1, .int .i64 r.2]) (fun _ => []) := by
  refine Con.intro (args := [strV s]) (n := 42) (val := fun r (_ : Unit) => .tuple #[.int .i64 r.1, .int .i64 r.2]) (post := fun _ _ => []) (m := impl_ReadVar s) Try.func73 rfl rfl rfl hm ?_
  intro w S _
  unfold impl_ReadVar
  refine TW.seq ?_
  refine TW.region ?_
  refine TO.y (Y.assign rfl) rfl rfl rfl ?_
  refine TO.y (Y.assign rfl) rfl rfl rfl ?_
  refine TO.nil ?_
  refine TE.next ?_
  refine TW.seq ?_
  refine TW.region ?_
  refine TO.y (Y.assign rfl) rfl rfl rfl ?_
  refine TO.nil ?_
  refine TE.next ?_
  refine TW.seq ?_
  refine TW.seq ?_
  refine TW.region ?_
  refine TO.y (Y.assign rfl) rfl rfl rfl ?_
  refine TO.nil ?_
  refine TE.next ?_
  refine TW.joinX (τ := Unit) (X := Unit) (fun _ _ => []) (fun _ _ => []) ?_ (fun T3 X4 => ?_)
  · refine TW.block ?_
    refine TW.loopX (σ := Int × Int) (X := Unit) (fun T _ => [(0, strV s), (4, .int .i64 T.1), (5, .int .i64 T.2)]) (fun _ _ => []) () [] ⟨rfl, rfl, rfl, trivial⟩ rfl (fun S1 X2 => ?_)
    refine TW.seq ?_
    refine TW.seq ?_
    refine TW.joinBX (τ := Bool) (X := Unit) (fun T _ => [(0, strV s), (4, .int .i64 S1.1), (5, .int .i64 S1.2), (13, .bool T)]) (fun _ _ => []) ?_ (fun T5 X6 => ?_)
    · refine TW.region ?_
      refine TO.y (Y.move rfl) rfl rfl rfl ?_
      refine TO.y (Y.lss rfl rfl) rfl rfl rfl ?_
      refine TO.y (Y.move rfl) rfl rfl rfl ?_
      refine TO.ite (b := decide (S1.2 < (7 : Int))) (fun H7 => ?_) (fun H7 => ?_)
      · refine TO.y (Y.move rfl) (Gd.at 2 true 8 (decide (S1.2 < (7 : Int))) rfl rfl rfl (beq_tt H7)) rfl rfl ?_
        refine TO.y (Y.move rfl) (Gd.at 2 true 8 (decide (S1.2 < (7 : Int))) rfl rfl rfl (beq_tt H7)) rfl rfl ?_
        refine TO.y (Y.slen ks9 rfl) (Gd.at 2 true 8 (decide (S1.2 < (7 : Int))) rfl rfl rfl (beq_tt H7)) rfl rfl ?_
        refine TO.y (Y.lss rfl rfl) (Gd.at 2 true 8 (decide (S1.2 < (7 : Int))) rfl rfl rfl (beq_tt H7)) rfl rfl ?_
        refine TO.y (Y.pick_t H7 rfl rfl) rfl rfl rfl ?_
        refine TO.nil ?_
        exact TE.jb_go () [] ⟨rfl, rfl, rfl, rfl, trivial⟩ rfl
      · refine TO.off (Gd.at 2 true 8 (decide (S1.2 < (7 : Int))) rfl rfl rfl (beq_ft H7)) rfl rfl ?_
        refine TO.off (Gd.at 2 true 8 (decide (S1.2 < (7 : Int))) rfl rfl rfl (beq_ft H7)) rfl rfl ?_
        refine TO.off (Gd.at 2 true 8 (decide (S1.2 < (7 : Int))) rfl rfl rfl (beq_ft H7)) rfl rfl ?_
        refine TO.off (Gd.at 2 true 8 (decide (S1.2 < (7 : Int))) rfl rfl rfl (beq_ft H7)) rfl rfl ?_
        refine TO.y (Y.pick_f H7 rfl rfl) rfl rfl rfl ?_
        refine TO.nil ?_
        exact TE.jb_go () [] ⟨rfl, rfl, rfl, rfl, trivial⟩ rfl
    · refine TE.next ?_
      refine TW.cond rfl (fun H8 => ?_) (fun H8 => ?_)
      · refine TW.skip ?_
        refine TE.next ?_
        refine TW.seq ?_
        refine TW.block ?_
        refine TW.seq ?_
        refine TW.region ?_
        refine TO.y (Y.move rfl) rfl rfl rfl ?_
        refine TO.y (Y.move rfl) rfl rfl rfl ?_
        refine TO.y (Y.move rfl) rfl rfl rfl ?_
        refine TO.bind fun E9 H10 => ?_
        refine TO.y (Y.sidx H10 ks9 rfl rfl) rfl rfl rfl ?_
        refine TO.y (Y.and rfl rfl) rfl rfl rfl ?_
        refine TO.y (Y.conv ki5 ki3 rfl) rfl rfl rfl ?_
        refine TO.y (Y.move rfl) rfl rfl rfl ?_
        refine TO.y (Y.mul rfl rfl) rfl rfl rfl ?_
        refine TO.y (Y.conv ki3 ki105 rfl) rfl rfl rfl ?_
        refine TO.y (Y.shl (wrap_u_nonneg rfl _) rfl rfl) rfl rfl rfl ?_
        refine TO.y (Y.or rfl rfl) rfl rfl rfl ?_
        refine TO.y (Y.assign rfl) rfl rfl rfl ?_
        refine TO.nil ?_
        refine TE.next ?_
        refine TW.seq ?_
        refine TW.seq ?_
        refine TW.region ?_
        refine TO.y (Y.move rfl) rfl rfl rfl ?_
        refine TO.y (Y.move rfl) rfl rfl rfl ?_
        refine TO.y (Y.sidx H10 ks9 rfl rfl) rfl rfl rfl ?_
        refine TO.y (Y.geq rfl rfl) rfl rfl rfl ?_
        refine TO.nil ?_
        refine TE.next ?_
        refine TW.cond rfl (fun H11 => ?_) (fun H11 => ?_)
        · refine TW.exit ?_
          refine TE.then_exit ?_
          refine TE.block_exit ?_
          refine TE.next ?_
          refine TW.region ?_
          refine TO.y (Y.move rfl) rfl rfl rfl ?_
          refine TO.y (Y.add rfl rfl) rfl rfl rfl ?_
          refine TO.y (Y.assign rfl) rfl rfl rfl ?_
          refine TO.nil ?_
          exact TE.lp_go () [] ⟨rfl, rfl, rfl, trivial⟩ rfl
        · refine TW.skip ?_
          refine TE.next ?_
          refine TW.seq ?_
          refine TW.seq ?_
          refine TW.joinBX (τ := Bool) (X := Unit) (fun T _ => [(4, .int .i64 (ior .i64 S1.1 (ishl .i64 (IntKind.i64.wrap (iand .u8 ((E9.toNat : Nat) : Int) (127 : Int))) (IntKind.u64.wrap (IntKind.i64.wrap ((7 : Int) * S1.2)))))), (5, .int .i64 S1.2), (38, .bool T)]) (fun _ _ => []) ?_ (fun T12 X13 => ?_)
          · refine TW.region ?_
            refine TO.y (Y.move rfl) rfl rfl rfl ?_
            refine TO.y (Y.move rfl) rfl rfl rfl ?_
            refine TO.y (Y.sidx H10 ks9 rfl rfl) rfl rfl rfl ?_
            refine TO.y (Y.eql rfl rfl) rfl rfl rfl ?_
            refine TO.y (Y.move rfl) rfl rfl rfl ?_
            refine TO.ite (b := decide (((E9.toNat : Nat) : Int) = (0 : Int))) (fun H14 => ?_) (fun H14 => ?_)
            · refine TO.y (Y.move rfl) (Gd.at 4 true 35 (decide (((E9.toNat : Nat) : Int) = (0 : Int))) rfl rfl rfl (beq_tt H14)) rfl rfl ?_
              refine TO.y (Y.gtr rfl rfl) (Gd.at 4 true 35 (decide (((E9.toNat : Nat) : Int) = (0 : Int))) rfl rfl rfl (beq_tt H14)) rfl rfl ?_
              refine TO.y (Y.pick_t H14 rfl rfl) rfl rfl rfl ?_
              refine TO.nil ?_
              exact TE.jb_go () [] ⟨rfl, rfl, rfl, trivial⟩ rfl
            · refine TO.off (Gd.at 4 true 35 (decide (((E9.toNat : Nat) : Int) = (0 : Int))) rfl rfl rfl (beq_ft H14)) rfl rfl ?_
              refine TO.off (Gd.at 4 true 35 (decide (((E9.toNat : Nat) : Int) = (0 : Int))) rfl rfl rfl (beq_ft H14)) rfl rfl ?_
              refine TO.y (Y.pick_f H14 rfl rfl) rfl rfl rfl ?_
              refine TO.nil ?_
              exact TE.jb_go () [] ⟨rfl, rfl, rfl, trivial⟩ rfl
          · refine TE.next ?_
            refine TW.cond rfl (fun H15 => ?_) (fun H15 => ?_)
            · refine TW.seq ?_
              refine TW.region ?_
              refine TO.y (Y.assign rfl) rfl rfl rfl ?_
              refine TO.y (Y.assign rfl) rfl rfl rfl ?_
              refine TO.nil ?_
              refine TE.next ?_
              refine TW.ret ?_
              refine TE.then_ret ?_
              refine TE.block_ret ?_
              refine TE.then_ret ?_
              refine TE.lp_ret ?_
              refine TE.block_ret ?_
              refine TE.jn_done ?_
              refine TE.then_ret ?_
              exact TE.leaf fun _ _ hf_ hs_ => ret_any (rs := [.tmp 2, .tmp 3]) (vs := [.int .i64 (0 : Int), .int .i64 (0 : Int)]) (.inl rfl) rfl ⟨rfl, ⟨rfl, trivial⟩⟩ hf_ hs_ ⟨(), rfl, hs_.pulls [] rfl⟩
            · refine TW.skip ?_
              refine TE.next ?_
              refine TW.seq ?_
              refine TW.region ?_
              refine TO.y (Y.move rfl) rfl rfl rfl ?_
              refine TO.y (Y.move rfl) rfl rfl rfl ?_
              refine TO.y (Y.add rfl rfl) rfl rfl rfl ?_
              refine TO.y (Y.assign rfl) rfl rfl rfl ?_
              refine TO.y (Y.assign rfl) rfl rfl rfl ?_
              refine TO.nil ?_
              refine TE.next ?_
              refine TW.ret ?_
              refine TE.block_ret ?_
              refine TE.then_ret ?_
              refine TE.lp_ret ?_
              refine TE.block_ret ?_
              refine TE.jn_done ?_
              refine TE.then_ret ?_
              exact TE.leaf fun _ _ hf_ hs_ => ret_any (rs := [.tmp 2, .tmp 3]) (vs := [.int .i64 (ior .i64 S1.1 (ishl .i64 (IntKind.i64.wrap (iand .u8 ((E9.toNat : Nat) : Int) (127 : Int))) (IntKind.u64.wrap (IntKind.i64.wrap ((7 : Int) * S1.2))))), .int .i64 (IntKind.i64.wrap (S1.2 + (1 : Int)))]) (.inl rfl) rfl ⟨rfl, ⟨rfl, trivial⟩⟩ hf_ hs_ ⟨(), rfl, hs_.pulls [] rfl⟩
      · refine TW.exit ?_
        refine TE.then_exit ?_
        refine TE.lp_exit ?_
        refine TE.block_exit ?_
        exact TE.jn_go () [] trivial rfl
  · refine TE.next ?_
    refine TW.seq ?_
    refine TW.region ?_
    refine TO.y (Y.assign rfl) rfl rfl rfl ?_
    refine TO.y (Y.assign rfl) rfl rfl rfl ?_
    refine TO.nil ?_
    refine TE.next ?_
    refine TW.ret ?_
    exact TE.leaf fun _ _ hf_ hs_ => ret_any (rs := [.tmp 2, .tmp 3]) (vs := [.int .i64 (0 : Int), .int .i64 (0 : Int)]) (.inl rfl) rfl ⟨rfl, ⟨rfl, trivial⟩⟩ hf_ hs_ ⟨(), rfl, hs_.pulls [] rfl⟩

/-- (*loop.example/g00950/impl.reader).number -/
noncomputable def impl_reader_number (r_ : Reader) : Option (Int × Reader) :=
  if r_.bad = true then (some ((0 : Int), r_))
  else ((ssub r_.text r_.at_ (r_.text.length : Int)).bind fun E2 =>
  (impl_ReadVar E2).bind fun R4 =>
  if (decide (R4.2 = (0 : Int))) = true then (some ((0 : Int), { text := r_.text, at_ := r_.at_, bad := true : Reader }))
  else (some (R4.1, { text := r_.text, at_ := IntKind.i64.wrap (r_.at_ + R4.2), bad := r_.bad : Reader })))

theorem impl_reader_number_con (r_ : Reader) (B_r_ : Nat) (r : Int × Reader) (hm : impl_reader_number r_ = some r) :
    Con Try.prog 41 [.pointer (some ⟨B_r_, 0, none⟩)] [.box B_r_ 67 [strV r_.text, .int .i64 r_.at_, .bool r_.bad]] [] (fun _ : Unit => .int .i64 r.1) (fun _ => [.box B_r_ 67 [strV r.2.text, .int .i64 r.2.at_, .bool r.2.bad]]) := by
  refine Con.intro (args := [.pointer (some ⟨B_r_, 0, none⟩)]) (n := 36) (val := fun r (_ : Unit) => .int .i64 r.1) (post := fun r _ => [.box B_r_ 67 [strV r.2.text, .int .i64 r.2.at_, .bool r.2.bad]]) (m := impl_reader_number r_) Try.func41 rfl rfl rfl hm ?_
  intro w S _
  unfold impl_reader_number
  refine TW.seq ?_
  refine TW.region ?_
  refine TO.y (Y.assign rfl) rfl rfl rfl ?_
  refine TO.nil ?_
  refine TE.next ?_
  refine TW.seq ?_
  refine TW.seq ?_
  refine TW.region ?_
  refine TO.y (Y.move rfl) rfl rfl rfl ?_
  refine TO.y (Y.nilCheck rfl) rfl rfl rfl ?_
  refine TO.y (Y.field_box kf67_2 rfl rfl) rfl rfl rfl ?_
  refine TO.y (Y.load_box (v := .bool r_.bad) 0 kk4 rfl rfl rfl) rfl rfl rfl ?_
  refine TO.nil ?_
  refine TE.next ?_
  refine TW.cond rfl (fun H1 => ?_) (fun H1 => ?_)
  · refine TW.seq ?_
    refine TW.region ?_
    refine TO.y (Y.assign rfl) rfl rfl rfl ?_
    refine TO.nil ?_
    refine TE.next ?_
    refine TW.ret ?_
    refine TE.then_ret ?_
    exact TE.leaf fun _ _ hf_ hs_ => ret_any (rs := [.tmp 2]) (vs := [.int .i64 (0 : Int)]) (.inl rfl) rfl ⟨rfl, trivial⟩ hf_ hs_ ⟨(), rfl, hs_.pulls [0] rfl⟩
  · refine TW.skip ?_
    refine TE.next ?_
    refine TW.seq ?_
    refine TW.draw (isH := [.box B_r_ 67 [strV r_.text, .int .i64 r_.at_, .bool r_.bad]]) hMix ?_
    refine TA.y (listed' := #[true, false, false, false, false, false, false, false, false, false, false, false, false, false, false]) 0 [0] rfl (Y.move rfl) rfl rfl rfl (by kernel_rfl) (by kernel_rfl) (by kernel_rfl) rfl rfl ?_
    refine TA.y (listed' := #[true, true, false, false, false, false, false, false, false, false, false, false, false, false, false]) 1 [0] rfl (Y.nilCheck rfl) rfl rfl rfl (by kernel_rfl) (by kernel_rfl) (by kernel_rfl) rfl rfl ?_
    refine TA.y (listed' := #[true, true, true, false, false, false, false, false, false, false, false, false, false, false, false]) 2 [0] rfl (Y.field_box kf67_0 rfl rfl) rfl rfl rfl (by kernel_rfl) (by kernel_rfl) (by kernel_rfl) rfl rfl ?_
    refine TA.y (listed' := #[true, true, true, true, false, false, false, false, false, false, false, false, false, false, false]) 3 [0] rfl (Y.load_box (v := strV r_.text) 0 kk9 rfl rfl rfl) rfl rfl rfl (by kernel_rfl) (by kernel_rfl) (by kernel_rfl) rfl rfl ?_
    refine TA.y (listed' := #[true, true, true, true, true, false, false, false, false, false, false, false, false, false, false]) 4 [0] rfl (Y.move rfl) rfl rfl rfl (by kernel_rfl) (by kernel_rfl) (by kernel_rfl) rfl rfl ?_
    refine TA.y (listed' := #[true, true, true, true, true, true, false, false, false, false, false, false, false, false, false]) 5 [0] rfl (Y.nilCheck rfl) rfl rfl rfl (by kernel_rfl) (by kernel_rfl) (by kernel_rfl) rfl rfl ?_
    refine TA.y (listed' := #[true, true, true, true, true, true, true, false, false, false, false, false, false, false, false]) 6 [0] rfl (Y.field_box kf67_1 rfl rfl) rfl rfl rfl (by kernel_rfl) (by kernel_rfl) (by kernel_rfl) rfl rfl ?_
    refine TA.y (listed' := #[true, true, true, true, true, true, true, true, false, false, false, false, false, false, false]) 7 [0] rfl (Y.load_box (v := .int .i64 r_.at_) 0 kk3 rfl rfl rfl) rfl rfl rfl (by kernel_rfl) (by kernel_rfl) (by kernel_rfl) rfl rfl ?_
    refine TA.bind fun E2 H3 => ?_
    refine TA.y (listed' := #[true, true, true, true, true, true, true, true, true, false, false, false, false, false, false]) 8 [0] rfl (Y.ssub_from H3 ks9 rfl rfl) rfl rfl rfl (by kernel_rfl) (by kernel_rfl) (by kernel_rfl) rfl rfl ?_
    refine TA.bind fun R4 H5 => ?_
    refine TA.one 9 (by kernel_rfl) ?_
    refine TX.ef (listed' := #[true, true, true, true, true, true, true, true, true, true, false, false, false, false, false]) [0] rfl (Ef.call (rest := [.box B_r_ 67 [strV r_.text, .int .i64 r_.at_, .bool r_.bad]]) [0] (impl_ReadVar_con E2  R4 H5) kc73 rfl rfl trivial) rfl rfl rfl rfl (fun _ => rfl) (fun _ => ?_)
    refine TA.y (listed' := #[true, true, true, true, true, true, true, true, true, true, true, false, false, false, false]) 10 [0] rfl (Y.move rfl) rfl rfl rfl (by kernel_rfl) (by kernel_rfl) (by kernel_rfl) rfl rfl ?_
    refine TA.y (listed' := #[true, true, true, true, true, true, true, true, true, true, true, true, false, false, false]) 11 [0] rfl (Y.extract rfl rfl) rfl rfl rfl (by kernel_rfl) (by kernel_rfl) (by kernel_rfl) rfl rfl ?_
    refine TA.y (listed' := #[true, true, true, true, true, true, true, true, true, true, true, true, true, false, false]) 12 [0] rfl (Y.extract rfl rfl) rfl rfl rfl (by kernel_rfl) (by kernel_rfl) (by kernel_rfl) rfl rfl ?_
    refine TA.y (listed' := #[true, true, true, true, true, true, true, true, true, true, true, true, true, true, false]) 13 [0] rfl (Y.assign rfl) rfl rfl rfl (by kernel_rfl) (by kernel_rfl) (by kernel_rfl) rfl rfl ?_
    refine TA.y (listed' := #[true, true, true, true, true, true, true, true, true, true, true, true, true, true, true]) 14 [0] rfl (Y.assign rfl) rfl rfl rfl (by kernel_rfl) (by kernel_rfl) (by kernel_rfl) rfl rfl ?_
    refine TA.nil (by kernel_rfl) ?_
    refine TE.next ?_
    refine TW.seq ?_
    refine TW.seq ?_
    refine TW.region ?_
    refine TO.y (Y.move rfl) rfl rfl rfl ?_
    refine TO.y (Y.eql rfl rfl) rfl rfl rfl ?_
    refine TO.nil ?_
    refine TE.next ?_
    refine TW.cond rfl (fun H7 => ?_) (fun H7 => ?_)
    · refine TW.seq ?_
      refine TW.region ?_
      refine TO.y (Y.move rfl) rfl rfl rfl ?_
      refine TO.y (Y.nilCheck rfl) rfl rfl rfl ?_
      refine TO.y (Y.field_box kf67_2 rfl rfl) rfl rfl rfl ?_
      refine TO.ef0 (Ef.store_box (us := [.bool true]) (vs' := [strV r_.text, .int .i64 r_.at_, .bool true]) (is' := [.box B_r_ 67 [strV r_.text, .int .i64 r_.at_, .bool true]]) 0 kk4 rfl rfl rfl (Cel.plain rfl rfl) rfl rfl rfl rfl) rfl rfl (fun _ => ?_)
      refine TO.nil ?_
      refine TE.next ?_
      refine TW.seq ?_
      refine TW.region ?_
      refine TO.y (Y.assign rfl) rfl rfl rfl ?_
      refine TO.nil ?_
      refine TE.next ?_
      refine TW.ret ?_
      refine TE.then_ret ?_
      exact TE.leaf fun _ _ hf_ hs_ => ret_any (rs := [.tmp 2]) (vs := [.int .i64 (0 : Int)]) (.inl rfl) rfl ⟨rfl, trivial⟩ hf_ hs_ ⟨(), rfl, hs_.pulls [0] rfl⟩
    · refine TW.skip ?_
      refine TE.next ?_
      refine TW.seq ?_
      refine TW.region ?_
      refine TO.y (Y.move rfl) rfl rfl rfl ?_
      refine TO.y (Y.nilCheck rfl) rfl rfl rfl ?_
      refine TO.y (Y.field_box kf67_1 rfl rfl) rfl rfl rfl ?_
      refine TO.y (Y.load_box (v := .int .i64 r_.at_) 0 kk3 rfl rfl rfl) rfl rfl rfl ?_
      refine TO.y (Y.move rfl) rfl rfl rfl ?_
      refine TO.y (Y.add rfl rfl) rfl rfl rfl ?_
      refine TO.y (Y.nilCheck rfl) rfl rfl rfl ?_
      refine TO.y (Y.field_box kf67_1 rfl rfl) rfl rfl rfl ?_
      refine TO.ef0 (Ef.store_box (us := [.int .i64 (IntKind.i64.wrap (r_.at_ + R4.2))]) (vs' := [strV r_.text, .int .i64 (IntKind.i64.wrap (r_.at_ + R4.2)), .bool r_.bad]) (is' := [.box B_r_ 67 [strV r_.text, .int .i64 (IntKind.i64.wrap (r_.at_ + R4.2)), .bool r_.bad]]) 0 kk3 rfl rfl rfl (Cel.plain rfl rfl) rfl rfl rfl rfl) rfl rfl (fun _ => ?_)
      refine TO.nil ?_
      refine TE.next ?_
      refine TW.seq ?_
      refine TW.region ?_
      refine TO.y (Y.move rfl) rfl rfl rfl ?_
      refine TO.y (Y.assign rfl) rfl rfl rfl ?_
      refine TO.nil ?_
      refine TE.next ?_
      refine TW.ret ?_
      exact TE.leaf fun _ _ hf_ hs_ => ret_any (rs := [.tmp 2]) (vs := [.int .i64 R4.1]) (.inl rfl) rfl ⟨rfl, trivial⟩ hf_ hs_ ⟨(), rfl, hs_.pulls [0] rfl⟩

/-- (*loop.example/g00950/impl.reader).bytes -/
noncomputable def impl_reader_bytes (r_ : Reader) (n : Int) : Option (List UInt8 × Reader) :=
  (if r_.bad = true then (some true)
  else (some (decide (n > IntKind.i64.wrap (((r_.text.length : Nat) : Int) - r_.at_))))).bind (fun (T1 : Bool) =>
  if T1 = true then (some ([], { text := r_.text, at_ := r_.at_, bad := true : Reader }))
  else ((ssub r_.text (IntKind.i64.wrap (IntKind.i64.wrap (r_.at_ + n) - n)) (IntKind.i64.wrap (r_.at_ + n))).bind fun E5 =>
  some (E5, { text := r_.text, at_ := IntKind.i64.wrap (r_.at_ + n), bad := r_.bad : Reader })))

theorem impl_reader_bytes_con (r_ : Reader) (n : Int) (B_r_ : Nat) (r : List UInt8 × Reader) (hm : impl_reader_bytes r_ n = some r) :
    Con Try.prog 74 [.pointer (some ⟨B_r_, 0, none⟩), .int .i64 n] [.box B_r_ 67 [strV r_.text, .int .i64 r_.at_, .bool r_.bad]] [] (fun _ : Unit => strV r.1) (fun _ => [.box B_r_ 67 [strV r.2.text, .int .i64 r.2.at_, .bool r.2.bad]]) := by
  refine Con.intro (args := [.pointer (some ⟨B_r_, 0, none⟩), .int .i64 n]) (n := 49) (val := fun r (_ : Unit) => strV r.1) (post := fun r _ => [.box B_r_ 67 [strV r.2.text, .int .i64 r.2.at_, .bool r.2.bad]]) (m := impl_reader_bytes r_ n) Try.func74 rfl rfl rfl hm ?_
  intro w S _
  unfold impl_reader_bytes
  refine TW.seq ?_
  refine TW.region ?_
  refine TO.y (Y.assign rfl) rfl rfl rfl ?_
  refine TO.nil ?_
  refine TE.next ?_
  refine TW.seq ?_
  refine TW.seq ?_
  refine TW.joinBX (τ := Bool) (X := Unit) (fun T _ => [(0, .pointer (some ⟨B_r_, 0, none⟩)), (1, .int .i64 n), (22, .bool T)]) (fun _ _ => [.box B_r_ 67 [strV r_.text, .int .i64 r_.at_, .bool r_.bad]]) ?_ (fun T1 X2 => ?_)
  · refine TW.draw (isH := [.box B_r_ 67 [strV r_.text, .int .i64 r_.at_, .bool r_.bad]]) hMix ?_
    refine TA.y (listed' := #[true, false, false, false, false, false, false, false, false, false, false, false, false, false, false, false, false, false]) 0 [0] rfl (Y.move rfl) rfl rfl rfl (by kernel_rfl) (by kernel_rfl) (by kernel_rfl) rfl rfl ?_
    refine TA.y (listed' := #[true, true, false, false, false, false, false, false, false, false, false, false, false, false, false, false, false, false]) 1 [0] rfl (Y.nilCheck rfl) rfl rfl rfl (by kernel_rfl) (by kernel_rfl) (by kernel_rfl) rfl rfl ?_
    refine TA.y (listed' := #[true, true, true, false, false, false, false, false, false, false, false, false, false, false, false, false, false, false]) 2 [0] rfl (Y.field_box kf67_2 rfl rfl) rfl rfl rfl (by kernel_rfl) (by kernel_rfl) (by kernel_rfl) rfl rfl ?_
    refine TA.y (listed' := #[true, true, true, true, false, false, false, false, false, false, false, false, false, false, false, false, false, false]) 3 [0] rfl (Y.load_box (v := .bool r_.bad) 0 kk4 rfl rfl rfl) rfl rfl rfl (by kernel_rfl) (by kernel_rfl) (by kernel_rfl) rfl rfl ?_
    refine TA.y (listed' := #[true, true, true, true, true, false, false, false, false, false, false, false, false, false, false, false, false, false]) 4 [0] rfl (Y.move rfl) rfl rfl rfl (by kernel_rfl) (by kernel_rfl) (by kernel_rfl) rfl rfl ?_
    refine TA.ite (b := r_.bad) (fun H3 => ?_) (fun H3 => ?_)
    · refine TA.off (listed' := #[true, true, true, true, true, true, false, false, false, false, false, false, false, false, false, false, false, false]) 5 [0] rfl (Gd.at 4 false 9 r_.bad rfl rfl rfl (beq_tf H3)) rfl rfl (by kernel_rfl) (by kernel_rfl) (by kernel_rfl) rfl rfl ?_
      refine TA.off (listed' := #[true, true, true, true, true, true, true, false, false, false, false, false, false, false, false, false, false, false]) 6 [0] rfl (Gd.at 4 false 9 r_.bad rfl rfl rfl (beq_tf H3)) rfl rfl (by kernel_rfl) (by kernel_rfl) (by kernel_rfl) rfl rfl ?_
      refine TA.off (listed' := #[true, true, true, true, true, true, true, true, false, false, false, false, false, false, false, false, false, false]) 7 [0] rfl (Gd.at 4 false 9 r_.bad rfl rfl rfl (beq_tf H3)) rfl rfl (by kernel_rfl) (by kernel_rfl) (by kernel_rfl) rfl rfl ?_
      refine TA.off (listed' := #[true, true, true, true, true, true, true, true, true, false, false, false, false, false, false, false, false, false]) 8 [0] rfl (Gd.at 4 false 9 r_.bad rfl rfl rfl (beq_tf H3)) rfl rfl (by kernel_rfl) (by kernel_rfl) (by kernel_rfl) rfl rfl ?_
      refine TA.off (listed' := #[true, true, true, true, true, true, true, true, true, true, false, false, false, false, false, false, false, false]) 9 [0] rfl (Gd.at 4 false 9 r_.bad rfl rfl rfl (beq_tf H3)) rfl rfl (by kernel_rfl) (by kernel_rfl) (by kernel_rfl) rfl rfl ?_
      refine TA.off (listed' := #[true, true, true, true, true, true, true, true, true, true, true, false, false, false, false, false, false, false]) 10 [0] rfl (Gd.at 4 false 9 r_.bad rfl rfl rfl (beq_tf H3)) rfl rfl (by kernel_rfl) (by kernel_rfl) (by kernel_rfl) rfl rfl ?_
      refine TA.off (listed' := #[true, true, true, true, true, true, true, true, true, true, true, true, false, false, false, false, false, false]) 11 [0] rfl (Gd.at 4 false 9 r_.bad rfl rfl rfl (beq_tf H3)) rfl rfl (by kernel_rfl) (by kernel_rfl) (by kernel_rfl) rfl rfl ?_
      refine TA.off (listed' := #[true, true, true, true, true, true, true, true, true, true, true, true, true, false, false, false, false, false]) 12 [0] rfl (Gd.at 4 false 9 r_.bad rfl rfl rfl (beq_tf H3)) rfl rfl (by kernel_rfl) (by kernel_rfl) (by kernel_rfl) rfl rfl ?_
      refine TA.off (listed' := #[true, true, true, true, true, true, true, true, true, true, true, true, true, true, false, false, false, false]) 13 [0] rfl (Gd.at 4 false 9 r_.bad rfl rfl rfl (beq_tf H3)) rfl rfl (by kernel_rfl) (by kernel_rfl) (by kernel_rfl) rfl rfl ?_
      refine TA.off (listed' := #[true, true, true, true, true, true, true, true, true, true, true, true, true, true, true, false, false, false]) 14 [0] rfl (Gd.at 4 false 9 r_.bad rfl rfl rfl (beq_tf H3)) rfl rfl (by kernel_rfl) (by kernel_rfl) (by kernel_rfl) rfl rfl ?_
      refine TA.off (listed' := #[true, true, true, true, true, true, true, true, true, true, true, true, true, true, true, true, false, false]) 15 [0] rfl (Gd.at 4 false 9 r_.bad rfl rfl rfl (beq_tf H3)) rfl rfl (by kernel_rfl) (by kernel_rfl) (by kernel_rfl) rfl rfl ?_
      refine TA.off (listed' := #[true, true, true, true, true, true, true, true, true, true, true, true, true, true, true, true, true, false]) 16 [0] rfl (Gd.at 4 false 9 r_.bad rfl rfl rfl (beq_tf H3)) rfl rfl (by kernel_rfl) (by kernel_rfl) (by kernel_rfl) rfl rfl ?_
      refine TA.y (listed' := #[true, true, true, true, true, true, true, true, true, true, true, true, true, true, true, true, true, true]) 17 [0] rfl (Y.pick_t H3 rfl rfl) rfl rfl rfl (by kernel_rfl) (by kernel_rfl) (by kernel_rfl) rfl rfl ?_
      refine TA.nil (by kernel_rfl) ?_
      exact TE.jb_go () [0] ⟨rfl, rfl, rfl, trivial⟩ rfl
    · refine TA.y (listed' := #[true, true, true, true, true, true, false, false, false, false, false, false, false, false, false, false, false, false]) 5 [0] rfl (Y.move rfl) (Gd.at 4 false 9 r_.bad rfl rfl rfl (beq_ff H3)) rfl rfl (by kernel_rfl) (by kernel_rfl) (by kernel_rfl) rfl rfl ?_
      refine TA.y (listed' := #[true, true, true, true, true, true, true, false, false, false, false, false, false, false, false, false, false, false]) 6 [0] rfl (Y.move rfl) (Gd.at 4 false 9 r_.bad rfl rfl rfl (beq_ff H3)) rfl rfl (by kernel_rfl) (by kernel_rfl) (by kernel_rfl) rfl rfl ?_
      refine TA.y (listed' := #[true, true, true, true, true, true, true, true, false, false, false, false, false, false, false, false, false, false]) 7 [0] rfl (Y.nilCheck rfl) (Gd.at 4 false 9 r_.bad rfl rfl rfl (beq_ff H3)) rfl rfl (by kernel_rfl) (by kernel_rfl) (by kernel_rfl) rfl rfl ?_
      refine TA.y (listed' := #[true, true, true, true, true, true, true, true, true, false, false, false, false, false, false, false, false, false]) 8 [0] rfl (Y.field_box kf67_0 rfl rfl) (Gd.at 4 false 9 r_.bad rfl rfl rfl (beq_ff H3)) rfl rfl (by kernel_rfl) (by kernel_rfl) (by kernel_rfl) rfl rfl ?_
      refine TA.y (listed' := #[true, true, true, true, true, true, true, true, true, true, false, false, false, false, false, false, false, false]) 9 [0] rfl (Y.load_box (v := strV r_.text) 0 kk9 rfl rfl rfl) (Gd.at 4 false 9 r_.bad rfl rfl rfl (beq_ff H3)) rfl rfl (by kernel_rfl) (by kernel_rfl) (by kernel_rfl) rfl rfl ?_
      refine TA.y (listed' := #[true, true, true, true, true, true, true, true, true, true, true, false, false, false, false, false, false, false]) 10 [0] rfl (Y.slen ks9 rfl) (Gd.at 4 false 9 r_.bad rfl rfl rfl (beq_ff H3)) rfl rfl (by kernel_rfl) (by kernel_rfl) (by kernel_rfl) rfl rfl ?_
      refine TA.y (listed' := #[true, true, true, true, true, true, true, true, true, true, true, true, false, false, false, false, false, false]) 11 [0] rfl (Y.move rfl) (Gd.at 4 false 9 r_.bad rfl rfl rfl (beq_ff H3)) rfl rfl (by kernel_rfl) (by kernel_rfl) (by kernel_rfl) rfl rfl ?_
      refine TA.y (listed' := #[true, true, true, true, true, true, true, true, true, true, true, true, true, false, false, false, false, false]) 12 [0] rfl (Y.nilCheck rfl) (Gd.at 4 false 9 r_.bad rfl rfl rfl (beq_ff H3)) rfl rfl (by kernel_rfl) (by kernel_rfl) (by kernel_rfl) rfl rfl ?_
      refine TA.y (listed' := #[true, true, true, true, true, true, true, true, true, true, true, true, true, true, false, false, false, false]) 13 [0] rfl (Y.field_box kf67_1 rfl rfl) (Gd.at 4 false 9 r_.bad rfl rfl rfl (beq_ff H3)) rfl rfl (by kernel_rfl) (by kernel_rfl) (by kernel_rfl) rfl rfl ?_
      refine TA.y (listed' := #[true, true, true, true, true, true, true, true, true, true, true, true, true, true, true, false, false, false]) 14 [0] rfl (Y.load_box (v := .int .i64 r_.at_) 0 kk3 rfl rfl rfl) (Gd.at 4 false 9 r_.bad rfl rfl rfl (beq_ff H3)) rfl rfl (by kernel_rfl) (by kernel_rfl) (by kernel_rfl) rfl rfl ?_
      refine TA.y (listed' := #[true, true, true, true, true, true, true, true, true, true, true, true, true, true, true, true, false, false]) 15 [0] rfl (Y.sub rfl rfl) (Gd.at 4 false 9 r_.bad rfl rfl rfl (beq_ff H3)) rfl rfl (by kernel_rfl) (by kernel_rfl) (by kernel_rfl) rfl rfl ?_
      refine TA.y (listed' := #[true, true, true, true, true, true, true, true, true, true, true, true, true, true, true, true, true, false]) 16 [0] rfl (Y.gtr rfl rfl) (Gd.at 4 false 9 r_.bad rfl rfl rfl (beq_ff H3)) rfl rfl (by kernel_rfl) (by kernel_rfl) (by kernel_rfl) rfl rfl ?_
      refine TA.y (listed' := #[true, true, true, true, true, true, true, true, true, true, true, true, true, true, true, true, true, true]) 17 [0] rfl (Y.pick_f H3 rfl rfl) rfl rfl rfl (by kernel_rfl) (by kernel_rfl) (by kernel_rfl) rfl rfl ?_
      refine TA.nil (by kernel_rfl) ?_
      exact TE.jb_go () [0] ⟨rfl, rfl, rfl, trivial⟩ rfl
  · refine TE.next ?_
    refine TW.cond rfl (fun H4 => ?_) (fun H4 => ?_)
    · refine TW.seq ?_
      refine TW.region ?_
      refine TO.y (Y.move rfl) rfl rfl rfl ?_
      refine TO.y (Y.nilCheck rfl) rfl rfl rfl ?_
      refine TO.y (Y.field_box kf67_2 rfl rfl) rfl rfl rfl ?_
      refine TO.ef0 (Ef.store_box (us := [.bool true]) (vs' := [strV r_.text, .int .i64 r_.at_, .bool true]) (is' := [.box B_r_ 67 [strV r_.text, .int .i64 r_.at_, .bool true]]) 0 kk4 rfl rfl rfl (Cel.plain rfl rfl) rfl rfl rfl rfl) rfl rfl (fun _ => ?_)
      refine TO.nil ?_
      refine TE.next ?_
      refine TW.seq ?_
      refine TW.region ?_
      refine TO.y (Y.assign rfl) rfl rfl rfl ?_
      refine TO.nil ?_
      refine TE.next ?_
      refine TW.ret ?_
      refine TE.then_ret ?_
      exact TE.leaf fun _ _ hf_ hs_ => ret_any (rs := [.tmp 4]) (vs := [strV ([])]) (.inl rfl) rfl ⟨rfl, trivial⟩ hf_ hs_ ⟨(), rfl, hs_.pulls [0] rfl⟩
    · refine TW.skip ?_
      refine TE.next ?_
      refine TW.seq ?_
      refine TW.region ?_
      refine TO.y (Y.move rfl) rfl rfl rfl ?_
      refine TO.y (Y.nilCheck rfl) rfl rfl rfl ?_
      refine TO.y (Y.field_box kf67_1 rfl rfl) rfl rfl rfl ?_
      refine TO.y (Y.load_box (v := .int .i64 r_.at_) 0 kk3 rfl rfl rfl) rfl rfl rfl ?_
      refine TO.y (Y.move rfl) rfl rfl rfl ?_
      refine TO.y (Y.add rfl rfl) rfl rfl rfl ?_
      refine TO.y (Y.nilCheck rfl) rfl rfl rfl ?_
      refine TO.y (Y.field_box kf67_1 rfl rfl) rfl rfl rfl ?_
      refine TO.ef0 (Ef.store_box (us := [.int .i64 (IntKind.i64.wrap (r_.at_ + n))]) (vs' := [strV r_.text, .int .i64 (IntKind.i64.wrap (r_.at_ + n)), .bool r_.bad]) (is' := [.box B_r_ 67 [strV r_.text, .int .i64 (IntKind.i64.wrap (r_.at_ + n)), .bool r_.bad]]) 0 kk3 rfl rfl rfl (Cel.plain rfl rfl) rfl rfl rfl rfl) rfl rfl (fun _ => ?_)
      refine TO.nil ?_
      refine TE.next ?_
      refine TW.seq ?_
      refine TW.draw (isH := [.box B_r_ 67 [strV r_.text, .int .i64 (IntKind.i64.wrap (r_.at_ + n)), .bool r_.bad]]) hMix ?_
      refine TA.y (listed' := #[true, false, false, false, false, false, false, false, false, false, false, false, false, false, false, false]) 0 [0] rfl (Y.move rfl) rfl rfl rfl (by kernel_rfl) (by kernel_rfl) (by kernel_rfl) rfl rfl ?_
      refine TA.y (listed' := #[true, true, false, false, false, false, false, false, false, false, false, false, false, false, false, false]) 1 [0] rfl (Y.nilCheck rfl) rfl rfl rfl (by kernel_rfl) (by kernel_rfl) (by kernel_rfl) rfl rfl ?_
      refine TA.y (listed' := #[true, true, true, false, false, false, false, false, false, false, false, false, false, false, false, false]) 2 [0] rfl (Y.field_box kf67_0 rfl rfl) rfl rfl rfl (by kernel_rfl) (by kernel_rfl) (by kernel_rfl) rfl rfl ?_
      refine TA.y (listed' := #[true, true, true, true, false, false, false, false, false, false, false, false, false, false, false, false]) 3 [0] rfl (Y.load_box (v := strV r_.text) 0 kk9 rfl rfl rfl) rfl rfl rfl (by kernel_rfl) (by kernel_rfl) (by kernel_rfl) rfl rfl ?_
      refine TA.y (listed' := #[true, true, true, true, true, false, false, false, false, false, false, false, false, false, false, false]) 4 [0] rfl (Y.move rfl) rfl rfl rfl (by kernel_rfl) (by kernel_rfl) (by kernel_rfl) rfl rfl ?_
      refine TA.y (listed' := #[true, true, true, true, true, true, false, false, false, false, false, false, false, false, false, false]) 5 [0] rfl (Y.nilCheck rfl) rfl rfl rfl (by kernel_rfl) (by kernel_rfl) (by kernel_rfl) rfl rfl ?_
      refine TA.y (listed' := #[true, true, true, true, true, true, true, false, false, false, false, false, false, false, false, false]) 6 [0] rfl (Y.field_box kf67_1 rfl rfl) rfl rfl rfl (by kernel_rfl) (by kernel_rfl) (by kernel_rfl) rfl rfl ?_
      refine TA.y (listed' := #[true, true, true, true, true, true, true, true, false, false, false, false, false, false, false, false]) 7 [0] rfl (Y.load_box (v := .int .i64 (IntKind.i64.wrap (r_.at_ + n))) 0 kk3 rfl rfl rfl) rfl rfl rfl (by kernel_rfl) (by kernel_rfl) (by kernel_rfl) rfl rfl ?_
      refine TA.y (listed' := #[true, true, true, true, true, true, true, true, true, false, false, false, false, false, false, false]) 8 [0] rfl (Y.move rfl) rfl rfl rfl (by kernel_rfl) (by kernel_rfl) (by kernel_rfl) rfl rfl ?_
      refine TA.y (listed' := #[true, true, true, true, true, true, true, true, true, true, false, false, false, false, false, false]) 9 [0] rfl (Y.sub rfl rfl) rfl rfl rfl (by kernel_rfl) (by kernel_rfl) (by kernel_rfl) rfl rfl ?_
      refine TA.y (listed' := #[true, true, true, true, true, true, true, true, true, true, true, false, false, false, false, false]) 10 [0] rfl (Y.move rfl) rfl rfl rfl (by kernel_rfl) (by kernel_rfl) (by kernel_rfl) rfl rfl ?_
      refine TA.y (listed' := #[true, true, true, true, true, true, true, true, true, true, true, true, false, false, false, false]) 11 [0] rfl (Y.nilCheck rfl) rfl rfl rfl (by kernel_rfl) (by kernel_rfl) (by kernel_rfl) rfl rfl ?_
      refine TA.y (listed' := #[true, true, true, true, true, true, true, true, true, true, true, true, true, false, false, false]) 12 [0] rfl (Y.field_box kf67_1 rfl rfl) rfl rfl rfl (by kernel_rfl) (by kernel_rfl) (by kernel_rfl) rfl rfl ?_
      refine TA.y (listed' := #[true, true, true, true, true, true, true, true, true, true, true, true, true, true, false, false]) 13 [0] rfl (Y.load_box (v := .int .i64 (IntKind.i64.wrap (r_.at_ + n))) 0 kk3 rfl rfl rfl) rfl rfl rfl (by kernel_rfl) (by kernel_rfl) (by kernel_rfl) rfl rfl ?_
      refine TA.bind fun E5 H6 => ?_
      refine TA.y (listed' := #[true, true, true, true, true, true, true, true, true, true, true, true, true, true, true, false]) 14 [0] rfl (Y.ssub_both H6 ks9 rfl rfl rfl) rfl rfl rfl (by kernel_rfl) (by kernel_rfl) (by kernel_rfl) rfl rfl ?_
      refine TA.y (listed' := #[true, true, true, true, true, true, true, true, true, true, true, true, true, true, true, true]) 15 [0] rfl (Y.assign rfl) rfl rfl rfl (by kernel_rfl) (by kernel_rfl) (by kernel_rfl) rfl rfl ?_
      refine TA.nil (by kernel_rfl) ?_
      refine TE.next ?_
      refine TW.ret ?_
      exact TE.leaf fun _ _ hf_ hs_ => ret_any (rs := [.tmp 4]) (vs := [strV E5]) (.inl rfl) rfl ⟨rfl, trivial⟩ hf_ hs_ ⟨(), rfl, hs_.pulls [0] rfl⟩

/-- (*loop.example/g00950/impl.reader).short -/
noncomputable def impl_reader_short (r_ : Reader) : Option (List UInt8 × Reader) :=
  (impl_reader_number r_).bind fun R1 =>
  (impl_reader_bytes R1.2 R1.1).bind fun R4 =>
  some (R4.1, R4.2)

theorem impl_reader_short_con (r_ : Reader) (B_r_ : Nat) (r : List UInt8 × Reader) (hm : impl_reader_short r_ = some r) :
    Con Try.prog 42 [.pointer (some ⟨B_r_, 0, none⟩)] [.box B_r_ 67 [strV r_.text, .int .i64 r_.at_, .bool r_.bad]] [] (fun _ : Unit => strV r.1) (fun _ => [.box B_r_ 67 [strV r.2.text, .int .i64 r.2.at_, .bool r.2.bad]]) := by
  refine Con.intro (args := [.pointer (some ⟨B_r_, 0, none⟩)]) (n := 9) (val := fun r (_ : Unit) => strV r.1) (post := fun r _ => [.box B_r_ 67 [strV r.2.text, .int .i64 r.2.at_, .bool r.2.bad]]) (m := impl_reader_short r_) Try.func42 rfl rfl rfl hm ?_
  intro w S _
  unfold impl_reader_short
  refine TW.seq ?_
  refine TW.region ?_
  refine TO.y (Y.assign rfl) rfl rfl rfl ?_
  refine TO.nil ?_
  refine TE.next ?_
  refine TW.seq ?_
  refine TW.region ?_
  refine TO.y (Y.move rfl) rfl rfl rfl ?_
  refine TO.bind fun R1 H2 => ?_
  refine TO.ef (Ef.call (rest := []) [0] (impl_reader_number_con r_ B_r_ R1 H2) kc41 rfl rfl trivial) rfl rfl rfl (fun _ => ?_)
  refine TO.y (Y.assign rfl) rfl rfl rfl ?_
  refine TO.nil ?_
  refine TE.next ?_
  refine TW.seq ?_
  refine TW.region ?_
  refine TO.y (Y.move rfl) rfl rfl rfl ?_
  refine TO.y (Y.move rfl) rfl rfl rfl ?_
  refine TO.bind fun R4 H5 => ?_
  refine TO.ef (Ef.call (rest := []) [0] (impl_reader_bytes_con R1.2 R1.1 B_r_ R4 H5) kc74 rfl rfl trivial) rfl rfl rfl (fun _ => ?_)
  refine TO.y (Y.assign rfl) rfl rfl rfl ?_
  refine TO.nil ?_
  refine TE.next ?_
  refine TW.ret ?_
  exact TE.leaf fun _ _ hf_ hs_ => ret_any (rs := [.tmp 2]) (vs := [strV R4.1]) (.inl rfl) rfl ⟨rfl, trivial⟩ hf_ hs_ ⟨(), rfl, hs_.pulls [0] rfl⟩

/-- (*loop.example/g00950/impl.reader).done -/
noncomputable def impl_reader_done (r_ : Reader) : Option Bool :=
  (if (!r_.bad) = true then (some (decide (r_.at_ = ((r_.text.length : Nat) : Int))))
  else (some false)).bind (fun (T1 : Bool) =>
  some T1)

theorem impl_reader_done_con (r_ : Reader) (B_r_ : Nat) (r : Bool) (hm : impl_reader_done r_ = some r) :
    Con Try.prog 43 [.pointer (some ⟨B_r_, 0, none⟩)] [.box B_r_ 67 [strV r_.text, .int .i64 r_.at_, .bool r_.bad]] [] (fun _ : Unit => .bool r) (fun _ => [.box B_r_ 67 [strV r_.text, .int .i64 r_.at_, .bool r_.bad]]) := by
  refine Con.intro (args := [.pointer (some ⟨B_r_, 0, none⟩)]) (n := 20) (val := fun r (_ : Unit) => .bool r) (post := fun _ _ => [.box B_r_ 67 [strV r_.text, .int .i64 r_.at_, .bool r_.bad]]) (m := impl_reader_done r_) Try.func43 rfl rfl rfl hm ?_
  intro w S _
  unfold impl_reader_done
  refine TW.seq ?_
  refine TW.region ?_
  refine TO.y (Y.assign rfl) rfl rfl rfl ?_
  refine TO.nil ?_
  refine TE.next ?_
  refine TW.seq ?_
  refine TW.joinBX (τ := Bool) (X := Unit) (fun T _ => [(2, .bool T)]) (fun _ _ => [.box B_r_ 67 [strV r_.text, .int .i64 r_.at_, .bool r_.bad]]) ?_ (fun T1 X2 => ?_)
  · refine TW.draw (isH := [.box B_r_ 67 [strV r_.text, .int .i64 r_.at_, .bool r_.bad]]) hMix ?_
    refine TA.y (listed' := #[true, false, false, false, false, false, false, false, false, false, false, false, false, false, false, false, false, false]) 0 [0] rfl (Y.move rfl) rfl rfl rfl (by kernel_rfl) (by kernel_rfl) (by kernel_rfl) rfl rfl ?_
    refine TA.y (listed' := #[true, true, false, false, false, false, false, false, false, false, false, false, false, false, false, false, false, false]) 1 [0] rfl (Y.nilCheck rfl) rfl rfl rfl (by kernel_rfl) (by kernel_rfl) (by kernel_rfl) rfl rfl ?_
    refine TA.y (listed' := #[true, true, true, false, false, false, false, false, false, false, false, false, false, false, false, false, false, false]) 2 [0] rfl (Y.field_box kf67_2 rfl rfl) rfl rfl rfl (by kernel_rfl) (by kernel_rfl) (by kernel_rfl) rfl rfl ?_
    refine TA.y (listed' := #[true, true, true, true, false, false, false, false, false, false, false, false, false, false, false, false, false, false]) 3 [0] rfl (Y.load_box (v := .bool r_.bad) 0 kk4 rfl rfl rfl) rfl rfl rfl (by kernel_rfl) (by kernel_rfl) (by kernel_rfl) rfl rfl ?_
    refine TA.y (listed' := #[true, true, true, true, true, false, false, false, false, false, false, false, false, false, false, false, false, false]) 4 [0] rfl (Y.not rfl) rfl rfl rfl (by kernel_rfl) (by kernel_rfl) (by kernel_rfl) rfl rfl ?_
    refine TA.y (listed' := #[true, true, true, true, true, true, false, false, false, false, false, false, false, false, false, false, false, false]) 5 [0] rfl (Y.move rfl) rfl rfl rfl (by kernel_rfl) (by kernel_rfl) (by kernel_rfl) rfl rfl ?_
    refine TA.ite (b := !r_.bad) (fun H3 => ?_) (fun H3 => ?_)
    · refine TA.y (listed' := #[true, true, true, true, true, true, true, false, false, false, false, false, false, false, false, false, false, false]) 6 [0] rfl (Y.move rfl) (Gd.at 5 true 8 (!r_.bad) rfl rfl rfl (beq_tt H3)) rfl rfl (by kernel_rfl) (by kernel_rfl) (by kernel_rfl) rfl rfl ?_
      refine TA.y (listed' := #[true, true, true, true, true, true, true, true, false, false, false, false, false, false, false, false, false, false]) 7 [0] rfl (Y.nilCheck rfl) (Gd.at 5 true 8 (!r_.bad) rfl rfl rfl (beq_tt H3)) rfl rfl (by kernel_rfl) (by kernel_rfl) (by kernel_rfl) rfl rfl ?_
      refine TA.y (listed' := #[true, true, true, true, true, true, true, true, true, false, false, false, false, false, false, false, false, false]) 8 [0] rfl (Y.field_box kf67_1 rfl rfl) (Gd.at 5 true 8 (!r_.bad) rfl rfl rfl (beq_tt H3)) rfl rfl (by kernel_rfl) (by kernel_rfl) (by kernel_rfl) rfl rfl ?_
      refine TA.y (listed' := #[true, true, true, true, true, true, true, true, true, true, false, false, false, false, false, false, false, false]) 9 [0] rfl (Y.load_box (v := .int .i64 r_.at_) 0 kk3 rfl rfl rfl) (Gd.at 5 true 8 (!r_.bad) rfl rfl rfl (beq_tt H3)) rfl rfl (by kernel_rfl) (by kernel_rfl) (by kernel_rfl) rfl rfl ?_
      refine TA.y (listed' := #[true, true, true, true, true, true, true, true, true, true, true, false, false, false, false, false, false, false]) 10 [0] rfl (Y.move rfl) (Gd.at 5 true 8 (!r_.bad) rfl rfl rfl (beq_tt H3)) rfl rfl (by kernel_rfl) (by kernel_rfl) (by kernel_rfl) rfl rfl ?_
      refine TA.y (listed' := #[true, true, true, true, true, true, true, true, true, true, true, true, false, false, false, false, false, false]) 11 [0] rfl (Y.nilCheck rfl) (Gd.at 5 true 8 (!r_.bad) rfl rfl rfl (beq_tt H3)) rfl rfl (by kernel_rfl) (by kernel_rfl) (by kernel_rfl) rfl rfl ?_
      refine TA.y (listed' := #[true, true, true, true, true, true, true, true, true, true, true, true, true, false, false, false, false, false]) 12 [0] rfl (Y.field_box kf67_0 rfl rfl) (Gd.at 5 true 8 (!r_.bad) rfl rfl rfl (beq_tt H3)) rfl rfl (by kernel_rfl) (by kernel_rfl) (by kernel_rfl) rfl rfl ?_
      refine TA.y (listed' := #[true, true, true, true, true, true, true, true, true, true, true, true, true, true, false, false, false, false]) 13 [0] rfl (Y.load_box (v := strV r_.text) 0 kk9 rfl rfl rfl) (Gd.at 5 true 8 (!r_.bad) rfl rfl rfl (beq_tt H3)) rfl rfl (by kernel_rfl) (by kernel_rfl) (by kernel_rfl) rfl rfl ?_
      refine TA.y (listed' := #[true, true, true, true, true, true, true, true, true, true, true, true, true, true, true, false, false, false]) 14 [0] rfl (Y.slen ks9 rfl) (Gd.at 5 true 8 (!r_.bad) rfl rfl rfl (beq_tt H3)) rfl rfl (by kernel_rfl) (by kernel_rfl) (by kernel_rfl) rfl rfl ?_
      refine TA.y (listed' := #[true, true, true, true, true, true, true, true, true, true, true, true, true, true, true, true, false, false]) 15 [0] rfl (Y.eql rfl rfl) (Gd.at 5 true 8 (!r_.bad) rfl rfl rfl (beq_tt H3)) rfl rfl (by kernel_rfl) (by kernel_rfl) (by kernel_rfl) rfl rfl ?_
      refine TA.y (listed' := #[true, true, true, true, true, true, true, true, true, true, true, true, true, true, true, true, true, false]) 16 [0] rfl (Y.pick_t H3 rfl rfl) rfl rfl rfl (by kernel_rfl) (by kernel_rfl) (by kernel_rfl) rfl rfl ?_
      refine TA.y (listed' := #[true, true, true, true, true, true, true, true, true, true, true, true, true, true, true, true, true, true]) 17 [0] rfl (Y.assign rfl) rfl rfl rfl (by kernel_rfl) (by kernel_rfl) (by kernel_rfl) rfl rfl ?_
      refine TA.nil (by kernel_rfl) ?_
      exact TE.jb_go () [0] ⟨rfl, trivial⟩ rfl
    · refine TA.off (listed' := #[true, true, true, true, true, true, true, false, false, false, false, false, false, false, false, false, false, false]) 6 [0] rfl (Gd.at 5 true 8 (!r_.bad) rfl rfl rfl (beq_ft H3)) rfl rfl (by kernel_rfl) (by kernel_rfl) (by kernel_rfl) rfl rfl ?_
      refine TA.off (listed' := #[true, true, true, true, true, true, true, true, false, false, false, false, false, false, false, false, false, false]) 7 [0] rfl (Gd.at 5 true 8 (!r_.bad) rfl rfl rfl (beq_ft H3)) rfl rfl (by kernel_rfl) (by kernel_rfl) (by kernel_rfl) rfl rfl ?_
      refine TA.off (listed' := #[true, true, true, true, true, true, true, true, true, false, false, false, false, false, false, false, false, false]) 8 [0] rfl (Gd.at 5 true 8 (!r_.bad) rfl rfl rfl (beq_ft H3)) rfl rfl (by kernel_rfl) (by kernel_rfl) (by kernel_rfl) rfl rfl ?_
      refine TA.off (listed' := #[true, true, true, true, true, true, true, true, true, true, false, false, false, false, false, false, false, false]) 9 [0] rfl (Gd.at 5 true 8 (!r_.bad) rfl rfl rfl (beq_ft H3)) rfl rfl (by kernel_rfl) (by kernel_rfl) (by kernel_rfl) rfl rfl ?_
      refine TA.off (listed' := #[true, true, true, true, true, true, true, true, true, true, true, false, false, false, false, false, false, false]) 10 [0] rfl (Gd.at 5 true 8 (!r_.bad) rfl rfl rfl (beq_ft H3)) rfl rfl (by kernel_rfl) (by kernel_rfl) (by kernel_rfl) rfl rfl ?_
      refine TA.off (listed' := #[true, true, true, true, true, true, true, true, true, true, true, true, false, false, false, false, false, false]) 11 [0] rfl (Gd.at 5 true 8 (!r_.bad) rfl rfl rfl (beq_ft H3)) rfl rfl (by kernel_rfl) (by kernel_rfl) (by kernel_rfl) rfl rfl ?_
      refine TA.off (listed' := #[true, true, true, true, true, true, true, true, true, true, true, true, true, false, false, false, false, false]) 12 [0] rfl (Gd.at 5 true 8 (!r_.bad) rfl rfl rfl (beq_ft H3)) rfl rfl (by kernel_rfl) (by kernel_rfl) (by kernel_rfl) rfl rfl ?_
      refine TA.off (listed' := #[true, true, true, true, true, true, true, true, true, true, true, true, true, true, false, false, false, false]) 13 [0] rfl (Gd.at 5 true 8 (!r_.bad) rfl rfl rfl (beq_ft H3)) rfl rfl (by kernel_rfl) (by kernel_rfl) (by kernel_rfl) rfl rfl ?_
      refine TA.off (listed' := #[true, true, true, true, true, true, true, true, true, true, true, true, true, true, true, false, false, false]) 14 [0] rfl (Gd.at 5 true 8 (!r_.bad) rfl rfl rfl (beq_ft H3)) rfl rfl (by kernel_rfl) (by kernel_rfl) (by kernel_rfl) rfl rfl ?_
      refine TA.off (listed' := #[true, true, true, true, true, true, true, true, true, true, true, true, true, true, true, true, false, false]) 15 [0] rfl (Gd.at 5 true 8 (!r_.bad) rfl rfl rfl (beq_ft H3)) rfl rfl (by kernel_rfl) (by kernel_rfl) (by kernel_rfl) rfl rfl ?_
      refine TA.y (listed' := #[true, true, true, true, true, true, true, true, true, true, true, true, true, true, true, true, true, false]) 16 [0] rfl (Y.pick_f H3 rfl rfl) rfl rfl rfl (by kernel_rfl) (by kernel_rfl) (by kernel_rfl) rfl rfl ?_
      refine TA.y (listed' := #[true, true, true, true, true, true, true, true, true, true, true, true, true, true, true, true, true, true]) 17 [0] rfl (Y.assign rfl) rfl rfl rfl (by kernel_rfl) (by kernel_rfl) (by kernel_rfl) rfl rfl ?_
      refine TA.nil (by kernel_rfl) ?_
      exact TE.jb_go () [0] ⟨rfl, trivial⟩ rfl
  · refine TE.next ?_
    refine TW.ret ?_
    exact TE.leaf fun _ _ hf_ hs_ => ret_any (rs := [.tmp 2]) (vs := [.bool T1]) (.inl rfl) rfl ⟨rfl, trivial⟩ hf_ hs_ ⟨(), rfl, hs_.pulls [0] rfl⟩

/-- loop.example/g00950/impl.isNumber -/
noncomputable def impl_isNumber (n : Int) : Option Bool :=
  (impl_inRange n (0 : Int) (1000000 : Int)).bind fun R1 =>
  some R1

theorem impl_isNumber_con (n : Int)  (r : Bool) (hm : impl_isNumber n = some r) :
    Con Try.prog 76 [.int .i64 n] [] [] (fun _ : Unit => .bool r) (fun _ => []) := by
  refine Con.intro (args := [.int .i64 n]) (n := 5) (val := fun r (_ : Unit) => .bool r) (post := fun _ _ => []) (m := impl_isNumber n) Try.func76 rfl rfl rfl hm ?_
  intro w S _
  unfold impl_isNumber
  refine TW.seq ?_
  refine TW.region ?_
  refine TO.y (Y.assign rfl) rfl rfl rfl ?_
  refine TO.nil ?_
  refine TE.next ?_
  refine TW.seq ?_
  refine TW.region ?_
  refine TO.y (Y.move rfl) rfl rfl rfl ?_
  refine TO.bind fun R1 H2 => ?_
  refine TO.ef (Ef.call (rest := []) [] (impl_inRange_con n (0 : Int) (1000000 : Int)  R1 H2) kc59 rfl rfl trivial) rfl rfl rfl (fun _ => ?_)
  refine TO.y (Y.assign rfl) rfl rfl rfl ?_
  refine TO.nil ?_
  refine TE.next ?_
  refine TW.ret ?_
  exact TE.leaf fun _ _ hf_ hs_ => ret_any (rs := [.tmp 2]) (vs := [.bool R1]) (.inl rfl) rfl ⟨rfl, trivial⟩ hf_ hs_ ⟨(), rfl, hs_.pulls [] rfl⟩

/-- loop.example/g00950/impl.editOk -/
noncomputable def impl_editOk (e : Edit) : Option Bool :=
  (if (decide (((e.Add.length : Nat) : Int) > (12 : Int))) = true then (some true)
  else (some (decide (((e.Drop.length : Nat) : Int) > (12 : Int))))).bind (fun (T2 : Bool) =>
  if T2 = true then (some false)
  else (bindC (loopO (fun (S6 : Int) => if (decide (S6 < ((e.Drop.length : Nat) : Int))) = true then ((idx e.Drop S6).bind fun E11 =>
  (impl_isNumber E11).bind fun R13 =>
  if (!R13) = true then (some (.done (.done false)))
  else (some (.go (IntKind.i64.wrap (S6 + (1 : Int))))))
  else (some (.done (.go ()))))
  (0 : Int))
  (fun (T8 : Unit) => bindC (loopO (fun (S17 : Int) => if (decide (S17 < ((e.Add.length : Nat) : Int))) = true then ((idx e.Add S17).bind fun E22 =>
  ((impl_isNumber E22.No).bind fun R27 =>
  if (!R27) = true then (some true)
  else ((impl_isNumber E22.Level).bind fun R31 =>
  if (!R31) = true then (some true)
  else (if (decide (((E22.Lo.length : Nat) : Int) > (10 : Int))) = true then (some true)
  else (some (decide (((E22.Hi.length : Nat) : Int) > (10 : Int))))))).bind (fun (T25 : Bool) =>
  if T25 = true then (some (.done (.done false)))
  else (some (.go (IntKind.i64.wrap (S17 + (1 : Int)))))))
  else (some (.done (.go ()))))
  (0 : Int))
  (fun (T19 : Unit) => some true))))

theorem impl_editOk_con (e : Edit) (V_e0 : Value) (V_e1 : Value) (r : Bool) (hm : impl_editOk e = some r) :
    Con Try.prog 47 [.agg #[V_e0, V_e1]] [] [(V_e0, lc e.Add), (V_e1, lc e.Drop)] (fun _ : Unit => .bool r) (fun _ => []) := by
  refine Con.intro (args := [.agg #[V_e0, V_e1]]) (n := 58) (val := fun r (_ : Unit) => .bool r) (post := fun _ _ => []) (m := impl_editOk e) Try.func47 rfl rfl rfl hm ?_
  intro w S hrd
  have HB_V_e0 := hrd _ (.head _)
  have HB_V_e1 := hrd _ (.tail _ (.head _))
  clear hrd
  unfold impl_editOk
  refine TW.seq ?_
  refine TW.region ?_
  refine TO.ef (Ef.box rfl (Cel.agg ⟨(One.can (Base.can HB_V_e0)), (One.can (Base.can HB_V_e1)), trivial⟩)) rfl rfl rfl (fun B1 => ?_)
  refine TO.y (Y.assign rfl) rfl rfl rfl ?_
  refine TO.nil ?_
  refine TE.next ?_
  refine TW.seq ?_
  refine TW.seq ?_
  refine TW.joinBX (τ := Bool) (X := Unit) (fun T _ => [(1, .pointer (some ⟨B1, 0, none⟩)), (16, .bool T)]) (fun _ _ => [.box B1 34 [V_e0, V_e1]]) ?_ (fun T2 X3 => ?_)
  · refine TW.region ?_
    refine TO.y (Y.field_box kf34_0 rfl rfl) rfl rfl rfl ?_
    refine TO.y (Y.load_box (v := V_e0) 0 kk26 rfl rfl rfl) rfl rfl rfl ?_
    refine TO.y (Y.len (l := e.Add) ke26 (Base.can HB_V_e0) rfl) rfl rfl rfl ?_
    refine TO.y (Y.gtr rfl rfl) rfl rfl rfl ?_
    refine TO.y (Y.move rfl) rfl rfl rfl ?_
    refine TO.ite (b := decide (((e.Add.length : Nat) : Int) > (12 : Int))) (fun H4 => ?_) (fun H4 => ?_)
    · refine TO.off (Gd.at 4 false 11 (decide (((e.Add.length : Nat) : Int) > (12 : Int))) rfl rfl rfl (beq_tf H4)) rfl rfl ?_
      refine TO.off (Gd.at 4 false 11 (decide (((e.Add.length : Nat) : Int) > (12 : Int))) rfl rfl rfl (beq_tf H4)) rfl rfl ?_
      refine TO.off (Gd.at 4 false 11 (decide (((e.Add.length : Nat) : Int) > (12 : Int))) rfl rfl rfl (beq_tf H4)) rfl rfl ?_
      refine TO.off (Gd.at 4 false 11 (decide (((e.Add.length : Nat) : Int) > (12 : Int))) rfl rfl rfl (beq_tf H4)) rfl rfl ?_
      refine TO.y (Y.pick_t H4 rfl rfl) rfl rfl rfl ?_
      refine TO.nil ?_
      exact TE.jb_go () [0] ⟨rfl, rfl, trivial⟩ rfl
    · refine TO.y (Y.field_box kf34_1 rfl rfl) (Gd.at 4 false 11 (decide (((e.Add.length : Nat) : Int) > (12 : Int))) rfl rfl rfl (beq_ff H4)) rfl rfl ?_
      refine TO.y (Y.load_box (v := V_e1) 0 kk32 rfl rfl rfl) (Gd.at 4 false 11 (decide (((e.Add.length : Nat) : Int) > (12 : Int))) rfl rfl rfl (beq_ff H4)) rfl rfl ?_
      refine TO.y (Y.len (l := e.Drop) ke32 (Base.can HB_V_e1) rfl) (Gd.at 4 false 11 (decide (((e.Add.length : Nat) : Int) > (12 : Int))) rfl rfl rfl (beq_ff H4)) rfl rfl ?_
      refine TO.y (Y.gtr rfl rfl) (Gd.at 4 false 11 (decide (((e.Add.length : Nat) : Int) > (12 : Int))) rfl rfl rfl (beq_ff H4)) rfl rfl ?_
      refine TO.y (Y.pick_f H4 rfl rfl) rfl rfl rfl ?_
      refine TO.nil ?_
      exact TE.jb_go () [0] ⟨rfl, rfl, trivial⟩ rfl
  · refine TE.next ?_
    refine TW.cond rfl (fun H5 => ?_) (fun H5 => ?_)
    · refine TW.seq ?_
      refine TW.region ?_
      refine TO.y (Y.assign rfl) rfl rfl rfl ?_
      refine TO.nil ?_
      refine TE.next ?_
      refine TW.ret ?_
      refine TE.then_ret ?_
      exact TE.leaf fun _ _ hf_ hs_ => ret_any (rs := [.tmp 2]) (vs := [.bool false]) (.inl rfl) rfl ⟨rfl, trivial⟩ hf_ hs_ ⟨(), rfl, hs_.pulls [] rfl⟩
    · refine TW.skip ?_
      refine TE.next ?_
      refine TW.seq ?_
      refine TW.seq ?_
      refine TW.region ?_
      refine TO.y (Y.field_box kf34_1 rfl rfl) rfl rfl rfl ?_
      refine TO.y (Y.load_box (v := V_e1) 0 kk32 rfl rfl rfl) rfl rfl rfl ?_
      refine TO.y (Y.len (l := e.Drop) ke32 (Base.can HB_V_e1) rfl) rfl rfl rfl ?_
      refine TO.y (Y.move rfl) rfl rfl rfl ?_
      refine TO.nil ?_
      refine TE.next ?_
      refine TW.joinX (τ := Unit) (X := Unit) (fun _ _ => [(1, .pointer (some ⟨B1, 0, none⟩))]) (fun _ _ => [.box B1 34 [V_e0, V_e1]]) ?_ (fun T8 X9 => ?_)
      · refine TW.block ?_
        refine TW.loopX (σ := Int) (X := Unit) (fun T _ => [(1, .pointer (some ⟨B1, 0, none⟩)), (18, V_e1), (19, .int .i64 ((e.Drop.length : Nat) : Int)), (20, .int .i64 T)]) (fun _ _ => [.box B1 34 [V_e0, V_e1]]) () [0] ⟨rfl, rfl, rfl, rfl, trivial⟩ rfl (fun S6 X7 => ?_)
        refine TW.seq ?_
        refine TW.region ?_
        refine TO.y (Y.lss rfl rfl) rfl rfl rfl ?_
        refine TO.nil ?_
        refine TE.next ?_
        refine TW.seq ?_
        refine TW.cond rfl (fun H10 => ?_) (fun H10 => ?_)
        · refine TW.skip ?_
          refine TE.next ?_
          refine TW.seq ?_
          refine TW.block ?_
          refine TW.seq ?_
          refine TW.region ?_
          refine TO.bind fun E11 H12 => ?_
          refine TO.y (Y.index ke32 (Base.can HB_V_e1) H12 rfl rfl) rfl rfl rfl ?_
          refine TO.y (Y.load_el (us := [.int .i64 E11]) (u := .int .i64 E11) kk3 rfl (Base.can HB_V_e1) (idx_get H12).2.2 rfl rfl rfl rfl rfl) rfl rfl rfl ?_
          refine TO.y (Y.assign rfl) rfl rfl rfl ?_
          refine TO.nil ?_
          refine TE.next ?_
          refine TW.seq ?_
          refine TW.region ?_
          refine TO.y (Y.move rfl) rfl rfl rfl ?_
          refine TO.bind fun R13 H14 => ?_
          refine TO.ef (Ef.call (rest := [.box B1 34 [V_e0, V_e1]]) [0] (impl_isNumber_con E11  R13 H14) kc76 rfl rfl trivial) rfl rfl rfl (fun _ => ?_)
          refine TO.y (Y.not rfl) rfl rfl rfl ?_
          refine TO.nil ?_
          refine TE.next ?_
          refine TW.cond rfl (fun H16 => ?_) (fun H16 => ?_)
          · refine TW.seq ?_
            refine TW.region ?_
            refine TO.y (Y.assign rfl) rfl rfl rfl ?_
            refine TO.nil ?_
            refine TE.next ?_
            refine TW.ret ?_
            refine TE.block_ret ?_
            refine TE.then_ret ?_
            refine TE.lp_ret ?_
            refine TE.block_ret ?_
            refine TE.jn_done ?_
            refine TE.then_ret ?_
            exact TE.leaf fun _ _ hf_ hs_ => ret_any (rs := [.tmp 2]) (vs := [.bool false]) (.inl rfl) rfl ⟨rfl, trivial⟩ hf_ hs_ ⟨(), rfl, hs_.pulls [] rfl⟩
          · refine TW.skip ?_
            refine TE.block_normal ?_
            refine TE.next ?_
            refine TW.region ?_
            refine TO.y (Y.add rfl rfl) rfl rfl rfl ?_
            refine TO.y (Y.move rfl) rfl rfl rfl ?_
            refine TO.nil ?_
            exact TE.lp_go () [0] ⟨rfl, rfl, rfl, rfl, trivial⟩ rfl
        · refine TW.exit ?_
          refine TE.then_exit ?_
          refine TE.lp_exit ?_
          refine TE.block_exit ?_
          exact TE.jn_go () [0] ⟨rfl, trivial⟩ rfl
      · refine TE.next ?_
        refine TW.seq ?_
        refine TW.seq ?_
        refine TW.region ?_
        refine TO.y (Y.field_box kf34_0 rfl rfl) rfl rfl rfl ?_
        refine TO.y (Y.load_box (v := V_e0) 0 kk26 rfl rfl rfl) rfl rfl rfl ?_
        refine TO.y (Y.len (l := e.Add) ke26 (Base.can HB_V_e0) rfl) rfl rfl rfl ?_
        refine TO.y (Y.move rfl) rfl rfl rfl ?_
        refine TO.nil ?_
        refine TE.next ?_
        refine TW.joinX (τ := Unit) (X := Unit) (fun _ _ => []) (fun _ _ => []) ?_ (fun T19 X20 => ?_)
        · refine TW.block ?_
          refine TW.loopX (σ := Int) (X := Unit) (fun T _ => [(29, V_e0), (30, .int .i64 ((e.Add.length : Nat) : Int)), (31, .int .i64 T)]) (fun _ _ => []) () [] ⟨rfl, rfl, rfl, trivial⟩ rfl (fun S17 X18 => ?_)
          refine TW.seq ?_
          refine TW.region ?_
          refine TO.y (Y.lss rfl rfl) rfl rfl rfl ?_
          refine TO.nil ?_
          refine TE.next ?_
          refine TW.seq ?_
          refine TW.cond rfl (fun H21 => ?_) (fun H21 => ?_)
          · refine TW.skip ?_
            refine TE.next ?_
            refine TW.seq ?_
            refine TW.block ?_
            refine TW.seq ?_
            refine TW.region ?_
            refine TO.bind fun E22 H23 => ?_
            refine TO.y (Y.index ke26 (Base.can HB_V_e0) H23 rfl rfl) rfl rfl rfl ?_
            refine TO.y (Y.load_el (us := [.int .i64 E22.No, .int .i64 E22.Level, strV E22.Lo, strV E22.Hi]) (u := .agg #[.int .i64 E22.No, .int .i64 E22.Level, strV E22.Lo, strV E22.Hi]) kk43 rfl (Base.can HB_V_e0) (idx_get H23).2.2 rfl rfl rfl rfl rfl) rfl rfl rfl ?_
            refine TO.ef (Ef.alloc kz43 rfl) rfl rfl rfl (fun B24 => ?_)
            refine TO.ef0 (Ef.store_box (us := [.int .i64 E22.No, .int .i64 E22.Level, strV E22.Lo, strV E22.Hi]) (vs' := [.int .i64 E22.No, .int .i64 E22.Level, strV E22.Lo, strV E22.Hi]) (is' := [.box B24 43 [.int .i64 E22.No, .int .i64 E22.Level, strV E22.Lo, strV E22.Hi]]) 0 kk43 rfl rfl rfl (Cel.plain rfl rfl) rfl rfl rfl rfl) rfl rfl (fun _ => ?_)
            refine TO.nil ?_
            refine TE.next ?_
            refine TW.seq ?_
            refine TW.joinBX (τ := Bool) (X := Unit) (fun T _ => [(29, V_e0), (30, .int .i64 ((e.Add.length : Nat) : Int)), (31, .int .i64 S17), (56, .bool T)]) (fun _ _ => []) ?_ (fun T25 X26 => ?_)
            · refine TW.region ?_
              refine TO.y (Y.field_box kf43_0 rfl rfl) rfl rfl rfl ?_
              refine TO.y (Y.load_box (v := .int .i64 E22.No) 0 kk3 rfl rfl rfl) rfl rfl rfl ?_
              refine TO.bind fun R27 H28 => ?_
              refine TO.ef (Ef.call (rest := [.box B24 43 [.int .i64 E22.No, .int .i64 E22.Level, strV E22.Lo, strV E22.Hi]]) [0] (impl_isNumber_con E22.No  R27 H28) kc76 rfl rfl trivial) rfl rfl rfl (fun _ => ?_)
              refine TO.y (Y.not rfl) rfl rfl rfl ?_
              refine TO.y (Y.move rfl) rfl rfl rfl ?_
              refine TO.ite (b := !R27) (fun H30 => ?_) (fun H30 => ?_)
              · refine TO.off (Gd.at 4 false 39 (!R27) rfl rfl rfl (beq_tf H30)) rfl rfl ?_
                refine TO.off (Gd.at 4 false 39 (!R27) rfl rfl rfl (beq_tf H30)) rfl rfl ?_
                refine TO.off (Gd.at 4 false 39 (!R27) rfl rfl rfl (beq_tf H30)) rfl rfl ?_
                refine TO.off (Gd.at 4 false 39 (!R27) rfl rfl rfl (beq_tf H30)) rfl rfl ?_
                refine TO.y (Y.pick_t H30 rfl rfl) rfl rfl rfl ?_
                refine TO.y (Y.move rfl) rfl rfl rfl ?_
                refine TO.off (Gd.at 10 false 45 true rfl rfl rfl rfl) rfl rfl ?_
                refine TO.off (Gd.at 10 false 45 true rfl rfl rfl rfl) rfl rfl ?_
                refine TO.off (Gd.at 10 false 45 true rfl rfl rfl rfl) rfl rfl ?_
                refine TO.off (Gd.at 10 false 45 true rfl rfl rfl rfl) rfl rfl ?_
                refine TO.y (Y.pick_t rfl rfl rfl) rfl rfl rfl ?_
                refine TO.y (Y.move rfl) rfl rfl rfl ?_
                refine TO.off (Gd.at 16 false 51 true rfl rfl rfl rfl) rfl rfl ?_
                refine TO.off (Gd.at 16 false 51 true rfl rfl rfl rfl) rfl rfl ?_
                refine TO.off (Gd.at 16 false 51 true rfl rfl rfl rfl) rfl rfl ?_
                refine TO.off (Gd.at 16 false 51 true rfl rfl rfl rfl) rfl rfl ?_
                refine TO.y (Y.pick_t rfl rfl rfl) rfl rfl rfl ?_
                refine TO.nil ?_
                exact TE.jb_go () [] ⟨rfl, rfl, rfl, rfl, trivial⟩ rfl
              · refine TO.y (Y.field_box kf43_1 rfl rfl) (Gd.at 4 false 39 (!R27) rfl rfl rfl (beq_ff H30)) rfl rfl ?_
                refine TO.y (Y.load_box (v := .int .i64 E22.Level) 0 kk3 rfl rfl rfl) (Gd.at 4 false 39 (!R27) rfl rfl rfl (beq_ff H30)) rfl rfl ?_
                refine TO.bind fun R31 H32 => ?_
                refine TO.ef (Ef.call (rest := [.box B24 43 [.int .i64 E22.No, .int .i64 E22.Level, strV E22.Lo, strV E22.Hi]]) [0] (impl_isNumber_con E22.Level  R31 H32) kc76 rfl rfl trivial) (Gd.at 4 false 39 (!R27) rfl rfl rfl (beq_ff H30)) rfl rfl (fun _ => ?_)
                refine TO.y (Y.not rfl) (Gd.at 4 false 39 (!R27) rfl rfl rfl (beq_ff H30)) rfl rfl ?_
                refine TO.y (Y.pick_f H30 rfl rfl) rfl rfl rfl ?_
                refine TO.y (Y.move rfl) rfl rfl rfl ?_
                refine TO.ite (b := !R31) (fun H34 => ?_) (fun H34 => ?_)
                · refine TO.off (Gd.at 10 false 45 (!R31) rfl rfl rfl (beq_tf H34)) rfl rfl ?_
                  refine TO.off (Gd.at 10 false 45 (!R31) rfl rfl rfl (beq_tf H34)) rfl rfl ?_
                  refine TO.off (Gd.at 10 false 45 (!R31) rfl rfl rfl (beq_tf H34)) rfl rfl ?_
                  refine TO.off (Gd.at 10 false 45 (!R31) rfl rfl rfl (beq_tf H34)) rfl rfl ?_
                  refine TO.y (Y.pick_t H34 rfl rfl) rfl rfl rfl ?_
                  refine TO.y (Y.move rfl) rfl rfl rfl ?_
                  refine TO.off (Gd.at 16 false 51 true rfl rfl rfl rfl) rfl rfl ?_
                  refine TO.off (Gd.at 16 false 51 true rfl rfl rfl rfl) rfl rfl ?_
                  refine TO.off (Gd.at 16 false 51 true rfl rfl rfl rfl) rfl rfl ?_
                  refine TO.off (Gd.at 16 false 51 true rfl rfl rfl rfl) rfl rfl ?_
                  refine TO.y (Y.pick_t rfl rfl rfl) rfl rfl rfl ?_
                  refine TO.nil ?_
                  exact TE.jb_go () [] ⟨rfl, rfl, rfl, rfl, trivial⟩ rfl
                · refine TO.y (Y.field_box kf43_2 rfl rfl) (Gd.at 10 false 45 (!R31) rfl rfl rfl (beq_ff H34)) rfl rfl ?_
                  refine TO.y (Y.load_box (v := strV E22.Lo) 0 kk9 rfl rfl rfl) (Gd.at 10 false 45 (!R31) rfl rfl rfl (beq_ff H34)) rfl rfl ?_
                  refine TO.y (Y.slen ks9 rfl) (Gd.at 10 false 45 (!R31) rfl rfl rfl (beq_ff H34)) rfl rfl ?_
                  refine TO.y (Y.gtr rfl rfl) (Gd.at 10 false 45 (!R31) rfl rfl rfl (beq_ff H34)) rfl rfl ?_
                  refine TO.y (Y.pick_f H34 rfl rfl) rfl rfl rfl ?_
                  refine TO.y (Y.move rfl) rfl rfl rfl ?_
                  refine TO.ite (b := decide (((E22.Lo.length : Nat) : Int) > (10 : Int))) (fun H35 => ?_) (fun H35 => ?_)
                  · refine TO.off (Gd.at 16 false 51 (decide (((E22.Lo.length : Nat) : Int) > (10 : Int))) rfl rfl rfl (beq_tf H35)) rfl rfl ?_
                    refine TO.off (Gd.at 16 false 51 (decide (((E22.Lo.length : Nat) : Int) > (10 : Int))) rfl rfl rfl (beq_tf H35)) rfl rfl ?_
                    refine TO.off (Gd.at 16 false 51 (decide (((E22.Lo.length : Nat) : Int) > (10 : Int))) rfl rfl rfl (beq_tf H35)) rfl rfl ?_
                    refine TO.off (Gd.at 16 false 51 (decide (((E22.Lo.length : Nat) : Int) > (10 : Int))) rfl rfl rfl (beq_tf H35)) rfl rfl ?_
                    refine TO.y (Y.pick_t H35 rfl rfl) rfl rfl rfl ?_
                    refine TO.nil ?_
                    exact TE.jb_go () [] ⟨rfl, rfl, rfl, rfl, trivial⟩ rfl
                  · refine TO.y (Y.field_box kf43_3 rfl rfl) (Gd.at 16 false 51 (decide (((E22.Lo.length : Nat) : Int) > (10 : Int))) rfl rfl rfl (beq_ff H35)) rfl rfl ?_
                    refine TO.y (Y.load_box (v := strV E22.Hi) 0 kk9 rfl rfl rfl) (Gd.at 16 false 51 (decide (((E22.Lo.length : Nat) : Int) > (10 : Int))) rfl rfl rfl (beq_ff H35)) rfl rfl ?_
                    refine TO.y (Y.slen ks9 rfl) (Gd.at 16 false 51 (decide (((E22.Lo.length : Nat) : Int) > (10 : Int))) rfl rfl rfl (beq_ff H35)) rfl rfl ?_
                    refine TO.y (Y.gtr rfl rfl) (Gd.at 16 false 51 (decide (((E22.Lo.length : Nat) : Int) > (10 : Int))) rfl rfl rfl (beq_ff H35)) rfl rfl ?_
                    refine TO.y (Y.pick_f H35 rfl rfl) rfl rfl rfl ?_
                    refine TO.nil ?_
                    exact TE.jb_go () [] ⟨rfl, rfl, rfl, rfl, trivial⟩ rfl
            · refine TE.next ?_
              refine TW.cond rfl (fun H36 => ?_) (fun H36 => ?_)
              · refine TW.seq ?_
                refine TW.region ?_
                refine TO.y (Y.assign rfl) rfl rfl rfl ?_
                refine TO.nil ?_
                refine TE.next ?_
                refine TW.ret ?_
                refine TE.block_ret ?_
                refine TE.then_ret ?_
                refine TE.lp_ret ?_
                refine TE.block_ret ?_
                refine TE.jn_done ?_
                refine TE.then_ret ?_
                exact TE.leaf fun _ _ hf_ hs_ => ret_any (rs := [.tmp 2]) (vs := [.bool false]) (.inl rfl) rfl ⟨rfl, trivial⟩ hf_ hs_ ⟨(), rfl, hs_.pulls [] rfl⟩
              · refine TW.skip ?_
                refine TE.block_normal ?_
                refine TE.next ?_
                refine TW.region ?_
                refine TO.y (Y.add rfl rfl) rfl rfl rfl ?_
                refine TO.y (Y.move rfl) rfl rfl rfl ?_
                refine TO.nil ?_
                exact TE.lp_go () [] ⟨rfl, rfl, rfl, trivial⟩ rfl
          · refine TW.exit ?_
            refine TE.then_exit ?_
            refine TE.lp_exit ?_
            refine TE.block_exit ?_
            exact TE.jn_go () [] trivial rfl
        · refine TE.next ?_
          refine TW.seq ?_
          refine TW.region ?_
          refine TO.y (Y.assign rfl) rfl rfl rfl ?_
          refine TO.nil ?_
          refine TE.next ?_
          refine TW.ret ?_
          exact TE.leaf fun _ _ hf_ hs_ => ret_any (rs := [.tmp 2]) (vs := [.bool true]) (.inl rfl) rfl ⟨rfl, trivial⟩ hf_ hs_ ⟨(), rfl, hs_.pulls [] rfl⟩

/-- loop.example/g00950/impl.Var -/
noncomputable def impl_Var (n : Int) : Option (List UInt8) :=
  (impl_inRange n (0 : Int) (562949953421311 : Int)).bind fun R1 =>
  if (!R1) = true then (some ([]))
  else (bindC (loopO (fun (S5 : Int × List UInt8) => if (decide (S5.1 > (127 : Int))) = true then ((app 1 S5.2 ([toU8 (ior .i64 (128 : Int) (iand .i64 S5.1 (127 : Int)))])).bind fun E12 =>
  some (.go (ishr .i64 S5.1 (7 : Int), E12)))
  else (some (.done (.go (S5.1, S5.2)))))
  (n, ([] : List UInt8)))
  (fun (T7 : Int × List UInt8) => (app 1 T7.2 ([toU8 T7.1])).bind fun E16 =>
  some E16))

theorem impl_Var_con (n : Int)  (r : List UInt8) (hm : impl_Var n = some r) :
    Con Try.prog 49 [.int .i64 n] [] [] (fun _ : Unit => strV r) (fun _ => []) := by
  refine Con.intro (args := [.int .i64 n]) (n := 24) (val := fun r (_ : Unit) => strV r) (post := fun _ _ => []) (m := impl_Var n) Try.func49 rfl rfl rfl hm ?_
  intro w S _
  unfold impl_Var
  refine TW.seq ?_
  refine TW.region ?_
  refine TO.y (Y.assign rfl) rfl rfl rfl ?_
  refine TO.nil ?_
  refine TE.next ?_
  refine TW.seq ?_
  refine TW.seq ?_
  refine TW.region ?_
  refine TO.y (Y.move rfl) rfl rfl rfl ?_
  refine TO.bind fun R1 H2 => ?_
  refine TO.ef (Ef.call (rest := []) [] (impl_inRange_con n (0 : Int) (562949953421311 : Int)  R1 H2) kc59 rfl rfl trivial) rfl rfl rfl (fun _ => ?_)
  refine TO.y (Y.not rfl) rfl rfl rfl ?_
  refine TO.nil ?_
  refine TE.next ?_
  refine TW.cond rfl (fun H4 => ?_) (fun H4 => ?_)
  · refine TW.seq ?_
    refine TW.region ?_
    refine TO.y (Y.assign rfl) rfl rfl rfl ?_
    refine TO.nil ?_
    refine TE.next ?_
    refine TW.ret ?_
    refine TE.then_ret ?_
    exact TE.leaf fun _ _ hf_ hs_ => ret_any (rs := [.tmp 2]) (vs := [strV ([])]) (.inl rfl) rfl ⟨rfl, trivial⟩ hf_ hs_ ⟨(), rfl, hs_.pulls [] rfl⟩
  · refine TW.skip ?_
    refine TE.next ?_
    refine TW.seq ?_
    refine TW.region ?_
    refine TO.y (Y.assign rfl) rfl rfl rfl ?_
    refine TO.nil ?_
    refine TE.next ?_
    refine TW.seq ?_
    refine TW.joinX (τ := Int × List UInt8) (X := Value) (fun T X => [(0, .int .i64 T.1), (3, X)]) (fun T X => [.own X (lc T.2)]) ?_ (fun T7 X8 => ?_)
    · refine TW.block ?_
      refine TW.nilItem 1 ?_
      refine TW.loopX (σ := Int × List UInt8) (X := Value) (fun T X => [(0, .int .i64 T.1), (3, X)]) (fun T X => [.own X (lc T.2)]) (.slice none 0 0) [0] ⟨rfl, rfl, trivial⟩ rfl (fun S5 X6 => ?_)
      refine TW.seq ?_
      refine TW.seq ?_
      refine TW.region ?_
      refine TO.y (Y.move rfl) rfl rfl rfl ?_
      refine TO.y (Y.gtr rfl rfl) rfl rfl rfl ?_
      refine TO.nil ?_
      refine TE.next ?_
      refine TW.cond rfl (fun H9 => ?_) (fun H9 => ?_)
      · refine TW.skip ?_
        refine TE.next ?_
        refine TW.block ?_
        refine TW.seq ?_
        refine TW.region ?_
        refine TO.y (Y.move rfl) rfl rfl rfl ?_
        refine TO.y (Y.move rfl) rfl rfl rfl ?_
        refine TO.y (Y.and rfl rfl) rfl rfl rfl ?_
        refine TO.y (Y.or rfl rfl) rfl rfl rfl ?_
        refine TO.y (Y.conv8 ki3 ki5 rfl) rfl rfl rfl ?_
        refine TO.ef (Ef.buildSlice (α := UInt8) (Vs := [.int .u8 (((toU8 (ior .i64 (128 : Int) (iand .i64 S5.1 (127 : Int)))).toNat : Nat) : Int)]) [toU8 (ior .i64 (128 : Int) (iand .i64 S5.1 (127 : Int)))] ke22 kz5 rfl rfl rfl rfl rfl) rfl rfl rfl (fun B10 => ?_)
        refine TO.bind fun E12 H13 => ?_
        refine TO.ef (Ef.append (α := UInt8) (is' := [.own (.slice (some ⟨B10, 0, none⟩) 1 1) (lc ([toU8 (ior .i64 (128 : Int) (iand .i64 S5.1 (127 : Int)))]))]) [1, 0] H13 ke22 kz5 rfl rfl rfl rfl rfl (Can.own 0 rfl)) rfl rfl rfl (fun V11 => ?_)
        refine TO.y (Y.assign rfl) rfl rfl rfl ?_
        refine TO.nil ?_
        refine TE.next ?_
        refine TW.region ?_
        refine TO.y (Y.move rfl) rfl rfl rfl ?_
        refine TO.y (Y.shr (by decide) rfl rfl) rfl rfl rfl ?_
        refine TO.y (Y.assign rfl) rfl rfl rfl ?_
        refine TO.nil ?_
        refine TE.block_normal ?_
        exact TE.lp_go V11 [0] ⟨rfl, rfl, trivial⟩ rfl
      · refine TW.exit ?_
        refine TE.then_exit ?_
        refine TE.lp_exit ?_
        refine TE.block_exit ?_
        exact TE.jn_go X6 [0] ⟨rfl, rfl, trivial⟩ rfl
    · refine TE.next ?_
      refine TW.seq ?_
      refine TW.region ?_
      refine TO.y (Y.move rfl) rfl rfl rfl ?_
      refine TO.y (Y.move rfl) rfl rfl rfl ?_
      refine TO.y (Y.conv8 ki3 ki5 rfl) rfl rfl rfl ?_
      refine TO.ef (Ef.buildSlice (α := UInt8) (Vs := [.int .u8 (((toU8 T7.1).toNat : Nat) : Int)]) [toU8 T7.1] ke22 kz5 rfl rfl rfl rfl rfl) rfl rfl rfl (fun B14 => ?_)
      refine TO.bind fun E16 H17 => ?_
      refine TO.ef (Ef.append (α := UInt8) (is' := [.own (.slice (some ⟨B14, 0, none⟩) 1 1) (lc ([toU8 T7.1]))]) [1, 0] H17 ke22 kz5 rfl rfl rfl rfl rfl (Can.own 0 rfl)) rfl rfl rfl (fun V15 => ?_)
      refine TO.y (Y.toStr ke22 ki5 ks9 (Can.own 0 rfl) rfl) rfl rfl rfl ?_
      refine TO.y (Y.assign rfl) rfl rfl rfl ?_
      refine TO.nil ?_
      refine TE.next ?_
      refine TW.ret ?_
      exact TE.leaf fun _ _ hf_ hs_ => ret_any (rs := [.tmp 2]) (vs := [strV E16]) (.inl rfl) rfl ⟨rfl, trivial⟩ hf_ hs_ ⟨(), rfl, hs_.pulls [] rfl⟩

/-- loop.example/g00950/impl.short -/
noncomputable def impl_short (s : List UInt8) : Option (List UInt8) :=
  (impl_Var ((s.length : Nat) : Int)).bind fun R1 =>
  (cat R1 s).bind fun E4 =>
  some E4

theorem impl_short_con (s : List UInt8)  (r : List UInt8) (hm : impl_short s = some r) :
    Con Try.prog 50 [strV s] [] [] (fun _ : Unit => strV r) (fun _ => []) := by
  refine Con.intro (args := [strV s]) (n := 8) (val := fun r (_ : Unit) => strV r) (post := fun _ _ => []) (m := impl_short s) Try.func50 rfl rfl rfl hm ?_
  intro w S _
  unfold impl_short
  refine TW.seq ?_
  refine TW.region ?_
  refine TO.y (Y.assign rfl) rfl rfl rfl ?_
  refine TO.nil ?_
  refine TE.next ?_
  refine TW.seq ?_
  refine TW.region ?_
  refine TO.y (Y.move rfl) rfl rfl rfl ?_
  refine TO.y (Y.slen ks9 rfl) rfl rfl rfl ?_
  refine TO.bind fun R1 H2 => ?_
  refine TO.ef (Ef.call (rest := []) [] (impl_Var_con ((s.length : Nat) : Int)  R1 H2) kc49 rfl rfl trivial) rfl rfl rfl (fun _ => ?_)
  refine TO.y (Y.move rfl) rfl rfl rfl ?_
  refine TO.bind fun E4 H5 => ?_
  refine TO.y (Y.cat H5 rfl rfl) rfl rfl rfl ?_
  refine TO.y (Y.assign rfl) rfl rfl rfl ?_
  refine TO.nil ?_
  refine TE.next ?_
  refine TW.ret ?_
  exact TE.leaf fun _ _ hf_ hs_ => ret_any (rs := [.tmp 2]) (vs := [strV E4]) (.inl rfl) rfl ⟨rfl, trivial⟩ hf_ hs_ ⟨(), rfl, hs_.pulls [] rfl⟩

/-- loop.example/g00950/impl.summed -/
noncomputable def impl_summed (s : List UInt8) : Option (List UInt8) :=
  (impl_Crc s).bind fun R1 =>
  (impl_Fixed R1 (4 : Int)).bind fun R4 =>
  (cat R4 s).bind fun E7 =>
  some E7

theorem impl_summed_con (s : List UInt8)  (r : List UInt8) (hm : impl_summed s = some r) :
    Con Try.prog 51 [strV s] [] [] (fun _ : Unit => strV r) (fun _ => []) := by
  refine Con.intro (args := [strV s]) (n := 8) (val := fun r (_ : Unit) => strV r) (post := fun _ _ => []) (m := impl_summed s) Try.func51 rfl rfl rfl hm ?_
  intro w S _
  unfold impl_summed
  refine TW.seq ?_
  refine TW.region ?_
  refine TO.y (Y.assign rfl) rfl rfl rfl ?_
  refine TO.nil ?_
  refine TE.next ?_
  refine TW.seq ?_
  refine TW.region ?_
  refine TO.y (Y.move rfl) rfl rfl rfl ?_
  refine TO.bind fun R1 H2 => ?_
  refine TO.ef (Ef.call (rest := []) [] (impl_Crc_con s  R1 H2) kc72 rfl rfl trivial) rfl rfl rfl (fun _ => ?_)
  refine TO.bind fun R4 H5 => ?_
  refine TO.ef (Ef.call (rest := []) [] (impl_Fixed_con R1 (4 : Int)  R4 H5) kc71 rfl rfl trivial) rfl rfl rfl (fun _ => ?_)
  refine TO.y (Y.move rfl) rfl rfl rfl ?_
  refine TO.bind fun E7 H8 => ?_
  refine TO.y (Y.cat H8 rfl rfl) rfl rfl rfl ?_
  refine TO.y (Y.assign rfl) rfl rfl rfl ?_
  refine TO.nil ?_
  refine TE.next ?_
  refine TW.ret ?_
  exact TE.leaf fun _ _ hf_ hs_ => ret_any (rs := [.tmp 2]) (vs := [strV E7]) (.inl rfl) rfl ⟨rfl, trivial⟩ hf_ hs_ ⟨(), rfl, hs_.pulls [] rfl⟩

/-- strings.Builder -/
theorem strings_Builder_copyCheck_new (B : Nat) : Con Try.prog 77 [.pointer (some ⟨B, 0, none⟩)] [.box B 76 [.pointer none, .slice none 0 0]] [] (fun _ : Unit => .tuple #[]) (fun _ => [.box B 76 [.pointer (some ⟨B, 0, none⟩), .slice none 0 0]]) := by
  refine Con.intro (args := [.pointer (some ⟨B, 0, none⟩)]) (n := 20) (val := fun _ (_ : Unit) => .tuple #[]) (post := fun _ _ => [.box B 76 [.pointer (some ⟨B, 0, none⟩), .slice none 0 0]]) (m := some ()) (r := ()) Try.func77 rfl rfl rfl rfl ?_
  intro w S _
  refine TW.seq ?_
  refine TW.region ?_
  refine TO.y (Y.move rfl) rfl rfl rfl ?_
  refine TO.y (Y.nilCheck rfl) rfl rfl rfl ?_
  refine TO.y (Y.field_box kf76_0 rfl rfl) rfl rfl rfl ?_
  refine TO.y (Y.load_box (v := .pointer none) 0 kk74 rfl rfl rfl) rfl rfl rfl ?_
  refine TO.y (Y.ptr_nil kp74 rfl rfl) rfl rfl rfl ?_
  refine TO.nil ?_
  refine TE.next ?_
  refine TW.cond_true rfl ?_
  refine TW.region ?_
  refine TO.y (Y.move rfl) rfl rfl rfl ?_
  refine TO.y (Y.move rfl) rfl rfl rfl ?_
  refine TO.y (Y.toUnsafe 0 kp74 rfl ku113 rfl rfl rfl) rfl rfl rfl ?_
  refine TO.y (Y.noEscape Try.func87 (by kernel_rfl) (by kernel_rfl) (by kernel_rfl) (by kernel_rfl) rfl) rfl rfl rfl ?_
  refine TO.y (Y.fromUnsafe 0 kp74 ku113 rfl kl76 rfl) rfl rfl rfl ?_
  refine TO.y (Y.nilCheck rfl) rfl rfl rfl ?_
  refine TO.y (Y.field_box kf76_0 rfl rfl) rfl rfl rfl ?_
  refine TO.ef0 (Ef.store_box (us := [.pointer (some ⟨B, 0, none⟩)]) (vs' := [.pointer (some ⟨B, 0, none⟩), .slice none 0 0]) (is' := [.box B 76 [.pointer (some ⟨B, 0, none⟩), .slice none 0 0]]) 0 kk74 rfl rfl rfl (Cel.plain rfl rfl) rfl rfl rfl rfl) rfl rfl (fun _ => ?_)
  refine TO.nil ?_
  exact TE.leaf fun _ _ hf_ hs_ => ret_any (rs := []) (vs := []) (.inr rfl) rfl trivial hf_ hs_ ⟨(), rfl, hs_.pulls [0] rfl⟩

theorem strings_Builder_copyCheck_old (B : Nat) (V : Value) : Con Try.prog 77 [.pointer (some ⟨B, 0, none⟩)] [.box B 76 [.pointer (some ⟨B, 0, none⟩), V]] [] (fun _ : Unit => .tuple #[]) (fun _ => [.box B 76 [.pointer (some ⟨B, 0, none⟩), V]]) := by
  refine Con.intro (args := [.pointer (some ⟨B, 0, none⟩)]) (n := 20) (val := fun _ (_ : Unit) => .tuple #[]) (post := fun _ _ => [.box B 76 [.pointer (some ⟨B, 0, none⟩), V]]) (m := some ()) (r := ()) Try.func77 rfl rfl rfl rfl ?_
  intro w S _
  refine TW.seq ?_
  refine TW.region ?_
  refine TO.y (Y.move rfl) rfl rfl rfl ?_
  refine TO.y (Y.nilCheck rfl) rfl rfl rfl ?_
  refine TO.y (Y.field_box kf76_0 rfl rfl) rfl rfl rfl ?_
  refine TO.y (Y.load_box (v := .pointer (some ⟨B, 0, none⟩)) 0 kk74 rfl rfl rfl) rfl rfl rfl ?_
  refine TO.y (Y.ptr_some kp74 rfl rfl) rfl rfl rfl ?_
  refine TO.nil ?_
  refine TE.next ?_
  refine TW.cond_false rfl ?_
  refine TW.seq ?_
  refine TW.region ?_
  refine TO.y (Y.move rfl) rfl rfl rfl ?_
  refine TO.y (Y.nilCheck rfl) rfl rfl rfl ?_
  refine TO.y (Y.field_box kf76_0 rfl rfl) rfl rfl rfl ?_
  refine TO.y (Y.load_box (v := .pointer (some ⟨B, 0, none⟩)) 0 kk74 rfl rfl rfl) rfl rfl rfl ?_
  refine TO.y (Y.move rfl) rfl rfl rfl ?_
  refine TO.y (Y.ptr_self kp74 rfl rfl) rfl rfl rfl ?_
  refine TO.nil ?_
  refine TE.next ?_
  refine TW.cond_false rfl ?_
  refine TW.skip ?_
  exact TE.leaf fun _ _ hf_ hs_ => ret_any (rs := []) (vs := []) (.inr rfl) rfl trivial hf_ hs_ ⟨(), rfl, hs_.pulls [0] rfl⟩

theorem strings_Builder_WriteString_new (s r : List UInt8) (B : Nat) (hm : app 1 ([] : List UInt8) s = some r) : Con Try.prog 48 [.pointer (some ⟨B, 0, none⟩), strV s] [.box B 76 [.pointer none, .slice none 0 0]] [] (fun _ : Value => .tuple #[.int .i64 s.length, .nilIface]) (fun X => [.box B 76 [.pointer (some ⟨B, 0, none⟩), X], .buf X 5 r]) := by
  refine Con.intro (args := [.pointer (some ⟨B, 0, none⟩), strV s]) (n := 19) (val := fun _ (_ : Value) => .tuple #[.int .i64 s.length, .nilIface]) (post := fun r X => [.box B 76 [.pointer (some ⟨B, 0, none⟩), X], .buf X 5 r]) (m := some r) (r := r) Try.func48 rfl rfl rfl rfl ?_
  intro w S _
  refine TW.seq ?_
  refine TW.region ?_
  refine TO.y (Y.assign rfl) rfl rfl rfl ?_
  refine TO.y (Y.assign rfl) rfl rfl rfl ?_
  refine TO.nil ?_
  refine TE.next ?_
  refine TW.seq ?_
  refine TW.region ?_
  refine TO.y (Y.move rfl) rfl rfl rfl ?_
  refine TO.ef (Ef.call (rest := []) [0] (strings_Builder_copyCheck_new B) kc77 rfl rfl trivial) rfl rfl rfl (fun _ => ?_)
  refine TO.nil ?_
  refine TE.next ?_
  refine TW.seq ?_
  refine TW.region ?_
  refine TO.y (Y.move rfl) rfl rfl rfl ?_
  refine TO.y (Y.move rfl) rfl rfl rfl ?_
  refine TO.y (Y.nilCheck rfl) rfl rfl rfl ?_
  refine TO.y (Y.field_box kf76_1 rfl rfl) rfl rfl rfl ?_
  refine TO.y (Y.load_box (v := .slice none 0 0) 0 kk22 rfl rfl rfl) rfl rfl rfl ?_
  refine TO.y (Y.move rfl) rfl rfl rfl ?_
  refine TO.ef (Ef.bufNew hm ke22 ks9 kz5 rfl rfl) rfl rfl rfl (fun X => ?_)
  refine TO.y (Y.nilCheck rfl) rfl rfl rfl ?_
  refine TO.y (Y.field_box kf76_1 rfl rfl) rfl rfl rfl ?_
  refine TO.ef0 (Ef.store_box (us := [X]) (vs' := [.pointer (some ⟨B, 0, none⟩), X]) (is' := [.buf X 5 r, .box B 76 [.pointer (some ⟨B, 0, none⟩), X]]) 1 kk22 rfl rfl rfl (Cel.one (One.buf (i := 0) rfl)) rfl rfl rfl rfl) rfl rfl (fun _ => ?_)
  refine TO.nil ?_
  refine TE.next ?_
  refine TW.seq ?_
  refine TW.region ?_
  refine TO.y (Y.move rfl) rfl rfl rfl ?_
  refine TO.y (Y.slen ks9 rfl) rfl rfl rfl ?_
  refine TO.y (Y.assign rfl) rfl rfl rfl ?_
  refine TO.y (Y.assign rfl) rfl rfl rfl ?_
  refine TO.nil ?_
  refine TE.next ?_
  refine TW.ret ?_
  exact TE.leaf fun _ _ hf_ hs_ => ret_any (rs := [.tmp 4, .tmp 5]) (vs := [.int .i64 s.length, .nilIface]) (.inl rfl) rfl ⟨rfl, rfl, trivial⟩ hf_ hs_ ⟨X, rfl, hs_.pulls [1, 0] rfl⟩

theorem strings_Builder_WriteString_old (l s r : List UInt8) (B : Nat) (V : Value) (hm : app 1 l s = some r) : Con Try.prog 48 [.pointer (some ⟨B, 0, none⟩), strV s] [.box B 76 [.pointer (some ⟨B, 0, none⟩), V], .buf V 5 l] [] (fun _ : Value => .tuple #[.int .i64 s.length, .nilIface]) (fun X => [.box B 76 [.pointer (some ⟨B, 0, none⟩), X], .buf X 5 r]) := by
  refine Con.intro (args := [.pointer (some ⟨B, 0, none⟩), strV s]) (n := 19) (val := fun _ (_ : Value) => .tuple #[.int .i64 s.length, .nilIface]) (post := fun r X => [.box B 76 [.pointer (some ⟨B, 0, none⟩), X], .buf X 5 r]) (m := some r) (r := r) Try.func48 rfl rfl rfl rfl ?_
  intro w S _
  refine TW.seq ?_
  refine TW.region ?_
  refine TO.y (Y.assign rfl) rfl rfl rfl ?_
  refine TO.y (Y.assign rfl) rfl rfl rfl ?_
  refine TO.nil ?_
  refine TE.next ?_
  refine TW.seq ?_
  refine TW.region ?_
  refine TO.y (Y.move rfl) rfl rfl rfl ?_
  refine TO.ef (Ef.call (rest := [.buf V 5 l]) [0, 0] (strings_Builder_copyCheck_old B V) kc77 rfl rfl trivial) rfl rfl rfl (fun _ => ?_)
  refine TO.nil ?_
  refine TE.next ?_
  refine TW.seq ?_
  refine TW.region ?_
  refine TO.y (Y.move rfl) rfl rfl rfl ?_
  refine TO.y (Y.move rfl) rfl rfl rfl ?_
  refine TO.y (Y.nilCheck rfl) rfl rfl rfl ?_
  refine TO.y (Y.field_box kf76_1 rfl rfl) rfl rfl rfl ?_
  refine TO.y (Y.load_box (v := V) 0 kk22 rfl rfl rfl) rfl rfl rfl ?_
  refine TO.y (Y.move rfl) rfl rfl rfl ?_
  refine TO.ef (Ef.bufAppend [1, 0] hm ke22 ks9 kz5 rfl rfl rfl) rfl rfl rfl (fun X => ?_)
  refine TO.y (Y.nilCheck rfl) rfl rfl rfl ?_
  refine TO.y (Y.field_box kf76_1 rfl rfl) rfl rfl rfl ?_
  refine TO.ef0 (Ef.store_box (us := [X]) (vs' := [.pointer (some ⟨B, 0, none⟩), X]) (is' := [.buf X 5 r, .box B 76 [.pointer (some ⟨B, 0, none⟩), X]]) 1 kk22 rfl rfl rfl (Cel.one (One.buf (i := 0) rfl)) rfl rfl rfl rfl) rfl rfl (fun _ => ?_)
  refine TO.nil ?_
  refine TE.next ?_
  refine TW.seq ?_
  refine TW.region ?_
  refine TO.y (Y.move rfl) rfl rfl rfl ?_
  refine TO.y (Y.slen ks9 rfl) rfl rfl rfl ?_
  refine TO.y (Y.assign rfl) rfl rfl rfl ?_
  refine TO.y (Y.assign rfl) rfl rfl rfl ?_
  refine TO.nil ?_
  refine TE.next ?_
  refine TW.ret ?_
  exact TE.leaf fun _ _ hf_ hs_ => ret_any (rs := [.tmp 4, .tmp 5]) (vs := [.int .i64 s.length, .nilIface]) (.inl rfl) rfl ⟨rfl, rfl, trivial⟩ hf_ hs_ ⟨X, rfl, hs_.pulls [1, 0] rfl⟩

theorem strings_Builder_String_con (l : List UInt8) (B : Nat) (V : Value) (r : List UInt8) (hm : strOf l = some r) : Con Try.prog 52 [.pointer (some ⟨B, 0, none⟩)] [.box B 76 [.pointer (some ⟨B, 0, none⟩), V], .buf V 5 l] [] (fun _ : Unit => strV r) (fun _ => [.box B 76 [.pointer (some ⟨B, 0, none⟩), V]]) := by
  obtain ⟨hl, hr_⟩ := strOf_eq hm
  subst hr_
  refine Con.intro (args := [.pointer (some ⟨B, 0, none⟩)]) (n := 14) (val := fun _ (_ : Unit) => strV l) (post := fun _ _ => [.box B 76 [.pointer (some ⟨B, 0, none⟩), V]]) (m := some ()) (r := ()) Try.func52 rfl rfl rfl rfl ?_
  intro w S _
  refine TW.fact (buf_place (i := 1) rfl hl) fun hpl => ?_
  obtain ⟨g, c, rfl, hc⟩ := hpl
  refine TW.seq ?_
  refine TW.region ?_
  refine TO.y (Y.assign rfl) rfl rfl rfl ?_
  refine TO.nil ?_
  refine TE.next ?_
  refine TW.seq ?_
  refine TW.draw (isH := [.box B 76 [.pointer (some ⟨B, 0, none⟩), .slice (some ⟨g, 0, none⟩) l.length c]]) hMix ?_
  refine TA.y (listed' := #[true, false, false, false, false, false, false, false, false, false, false, false]) 0 [0] rfl (Y.move rfl) rfl rfl rfl (by kernel_rfl) (by kernel_rfl) (by kernel_rfl) rfl rfl ?_
  refine TA.y (listed' := #[true, true, false, false, false, false, false, false, false, false, false, false]) 1 [0] rfl (Y.nilCheck rfl) rfl rfl rfl (by kernel_rfl) (by kernel_rfl) (by kernel_rfl) rfl rfl ?_
  refine TA.y (listed' := #[true, true, true, false, false, false, false, false, false, false, false, false]) 2 [0] rfl (Y.field_box kf76_1 rfl rfl) rfl rfl rfl (by kernel_rfl) (by kernel_rfl) (by kernel_rfl) rfl rfl ?_
  refine TA.y (listed' := #[true, true, true, true, false, false, false, false, false, false, false, false]) 3 [0] rfl (Y.load_box (v := .slice (some ⟨g, 0, none⟩) l.length c) 0 kk22 rfl rfl rfl) rfl rfl rfl (by kernel_rfl) (by kernel_rfl) (by kernel_rfl) rfl rfl ?_
  refine TA.y (listed' := #[true, true, true, true, true, false, false, false, false, false, false, false]) 4 [0] rfl (Y.sliceData hc rfl) rfl rfl rfl (by kernel_rfl) (by kernel_rfl) (by kernel_rfl) rfl rfl ?_
  refine TA.y (listed' := #[true, true, true, true, true, true, false, false, false, false, false, false]) 5 [0] rfl (Y.move rfl) rfl rfl rfl (by kernel_rfl) (by kernel_rfl) (by kernel_rfl) rfl rfl ?_
  refine TA.y (listed' := #[true, true, true, true, true, true, true, false, false, false, false, false]) 6 [0] rfl (Y.nilCheck rfl) rfl rfl rfl (by kernel_rfl) (by kernel_rfl) (by kernel_rfl) rfl rfl ?_
  refine TA.y (listed' := #[true, true, true, true, true, true, true, true, false, false, false, false]) 7 [0] rfl (Y.field_box kf76_1 rfl rfl) rfl rfl rfl (by kernel_rfl) (by kernel_rfl) (by kernel_rfl) rfl rfl ?_
  refine TA.y (listed' := #[true, true, true, true, true, true, true, true, true, false, false, false]) 8 [0] rfl (Y.load_box (v := .slice (some ⟨g, 0, none⟩) l.length c) 0 kk22 rfl rfl rfl) rfl rfl rfl (by kernel_rfl) (by kernel_rfl) (by kernel_rfl) rfl rfl ?_
  refine TA.y (listed' := #[true, true, true, true, true, true, true, true, true, true, false, false]) 9 [0] rfl (Y.lenV ke22 rfl) rfl rfl rfl (by kernel_rfl) (by kernel_rfl) (by kernel_rfl) rfl rfl ?_
  refine TA.one 10 (by kernel_rfl) ?_
  refine TX.ef (listed' := #[true, true, true, true, true, true, true, true, true, true, true, false]) [0] rfl (Ef.takeStr [1, 0] hl kp106 rfl rfl rfl rfl) rfl rfl rfl rfl (fun _ => rfl) (fun _ => ?_)
  refine TA.y (listed' := #[true, true, true, true, true, true, true, true, true, true, true, true]) 11 [0] rfl (Y.assign rfl) rfl rfl rfl (by kernel_rfl) (by kernel_rfl) (by kernel_rfl) rfl rfl ?_
  refine TA.nil (by kernel_rfl) ?_
  refine TE.next ?_
  refine TW.ret ?_
  exact TE.leaf fun _ _ hf_ hs_ => ret_any (rs := [.tmp 2]) (vs := [strV l]) (.inl rfl) rfl ⟨rfl, trivial⟩ hf_ hs_ ⟨(), rfl, hs_.pulls [0] rfl⟩

/-- loop.example/g00950/impl.ShowEdit -/
noncomputable def impl_ShowEdit (e : Edit) : Option (List UInt8) :=
  (impl_editOk e).bind fun R2 =>
  if (!R2) = true then (some ([]))
  else ((impl_Var ((e.Drop.length : Nat) : Int)).bind fun R7 =>
  (app 1 ([] : List UInt8) R7).bind fun R11 =>
  bindC (loopO (fun (S13 : Int × List UInt8) => if (decide (S13.1 < ((e.Drop.length : Nat) : Int))) = true then ((idx e.Drop S13.1).bind fun E18 =>
  (impl_Var E18).bind fun R20 =>
  (app 1 S13.2 R20).bind fun R24 =>
  some (.go (IntKind.i64.wrap (S13.1 + (1 : Int)), R24)))
  else (some (.done (.go S13.2))))
  ((0 : Int), R11))
  (fun (T15 : List UInt8) => (impl_Var ((e.Add.length : Nat) : Int)).bind fun R26 =>
  (app 1 T15 R26).bind fun R30 =>
  bindC (loopO (fun (S32 : Int × List UInt8) => if (decide (S32.1 < ((e.Add.length : Nat) : Int))) = true then ((idx e.Add S32.1).bind fun E37 =>
  (impl_Var E37.No).bind fun R40 =>
  (impl_Var E37.Level).bind fun R43 =>
  (cat R40 R43).bind fun E46 =>
  (impl_short E37.Lo).bind fun R48 =>
  (cat E46 R48).bind fun E51 =>
  (impl_short E37.Hi).bind fun R53 =>
  (cat E51 R53).bind fun E56 =>
  (app 1 S32.2 E56).bind fun R59 =>
  some (.go (IntKind.i64.wrap (S32.1 + (1 : Int)), R59)))
  else (some (.done (.go S32.2))))
  ((0 : Int), R30))
  (fun (T34 : List UInt8) => (strOf T34).bind fun R61 =>
  (impl_summed R61).bind fun R63 =>
  some R63)))

theorem impl_ShowEdit_con (e : Edit) (V_e0 : Value) (V_e1 : Value) (r : List UInt8) (hm : impl_ShowEdit e = some r) :
    Con Try.prog 15 [.agg #[V_e0, V_e1]] [] [(V_e0, lc e.Add), (V_e1, lc e.Drop)] (fun _ : Unit => strV r) (fun _ => []) := by
  refine Con.intro (args := [.agg #[V_e0, V_e1]]) (n := 58) (val := fun r (_ : Unit) => strV r) (post := fun _ _ => []) (m := impl_ShowEdit e) Try.func15 rfl rfl rfl hm ?_
  intro w S hrd
  have HB_V_e0 := hrd _ (.head _)
  have HB_V_e1 := hrd _ (.tail _ (.head _))
  clear hrd
  unfold impl_ShowEdit
  refine TW.seq ?_
  refine TW.region ?_
  refine TO.ef (Ef.box rfl (Cel.agg ⟨(One.can (Base.can HB_V_e0)), (One.can (Base.can HB_V_e1)), trivial⟩)) rfl rfl rfl (fun B1 => ?_)
  refine TO.y (Y.assign rfl) rfl rfl rfl ?_
  refine TO.nil ?_
  refine TE.next ?_
  refine TW.seq ?_
  refine TW.seq ?_
  refine TW.region ?_
  refine TO.y (Y.load_box (v := .agg #[V_e0, V_e1]) 0 kk34 rfl rfl rfl) rfl rfl rfl ?_
  refine TO.bind fun R2 H3 => ?_
  refine TO.ef (Ef.call (rest := [.box B1 34 [V_e0, V_e1]]) [0] (impl_editOk_con e V_e0 V_e1 R2 H3) kc47 rfl rfl ⟨(Base.can HB_V_e0), (Base.can HB_V_e1), trivial⟩) rfl rfl rfl (fun _ => ?_)
  refine TO.y (Y.not rfl) rfl rfl rfl ?_
  refine TO.nil ?_
  refine TE.next ?_
  refine TW.cond rfl (fun H5 => ?_) (fun H5 => ?_)
  · refine TW.seq ?_
    refine TW.region ?_
    refine TO.y (Y.assign rfl) rfl rfl rfl ?_
    refine TO.nil ?_
    refine TE.next ?_
    refine TW.ret ?_
    refine TE.then_ret ?_
    exact TE.leaf fun _ _ hf_ hs_ => ret_any (rs := [.tmp 2]) (vs := [strV ([])]) (.inl rfl) rfl ⟨rfl, trivial⟩ hf_ hs_ ⟨(), rfl, hs_.pulls [] rfl⟩
  · refine TW.skip ?_
    refine TE.next ?_
    refine TW.seq ?_
    refine TW.region ?_
    refine TO.ef (Ef.alloc kz76 rfl) rfl rfl rfl (fun B6 => ?_)
    refine TO.nil ?_
    refine TE.next ?_
    refine TW.seq ?_
    refine TW.region ?_
    refine TO.y (Y.field_box kf34_1 rfl rfl) rfl rfl rfl ?_
    refine TO.y (Y.load_box (v := V_e1) 1 kk32 rfl rfl rfl) rfl rfl rfl ?_
    refine TO.y (Y.len (l := e.Drop) ke32 (Base.can HB_V_e1) rfl) rfl rfl rfl ?_
    refine TO.bind fun R7 H8 => ?_
    refine TO.ef (Ef.call (rest := [.box B6 76 [.pointer none, .slice none 0 0], .box B1 34 [V_e0, V_e1]]) [0, 0] (impl_Var_con ((e.Drop.length : Nat) : Int)  R7 H8) kc49 rfl rfl trivial) rfl rfl rfl (fun _ => ?_)
    refine TO.bind fun R11 H12 => ?_
    refine TO.ef (Ef.call (rest := [.box B1 34 [V_e0, V_e1]]) [0, 0] (strings_Builder_WriteString_new R7 R11 B6 H12) kc48 rfl rfl trivial) rfl rfl rfl (fun Y10 => ?_)
    refine TO.nil ?_
    refine TE.next ?_
    refine TW.seq ?_
    refine TW.seq ?_
    refine TW.region ?_
    refine TO.y (Y.field_box kf34_1 rfl rfl) rfl rfl rfl ?_
    refine TO.y (Y.load_box (v := V_e1) 2 kk32 rfl rfl rfl) rfl rfl rfl ?_
    refine TO.y (Y.len (l := e.Drop) ke32 (Base.can HB_V_e1) rfl) rfl rfl rfl ?_
    refine TO.y (Y.move rfl) rfl rfl rfl ?_
    refine TO.nil ?_
    refine TE.next ?_
    refine TW.joinX (τ := List UInt8) (X := Value) (fun _ _ => [(1, .pointer (some ⟨B1, 0, none⟩)), (3, .pointer (some ⟨B6, 0, none⟩))]) (fun T X => [.box B1 34 [V_e0, V_e1], .box B6 76 [.pointer (some ⟨B6, 0, none⟩), X], .buf X 5 T]) ?_ (fun T15 X16 => ?_)
    · refine TW.block ?_
      refine TW.loopX (σ := Int × List UInt8) (X := Value) (fun T _ => [(1, .pointer (some ⟨B1, 0, none⟩)), (3, .pointer (some ⟨B6, 0, none⟩)), (17, V_e1), (18, .int .i64 ((e.Drop.length : Nat) : Int)), (19, .int .i64 T.1)]) (fun T X => [.box B1 34 [V_e0, V_e1], .box B6 76 [.pointer (some ⟨B6, 0, none⟩), X], .buf X 5 T.2]) Y10 [2, 0, 0] ⟨rfl, rfl, rfl, rfl, rfl, trivial⟩ rfl (fun S13 X14 => ?_)
      refine TW.seq ?_
      refine TW.region ?_
      refine TO.y (Y.lss rfl rfl) rfl rfl rfl ?_
      refine TO.nil ?_
      refine TE.next ?_
      refine TW.seq ?_
      refine TW.cond rfl (fun H17 => ?_) (fun H17 => ?_)
      · refine TW.skip ?_
        refine TE.next ?_
        refine TW.seq ?_
        refine TW.block ?_
        refine TW.seq ?_
        refine TW.region ?_
        refine TO.bind fun E18 H19 => ?_
        refine TO.y (Y.index ke32 (Base.can HB_V_e1) H19 rfl rfl) rfl rfl rfl ?_
        refine TO.y (Y.load_el (us := [.int .i64 E18]) (u := .int .i64 E18) kk3 rfl (Base.can HB_V_e1) (idx_get H19).2.2 rfl rfl rfl rfl rfl) rfl rfl rfl ?_
        refine TO.y (Y.assign rfl) rfl rfl rfl ?_
        refine TO.nil ?_
        refine TE.next ?_
        refine TW.region ?_
        refine TO.y (Y.move rfl) rfl rfl rfl ?_
        refine TO.bind fun R20 H21 => ?_
        refine TO.ef (Ef.call (rest := [.box B1 34 [V_e0, V_e1], .box B6 76 [.pointer (some ⟨B6, 0, none⟩), X14], .buf X14 5 S13.2]) [0, 0, 0] (impl_Var_con E18  R20 H21) kc49 rfl rfl trivial) rfl rfl rfl (fun _ => ?_)
        refine TO.bind fun R24 H25 => ?_
        refine TO.ef (Ef.call (rest := [.box B1 34 [V_e0, V_e1]]) [1, 1, 0] (strings_Builder_WriteString_old S13.2 R20 R24 B6 X14 H25) kc48 rfl rfl trivial) rfl rfl rfl (fun Y23 => ?_)
        refine TO.nil ?_
        refine TE.block_normal ?_
        refine TE.next ?_
        refine TW.region ?_
        refine TO.y (Y.add rfl rfl) rfl rfl rfl ?_
        refine TO.y (Y.move rfl) rfl rfl rfl ?_
        refine TO.nil ?_
        exact TE.lp_go Y23 [2, 0, 0] ⟨rfl, rfl, rfl, rfl, rfl, trivial⟩ rfl
      · refine TW.exit ?_
        refine TE.then_exit ?_
        refine TE.lp_exit ?_
        refine TE.block_exit ?_
        exact TE.jn_go X14 [0, 0, 0] ⟨rfl, rfl, trivial⟩ rfl
    · refine TE.next ?_
      refine TW.seq ?_
      refine TW.region ?_
      refine TO.y (Y.field_box kf34_0 rfl rfl) rfl rfl rfl ?_
      refine TO.y (Y.load_box (v := V_e0) 0 kk26 rfl rfl rfl) rfl rfl rfl ?_
      refine TO.y (Y.len (l := e.Add) ke26 (Base.can HB_V_e0) rfl) rfl rfl rfl ?_
      refine TO.bind fun R26 H27 => ?_
      refine TO.ef (Ef.call (rest := [.box B1 34 [V_e0, V_e1], .box B6 76 [.pointer (some ⟨B6, 0, none⟩), X16], .buf X16 5 T15]) [0, 0, 0] (impl_Var_con ((e.Add.length : Nat) : Int)  R26 H27) kc49 rfl rfl trivial) rfl rfl rfl (fun _ => ?_)
      refine TO.bind fun R30 H31 => ?_
      refine TO.ef (Ef.call (rest := [.box B1 34 [V_e0, V_e1]]) [1, 1, 0] (strings_Builder_WriteString_old T15 R26 R30 B6 X16 H31) kc48 rfl rfl trivial) rfl rfl rfl (fun Y29 => ?_)
      refine TO.nil ?_
      refine TE.next ?_
      refine TW.seq ?_
      refine TW.seq ?_
      refine TW.region ?_
      refine TO.y (Y.field_box kf34_0 rfl rfl) rfl rfl rfl ?_
      refine TO.y (Y.load_box (v := V_e0) 2 kk26 rfl rfl rfl) rfl rfl rfl ?_
      refine TO.y (Y.len (l := e.Add) ke26 (Base.can HB_V_e0) rfl) rfl rfl rfl ?_
      refine TO.y (Y.move rfl) rfl rfl rfl ?_
      refine TO.nil ?_
      refine TE.next ?_
      refine TW.joinX (τ := List UInt8) (X := Value) (fun _ _ => [(3, .pointer (some ⟨B6, 0, none⟩))]) (fun T X => [.box B6 76 [.pointer (some ⟨B6, 0, none⟩), X], .buf X 5 T]) ?_ (fun T34 X35 => ?_)
      · refine TW.block ?_
        refine TW.loopX (σ := Int × List UInt8) (X := Value) (fun T _ => [(3, .pointer (some ⟨B6, 0, none⟩)), (33, V_e0), (34, .int .i64 ((e.Add.length : Nat) : Int)), (35, .int .i64 T.1)]) (fun T X => [.box B6 76 [.pointer (some ⟨B6, 0, none⟩), X], .buf X 5 T.2]) Y29 [0, 0] ⟨rfl, rfl, rfl, rfl, trivial⟩ rfl (fun S32 X33 => ?_)
        refine TW.seq ?_
        refine TW.region ?_
        refine TO.y (Y.lss rfl rfl) rfl rfl rfl ?_
        refine TO.nil ?_
        refine TE.next ?_
        refine TW.seq ?_
        refine TW.cond rfl (fun H36 => ?_) (fun H36 => ?_)
        · refine TW.skip ?_
          refine TE.next ?_
          refine TW.seq ?_
          refine TW.block ?_
          refine TW.seq ?_
          refine TW.region ?_
          refine TO.bind fun E37 H38 => ?_
          refine TO.y (Y.index ke26 (Base.can HB_V_e0) H38 rfl rfl) rfl rfl rfl ?_
          refine TO.y (Y.load_el (us := [.int .i64 E37.No, .int .i64 E37.Level, strV E37.Lo, strV E37.Hi]) (u := .agg #[.int .i64 E37.No, .int .i64 E37.Level, strV E37.Lo, strV E37.Hi]) kk43 rfl (Base.can HB_V_e0) (idx_get H38).2.2 rfl rfl rfl rfl rfl) rfl rfl rfl ?_
          refine TO.ef (Ef.alloc kz43 rfl) rfl rfl rfl (fun B39 => ?_)
          refine TO.ef0 (Ef.store_box (us := [.int .i64 E37.No, .int .i64 E37.Level, strV E37.Lo, strV E37.Hi]) (vs' := [.int .i64 E37.No, .int .i64 E37.Level, strV E37.Lo, strV E37.Hi]) (is' := [.box B39 43 [.int .i64 E37.No, .int .i64 E37.Level, strV E37.Lo, strV E37.Hi], .box B6 76 [.pointer (some ⟨B6, 0, none⟩), X33], .buf X33 5 S32.2]) 0 kk43 rfl rfl rfl (Cel.plain rfl rfl) rfl rfl rfl rfl) rfl rfl (fun _ => ?_)
          refine TO.nil ?_
          refine TE.next ?_
          refine TW.draw (isH := [.box B39 43 [.int .i64 E37.No, .int .i64 E37.Level, strV E37.Lo, strV E37.Hi]]) hMix ?_
          refine TA.y (listed' := #[true, false, false, false, false, false, false, false, false, false, false, false, false, false, false, false]) 0 [0] rfl (Y.field_box kf43_0 rfl rfl) rfl rfl rfl (by kernel_rfl) (by kernel_rfl) (by kernel_rfl) rfl rfl ?_
          refine TA.y (listed' := #[true, true, false, false, false, false, false, false, false, false, false, false, false, false, false, false]) 1 [0] rfl (Y.load_box (v := .int .i64 E37.No) 0 kk3 rfl rfl rfl) rfl rfl rfl (by kernel_rfl) (by kernel_rfl) (by kernel_rfl) rfl rfl ?_
          refine TA.y (listed' := #[true, true, false, true, false, false, false, false, false, false, false, false, false, false, false, false]) 3 [0] rfl (Y.field_box kf43_1 rfl rfl) rfl rfl rfl (by kernel_rfl) (by kernel_rfl) (by kernel_rfl) rfl rfl ?_
          refine TA.y (listed' := #[true, true, false, true, true, false, false, false, false, false, false, false, false, false, false, false]) 4 [0] rfl (Y.load_box (v := .int .i64 E37.Level) 0 kk3 rfl rfl rfl) rfl rfl rfl (by kernel_rfl) (by kernel_rfl) (by kernel_rfl) rfl rfl ?_
          refine TA.y (listed' := #[true, true, false, true, true, false, false, true, false, false, false, false, false, false, false, false]) 7 [0] rfl (Y.field_box kf43_2 rfl rfl) rfl rfl rfl (by kernel_rfl) (by kernel_rfl) (by kernel_rfl) rfl rfl ?_
          refine TA.y (listed' := #[true, true, false, true, true, false, false, true, true, false, false, false, false, false, false, false]) 8 [0] rfl (Y.load_box (v := strV E37.Lo) 0 kk9 rfl rfl rfl) rfl rfl rfl (by kernel_rfl) (by kernel_rfl) (by kernel_rfl) rfl rfl ?_
          refine TA.y (listed' := #[true, true, false, true, true, false, false, true, true, false, false, true, false, false, false, false]) 11 [0] rfl (Y.field_box kf43_3 rfl rfl) rfl rfl rfl (by kernel_rfl) (by kernel_rfl) (by kernel_rfl) rfl rfl ?_
          refine TA.y (listed' := #[true, true, false, true, true, false, false, true, true, false, false, true, true, false, false, false]) 12 [0] rfl (Y.load_box (v := strV E37.Hi) 0 kk9 rfl rfl rfl) rfl rfl rfl (by kernel_rfl) (by kernel_rfl) (by kernel_rfl) rfl rfl ?_
          refine TA.bind fun R40 H41 => ?_
          refine TA.one 2 (by kernel_rfl) ?_
          refine TX.ef (listed' := #[true, true, true, true, true, false, false, true, true, false, false, true, true, false, false, false]) [0] rfl (Ef.call (rest := [.box B39 43 [.int .i64 E37.No, .int .i64 E37.Level, strV E37.Lo, strV E37.Hi], .box B6 76 [.pointer (some ⟨B6, 0, none⟩), X33], .buf X33 5 S32.2]) [0, 0, 0] (impl_Var_con E37.No  R40 H41) kc49 rfl rfl trivial) rfl rfl rfl rfl (fun _ => rfl) (fun _ => ?_)
          refine TA.bind fun R43 H44 => ?_
          refine TA.one 5 (by kernel_rfl) ?_
          refine TX.ef (listed' := #[true, true, true, true, true, true, false, true, true, false, false, true, true, false, false, false]) [0] rfl (Ef.call (rest := [.box B39 43 [.int .i64 E37.No, .int .i64 E37.Level, strV E37.Lo, strV E37.Hi], .box B6 76 [.pointer (some ⟨B6, 0, none⟩), X33], .buf X33 5 S32.2]) [0, 0, 0] (impl_Var_con E37.Level  R43 H44) kc49 rfl rfl trivial) rfl rfl rfl rfl (fun _ => rfl) (fun _ => ?_)
          refine TA.bind fun E46 H47 => ?_
          refine TA.y (listed' := #[true, true, true, true, true, true, true, true, true, false, false, true, true, false, false, false]) 6 [0] rfl (Y.cat H47 rfl rfl) rfl rfl rfl (by kernel_rfl) (by kernel_rfl) (by kernel_rfl) rfl rfl ?_
          refine TA.bind fun R48 H49 => ?_
          refine TA.one 9 (by kernel_rfl) ?_
          refine TX.ef (listed' := #[true, true, true, true, true, true, true, true, true, true, false, true, true, false, false, false]) [0] rfl (Ef.call (rest := [.box B39 43 [.int .i64 E37.No, .int .i64 E37.Level, strV E37.Lo, strV E37.Hi], .box B6 76 [.pointer (some ⟨B6, 0, none⟩), X33], .buf X33 5 S32.2]) [0, 0, 0] (impl_short_con E37.Lo  R48 H49) kc50 rfl rfl trivial) rfl rfl rfl rfl (fun _ => rfl) (fun _ => ?_)
          refine TA.bind fun E51 H52 => ?_
          refine TA.y (listed' := #[true, true, true, true, true, true, true, true, true, true, true, true, true, false, false, false]) 10 [0] rfl (Y.cat H52 rfl rfl) rfl rfl rfl (by kernel_rfl) (by kernel_rfl) (by kernel_rfl) rfl rfl ?_
          refine TA.bind fun R53 H54 => ?_
          refine TA.one 13 (by kernel_rfl) ?_
          refine TX.ef (listed' := #[true, true, true, true, true, true, true, true, true, true, true, true, true, true, false, false]) [0] rfl (Ef.call (rest := [.box B39 43 [.int .i64 E37.No, .int .i64 E37.Level, strV E37.Lo, strV E37.Hi], .box B6 76 [.pointer (some ⟨B6, 0, none⟩), X33], .buf X33 5 S32.2]) [0, 0, 0] (impl_short_con E37.Hi  R53 H54) kc50 rfl rfl trivial) rfl rfl rfl rfl (fun _ => rfl) (fun _ => ?_)
          refine TA.bind fun E56 H57 => ?_
          refine TA.y (listed' := #[true, true, true, true, true, true, true, true, true, true, true, true, true, true, true, false]) 14 [0] rfl (Y.cat H57 rfl rfl) rfl rfl rfl (by kernel_rfl) (by kernel_rfl) (by kernel_rfl) rfl rfl ?_
          refine TA.bind fun R59 H60 => ?_
          refine TA.one 15 (by kernel_rfl) ?_
          refine TX.ef (listed' := #[true, true, true, true, true, true, true, true, true, true, true, true, true, true, true, true]) [2] rfl (Ef.call (rest := [.box B39 43 [.int .i64 E37.No, .int .i64 E37.Level, strV E37.Lo, strV E37.Hi]]) [1, 1, 0] (strings_Builder_WriteString_old S32.2 E56 R59 B6 X33 H60) kc48 rfl rfl trivial) rfl rfl rfl rfl (fun _ => rfl) (fun Y58 => ?_)
          refine TA.nil (by kernel_rfl) ?_
          refine TE.block_normal ?_
          refine TE.next ?_
          refine TW.region ?_
          refine TO.y (Y.add rfl rfl) rfl rfl rfl ?_
          refine TO.y (Y.move rfl) rfl rfl rfl ?_
          refine TO.nil ?_
          exact TE.lp_go Y58 [0, 0] ⟨rfl, rfl, rfl, rfl, trivial⟩ rfl
        · refine TW.exit ?_
          refine TE.then_exit ?_
          refine TE.lp_exit ?_
          refine TE.block_exit ?_
          exact TE.jn_go X33 [0, 0] ⟨rfl, trivial⟩ rfl
      · refine TE.next ?_
        refine TW.seq ?_
        refine TW.region ?_
        refine TO.bind fun R61 H62 => ?_
        refine TO.ef (Ef.call (rest := []) [0, 0] (strings_Builder_String_con T34 B6 X35 R61 H62) kc52 rfl rfl trivial) rfl rfl rfl (fun _ => ?_)
        refine TO.bind fun R63 H64 => ?_
        refine TO.ef (Ef.call (rest := [.box B6 76 [.pointer (some ⟨B6, 0, none⟩), X35]]) [0] (impl_summed_con R61  R63 H64) kc51 rfl rfl trivial) rfl rfl rfl (fun _ => ?_)
        refine TO.y (Y.assign rfl) rfl rfl rfl ?_
        refine TO.nil ?_
        refine TE.next ?_
        refine TW.ret ?_
        exact TE.leaf fun _ _ hf_ hs_ => ret_any (rs := [.tmp 2]) (vs := [strV R63]) (.inl rfl) rfl ⟨rfl, trivial⟩ hf_ hs_ ⟨(), rfl, hs_.pulls [] rfl⟩

/-- loop.example/g00950/impl.ReadEdit -/
noncomputable def impl_ReadEdit (s : List UInt8) : Option (Edit × Bool) :=
  (impl_unsummed s).bind fun R2 =>
  if (!R2.2) = true then (some ({ Add := ([] : List File), Drop := ([] : List Int) : Edit }, false))
  else ((impl_reader_number ({ text := R2.1, at_ := (0 : Int), bad := false : Reader })).bind fun R10 =>
  bindC (loopO (fun (S13 : List UInt8 × Int × Bool × Int × List Int) => (if (decide (S13.2.2.2.1 > (0 : Int))) = true then (some (!S13.2.2.1))
  else (some false)).bind (fun (T17 : Bool) =>
  if T17 = true then ((impl_reader_number ({ text := S13.1, at_ := S13.2.1, bad := S13.2.2.1 : Reader })).bind fun R21 =>
  (app 8 S13.2.2.2.2 ([R21.1])).bind fun E26 =>
  some (.go (R21.2.text, R21.2.at_, R21.2.bad, IntKind.i64.wrap (S13.2.2.2.1 - (1 : Int)), E26)))
  else (some (.done (.go (S13.1, S13.2.1, S13.2.2.1, S13.2.2.2.2))))))
  (R10.2.text, R10.2.at_, R10.2.bad, R10.1, ([] : List Int)))
  (fun (T15 : List UInt8 × Int × Bool × List Int) => (impl_reader_number ({ text := T15.1, at_ := T15.2.1, bad := T15.2.2.1 : Reader })).bind fun R28 =>
  bindC (loopO (fun (S31 : List UInt8 × Int × Bool × Int × List File) => (if (decide (S31.2.2.2.1 > (0 : Int))) = true then (some (!S31.2.2.1))
  else (some false)).bind (fun (T35 : Bool) =>
  if T35 = true then ((impl_reader_number ({ text := S31.1, at_ := S31.2.1, bad := S31.2.2.1 : Reader })).bind fun R39 =>
  (impl_reader_number R39.2).bind fun R43 =>
  (impl_reader_short R43.2).bind fun R46 =>
  (impl_reader_short R46.2).bind fun R49 =>
  (app 48 S31.2.2.2.2 ([{ No := R39.1, Level := R43.1, Lo := R46.1, Hi := R49.1 : File }])).bind fun E54 =>
  some (.go (R49.2.text, R49.2.at_, R49.2.bad, IntKind.i64.wrap (S31.2.2.2.1 - (1 : Int)), E54)))
  else (some (.done (.go (S31.1, S31.2.1, S31.2.2.1, S31.2.2.2.2))))))
  (R28.2.text, R28.2.at_, R28.2.bad, R28.1, ([] : List File)))
  (fun (T33 : List UInt8 × Int × Bool × List File) => ((impl_reader_done ({ text := T33.1, at_ := T33.2.1, bad := T33.2.2.1 : Reader })).bind fun R58 =>
  if (!R58) = true then (some true)
  else ((impl_ShowEdit ({ Add := T33.2.2.2, Drop := T15.2.2.2 : Edit })).bind fun R62 =>
  some (!(decide (R62 = s))))).bind (fun (T56 : Bool) =>
  if T56 = true then (some ({ Add := ([] : List File), Drop := ([] : List Int) : Edit }, false))
  else (some ({ Add := T33.2.2.2, Drop := T15.2.2.2 : Edit }, true))))))

theorem impl_ReadEdit_con (s : List UInt8)  (r : Edit × Bool) (hm : impl_ReadEdit s = some r) :
    Con Try.prog 12 [strV s] [] [] (fun X : Value × Value => .tuple #[.agg #[X.1, X.2], .bool r.2]) (fun X => [.own X.1 (lc r.1.Add), .own X.2 (lc r.1.Drop)]) := by
  refine Con.intro (args := [strV s]) (n := 73) (val := fun r (X : Value × Value) => .tuple #[.agg #[X.1, X.2], .bool r.2]) (post := fun r X => [.own X.1 (lc r.1.Add), .own X.2 (lc r.1.Drop)]) (m := impl_ReadEdit s) Try.func12 rfl rfl rfl hm ?_
  intro w S _
  unfold impl_ReadEdit
  refine TW.seq ?_
  refine TW.region ?_
  refine TO.ef (Ef.alloc kz34 rfl) rfl rfl rfl (fun B1 => ?_)
  refine TO.y (Y.assign rfl) rfl rfl rfl ?_
  refine TO.nil ?_
  refine TE.next ?_
  refine TW.seq ?_
  refine TW.region ?_
  refine TO.y (Y.move rfl) rfl rfl rfl ?_
  refine TO.bind fun R2 H3 => ?_
  refine TO.ef (Ef.call (rest := [.box B1 34 [.slice none 0 0, .slice none 0 0]]) [0] (impl_unsummed_con s  R2 H3) kc40 rfl rfl trivial) rfl rfl rfl (fun _ => ?_)
  refine TO.y (Y.move rfl) rfl rfl rfl ?_
  refine TO.y (Y.extract rfl rfl) rfl rfl rfl ?_
  refine TO.y (Y.extract rfl rfl) rfl rfl rfl ?_
  refine TO.y (Y.assign rfl) rfl rfl rfl ?_
  refine TO.y (Y.assign rfl) rfl rfl rfl ?_
  refine TO.nil ?_
  refine TE.next ?_
  refine TW.seq ?_
  refine TW.seq ?_
  refine TW.region ?_
  refine TO.y (Y.move rfl) rfl rfl rfl ?_
  refine TO.y (Y.not rfl) rfl rfl rfl ?_
  refine TO.nil ?_
  refine TE.next ?_
  refine TW.cond rfl (fun H5 => ?_) (fun H5 => ?_)
  · refine TW.seq ?_
    refine TW.region ?_
    refine TO.y (Y.build (cells := [.slice none 0 0, .slice none 0 0]) [] kp34 kz34 trivial rfl) rfl rfl rfl ?_
    refine TO.ef0 (Ef.store_box (us := [.slice none 0 0, .slice none 0 0]) (vs' := [.slice none 0 0, .slice none 0 0]) (is' := [.box B1 34 [.slice none 0 0, .slice none 0 0]]) 0 kk34 rfl rfl rfl (Cel.plain rfl rfl) rfl rfl rfl rfl) rfl rfl (fun _ => ?_)
    refine TO.y (Y.assign rfl) rfl rfl rfl ?_
    refine TO.nil ?_
    refine TE.next ?_
    refine TW.ret ?_
    refine TE.then_ret ?_
    exact TE.leaf fun _ _ hf_ hs_ => ret_any (rs := [.cell 2 34, .tmp 3]) (vs := [.agg #[.slice none 0 0, .slice none 0 0], .bool false]) (.inl rfl) rfl (RV.cell 0 rfl rfl kk34 rfl ⟨rfl, trivial⟩) hf_ hs_ ⟨((.slice none 0 0), (.slice none 0 0)), rfl, ((hs_.nilItem 4).nilItem 1).pulls [1, 0] rfl⟩
  · refine TW.skip ?_
    refine TE.next ?_
    refine TW.seq ?_
    refine TW.region ?_
    refine TO.y (Y.move rfl) rfl rfl rfl ?_
    refine TO.y (Y.build (cells := [strV R2.1, .int .i64 (0 : Int), .bool false]) [(0, [strV R2.1])] kp67 kz67 ⟨rfl, ⟨_, rfl, (Cel.plain rfl rfl)⟩, trivial⟩ rfl) rfl rfl rfl ?_
    refine TO.ef (Ef.alloc kz67 rfl) rfl rfl rfl (fun B8 => ?_)
    refine TO.ef0 (Ef.store_box (us := [strV R2.1, .int .i64 (0 : Int), .bool false]) (vs' := [strV R2.1, .int .i64 (0 : Int), .bool false]) (is' := [.box B8 67 [strV R2.1, .int .i64 (0 : Int), .bool false], .box B1 34 [.slice none 0 0, .slice none 0 0]]) 0 kk67 rfl rfl rfl (Cel.plain rfl rfl) rfl rfl rfl rfl) rfl rfl (fun _ => ?_)
    refine TO.nil ?_
    refine TE.next ?_
    refine TW.seq ?_
    refine TW.region ?_
    refine TO.ef (Ef.alloc kz34 rfl) rfl rfl rfl (fun B9 => ?_)
    refine TO.nil ?_
    refine TE.next ?_
    refine TW.seq ?_
    refine TW.seq ?_
    refine TW.region ?_
    refine TO.bind fun R10 H11 => ?_
    refine TO.ef (Ef.call (rest := [.box B9 34 [.slice none 0 0, .slice none 0 0], .box B1 34 [.slice none 0 0, .slice none 0 0]]) [1, 0, 0] (impl_reader_number_con ({ text := R2.1, at_ := (0 : Int), bad := false : Reader }) B8 R10 H11) kc41 rfl rfl trivial) rfl rfl rfl (fun _ => ?_)
    refine TO.y (Y.assign rfl) rfl rfl rfl ?_
    refine TO.nil ?_
    refine TE.next ?_
    refine TW.joinX (τ := List UInt8 × Int × Bool × List Int) (X := Value) (fun _ _ => [(0, strV s), (2, .pointer (some ⟨B1, 0, none⟩)), (6, .pointer (some ⟨B8, 0, none⟩)), (7, .pointer (some ⟨B9, 0, none⟩))]) (fun T X => [.box B1 34 [.slice none 0 0, .slice none 0 0], .box B8 67 [strV T.1, .int .i64 T.2.1, .bool T.2.2.1], .box B9 34 [.slice none 0 0, X], .own X (lc T.2.2.2)]) ?_ (fun T15 X16 => ?_)
    · refine TW.block ?_
      refine TW.nilItem 1 ?_
      refine TW.loopX (σ := List UInt8 × Int × Bool × Int × List Int) (X := Value) (fun T _ => [(0, strV s), (2, .pointer (some ⟨B1, 0, none⟩)), (6, .pointer (some ⟨B8, 0, none⟩)), (7, .pointer (some ⟨B9, 0, none⟩)), (8, .int .i64 T.2.2.2.1)]) (fun T X => [.box B1 34 [.slice none 0 0, .slice none 0 0], .box B8 67 [strV T.1, .int .i64 T.2.1, .bool T.2.2.1], .box B9 34 [.slice none 0 0, X], .own X (lc T.2.2.2.2)]) (.slice none 0 0) [3, 1, 1, 0] ⟨rfl, rfl, rfl, rfl, rfl, trivial⟩ rfl (fun S13 X14 => ?_)
      refine TW.seq ?_
      refine TW.seq ?_
      refine TW.joinBX (τ := Bool) (X := Unit) (fun T _ => [(0, strV s), (2, .pointer (some ⟨B1, 0, none⟩)), (6, .pointer (some ⟨B8, 0, none⟩)), (7, .pointer (some ⟨B9, 0, none⟩)), (8, .int .i64 S13.2.2.2.1), (29, .bool T)]) (fun _ _ => [.box B1 34 [.slice none 0 0, .slice none 0 0], .box B8 67 [strV S13.1, .int .i64 S13.2.1, .bool S13.2.2.1], .box B9 34 [.slice none 0 0, X14], .own X14 (lc S13.2.2.2.2)]) ?_ (fun T17 X18 => ?_)
      · refine TW.region ?_
        refine TO.y (Y.move rfl) rfl rfl rfl ?_
        refine TO.y (Y.gtr rfl rfl) rfl rfl rfl ?_
        refine TO.y (Y.move rfl) rfl rfl rfl ?_
        refine TO.ite (b := decide (S13.2.2.2.1 > (0 : Int))) (fun H19 => ?_) (fun H19 => ?_)
        · refine TO.y (Y.field_box kf67_2 rfl rfl) (Gd.at 2 true 25 (decide (S13.2.2.2.1 > (0 : Int))) rfl rfl rfl (beq_tt H19)) rfl rfl ?_
          refine TO.y (Y.load_box (v := .bool S13.2.2.1) 1 kk4 rfl rfl rfl) (Gd.at 2 true 25 (decide (S13.2.2.2.1 > (0 : Int))) rfl rfl rfl (beq_tt H19)) rfl rfl ?_
          refine TO.y (Y.not rfl) (Gd.at 2 true 25 (decide (S13.2.2.2.1 > (0 : Int))) rfl rfl rfl (beq_tt H19)) rfl rfl ?_
          refine TO.y (Y.pick_t H19 rfl rfl) rfl rfl rfl ?_
          refine TO.nil ?_
          exact TE.jb_go () [0, 0, 0, 0] ⟨rfl, rfl, rfl, rfl, rfl, rfl, trivial⟩ rfl
        · refine TO.off (Gd.at 2 true 25 (decide (S13.2.2.2.1 > (0 : Int))) rfl rfl rfl (beq_ft H19)) rfl rfl ?_
          refine TO.off (Gd.at 2 true 25 (decide (S13.2.2.2.1 > (0 : Int))) rfl rfl rfl (beq_ft H19)) rfl rfl ?_
          refine TO.off (Gd.at 2 true 25 (decide (S13.2.2.2.1 > (0 : Int))) rfl rfl rfl (beq_ft H19)) rfl rfl ?_
          refine TO.y (Y.pick_f H19 rfl rfl) rfl rfl rfl ?_
          refine TO.nil ?_
          exact TE.jb_go () [0, 0, 0, 0] ⟨rfl, rfl, rfl, rfl, rfl, rfl, trivial⟩ rfl
      · refine TE.next ?_
        refine TW.cond rfl (fun H20 => ?_) (fun H20 => ?_)
        · refine TW.skip ?_
          refine TE.next ?_
          refine TW.seq ?_
          refine TW.block ?_
          refine TW.seq ?_
          refine TW.region ?_
          refine TO.bind fun R21 H22 => ?_
          refine TO.ef (Ef.call (rest := [.box B1 34 [.slice none 0 0, .slice none 0 0], .box B9 34 [.slice none 0 0, X14], .own X14 (lc S13.2.2.2.2)]) [1, 0, 0, 0] (impl_reader_number_con ({ text := S13.1, at_ := S13.2.1, bad := S13.2.2.1 : Reader }) B8 R21 H22) kc41 rfl rfl trivial) rfl rfl rfl (fun _ => ?_)
          refine TO.y (Y.assign rfl) rfl rfl rfl ?_
          refine TO.nil ?_
          refine TE.next ?_
          refine TW.region ?_
          refine TO.y (Y.field_box kf34_1 rfl rfl) rfl rfl rfl ?_
          refine TO.y (Y.load_box (v := X14) 2 kk32 rfl rfl rfl) rfl rfl rfl ?_
          refine TO.y (Y.move rfl) rfl rfl rfl ?_
          refine TO.ef (Ef.buildSlice (α := Int) (Vs := [.int .i64 R21.1]) [R21.1] ke32 kz3 rfl rfl rfl rfl rfl) rfl rfl rfl (fun B24 => ?_)
          refine TO.bind fun E26 H27 => ?_
          refine TO.ef (Ef.append (α := Int) (is' := [.own (.slice (some ⟨B24, 0, none⟩) 1 1) (lc ([R21.1])), .box B8 67 [strV R21.2.text, .int .i64 R21.2.at_, .bool R21.2.bad], .box B1 34 [.slice none 0 0, .slice none 0 0], .box B9 34 [.slice none 0 0, X14]]) [4, 0, 0, 0, 0] H27 ke32 kz3 rfl rfl rfl rfl rfl (Can.own 0 rfl)) rfl rfl rfl (fun V25 => ?_)
          refine TO.y (Y.field_box kf34_1 rfl rfl) rfl rfl rfl ?_
          refine TO.ef0 (Ef.store_box (us := [V25]) (vs' := [.slice none 0 0, V25]) (is' := [.own V25 (lc E26), .own (.slice (some ⟨B24, 0, none⟩) 1 1) (lc ([R21.1])), .box B8 67 [strV R21.2.text, .int .i64 R21.2.at_, .bool R21.2.bad], .box B1 34 [.slice none 0 0, .slice none 0 0], .box B9 34 [.slice none 0 0, V25]]) 4 kk32 rfl rfl rfl (Cel.one (One.can (Can.own 0 rfl))) rfl rfl rfl rfl) rfl rfl (fun _ => ?_)
          refine TO.nil ?_
          refine TE.block_normal ?_
          refine TE.next ?_
          refine TW.region ?_
          refine TO.y (Y.move rfl) rfl rfl rfl ?_
          refine TO.y (Y.sub rfl rfl) rfl rfl rfl ?_
          refine TO.y (Y.assign rfl) rfl rfl rfl ?_
          refine TO.nil ?_
          exact TE.lp_go V25 [3, 2, 2, 0] ⟨rfl, rfl, rfl, rfl, rfl, trivial⟩ rfl
        · refine TW.exit ?_
          refine TE.then_exit ?_
          refine TE.lp_exit ?_
          refine TE.block_exit ?_
          exact TE.jn_go X14 [0, 0, 0, 0] ⟨rfl, rfl, rfl, rfl, trivial⟩ rfl
    · refine TE.next ?_
      refine TW.seq ?_
      refine TW.seq ?_
      refine TW.region ?_
      refine TO.bind fun R28 H29 => ?_
      refine TO.ef (Ef.call (rest := [.box B1 34 [.slice none 0 0, .slice none 0 0], .box B9 34 [.slice none 0 0, X16], .own X16 (lc T15.2.2.2)]) [1, 0, 0, 0] (impl_reader_number_con ({ text := T15.1, at_ := T15.2.1, bad := T15.2.2.1 : Reader }) B8 R28 H29) kc41 rfl rfl trivial) rfl rfl rfl (fun _ => ?_)
      refine TO.y (Y.assign rfl) rfl rfl rfl ?_
      refine TO.nil ?_
      refine TE.next ?_
      refine TW.joinX (τ := List UInt8 × Int × Bool × List File) (X := Value) (fun _ _ => [(0, strV s), (2, .pointer (some ⟨B1, 0, none⟩)), (6, .pointer (some ⟨B8, 0, none⟩)), (7, .pointer (some ⟨B9, 0, none⟩))]) (fun T X => [.box B1 34 [.slice none 0 0, .slice none 0 0], .box B8 67 [strV T.1, .int .i64 T.2.1, .bool T.2.2.1], .box B9 34 [X, X16], .own X (lc T.2.2.2), .own X16 (lc T15.2.2.2)]) ?_ (fun T33 X34 => ?_)
      · refine TW.block ?_
        refine TW.nilItem 4 ?_
        refine TW.loopX (σ := List UInt8 × Int × Bool × Int × List File) (X := Value) (fun T _ => [(0, strV s), (2, .pointer (some ⟨B1, 0, none⟩)), (6, .pointer (some ⟨B8, 0, none⟩)), (7, .pointer (some ⟨B9, 0, none⟩)), (10, .int .i64 T.2.2.2.1)]) (fun T X => [.box B1 34 [.slice none 0 0, .slice none 0 0], .box B8 67 [strV T.1, .int .i64 T.2.1, .bool T.2.2.1], .box B9 34 [X, X16], .own X (lc T.2.2.2.2), .own X16 (lc T15.2.2.2)]) (.slice none 0 0) [2, 1, 1, 0, 0] ⟨rfl, rfl, rfl, rfl, rfl, trivial⟩ rfl (fun S31 X32 => ?_)
        refine TW.seq ?_
        refine TW.seq ?_
        refine TW.joinBX (τ := Bool) (X := Unit) (fun T _ => [(0, strV s), (2, .pointer (some ⟨B1, 0, none⟩)), (6, .pointer (some ⟨B8, 0, none⟩)), (7, .pointer (some ⟨B9, 0, none⟩)), (10, .int .i64 S31.2.2.2.1), (46, .bool T)]) (fun _ _ => [.box B1 34 [.slice none 0 0, .slice none 0 0], .box B8 67 [strV S31.1, .int .i64 S31.2.1, .bool S31.2.2.1], .box B9 34 [X32, X16], .own X32 (lc S31.2.2.2.2), .own X16 (lc T15.2.2.2)]) ?_ (fun T35 X36 => ?_)
        · refine TW.region ?_
          refine TO.y (Y.move rfl) rfl rfl rfl ?_
          refine TO.y (Y.gtr rfl rfl) rfl rfl rfl ?_
          refine TO.y (Y.move rfl) rfl rfl rfl ?_
          refine TO.ite (b := decide (S31.2.2.2.1 > (0 : Int))) (fun H37 => ?_) (fun H37 => ?_)
          · refine TO.y (Y.field_box kf67_2 rfl rfl) (Gd.at 2 true 42 (decide (S31.2.2.2.1 > (0 : Int))) rfl rfl rfl (beq_tt H37)) rfl rfl ?_
            refine TO.y (Y.load_box (v := .bool S31.2.2.1) 1 kk4 rfl rfl rfl) (Gd.at 2 true 42 (decide (S31.2.2.2.1 > (0 : Int))) rfl rfl rfl (beq_tt H37)) rfl rfl ?_
            refine TO.y (Y.not rfl) (Gd.at 2 true 42 (decide (S31.2.2.2.1 > (0 : Int))) rfl rfl rfl (beq_tt H37)) rfl rfl ?_
            refine TO.y (Y.pick_t H37 rfl rfl) rfl rfl rfl ?_
            refine TO.nil ?_
            exact TE.jb_go () [0, 0, 0, 0, 0] ⟨rfl, rfl, rfl, rfl, rfl, rfl, trivial⟩ rfl
          · refine TO.off (Gd.at 2 true 42 (decide (S31.2.2.2.1 > (0 : Int))) rfl rfl rfl (beq_ft H37)) rfl rfl ?_
            refine TO.off (Gd.at 2 true 42 (decide (S31.2.2.2.1 > (0 : Int))) rfl rfl rfl (beq_ft H37)) rfl rfl ?_
            refine TO.off (Gd.at 2 true 42 (decide (S31.2.2.2.1 > (0 : Int))) rfl rfl rfl (beq_ft H37)) rfl rfl ?_
            refine TO.y (Y.pick_f H37 rfl rfl) rfl rfl rfl ?_
            refine TO.nil ?_
            exact TE.jb_go () [0, 0, 0, 0, 0] ⟨rfl, rfl, rfl, rfl, rfl, rfl, trivial⟩ rfl
        · refine TE.next ?_
          refine TW.cond rfl (fun H38 => ?_) (fun H38 => ?_)
          · refine TW.skip ?_
            refine TE.next ?_
            refine TW.seq ?_
            refine TW.block ?_
            refine TW.seq ?_
            refine TW.region ?_
            refine TO.bind fun R39 H40 => ?_
            refine TO.ef (Ef.call (rest := [.box B1 34 [.slice none 0 0, .slice none 0 0], .box B9 34 [X32, X16], .own X32 (lc S31.2.2.2.2), .own X16 (lc T15.2.2.2)]) [1, 0, 0, 0, 0] (impl_reader_number_con ({ text := S31.1, at_ := S31.2.1, bad := S31.2.2.1 : Reader }) B8 R39 H40) kc41 rfl rfl trivial) rfl rfl rfl (fun _ => ?_)
            refine TO.y (Y.build (cells := [.int .i64 R39.1, .int .i64 (0 : Int), strV ([]), strV ([])]) [(0, [.int .i64 R39.1])] kp43 kz43 ⟨rfl, ⟨_, rfl, (Cel.plain rfl rfl)⟩, trivial⟩ rfl) rfl rfl rfl ?_
            refine TO.ef (Ef.alloc kz43 rfl) rfl rfl rfl (fun B42 => ?_)
            refine TO.ef0 (Ef.store_box (us := [.int .i64 R39.1, .int .i64 (0 : Int), strV ([]), strV ([])]) (vs' := [.int .i64 R39.1, .int .i64 (0 : Int), strV ([]), strV ([])]) (is' := [.box B42 43 [.int .i64 R39.1, .int .i64 (0 : Int), strV ([]), strV ([])], .box B8 67 [strV R39.2.text, .int .i64 R39.2.at_, .bool R39.2.bad], .box B1 34 [.slice none 0 0, .slice none 0 0], .box B9 34 [X32, X16], .own X32 (lc S31.2.2.2.2), .own X16 (lc T15.2.2.2)]) 0 kk43 rfl rfl rfl (Cel.plain rfl rfl) rfl rfl rfl rfl) rfl rfl (fun _ => ?_)
            refine TO.nil ?_
            refine TE.next ?_
            refine TW.seq ?_
            refine TW.region ?_
            refine TO.bind fun R43 H44 => ?_
            refine TO.ef (Ef.call (rest := [.box B42 43 [.int .i64 R39.1, .int .i64 (0 : Int), strV ([]), strV ([])], .box B1 34 [.slice none 0 0, .slice none 0 0], .box B9 34 [X32, X16], .own X32 (lc S31.2.2.2.2), .own X16 (lc T15.2.2.2)]) [1, 0, 0, 0, 0, 0] (impl_reader_number_con R39.2 B8 R43 H44) kc41 rfl rfl trivial) rfl rfl rfl (fun _ => ?_)
            refine TO.y (Y.field_box kf43_1 rfl rfl) rfl rfl rfl ?_
            refine TO.ef0 (Ef.store_box (us := [.int .i64 R43.1]) (vs' := [.int .i64 R39.1, .int .i64 R43.1, strV ([]), strV ([])]) (is' := [.box B8 67 [strV R43.2.text, .int .i64 R43.2.at_, .bool R43.2.bad], .box B42 43 [.int .i64 R39.1, .int .i64 R43.1, strV ([]), strV ([])], .box B1 34 [.slice none 0 0, .slice none 0 0], .box B9 34 [X32, X16], .own X32 (lc S31.2.2.2.2), .own X16 (lc T15.2.2.2)]) 1 kk3 rfl rfl rfl (Cel.plain rfl rfl) rfl rfl rfl rfl) rfl rfl (fun _ => ?_)
            refine TO.nil ?_
            refine TE.next ?_
            refine TW.seq ?_
            refine TW.region ?_
            refine TO.bind fun R46 H47 => ?_
            refine TO.ef (Ef.call (rest := [.box B42 43 [.int .i64 R39.1, .int .i64 R43.1, strV ([]), strV ([])], .box B1 34 [.slice none 0 0, .slice none 0 0], .box B9 34 [X32, X16], .own X32 (lc S31.2.2.2.2), .own X16 (lc T15.2.2.2)]) [0, 0, 0, 0, 0, 0] (impl_reader_short_con R43.2 B8 R46 H47) kc42 rfl rfl trivial) rfl rfl rfl (fun _ => ?_)
            refine TO.y (Y.field_box kf43_2 rfl rfl) rfl rfl rfl ?_
            refine TO.ef0 (Ef.store_box (us := [strV R46.1]) (vs' := [.int .i64 R39.1, .int .i64 R43.1, strV R46.1, strV ([])]) (is' := [.box B8 67 [strV R46.2.text, .int .i64 R46.2.at_, .bool R46.2.bad], .box B42 43 [.int .i64 R39.1, .int .i64 R43.1, strV R46.1, strV ([])], .box B1 34 [.slice none 0 0, .slice none 0 0], .box B9 34 [X32, X16], .own X32 (lc S31.2.2.2.2), .own X16 (lc T15.2.2.2)]) 1 kk9 rfl rfl rfl (Cel.plain rfl rfl) rfl rfl rfl rfl) rfl rfl (fun _ => ?_)
            refine TO.nil ?_
            refine TE.next ?_
            refine TW.seq ?_
            refine TW.region ?_
            refine TO.bind fun R49 H50 => ?_
            refine TO.ef (Ef.call (rest := [.box B42 43 [.int .i64 R39.1, .int .i64 R43.1, strV R46.1, strV ([])], .box B1 34 [.slice none 0 0, .slice none 0 0], .box B9 34 [X32, X16], .own X32 (lc S31.2.2.2.2), .own X16 (lc T15.2.2.2)]) [0, 0, 0, 0, 0, 0] (impl_reader_short_con R46.2 B8 R49 H50) kc42 rfl rfl trivial) rfl rfl rfl (fun _ => ?_)
            refine TO.y (Y.field_box kf43_3 rfl rfl) rfl rfl rfl ?_
            refine TO.ef0 (Ef.store_box (us := [strV R49.1]) (vs' := [.int .i64 R39.1, .int .i64 R43.1, strV R46.1, strV R49.1]) (is' := [.box B8 67 [strV R49.2.text, .int .i64 R49.2.at_, .bool R49.2.bad], .box B42 43 [.int .i64 R39.1, .int .i64 R43.1, strV R46.1, strV R49.1], .box B1 34 [.slice none 0 0, .slice none 0 0], .box B9 34 [X32, X16], .own X32 (lc S31.2.2.2.2), .own X16 (lc T15.2.2.2)]) 1 kk9 rfl rfl rfl (Cel.plain rfl rfl) rfl rfl rfl rfl) rfl rfl (fun _ => ?_)
            refine TO.nil ?_
            refine TE.next ?_
            refine TW.region ?_
            refine TO.y (Y.field_box kf34_0 rfl rfl) rfl rfl rfl ?_
            refine TO.y (Y.load_box (v := X32) 3 kk26 rfl rfl rfl) rfl rfl rfl ?_
            refine TO.y (Y.load_box (v := .agg #[.int .i64 R39.1, .int .i64 R43.1, strV R46.1, strV R49.1]) 1 kk43 rfl rfl rfl) rfl rfl rfl ?_
            refine TO.ef (Ef.buildSlice (α := File) (Vs := [.agg #[.int .i64 R39.1, .int .i64 R43.1, strV R46.1, strV R49.1]]) [{ No := R39.1, Level := R43.1, Lo := R46.1, Hi := R49.1 : File }] ke26 kz43 rfl rfl rfl rfl rfl) rfl rfl rfl (fun B52 => ?_)
            refine TO.bind fun E54 H55 => ?_
            refine TO.ef (Ef.append (α := File) (is' := [.own (.slice (some ⟨B52, 0, none⟩) 1 1) (lc ([{ No := R39.1, Level := R43.1, Lo := R46.1, Hi := R49.1 : File }])), .box B8 67 [strV R49.2.text, .int .i64 R49.2.at_, .bool R49.2.bad], .box B42 43 [.int .i64 R39.1, .int .i64 R43.1, strV R46.1, strV R49.1], .box B1 34 [.slice none 0 0, .slice none 0 0], .box B9 34 [X32, X16], .own X16 (lc T15.2.2.2)]) [5, 0, 0, 0, 0, 0, 0] H55 ke26 kz43 rfl rfl rfl rfl rfl (Can.own 0 rfl)) rfl rfl rfl (fun V53 => ?_)
            refine TO.y (Y.field_box kf34_0 rfl rfl) rfl rfl rfl ?_
            refine TO.ef0 (Ef.store_box (us := [V53]) (vs' := [V53, X16]) (is' := [.own V53 (lc E54), .own (.slice (some ⟨B52, 0, none⟩) 1 1) (lc ([{ No := R39.1, Level := R43.1, Lo := R46.1, Hi := R49.1 : File }])), .box B8 67 [strV R49.2.text, .int .i64 R49.2.at_, .bool R49.2.bad], .box B42 43 [.int .i64 R39.1, .int .i64 R43.1, strV R46.1, strV R49.1], .box B1 34 [.slice none 0 0, .slice none 0 0], .box B9 34 [V53, X16], .own X16 (lc T15.2.2.2)]) 5 kk26 rfl rfl rfl (Cel.one (One.can (Can.own 0 rfl))) rfl rfl rfl rfl) rfl rfl (fun _ => ?_)
            refine TO.nil ?_
            refine TE.block_normal ?_
            refine TE.next ?_
            refine TW.region ?_
            refine TO.y (Y.move rfl) rfl rfl rfl ?_
            refine TO.y (Y.sub rfl rfl) rfl rfl rfl ?_
            refine TO.y (Y.assign rfl) rfl rfl rfl ?_
            refine TO.nil ?_
            exact TE.lp_go V53 [4, 2, 3, 0, 2] ⟨rfl, rfl, rfl, rfl, rfl, trivial⟩ rfl
          · refine TW.exit ?_
            refine TE.then_exit ?_
            refine TE.lp_exit ?_
            refine TE.block_exit ?_
            exact TE.jn_go X32 [0, 0, 0, 0, 0] ⟨rfl, rfl, rfl, rfl, trivial⟩ rfl
      · refine TE.next ?_
        refine TW.seq ?_
        refine TW.seq ?_
        refine TW.joinBX (τ := Bool) (X := Unit) (fun T _ => [(2, .pointer (some ⟨B1, 0, none⟩)), (7, .pointer (some ⟨B9, 0, none⟩)), (70, .bool T)]) (fun _ _ => [.box B1 34 [.slice none 0 0, .slice none 0 0], .box B9 34 [X34, X16], .own X34 (lc T33.2.2.2), .own X16 (lc T15.2.2.2)]) ?_ (fun T56 X57 => ?_)
        · refine TW.region ?_
          refine TO.bind fun R58 H59 => ?_
          refine TO.ef (Ef.call (rest := [.box B1 34 [.slice none 0 0, .slice none 0 0], .box B9 34 [X34, X16], .own X34 (lc T33.2.2.2), .own X16 (lc T15.2.2.2)]) [1, 0, 0, 0, 0] (impl_reader_done_con ({ text := T33.1, at_ := T33.2.1, bad := T33.2.2.1 : Reader }) B8 R58 H59) kc43 rfl rfl trivial) rfl rfl rfl (fun _ => ?_)
          refine TO.y (Y.not rfl) rfl rfl rfl ?_
          refine TO.y (Y.move rfl) rfl rfl rfl ?_
          refine TO.ite (b := !R58) (fun H61 => ?_) (fun H61 => ?_)
          · refine TO.off (Gd.at 2 false 65 (!R58) rfl rfl rfl (beq_tf H61)) rfl rfl ?_
            refine TO.off (Gd.at 2 false 65 (!R58) rfl rfl rfl (beq_tf H61)) rfl rfl ?_
            refine TO.off (Gd.at 2 false 65 (!R58) rfl rfl rfl (beq_tf H61)) rfl rfl ?_
            refine TO.off (Gd.at 2 false 65 (!R58) rfl rfl rfl (beq_tf H61)) rfl rfl ?_
            refine TO.y (Y.pick_t H61 rfl rfl) rfl rfl rfl ?_
            refine TO.nil ?_
            exact TE.jb_go () [1, 1, 1, 1] ⟨rfl, rfl, rfl, trivial⟩ rfl
          · refine TO.y (Y.load_box (v := .agg #[X34, X16]) 2 kk34 rfl rfl rfl) (Gd.at 2 false 65 (!R58) rfl rfl rfl (beq_ff H61)) rfl rfl ?_
            refine TO.bind fun R62 H63 => ?_
            refine TO.ef (Ef.call (rest := [.box B8 67 [strV T33.1, .int .i64 T33.2.1, .bool T33.2.2.1], .box B1 34 [.slice none 0 0, .slice none 0 0], .box B9 34 [X34, X16], .own X34 (lc T33.2.2.2), .own X16 (lc T15.2.2.2)]) [0, 0, 0, 0, 0] (impl_ShowEdit_con ({ Add := T33.2.2.2, Drop := T15.2.2.2 : Edit }) X34 X16 R62 H63) kc15 rfl rfl ⟨(Can.own 3 rfl), (Can.own 4 rfl), trivial⟩) (Gd.at 2 false 65 (!R58) rfl rfl rfl (beq_ff H61)) rfl rfl (fun _ => ?_)
            refine TO.y (Y.move rfl) (Gd.at 2 false 65 (!R58) rfl rfl rfl (beq_ff H61)) rfl rfl ?_
            refine TO.y (Y.sneq rfl rfl) (Gd.at 2 false 65 (!R58) rfl rfl rfl (beq_ff H61)) rfl rfl ?_
            refine TO.y (Y.pick_f H61 rfl rfl) rfl rfl rfl ?_
            refine TO.nil ?_
            exact TE.jb_go () [1, 1, 1, 1] ⟨rfl, rfl, rfl, trivial⟩ rfl
        · refine TE.next ?_
          refine TW.cond rfl (fun H65 => ?_) (fun H65 => ?_)
          · refine TW.seq ?_
            refine TW.region ?_
            refine TO.y (Y.build (cells := [.slice none 0 0, .slice none 0 0]) [] kp34 kz34 trivial rfl) rfl rfl rfl ?_
            refine TO.ef0 (Ef.store_box (us := [.slice none 0 0, .slice none 0 0]) (vs' := [.slice none 0 0, .slice none 0 0]) (is' := [.box B1 34 [.slice none 0 0, .slice none 0 0], .box B9 34 [X34, X16], .own X34 (lc T33.2.2.2), .own X16 (lc T15.2.2.2)]) 0 kk34 rfl rfl rfl (Cel.plain rfl rfl) rfl rfl rfl rfl) rfl rfl (fun _ => ?_)
            refine TO.y (Y.assign rfl) rfl rfl rfl ?_
            refine TO.nil ?_
            refine TE.next ?_
            refine TW.ret ?_
            refine TE.then_ret ?_
            exact TE.leaf fun _ _ hf_ hs_ => ret_any (rs := [.cell 2 34, .tmp 3]) (vs := [.agg #[.slice none 0 0, .slice none 0 0], .bool false]) (.inl rfl) rfl (RV.cell 0 rfl rfl kk34 rfl ⟨rfl, trivial⟩) hf_ hs_ ⟨((.slice none 0 0), (.slice none 0 0)), rfl, ((hs_.nilItem 4).nilItem 1).pulls [1, 0] rfl⟩
          · refine TW.skip ?_
            refine TE.next ?_
            refine TW.seq ?_
            refine TW.region ?_
            refine TO.y (Y.load_box (v := .agg #[X34, X16]) 1 kk34 rfl rfl rfl) rfl rfl rfl ?_
            refine TO.ef0 (Ef.store_box (us := [X34, X16]) (vs' := [X34, X16]) (is' := [.box B1 34 [X34, X16], .box B9 34 [X34, X16], .own X34 (lc T33.2.2.2), .own X16 (lc T15.2.2.2)]) 0 kk34 rfl rfl rfl (Cel.agg ⟨(One.can (Can.own 2 rfl)), (One.can (Can.own 3 rfl)), trivial⟩) rfl rfl rfl rfl) rfl rfl (fun _ => ?_)
            refine TO.y (Y.assign rfl) rfl rfl rfl ?_
            refine TO.nil ?_
            refine TE.next ?_
            refine TW.ret ?_
            exact TE.leaf fun _ _ hf_ hs_ => ret_any (rs := [.cell 2 34, .tmp 3]) (vs := [.agg #[X34, X16], .bool true]) (.inl rfl) rfl (RV.cell 0 rfl rfl kk34 rfl ⟨rfl, trivial⟩) hf_ hs_ ⟨(X34, X16), rfl, hs_.pulls [2, 2] rfl⟩

/-- loop.example/g00950/impl.isKey -/
noncomputable def impl_isKey (s : List UInt8) : Option Bool :=
  (impl_inRange ((s.length : Nat) : Int) (1 : Int) (10 : Int)).bind fun R1 =>
  some R1

theorem impl_isKey_con (s : List UInt8)  (r : Bool) (hm : impl_isKey s = some r) :
    Con Try.prog 86 [strV s] [] [] (fun _ : Unit => .bool r) (fun _ => []) := by
  refine Con.intro (args := [strV s]) (n := 6) (val := fun r (_ : Unit) => .bool r) (post := fun _ _ => []) (m := impl_isKey s) Try.func86 rfl rfl rfl hm ?_
  intro w S _
  unfold impl_isKey
  refine TW.seq ?_
  refine TW.region ?_
  refine TO.y (Y.assign rfl) rfl rfl rfl ?_
  refine TO.nil ?_
  refine TE.next ?_
  refine TW.seq ?_
  refine TW.region ?_
  refine TO.y (Y.move rfl) rfl rfl rfl ?_
  refine TO.y (Y.slen ks9 rfl) rfl rfl rfl ?_
  refine TO.bind fun R1 H2 => ?_
  refine TO.ef (Ef.call (rest := []) [] (impl_inRange_con ((s.length : Nat) : Int) (1 : Int) (10 : Int)  R1 H2) kc59 rfl rfl trivial) rfl rfl rfl (fun _ => ?_)
  refine TO.y (Y.assign rfl) rfl rfl rfl ?_
  refine TO.nil ?_
  refine TE.next ?_
  refine TW.ret ?_
  exact TE.leaf fun _ _ hf_ hs_ => ret_any (rs := [.tmp 2]) (vs := [.bool R1]) (.inl rfl) rfl ⟨rfl, trivial⟩ hf_ hs_ ⟨(), rfl, hs_.pulls [] rfl⟩

end Go.Proofs.Ytiabgnjihoknnaa
