/-
  The functions that a law reaches, each as a pure function, with the proof that the program computes it, and the step from a pure law to the given statement. Conditions: none.
-/
import Derived.Test.YtammomfkamhhdaaSw
import Derived.Test.YtammomfkamhhdaaRows
set_option linter.unusedVariables false
set_option maxRecDepth 100000
set_option maxHeartbeats 4000000
namespace Go.Proofs.Ytammomfkamhhdaa
open Go Sl

structure L1Cur where
  b : List UInt8
  i : Int
  h : Int
  deriving DecidableEq
instance : Enc L1Cur := ⟨3, fun x => [lc x.b, .int .i64 x.i, .int .i64 x.h], fun _ => rfl, by decide⟩
instance : Dec L1Cur where
  sh := [.sl 1 (Dec.sh UInt8), .int .i64, .int .i64]
  ok x := okl x.b ∧ okI x.i ∧ okI x.h
  dec cs h := by
    obtain ⟨c0, r0, rfl, h0, h⟩ := h.cons_inv
    obtain ⟨c1, r1, rfl, h1, h⟩ := h.cons_inv
    obtain ⟨c2, r2, rfl, h2, h⟩ := h.cons_inv
    obtain rfl := h.nil_inv
    obtain ⟨y0, rfl, w0⟩ := h0.sl_inv (α := UInt8) rfl
    obtain ⟨y1, rfl, w1_⟩ := h1.int_inv
    have w1 := okI_of w1_
    obtain ⟨y2, rfl, w2_⟩ := h2.int_inv
    have w2 := okI_of w2_
    exact ⟨{ b := y0, i := y1, h := y2 : L1Cur }, rfl, w0, w1, w2⟩
structure Space where
  Owner : List Int
  deriving DecidableEq
instance : Enc Space := ⟨1, fun x => [lc x.Owner], fun _ => rfl, by decide⟩
instance : Dec Space where
  sh := [.sl 1 (Dec.sh Int)]
  ok x := okl x.Owner
  dec cs h := by
    obtain ⟨c0, r0, rfl, h0, h⟩ := h.cons_inv
    obtain rfl := h.nil_inv
    obtain ⟨y0, rfl, w0⟩ := h0.sl_inv (α := Int) rfl
    exact ⟨{ Owner := y0 : Space }, rfl, w0⟩

theorem hMix : Try.prog.follows .mixedOrders = true := by kernel_rfl
theorem ke22 : elemB Try.prog 22 = some (5, 1, 1) := by kernel_rfl
theorem kk5 : kindB Try.prog 5 = some (false, 1) := by kernel_rfl
theorem ki5 : intB Try.prog 5 = some .u8 := by kernel_rfl
theorem ki3 : intB Try.prog 3 = some .i64 := by kernel_rfl
theorem kz69 : zeroB Try.prog 69 = some (.agg #[.slice none 0 0, .int .i64 (0 : Int), .int .i64 (0 : Int)]) := by kernel_rfl
theorem kp69 : placesB Try.prog 69 = some [(0, 1), (1, 1), (2, 1)] := by kernel_rfl
theorem kf69_2 : fieldB Try.prog 69 2 = some 2 := by kernel_rfl
theorem kk3 : kindB Try.prog 3 = some (false, 1) := by kernel_rfl
theorem kf69_1 : fieldB Try.prog 69 1 = some 1 := by kernel_rfl
theorem kf69_0 : fieldB Try.prog 69 0 = some 0 := by kernel_rfl
theorem kk22 : kindB Try.prog 22 = some (false, 1) := by kernel_rfl
theorem kc50 : callB Try.prog 50 = true := by kernel_rfl
theorem kf26_0 : fieldB Try.prog 26 0 = some 0 := by kernel_rfl
theorem kk24 : kindB Try.prog 24 = some (false, 1) := by kernel_rfl
theorem ke24 : elemB Try.prog 24 = some (3, 1, 8) := by kernel_rfl
theorem kc31 : callB Try.prog 31 = true := by kernel_rfl
theorem kz26 : zeroB Try.prog 26 = some (.agg #[.slice none 0 0]) := by kernel_rfl
theorem kz3 : zeroB Try.prog 3 = some (.int .i64 (0 : Int)) := by kernel_rfl
theorem kp26 : placesB Try.prog 26 = some [(0, 1)] := by kernel_rfl
theorem kk26 : kindB Try.prog 26 = some (true, 1) := by kernel_rfl
theorem kc10 : callB Try.prog 10 = true := by kernel_rfl
theorem kc30 : callB Try.prog 30 = true := by kernel_rfl
theorem kc33 : callB Try.prog 33 = true := by kernel_rfl
theorem kc8 : callB Try.prog 8 = true := by kernel_rfl
theorem kc34 : callB Try.prog 34 = true := by kernel_rfl
theorem kc48 : callB Try.prog 48 = true := by kernel_rfl
theorem kc26 : callB Try.prog 26 = true := by kernel_rfl
theorem kc24 : callB Try.prog 24 = true := by kernel_rfl
theorem kc25 : callB Try.prog 25 = true := by kernel_rfl
theorem kc32 : callB Try.prog 32 = true := by kernel_rfl
theorem kc49 : callB Try.prog 49 = true := by kernel_rfl
theorem kc27 : callB Try.prog 27 = true := by kernel_rfl
theorem kc28 : callB Try.prog 28 = true := by kernel_rfl
theorem kc29 : callB Try.prog 29 = true := by kernel_rfl
theorem kc12 : callB Try.prog 12 = true := by kernel_rfl
theorem kc5 : callB Try.prog 5 = true := by kernel_rfl
theorem kc6 : callB Try.prog 6 = true := by kernel_rfl
theorem kc7 : callB Try.prog 7 = true := by kernel_rfl
theorem kb4 : Try.prog.underlying 4 = some .bool := by kernel_rfl
theorem kc9 : callB Try.prog 9 = true := by kernel_rfl
theorem kc11 : callB Try.prog 11 = true := by kernel_rfl
theorem kc13 : callB Try.prog 13 = true := by kernel_rfl
theorem kc14 : callB Try.prog 14 = true := by kernel_rfl
theorem kc15 : callB Try.prog 15 = true := by kernel_rfl
theorem kc16 : callB Try.prog 16 = true := by kernel_rfl
theorem hu22 : Try.prog.underlying 22 = some (.slice 5) := by kernel_rfl
theorem hs22 : shB Try.prog 20 22 = some ([.sl 1 (Dec.sh UInt8)]) := by kernel_rfl

/-- loop.example/g00950/laws.big -/
noncomputable def laws_big (code : List UInt8) : Option Bool :=
  some (decide (((code.length : Nat) : Int) > (1048576 : Int)))

theorem laws_big_con (code : List UInt8) (V_code0 : Value) (r : Bool) (hm : laws_big code = some r) :
    Con Try.prog 5 [V_code0] [] [(V_code0, lc code)] (fun _ : Unit => .bool r) (fun _ => []) := by
  refine Con.intro (args := [V_code0]) (n := 6) (val := fun r (_ : Unit) => .bool r) (post := fun _ _ => []) (m := laws_big code) Try.func5 rfl rfl rfl hm ?_
  intro w S hrd
  have HB_V_code0 := hrd _ (.head _)
  clear hrd
  unfold laws_big
  refine TW.seq ?_
  refine TW.region ?_
  refine TO.y (Y.assign rfl) rfl rfl rfl ?_
  refine TO.nil ?_
  refine TE.next ?_
  refine TW.seq ?_
  refine TW.region ?_
  refine TO.y (Y.move rfl) rfl rfl rfl ?_
  refine TO.y (Y.len (l := code) ke22 (Base.can HB_V_code0) rfl) rfl rfl rfl ?_
  refine TO.y (Y.gtr rfl rfl) rfl rfl rfl ?_
  refine TO.y (Y.assign rfl) rfl rfl rfl ?_
  refine TO.nil ?_
  refine TE.next ?_
  refine TW.ret ?_
  exact TE.leaf fun _ _ hf_ hs_ => ret_any (rs := [.tmp 2]) (vs := [.bool (decide (((code.length : Nat) : Int) > (1048576 : Int)))]) (.inl rfl) rfl ⟨rfl, trivial⟩ hf_ hs_ ⟨(), rfl, hs_.pulls [] rfl⟩

/-- loop.example/g00950/spec.l1New -/
noncomputable def spec_l1New (code : List UInt8) : Option L1Cur :=
  bindC (loopO (fun (S1 : Int × Int) => (if (decide (S1.2 < ((code.length : Nat) : Int))) = true then (some (decide (S1.2 < (4000 : Int))))
  else (some false)).bind (fun (T5 : Bool) =>
  if T5 = true then ((idx code S1.2).bind fun E9 =>
  some (.go (iand .i64 (IntKind.i64.wrap (IntKind.i64.wrap (IntKind.i64.wrap (S1.1 * (131 : Int)) + (IntKind.i64.wrap ((E9.toNat : Nat) : Int))) + (7 : Int))) (1073741823 : Int), IntKind.i64.wrap (S1.2 + (1 : Int)))))
  else (some (.done (.go S1.1)))))
  (IntKind.i64.wrap ((10101 : Int) + ((code.length : Nat) : Int)), (0 : Int)))
  (fun (T3 : Int) => some ({ b := code, i := (0 : Int), h := T3 : L1Cur }))

theorem spec_l1New_con (code : List UInt8) (V_code0 : Value) (r : L1Cur) (hm : spec_l1New code = some r) :
    Con Try.prog 24 [V_code0] [] [(V_code0, lc code)] (fun X : Nat => .pointer (some ⟨X, 0, none⟩)) (fun X => [.box X 69 [V_code0, .int .i64 r.i, .int .i64 r.h]]) := by
  refine Con.intro (args := [V_code0]) (n := 32) (val := fun _ (X : Nat) => .pointer (some ⟨X, 0, none⟩)) (post := fun r X => [.box X 69 [V_code0, .int .i64 r.i, .int .i64 r.h]]) (m := spec_l1New code) Try.func24 rfl rfl rfl hm ?_
  intro w S hrd
  have HB_V_code0 := hrd _ (.head _)
  clear hrd
  unfold spec_l1New
  refine TW.seq ?_
  refine TW.region ?_
  refine TO.y (Y.assign rfl) rfl rfl rfl ?_
  refine TO.nil ?_
  refine TE.next ?_
  refine TW.seq ?_
  refine TW.region ?_
  refine TO.y (Y.move rfl) rfl rfl rfl ?_
  refine TO.y (Y.len (l := code) ke22 (Base.can HB_V_code0) rfl) rfl rfl rfl ?_
  refine TO.y (Y.add rfl rfl) rfl rfl rfl ?_
  refine TO.y (Y.assign rfl) rfl rfl rfl ?_
  refine TO.nil ?_
  refine TE.next ?_
  refine TW.seq ?_
  refine TW.seq ?_
  refine TW.region ?_
  refine TO.y (Y.assign rfl) rfl rfl rfl ?_
  refine TO.nil ?_
  refine TE.next ?_
  refine TW.joinX (τ := Int) (X := Unit) (fun T _ => [(0, V_code0), (3, .int .i64 T)]) (fun _ _ => []) ?_ (fun T3 X4 => ?_)
  · refine TW.block ?_
    refine TW.loopX (σ := Int × Int) (X := Unit) (fun T _ => [(0, V_code0), (3, .int .i64 T.1), (4, .int .i64 T.2)]) (fun _ _ => []) () [] ⟨rfl, rfl, rfl, trivial⟩ rfl (fun S1 X2 => ?_)
    refine TW.seq ?_
    refine TW.seq ?_
    refine TW.joinBX (τ := Bool) (X := Unit) (fun T _ => [(0, V_code0), (3, .int .i64 S1.1), (4, .int .i64 S1.2), (15, .bool T)]) (fun _ _ => []) ?_ (fun T5 X6 => ?_)
    · refine TW.region ?_
      refine TO.y (Y.move rfl) rfl rfl rfl ?_
      refine TO.y (Y.move rfl) rfl rfl rfl ?_
      refine TO.y (Y.len (l := code) ke22 (Base.can HB_V_code0) rfl) rfl rfl rfl ?_
      refine TO.y (Y.lss rfl rfl) rfl rfl rfl ?_
      refine TO.y (Y.move rfl) rfl rfl rfl ?_
      refine TO.ite (b := decide (S1.2 < ((code.length : Nat) : Int))) (fun H7 => ?_) (fun H7 => ?_)
      · refine TO.y (Y.move rfl) (Gd.at 4 true 12 (decide (S1.2 < ((code.length : Nat) : Int))) rfl rfl rfl (beq_tt H7)) rfl rfl ?_
        refine TO.y (Y.lss rfl rfl) (Gd.at 4 true 12 (decide (S1.2 < ((code.length : Nat) : Int))) rfl rfl rfl (beq_tt H7)) rfl rfl ?_
        refine TO.y (Y.pick_t H7 rfl rfl) rfl rfl rfl ?_
        refine TO.nil ?_
        exact TE.jb_go () [] ⟨rfl, rfl, rfl, rfl, trivial⟩ rfl
      · refine TO.off (Gd.at 4 true 12 (decide (S1.2 < ((code.length : Nat) : Int))) rfl rfl rfl (beq_ft H7)) rfl rfl ?_
        refine TO.off (Gd.at 4 true 12 (decide (S1.2 < ((code.length : Nat) : Int))) rfl rfl rfl (beq_ft H7)) rfl rfl ?_
        refine TO.y (Y.pick_f H7 rfl rfl) rfl rfl rfl ?_
        refine TO.nil ?_
        exact TE.jb_go () [] ⟨rfl, rfl, rfl, rfl, trivial⟩ rfl
    · refine TE.next ?_
      refine TW.cond rfl (fun H8 => ?_) (fun H8 => ?_)
      · refine TW.skip ?_
        refine TE.next ?_
        refine TW.seq ?_
        refine TW.block ?_
        refine TW.region ?_
        refine TO.y (Y.move rfl) rfl rfl rfl ?_
        refine TO.y (Y.mul rfl rfl) rfl rfl rfl ?_
        refine TO.y (Y.move rfl) rfl rfl rfl ?_
        refine TO.y (Y.move rfl) rfl rfl rfl ?_
        refine TO.bind fun E9 H10 => ?_
        refine TO.y (Y.index ke22 (Base.can HB_V_code0) H10 rfl rfl) rfl rfl rfl ?_
        refine TO.y (Y.load_el (us := [.int .u8 ((E9.toNat : Nat) : Int)]) (u := .int .u8 ((E9.toNat : Nat) : Int)) kk5 rfl (Base.can HB_V_code0) (idx_get H10).2.2 rfl rfl rfl rfl rfl) rfl rfl rfl ?_
        refine TO.y (Y.conv ki5 ki3 rfl) rfl rfl rfl ?_
        refine TO.y (Y.add rfl rfl) rfl rfl rfl ?_
        refine TO.y (Y.add rfl rfl) rfl rfl rfl ?_
        refine TO.y (Y.and rfl rfl) rfl rfl rfl ?_
        refine TO.y (Y.assign rfl) rfl rfl rfl ?_
        refine TO.nil ?_
        refine TE.block_normal ?_
        refine TE.next ?_
        refine TW.region ?_
        refine TO.y (Y.move rfl) rfl rfl rfl ?_
        refine TO.y (Y.add rfl rfl) rfl rfl rfl ?_
        refine TO.y (Y.assign rfl) rfl rfl rfl ?_
        refine TO.nil ?_
        exact TE.lp_go () [] ⟨rfl, rfl, rfl, trivial⟩ rfl
      · refine TW.exit ?_
        refine TE.then_exit ?_
        refine TE.lp_exit ?_
        refine TE.block_exit ?_
        exact TE.jn_go () [] ⟨rfl, rfl, trivial⟩ rfl
  · refine TE.next ?_
    refine TW.seq ?_
    refine TW.region ?_
    refine TO.y (Y.move rfl) rfl rfl rfl ?_
    refine TO.y (Y.move rfl) rfl rfl rfl ?_
    refine TO.y (Y.build (cells := [V_code0, .int .i64 (0 : Int), .int .i64 T3]) [(0, [V_code0]), (2, [.int .i64 T3])] kp69 kz69 ⟨rfl, ⟨_, rfl, (Cel.one (One.can (Base.can HB_V_code0)))⟩, ⟨rfl, ⟨_, rfl, (Cel.plain rfl rfl)⟩, trivial⟩⟩ rfl) rfl rfl rfl ?_
    refine TO.ef (Ef.box rfl (Cel.agg ⟨(One.can (Base.can HB_V_code0)), (One.plain rfl), (One.plain rfl), trivial⟩)) rfl rfl rfl (fun B11 => ?_)
    refine TO.y (Y.assign rfl) rfl rfl rfl ?_
    refine TO.nil ?_
    refine TE.next ?_
    refine TW.ret ?_
    exact TE.leaf fun _ _ hf_ hs_ => ret_any (rs := [.tmp 2]) (vs := [.pointer (some ⟨B11, 0, none⟩)]) (.inl rfl) rfl ⟨rfl, trivial⟩ hf_ hs_ ⟨B11, rfl, hs_.pulls [0] rfl⟩

/-- loop.example/g00950/spec.l1Byte -/
noncomputable def spec_l1Byte (c : L1Cur) : Option (Int × L1Cur) :=
  bindC (if (decide (c.i < ((c.b.length : Nat) : Int))) = true then ((idx c.b c.i).bind fun E4 =>
  some (.go (iand .i64 (IntKind.i64.wrap (iand .i64 (ixor .i64 (ishr .i64 (IntKind.i64.wrap (IntKind.i64.wrap (c.h * (6364136223846793005 : Int)) + (1442695040888963407 : Int))) (33 : Int)) (ishr .i64 (IntKind.i64.wrap (IntKind.i64.wrap (c.h * (6364136223846793005 : Int)) + (1442695040888963407 : Int))) (45 : Int))) (255 : Int) + (IntKind.i64.wrap ((E4.toNat : Nat) : Int)))) (255 : Int), IntKind.i64.wrap (c.i + (1 : Int)))))
  else (some (.go (iand .i64 (ixor .i64 (ishr .i64 (IntKind.i64.wrap (IntKind.i64.wrap (c.h * (6364136223846793005 : Int)) + (1442695040888963407 : Int))) (33 : Int)) (ishr .i64 (IntKind.i64.wrap (IntKind.i64.wrap (c.h * (6364136223846793005 : Int)) + (1442695040888963407 : Int))) (45 : Int))) (255 : Int), c.i))))
  (fun (T1 : Int × Int) => some (T1.1, { b := c.b, i := T1.2, h := IntKind.i64.wrap (IntKind.i64.wrap (c.h * (6364136223846793005 : Int)) + (1442695040888963407 : Int)) : L1Cur }))

theorem spec_l1Byte_con (c : L1Cur) (V_c0 : Value) (B_c : Nat) (r : Int × L1Cur) (hm : spec_l1Byte c = some r) :
    Con Try.prog 50 [.pointer (some ⟨B_c, 0, none⟩)] [.box B_c 69 [V_c0, .int .i64 c.i, .int .i64 c.h]] [(V_c0, lc c.b)] (fun _ : Unit => .int .i64 r.1) (fun _ => [.box B_c 69 [V_c0, .int .i64 r.2.i, .int .i64 r.2.h]]) := by
  refine Con.intro (args := [.pointer (some ⟨B_c, 0, none⟩)]) (n := 58) (val := fun r (_ : Unit) => .int .i64 r.1) (post := fun r _ => [.box B_c 69 [V_c0, .int .i64 r.2.i, .int .i64 r.2.h]]) (m := spec_l1Byte c) Try.func50 rfl rfl rfl hm ?_
  intro w S hrd
  have HB_V_c0 := hrd _ (.head _)
  clear hrd
  unfold spec_l1Byte
  refine TW.seq ?_
  refine TW.region ?_
  refine TO.y (Y.assign rfl) rfl rfl rfl ?_
  refine TO.nil ?_
  refine TE.next ?_
  refine TW.seq ?_
  refine TW.region ?_
  refine TO.y (Y.move rfl) rfl rfl rfl ?_
  refine TO.y (Y.move rfl) rfl rfl rfl ?_
  refine TO.y (Y.nilCheck rfl) rfl rfl rfl ?_
  refine TO.y (Y.field_box kf69_2 rfl rfl) rfl rfl rfl ?_
  refine TO.y (Y.load_box (v := .int .i64 c.h) 0 kk3 rfl rfl rfl) rfl rfl rfl ?_
  refine TO.y (Y.mul rfl rfl) rfl rfl rfl ?_
  refine TO.y (Y.add rfl rfl) rfl rfl rfl ?_
  refine TO.y (Y.nilCheck rfl) rfl rfl rfl ?_
  refine TO.y (Y.field_box kf69_2 rfl rfl) rfl rfl rfl ?_
  refine TO.ef0 (Ef.store_box (us := [.int .i64 (IntKind.i64.wrap (IntKind.i64.wrap (c.h * (6364136223846793005 : Int)) + (1442695040888963407 : Int)))]) (vs' := [V_c0, .int .i64 c.i, .int .i64 (IntKind.i64.wrap (IntKind.i64.wrap (c.h * (6364136223846793005 : Int)) + (1442695040888963407 : Int)))]) (is' := [.box B_c 69 [V_c0, .int .i64 c.i, .int .i64 (IntKind.i64.wrap (IntKind.i64.wrap (c.h * (6364136223846793005 : Int)) + (1442695040888963407 : Int)))]]) 0 kk3 rfl rfl rfl (Cel.plain rfl rfl) rfl rfl rfl rfl) rfl rfl (fun _ => ?_)
  refine TO.nil ?_
  refine TE.next ?_
  refine TW.seq ?_
  refine TW.draw (isH := [.box B_c 69 [V_c0, .int .i64 c.i, .int .i64 (IntKind.i64.wrap (IntKind.i64.wrap (c.h * (6364136223846793005 : Int)) + (1442695040888963407 : Int)))]]) hMix ?_
  refine TA.y (listed' := #[true, false, false, false, false, false, false, false, false, false, false, false, false]) 0 [0] rfl (Y.move rfl) rfl rfl rfl (by kernel_rfl) (by kernel_rfl) (by kernel_rfl) rfl rfl ?_
  refine TA.y (listed' := #[true, true, false, false, false, false, false, false, false, false, false, false, false]) 1 [0] rfl (Y.nilCheck rfl) rfl rfl rfl (by kernel_rfl) (by kernel_rfl) (by kernel_rfl) rfl rfl ?_
  refine TA.y (listed' := #[true, true, true, false, false, false, false, false, false, false, false, false, false]) 2 [0] rfl (Y.field_box kf69_2 rfl rfl) rfl rfl rfl (by kernel_rfl) (by kernel_rfl) (by kernel_rfl) rfl rfl ?_
  refine TA.y (listed' := #[true, true, true, true, false, false, false, false, false, false, false, false, false]) 3 [0] rfl (Y.load_box (v := .int .i64 (IntKind.i64.wrap (IntKind.i64.wrap (c.h * (6364136223846793005 : Int)) + (1442695040888963407 : Int)))) 0 kk3 rfl rfl rfl) rfl rfl rfl (by kernel_rfl) (by kernel_rfl) (by kernel_rfl) rfl rfl ?_
  refine TA.y (listed' := #[true, true, true, true, true, false, false, false, false, false, false, false, false]) 4 [0] rfl (Y.shr (by decide) rfl rfl) rfl rfl rfl (by kernel_rfl) (by kernel_rfl) (by kernel_rfl) rfl rfl ?_
  refine TA.y (listed' := #[true, true, true, true, true, true, false, false, false, false, false, false, false]) 5 [0] rfl (Y.move rfl) rfl rfl rfl (by kernel_rfl) (by kernel_rfl) (by kernel_rfl) rfl rfl ?_
  refine TA.y (listed' := #[true, true, true, true, true, true, true, false, false, false, false, false, false]) 6 [0] rfl (Y.nilCheck rfl) rfl rfl rfl (by kernel_rfl) (by kernel_rfl) (by kernel_rfl) rfl rfl ?_
  refine TA.y (listed' := #[true, true, true, true, true, true, true, true, false, false, false, false, false]) 7 [0] rfl (Y.field_box kf69_2 rfl rfl) rfl rfl rfl (by kernel_rfl) (by kernel_rfl) (by kernel_rfl) rfl rfl ?_
  refine TA.y (listed' := #[true, true, true, true, true, true, true, true, true, false, false, false, false]) 8 [0] rfl (Y.load_box (v := .int .i64 (IntKind.i64.wrap (IntKind.i64.wrap (c.h * (6364136223846793005 : Int)) + (1442695040888963407 : Int)))) 0 kk3 rfl rfl rfl) rfl rfl rfl (by kernel_rfl) (by kernel_rfl) (by kernel_rfl) rfl rfl ?_
  refine TA.y (listed' := #[true, true, true, true, true, true, true, true, true, true, false, false, false]) 9 [0] rfl (Y.shr (by decide) rfl rfl) rfl rfl rfl (by kernel_rfl) (by kernel_rfl) (by kernel_rfl) rfl rfl ?_
  refine TA.y (listed' := #[true, true, true, true, true, true, true, true, true, true, true, false, false]) 10 [0] rfl (Y.xor rfl rfl) rfl rfl rfl (by kernel_rfl) (by kernel_rfl) (by kernel_rfl) rfl rfl ?_
  refine TA.y (listed' := #[true, true, true, true, true, true, true, true, true, true, true, true, false]) 11 [0] rfl (Y.and rfl rfl) rfl rfl rfl (by kernel_rfl) (by kernel_rfl) (by kernel_rfl) rfl rfl ?_
  refine TA.y (listed' := #[true, true, true, true, true, true, true, true, true, true, true, true, true]) 12 [0] rfl (Y.assign rfl) rfl rfl rfl (by kernel_rfl) (by kernel_rfl) (by kernel_rfl) rfl rfl ?_
  refine TA.nil (by kernel_rfl) ?_
  refine TE.next ?_
  refine TW.seq ?_
  refine TW.seq ?_
  refine TW.draw (isH := [.box B_c 69 [V_c0, .int .i64 c.i, .int .i64 (IntKind.i64.wrap (IntKind.i64.wrap (c.h * (6364136223846793005 : Int)) + (1442695040888963407 : Int)))]]) hMix ?_
  refine TA.y (listed' := #[true, false, false, false, false, false, false, false, false, false]) 0 [0] rfl (Y.move rfl) rfl rfl rfl (by kernel_rfl) (by kernel_rfl) (by kernel_rfl) rfl rfl ?_
  refine TA.y (listed' := #[true, true, false, false, false, false, false, false, false, false]) 1 [0] rfl (Y.nilCheck rfl) rfl rfl rfl (by kernel_rfl) (by kernel_rfl) (by kernel_rfl) rfl rfl ?_
  refine TA.y (listed' := #[true, true, true, false, false, false, false, false, false, false]) 2 [0] rfl (Y.field_box kf69_1 rfl rfl) rfl rfl rfl (by kernel_rfl) (by kernel_rfl) (by kernel_rfl) rfl rfl ?_
  refine TA.y (listed' := #[true, true, true, true, false, false, false, false, false, false]) 3 [0] rfl (Y.load_box (v := .int .i64 c.i) 0 kk3 rfl rfl rfl) rfl rfl rfl (by kernel_rfl) (by kernel_rfl) (by kernel_rfl) rfl rfl ?_
  refine TA.y (listed' := #[true, true, true, true, true, false, false, false, false, false]) 4 [0] rfl (Y.move rfl) rfl rfl rfl (by kernel_rfl) (by kernel_rfl) (by kernel_rfl) rfl rfl ?_
  refine TA.y (listed' := #[true, true, true, true, true, true, false, false, false, false]) 5 [0] rfl (Y.nilCheck rfl) rfl rfl rfl (by kernel_rfl) (by kernel_rfl) (by kernel_rfl) rfl rfl ?_
  refine TA.y (listed' := #[true, true, true, true, true, true, true, false, false, false]) 6 [0] rfl (Y.field_box kf69_0 rfl rfl) rfl rfl rfl (by kernel_rfl) (by kernel_rfl) (by kernel_rfl) rfl rfl ?_
  refine TA.y (listed' := #[true, true, true, true, true, true, true, true, false, false]) 7 [0] rfl (Y.load_box (v := V_c0) 0 kk22 rfl rfl rfl) rfl rfl rfl (by kernel_rfl) (by kernel_rfl) (by kernel_rfl) rfl rfl ?_
  refine TA.y (listed' := #[true, true, true, true, true, true, true, true, true, false]) 8 [0] rfl (Y.len (l := c.b) ke22 (Base.can HB_V_c0) rfl) rfl rfl rfl (by kernel_rfl) (by kernel_rfl) (by kernel_rfl) rfl rfl ?_
  refine TA.y (listed' := #[true, true, true, true, true, true, true, true, true, true]) 9 [0] rfl (Y.lss rfl rfl) rfl rfl rfl (by kernel_rfl) (by kernel_rfl) (by kernel_rfl) rfl rfl ?_
  refine TA.nil (by kernel_rfl) ?_
  refine TE.next ?_
  refine TW.joinX (τ := Int × Int) (X := Unit) (fun T _ => [(3, .int .i64 T.1)]) (fun T _ => [.box B_c 69 [V_c0, .int .i64 T.2, .int .i64 (IntKind.i64.wrap (IntKind.i64.wrap (c.h * (6364136223846793005 : Int)) + (1442695040888963407 : Int)))]]) ?_ (fun T1 X2 => ?_)
  · refine TW.cond rfl (fun H3 => ?_) (fun H3 => ?_)
    · refine TW.seq ?_
      refine TW.draw (isH := [.box B_c 69 [V_c0, .int .i64 c.i, .int .i64 (IntKind.i64.wrap (IntKind.i64.wrap (c.h * (6364136223846793005 : Int)) + (1442695040888963407 : Int)))]]) hMix ?_
      refine TA.y (listed' := #[true, false, false, false, false, false, false, false, false, false, false, false, false, false, false]) 0 [0] rfl (Y.move rfl) rfl rfl rfl (by kernel_rfl) (by kernel_rfl) (by kernel_rfl) rfl rfl ?_
      refine TA.y (listed' := #[true, true, false, false, false, false, false, false, false, false, false, false, false, false, false]) 1 [0] rfl (Y.move rfl) rfl rfl rfl (by kernel_rfl) (by kernel_rfl) (by kernel_rfl) rfl rfl ?_
      refine TA.y (listed' := #[true, true, true, false, false, false, false, false, false, false, false, false, false, false, false]) 2 [0] rfl (Y.nilCheck rfl) rfl rfl rfl (by kernel_rfl) (by kernel_rfl) (by kernel_rfl) rfl rfl ?_
      refine TA.y (listed' := #[true, true, true, true, false, false, false, false, false, false, false, false, false, false, false]) 3 [0] rfl (Y.field_box kf69_0 rfl rfl) rfl rfl rfl (by kernel_rfl) (by kernel_rfl) (by kernel_rfl) rfl rfl ?_
      refine TA.y (listed' := #[true, true, true, true, true, false, false, false, false, false, false, false, false, false, false]) 4 [0] rfl (Y.load_box (v := V_c0) 0 kk22 rfl rfl rfl) rfl rfl rfl (by kernel_rfl) (by kernel_rfl) (by kernel_rfl) rfl rfl ?_
      refine TA.y (listed' := #[true, true, true, true, true, true, false, false, false, false, false, false, false, false, false]) 5 [0] rfl (Y.move rfl) rfl rfl rfl (by kernel_rfl) (by kernel_rfl) (by kernel_rfl) rfl rfl ?_
      refine TA.y (listed' := #[true, true, true, true, true, true, true, false, false, false, false, false, false, false, false]) 6 [0] rfl (Y.nilCheck rfl) rfl rfl rfl (by kernel_rfl) (by kernel_rfl) (by kernel_rfl) rfl rfl ?_
      refine TA.y (listed' := #[true, true, true, true, true, true, true, true, false, false, false, false, false, false, false]) 7 [0] rfl (Y.field_box kf69_1 rfl rfl) rfl rfl rfl (by kernel_rfl) (by kernel_rfl) (by kernel_rfl) rfl rfl ?_
      refine TA.y (listed' := #[true, true, true, true, true, true, true, true, true, false, false, false, false, false, false]) 8 [0] rfl (Y.load_box (v := .int .i64 c.i) 0 kk3 rfl rfl rfl) rfl rfl rfl (by kernel_rfl) (by kernel_rfl) (by kernel_rfl) rfl rfl ?_
      refine TA.bind fun E4 H5 => ?_
      refine TA.y (listed' := #[true, true, true, true, true, true, true, true, true, true, false, false, false, false, false]) 9 [0] rfl (Y.index ke22 (Base.can HB_V_c0) H5 rfl rfl) rfl rfl rfl (by kernel_rfl) (by kernel_rfl) (by kernel_rfl) rfl rfl ?_
      refine TA.y (listed' := #[true, true, true, true, true, true, true, true, true, true, true, false, false, false, false]) 10 [0] rfl (Y.load_el (us := [.int .u8 ((E4.toNat : Nat) : Int)]) (u := .int .u8 ((E4.toNat : Nat) : Int)) kk5 rfl (Base.can HB_V_c0) (idx_get H5).2.2 rfl rfl rfl rfl rfl) rfl rfl rfl (by kernel_rfl) (by kernel_rfl) (by kernel_rfl) rfl rfl ?_
      refine TA.y (listed' := #[true, true, true, true, true, true, true, true, true, true, true, true, false, false, false]) 11 [0] rfl (Y.conv ki5 ki3 rfl) rfl rfl rfl (by kernel_rfl) (by kernel_rfl) (by kernel_rfl) rfl rfl ?_
      refine TA.y (listed' := #[true, true, true, true, true, true, true, true, true, true, true, true, true, false, false]) 12 [0] rfl (Y.add rfl rfl) rfl rfl rfl (by kernel_rfl) (by kernel_rfl) (by kernel_rfl) rfl rfl ?_
      refine TA.y (listed' := #[true, true, true, true, true, true, true, true, true, true, true, true, true, true, false]) 13 [0] rfl (Y.and rfl rfl) rfl rfl rfl (by kernel_rfl) (by kernel_rfl) (by kernel_rfl) rfl rfl ?_
      refine TA.y (listed' := #[true, true, true, true, true, true, true, true, true, true, true, true, true, true, true]) 14 [0] rfl (Y.assign rfl) rfl rfl rfl (by kernel_rfl) (by kernel_rfl) (by kernel_rfl) rfl rfl ?_
      refine TA.nil (by kernel_rfl) ?_
      refine TE.next ?_
      refine TW.region ?_
      refine TO.y (Y.move rfl) rfl rfl rfl ?_
      refine TO.y (Y.move rfl) rfl rfl rfl ?_
      refine TO.y (Y.nilCheck rfl) rfl rfl rfl ?_
      refine TO.y (Y.field_box kf69_1 rfl rfl) rfl rfl rfl ?_
      refine TO.y (Y.load_box (v := .int .i64 c.i) 0 kk3 rfl rfl rfl) rfl rfl rfl ?_
      refine TO.y (Y.add rfl rfl) rfl rfl rfl ?_
      refine TO.y (Y.nilCheck rfl) rfl rfl rfl ?_
      refine TO.y (Y.field_box kf69_1 rfl rfl) rfl rfl rfl ?_
      refine TO.ef0 (Ef.store_box (us := [.int .i64 (IntKind.i64.wrap (c.i + (1 : Int)))]) (vs' := [V_c0, .int .i64 (IntKind.i64.wrap (c.i + (1 : Int))), .int .i64 (IntKind.i64.wrap (IntKind.i64.wrap (c.h * (6364136223846793005 : Int)) + (1442695040888963407 : Int)))]) (is' := [.box B_c 69 [V_c0, .int .i64 (IntKind.i64.wrap (c.i + (1 : Int))), .int .i64 (IntKind.i64.wrap (IntKind.i64.wrap (c.h * (6364136223846793005 : Int)) + (1442695040888963407 : Int)))]]) 0 kk3 rfl rfl rfl (Cel.plain rfl rfl) rfl rfl rfl rfl) rfl rfl (fun _ => ?_)
      refine TO.nil ?_
      exact TE.jn_go () [0] ⟨rfl, trivial⟩ rfl
    · refine TW.skip ?_
      exact TE.jn_go () [0] ⟨rfl, trivial⟩ rfl
  · refine TE.next ?_
    refine TW.seq ?_
    refine TW.region ?_
    refine TO.y (Y.move rfl) rfl rfl rfl ?_
    refine TO.y (Y.assign rfl) rfl rfl rfl ?_
    refine TO.nil ?_
    refine TE.next ?_
    refine TW.ret ?_
    exact TE.leaf fun _ _ hf_ hs_ => ret_any (rs := [.tmp 2]) (vs := [.int .i64 T1.1]) (.inl rfl) rfl ⟨rfl, trivial⟩ hf_ hs_ ⟨(), rfl, hs_.pulls [0] rfl⟩

/-- loop.example/g00950/spec.l1Below -/
noncomputable def spec_l1Below (c : L1Cur) (n : Int) : Option (Int × L1Cur) :=
  if (decide (n ≤ (0 : Int))) = true then (some ((0 : Int), c))
  else (if (decide (n ≤ (256 : Int))) = true then ((spec_l1Byte c).bind fun R3 =>
  (nz n).bind fun E6 =>
  some (Int.tmod R3.1 n, { b := c.b, i := R3.2.i, h := R3.2.h : L1Cur }))
  else ((spec_l1Byte c).bind fun R8 =>
  (spec_l1Byte ({ b := c.b, i := R8.2.i, h := R8.2.h : L1Cur })).bind fun R11 =>
  (spec_l1Byte ({ b := c.b, i := R11.2.i, h := R11.2.h : L1Cur })).bind fun R14 =>
  (spec_l1Byte ({ b := c.b, i := R14.2.i, h := R14.2.h : L1Cur })).bind fun R17 =>
  (nz n).bind fun E20 =>
  some (Int.tmod (IntKind.i64.wrap (IntKind.i64.wrap (IntKind.i64.wrap (IntKind.i64.wrap (R8.1 * (16777216 : Int)) + (IntKind.i64.wrap (R11.1 * (65536 : Int)))) + (IntKind.i64.wrap (R14.1 * (256 : Int)))) + R17.1)) n, { b := c.b, i := R17.2.i, h := R17.2.h : L1Cur })))

theorem spec_l1Below_con (c : L1Cur) (n : Int) (V_c0 : Value) (B_c : Nat) (r : Int × L1Cur) (hm : spec_l1Below c n = some r) :
    Con Try.prog 33 [.pointer (some ⟨B_c, 0, none⟩), .int .i64 n] [.box B_c 69 [V_c0, .int .i64 c.i, .int .i64 c.h]] [(V_c0, lc c.b)] (fun _ : Unit => .int .i64 r.1) (fun _ => [.box B_c 69 [V_c0, .int .i64 r.2.i, .int .i64 r.2.h]]) := by
  refine Con.intro (args := [.pointer (some ⟨B_c, 0, none⟩), .int .i64 n]) (n := 37) (val := fun r (_ : Unit) => .int .i64 r.1) (post := fun r _ => [.box B_c 69 [V_c0, .int .i64 r.2.i, .int .i64 r.2.h]]) (m := spec_l1Below c n) Try.func33 rfl rfl rfl hm ?_
  intro w S hrd
  have HB_V_c0 := hrd _ (.head _)
  clear hrd
  unfold spec_l1Below
  refine TW.seq ?_
  refine TW.region ?_
  refine TO.y (Y.assign rfl) rfl rfl rfl ?_
  refine TO.nil ?_
  refine TE.next ?_
  refine TW.seq ?_
  refine TW.seq ?_
  refine TW.region ?_
  refine TO.y (Y.move rfl) rfl rfl rfl ?_
  refine TO.y (Y.leq rfl rfl) rfl rfl rfl ?_
  refine TO.nil ?_
  refine TE.next ?_
  refine TW.cond rfl (fun H1 => ?_) (fun H1 => ?_)
  · refine TW.seq ?_
    refine TW.region ?_
    refine TO.y (Y.assign rfl) rfl rfl rfl ?_
    refine TO.nil ?_
    refine TE.next ?_
    refine TW.ret ?_
    refine TE.then_ret ?_
    exact TE.leaf fun _ _ hf_ hs_ => ret_any (rs := [.tmp 4]) (vs := [.int .i64 (0 : Int)]) (.inl rfl) rfl ⟨rfl, trivial⟩ hf_ hs_ ⟨(), rfl, hs_.pulls [0] rfl⟩
  · refine TW.skip ?_
    refine TE.next ?_
    refine TW.seq ?_
    refine TW.seq ?_
    refine TW.region ?_
    refine TO.y (Y.move rfl) rfl rfl rfl ?_
    refine TO.y (Y.leq rfl rfl) rfl rfl rfl ?_
    refine TO.nil ?_
    refine TE.next ?_
    refine TW.cond rfl (fun H2 => ?_) (fun H2 => ?_)
    · refine TW.seq ?_
      refine TW.region ?_
      refine TO.y (Y.move rfl) rfl rfl rfl ?_
      refine TO.bind fun R3 H4 => ?_
      refine TO.ef (Ef.call (rest := []) [0] (spec_l1Byte_con c V_c0 B_c R3 H4) kc50 rfl rfl ⟨(Base.can HB_V_c0), trivial⟩) rfl rfl rfl (fun _ => ?_)
      refine TO.y (Y.move rfl) rfl rfl rfl ?_
      refine TO.bind fun E6 H7 => ?_
      refine TO.y (Y.rem (nz_ne H7) rfl rfl) rfl rfl rfl ?_
      refine TO.y (Y.assign rfl) rfl rfl rfl ?_
      refine TO.nil ?_
      refine TE.next ?_
      refine TW.ret ?_
      refine TE.then_ret ?_
      exact TE.leaf fun _ _ hf_ hs_ => ret_any (rs := [.tmp 4]) (vs := [.int .i64 (Int.tmod R3.1 n)]) (.inl rfl) rfl ⟨rfl, trivial⟩ hf_ hs_ ⟨(), rfl, hs_.pulls [0] rfl⟩
    · refine TW.skip ?_
      refine TE.next ?_
      refine TW.seq ?_
      refine TW.region ?_
      refine TO.y (Y.move rfl) rfl rfl rfl ?_
      refine TO.bind fun R8 H9 => ?_
      refine TO.ef (Ef.call (rest := []) [0] (spec_l1Byte_con c V_c0 B_c R8 H9) kc50 rfl rfl ⟨(Base.can HB_V_c0), trivial⟩) rfl rfl rfl (fun _ => ?_)
      refine TO.y (Y.assign rfl) rfl rfl rfl ?_
      refine TO.nil ?_
      refine TE.next ?_
      refine TW.seq ?_
      refine TW.region ?_
      refine TO.y (Y.move rfl) rfl rfl rfl ?_
      refine TO.bind fun R11 H12 => ?_
      refine TO.ef (Ef.call (rest := []) [0] (spec_l1Byte_con ({ b := c.b, i := R8.2.i, h := R8.2.h : L1Cur }) V_c0 B_c R11 H12) kc50 rfl rfl ⟨(Base.can HB_V_c0), trivial⟩) rfl rfl rfl (fun _ => ?_)
      refine TO.y (Y.assign rfl) rfl rfl rfl ?_
      refine TO.nil ?_
      refine TE.next ?_
      refine TW.seq ?_
      refine TW.region ?_
      refine TO.y (Y.move rfl) rfl rfl rfl ?_
      refine TO.bind fun R14 H15 => ?_
      refine TO.ef (Ef.call (rest := []) [0] (spec_l1Byte_con ({ b := c.b, i := R11.2.i, h := R11.2.h : L1Cur }) V_c0 B_c R14 H15) kc50 rfl rfl ⟨(Base.can HB_V_c0), trivial⟩) rfl rfl rfl (fun _ => ?_)
      refine TO.y (Y.assign rfl) rfl rfl rfl ?_
      refine TO.nil ?_
      refine TE.next ?_
      refine TW.seq ?_
      refine TW.region ?_
      refine TO.y (Y.move rfl) rfl rfl rfl ?_
      refine TO.bind fun R17 H18 => ?_
      refine TO.ef (Ef.call (rest := []) [0] (spec_l1Byte_con ({ b := c.b, i := R14.2.i, h := R14.2.h : L1Cur }) V_c0 B_c R17 H18) kc50 rfl rfl ⟨(Base.can HB_V_c0), trivial⟩) rfl rfl rfl (fun _ => ?_)
      refine TO.y (Y.assign rfl) rfl rfl rfl ?_
      refine TO.nil ?_
      refine TE.next ?_
      refine TW.seq ?_
      refine TW.region ?_
      refine TO.y (Y.move rfl) rfl rfl rfl ?_
      refine TO.y (Y.mul rfl rfl) rfl rfl rfl ?_
      refine TO.y (Y.move rfl) rfl rfl rfl ?_
      refine TO.y (Y.mul rfl rfl) rfl rfl rfl ?_
      refine TO.y (Y.add rfl rfl) rfl rfl rfl ?_
      refine TO.y (Y.move rfl) rfl rfl rfl ?_
      refine TO.y (Y.mul rfl rfl) rfl rfl rfl ?_
      refine TO.y (Y.add rfl rfl) rfl rfl rfl ?_
      refine TO.y (Y.move rfl) rfl rfl rfl ?_
      refine TO.y (Y.add rfl rfl) rfl rfl rfl ?_
      refine TO.y (Y.move rfl) rfl rfl rfl ?_
      refine TO.bind fun E20 H21 => ?_
      refine TO.y (Y.rem (nz_ne H21) rfl rfl) rfl rfl rfl ?_
      refine TO.y (Y.assign rfl) rfl rfl rfl ?_
      refine TO.nil ?_
      refine TE.next ?_
      refine TW.ret ?_
      exact TE.leaf fun _ _ hf_ hs_ => ret_any (rs := [.tmp 4]) (vs := [.int .i64 (Int.tmod (IntKind.i64.wrap (IntKind.i64.wrap (IntKind.i64.wrap (IntKind.i64.wrap (R8.1 * (16777216 : Int)) + (IntKind.i64.wrap (R11.1 * (65536 : Int)))) + (IntKind.i64.wrap (R14.1 * (256 : Int)))) + R17.1)) n)]) (.inl rfl) rfl ⟨rfl, trivial⟩ hf_ hs_ ⟨(), rfl, hs_.pulls [0] rfl⟩

/-- loop.example/g00950/spec.l1In -/
noncomputable def spec_l1In (x : Int) (low : Int) (high : Int) : Option Bool :=
  (if (decide (x ≥ low)) = true then (some (decide (x ≤ high)))
  else (some false)).bind (fun (T1 : Bool) =>
  some T1)

theorem spec_l1In_con (x : Int) (low : Int) (high : Int)  (r : Bool) (hm : spec_l1In x low high = some r) :
    Con Try.prog 31 [.int .i64 x, .int .i64 low, .int .i64 high] [] [] (fun _ : Unit => .bool r) (fun _ => []) := by
  refine Con.intro (args := [.int .i64 x, .int .i64 low, .int .i64 high]) (n := 15) (val := fun r (_ : Unit) => .bool r) (post := fun _ _ => []) (m := spec_l1In x low high) Try.func31 rfl rfl rfl hm ?_
  intro w S _
  unfold spec_l1In
  refine TW.seq ?_
  refine TW.region ?_
  refine TO.y (Y.assign rfl) rfl rfl rfl ?_
  refine TO.nil ?_
  refine TE.next ?_
  refine TW.seq ?_
  refine TW.joinBX (τ := Bool) (X := Unit) (fun T _ => [(6, .bool T)]) (fun _ _ => []) ?_ (fun T1 X2 => ?_)
  · refine TW.region ?_
    refine TO.y (Y.move rfl) rfl rfl rfl ?_
    refine TO.y (Y.move rfl) rfl rfl rfl ?_
    refine TO.y (Y.geq rfl rfl) rfl rfl rfl ?_
    refine TO.y (Y.move rfl) rfl rfl rfl ?_
    refine TO.ite (b := decide (x ≥ low)) (fun H3 => ?_) (fun H3 => ?_)
    · refine TO.y (Y.move rfl) (Gd.at 3 true 10 (decide (x ≥ low)) rfl rfl rfl (beq_tt H3)) rfl rfl ?_
      refine TO.y (Y.move rfl) (Gd.at 3 true 10 (decide (x ≥ low)) rfl rfl rfl (beq_tt H3)) rfl rfl ?_
      refine TO.y (Y.leq rfl rfl) (Gd.at 3 true 10 (decide (x ≥ low)) rfl rfl rfl (beq_tt H3)) rfl rfl ?_
      refine TO.y (Y.pick_t H3 rfl rfl) rfl rfl rfl ?_
      refine TO.y (Y.assign rfl) rfl rfl rfl ?_
      refine TO.nil ?_
      exact TE.jb_go () [] ⟨rfl, trivial⟩ rfl
    · refine TO.off (Gd.at 3 true 10 (decide (x ≥ low)) rfl rfl rfl (beq_ft H3)) rfl rfl ?_
      refine TO.off (Gd.at 3 true 10 (decide (x ≥ low)) rfl rfl rfl (beq_ft H3)) rfl rfl ?_
      refine TO.off (Gd.at 3 true 10 (decide (x ≥ low)) rfl rfl rfl (beq_ft H3)) rfl rfl ?_
      refine TO.y (Y.pick_f H3 rfl rfl) rfl rfl rfl ?_
      refine TO.y (Y.assign rfl) rfl rfl rfl ?_
      refine TO.nil ?_
      exact TE.jb_go () [] ⟨rfl, trivial⟩ rfl
  · refine TE.next ?_
    refine TW.ret ?_
    exact TE.leaf fun _ _ hf_ hs_ => ret_any (rs := [.tmp 6]) (vs := [.bool T1]) (.inl rfl) rfl ⟨rfl, trivial⟩ hf_ hs_ ⟨(), rfl, hs_.pulls [] rfl⟩

/-- loop.example/g00950/spec.SpaceOk -/
noncomputable def spec_SpaceOk (s : Space) : Option Bool :=
  (spec_l1In ((s.Owner.length : Nat) : Int) (1 : Int) (40 : Int)).bind fun R2 =>
  if (!R2) = true then (some false)
  else (bindC (loopO (fun (S6 : Int) => if (decide (S6 < ((s.Owner.length : Nat) : Int))) = true then ((idx s.Owner S6).bind fun E11 =>
  (spec_l1In E11 (0 : Int) (99 : Int)).bind fun R13 =>
  if (!R13) = true then (some (.done (.done false)))
  else (some (.go (IntKind.i64.wrap (S6 + (1 : Int))))))
  else (some (.done (.go ()))))
  (0 : Int))
  (fun (T8 : Unit) => some true))

theorem spec_SpaceOk_con (s : Space) (V_s0 : Value) (r : Bool) (hm : spec_SpaceOk s = some r) :
    Con Try.prog 10 [.agg #[V_s0]] [] [(V_s0, lc s.Owner)] (fun _ : Unit => .bool r) (fun _ => []) := by
  refine Con.intro (args := [.agg #[V_s0]]) (n := 23) (val := fun r (_ : Unit) => .bool r) (post := fun _ _ => []) (m := spec_SpaceOk s) Try.func10 rfl rfl rfl hm ?_
  intro w S hrd
  have HB_V_s0 := hrd _ (.head _)
  clear hrd
  unfold spec_SpaceOk
  refine TW.seq ?_
  refine TW.region ?_
  refine TO.ef (Ef.box rfl (Cel.agg ⟨(One.can (Base.can HB_V_s0)), trivial⟩)) rfl rfl rfl (fun B1 => ?_)
  refine TO.y (Y.assign rfl) rfl rfl rfl ?_
  refine TO.nil ?_
  refine TE.next ?_
  refine TW.seq ?_
  refine TW.seq ?_
  refine TW.region ?_
  refine TO.y (Y.field_box kf26_0 rfl rfl) rfl rfl rfl ?_
  refine TO.y (Y.load_box (v := V_s0) 0 kk24 rfl rfl rfl) rfl rfl rfl ?_
  refine TO.y (Y.len (l := s.Owner) ke24 (Base.can HB_V_s0) rfl) rfl rfl rfl ?_
  refine TO.bind fun R2 H3 => ?_
  refine TO.ef (Ef.call (rest := [.box B1 26 [V_s0]]) [0] (spec_l1In_con ((s.Owner.length : Nat) : Int) (1 : Int) (40 : Int)  R2 H3) kc31 rfl rfl trivial) rfl rfl rfl (fun _ => ?_)
  refine TO.y (Y.not rfl) rfl rfl rfl ?_
  refine TO.nil ?_
  refine TE.next ?_
  refine TW.cond rfl (fun H5 => ?_) (fun H5 => ?_)
  · refine TW.seq ?_
    refine TW.region ?_
    refine TO.y (Y.assign rfl) rfl rfl rfl ?_
    refine TO.nil ?_
    refine TE.next ?_
    refine TW.ret ?_
    refine TE.then_ret ?_
    exact TE.leaf fun _ _ hf_ hs_ => ret_any (rs := [.tmp 2]) (vs := [.bool false]) (.inl rfl) rfl ⟨rfl, trivial⟩ hf_ hs_ ⟨(), rfl, hs_.pulls [] rfl⟩
  · refine TW.skip ?_
    refine TE.next ?_
    refine TW.seq ?_
    refine TW.seq ?_
    refine TW.region ?_
    refine TO.y (Y.assign rfl) rfl rfl rfl ?_
    refine TO.nil ?_
    refine TE.next ?_
    refine TW.joinX (τ := Unit) (X := Unit) (fun _ _ => []) (fun _ _ => []) ?_ (fun T8 X9 => ?_)
    · refine TW.block ?_
      refine TW.loopX (σ := Int) (X := Unit) (fun T _ => [(1, .pointer (some ⟨B1, 0, none⟩)), (3, .int .i64 T)]) (fun _ _ => [.box B1 26 [V_s0]]) () [0] ⟨rfl, rfl, trivial⟩ rfl (fun S6 X7 => ?_)
      refine TW.seq ?_
      refine TW.seq ?_
      refine TW.region ?_
      refine TO.y (Y.move rfl) rfl rfl rfl ?_
      refine TO.y (Y.field_box kf26_0 rfl rfl) rfl rfl rfl ?_
      refine TO.y (Y.load_box (v := V_s0) 0 kk24 rfl rfl rfl) rfl rfl rfl ?_
      refine TO.y (Y.len (l := s.Owner) ke24 (Base.can HB_V_s0) rfl) rfl rfl rfl ?_
      refine TO.y (Y.lss rfl rfl) rfl rfl rfl ?_
      refine TO.nil ?_
      refine TE.next ?_
      refine TW.cond rfl (fun H10 => ?_) (fun H10 => ?_)
      · refine TW.skip ?_
        refine TE.next ?_
        refine TW.seq ?_
        refine TW.block ?_
        refine TW.seq ?_
        refine TW.region ?_
        refine TO.y (Y.field_box kf26_0 rfl rfl) rfl rfl rfl ?_
        refine TO.y (Y.load_box (v := V_s0) 0 kk24 rfl rfl rfl) rfl rfl rfl ?_
        refine TO.y (Y.move rfl) rfl rfl rfl ?_
        refine TO.bind fun E11 H12 => ?_
        refine TO.y (Y.index ke24 (Base.can HB_V_s0) H12 rfl rfl) rfl rfl rfl ?_
        refine TO.y (Y.load_el (us := [.int .i64 E11]) (u := .int .i64 E11) kk3 rfl (Base.can HB_V_s0) (idx_get H12).2.2 rfl rfl rfl rfl rfl) rfl rfl rfl ?_
        refine TO.bind fun R13 H14 => ?_
        refine TO.ef (Ef.call (rest := [.box B1 26 [V_s0]]) [0] (spec_l1In_con E11 (0 : Int) (99 : Int)  R13 H14) kc31 rfl rfl trivial) rfl rfl rfl (fun _ => ?_)
        refine TO.y (Y.not rfl) rfl rfl rfl ?_
        refine TO.nil ?_
        refine TE.next ?_
        refine TW.cond rfl (fun H16 => ?_) (fun H16 => ?_)
        · refine TW.seq ?_
          refine TW.region ?_
          refine TO.y (Y.assign rfl) rfl rfl rfl ?_
          refine TO.nil ?_
          refine TE.next ?_
          refine TW.ret ?_
          refine TE.block_ret ?_
          refine TE.then_ret ?_
          refine TE.lp_ret ?_
          refine TE.block_ret ?_
          refine TE.jn_done ?_
          refine TE.then_ret ?_
          exact TE.leaf fun _ _ hf_ hs_ => ret_any (rs := [.tmp 2]) (vs := [.bool false]) (.inl rfl) rfl ⟨rfl, trivial⟩ hf_ hs_ ⟨(), rfl, hs_.pulls [] rfl⟩
        · refine TW.skip ?_
          refine TE.block_normal ?_
          refine TE.next ?_
          refine TW.region ?_
          refine TO.y (Y.move rfl) rfl rfl rfl ?_
          refine TO.y (Y.add rfl rfl) rfl rfl rfl ?_
          refine TO.y (Y.assign rfl) rfl rfl rfl ?_
          refine TO.nil ?_
          exact TE.lp_go () [0] ⟨rfl, rfl, trivial⟩ rfl
      · refine TW.exit ?_
        refine TE.then_exit ?_
        refine TE.lp_exit ?_
        refine TE.block_exit ?_
        exact TE.jn_go () [] trivial rfl
    · refine TE.next ?_
      refine TW.seq ?_
      refine TW.region ?_
      refine TO.y (Y.assign rfl) rfl rfl rfl ?_
      refine TO.nil ?_
      refine TE.next ?_
      refine TW.ret ?_
      exact TE.leaf fun _ _ hf_ hs_ => ret_any (rs := [.tmp 2]) (vs := [.bool true]) (.inl rfl) rfl ⟨rfl, trivial⟩ hf_ hs_ ⟨(), rfl, hs_.pulls [] rfl⟩

/-- loop.example/g00950/spec.l18Copy -/
noncomputable def spec_l18Copy (s : Space) : Option Space :=
  (app 8 ([] : List Int) s.Owner).bind fun E5 =>
  some ({ Owner := E5 : Space })

theorem spec_l18Copy_con (s : Space) (V_s0 : Value) (r : Space) (hm : spec_l18Copy s = some r) :
    Con Try.prog 30 [.agg #[V_s0]] [] [(V_s0, lc s.Owner)] (fun X : Value => .agg #[X]) (fun X => [.own X (lc r.Owner)]) := by
  refine Con.intro (args := [.agg #[V_s0]]) (n := 8) (val := fun _ (X : Value) => .agg #[X]) (post := fun r X => [.own X (lc r.Owner)]) (m := spec_l18Copy s) Try.func30 rfl rfl rfl hm ?_
  intro w S hrd
  have HB_V_s0 := hrd _ (.head _)
  clear hrd
  unfold spec_l18Copy
  refine TW.seq ?_
  refine TW.region ?_
  refine TO.ef (Ef.box rfl (Cel.agg ⟨(One.can (Base.can HB_V_s0)), trivial⟩)) rfl rfl rfl (fun B1 => ?_)
  refine TO.ef (Ef.alloc kz26 rfl) rfl rfl rfl (fun B2 => ?_)
  refine TO.nil ?_
  refine TE.next ?_
  refine TW.seq ?_
  refine TW.region ?_
  refine TO.ef (Ef.buildSlice (α := Int) (Vs := []) ([] : List Int) ke24 kz3 rfl rfl rfl rfl rfl) rfl rfl rfl (fun B3 => ?_)
  refine TO.y (Y.field_box kf26_0 rfl rfl) rfl rfl rfl ?_
  refine TO.y (Y.load_box (v := V_s0) 2 kk24 rfl rfl rfl) rfl rfl rfl ?_
  refine TO.bind fun E5 H6 => ?_
  refine TO.ef (Ef.append (α := Int) (is' := [.box B2 26 [.slice none 0 0], .box B1 26 [V_s0]]) [0, 0, 0] H6 ke24 kz3 rfl rfl rfl rfl rfl (Base.can HB_V_s0)) rfl rfl rfl (fun V4 => ?_)
  refine TO.y (Y.build (cells := [V4]) [(0, [V4])] kp26 kz26 ⟨rfl, ⟨_, rfl, (Cel.one (One.can (Can.own 0 rfl)))⟩, trivial⟩ rfl) rfl rfl rfl ?_
  refine TO.ef0 (Ef.store_box (us := [V4]) (vs' := [V4]) (is' := [.own V4 (lc E5), .box B2 26 [V4], .box B1 26 [V_s0]]) 1 kk26 rfl rfl rfl (Cel.agg ⟨(One.can (Can.own 0 rfl)), trivial⟩) rfl rfl rfl rfl) rfl rfl (fun _ => ?_)
  refine TO.nil ?_
  refine TE.next ?_
  refine TW.ret ?_
  exact TE.leaf fun _ _ hf_ hs_ => ret_any (rs := [.cell 2 26]) (vs := [.agg #[V4]]) (.inl rfl) rfl (RV.cell 1 rfl rfl kk26 rfl trivial) hf_ hs_ ⟨V4, rfl, hs_.pulls [0] rfl⟩

/-- loop.example/g00950/spec.SpaceTake -/
noncomputable def spec_SpaceTake (s : Space) (who : Int) (n : Int) : Option (Space × List Int × Bool) :=
  (spec_SpaceOk s).bind fun R3 =>
  if (!R3) = true then (some ({ Owner := ([] : List Int) : Space }, ([] : List Int), false))
  else ((spec_l18Copy s).bind fun R9 =>
  bindC (loopO (fun (S14 : Int × List Int) => (if (decide (S14.1 < ((s.Owner.length : Nat) : Int))) = true then (some (decide (((S14.2.length : Nat) : Int) < n)))
  else (some false)).bind (fun (T18 : Bool) =>
  if T18 = true then ((idx s.Owner S14.1).bind fun E22 =>
  bindC (if (decide (E22 = (0 : Int))) = true then ((app 8 S14.2 ([S14.1])).bind fun E29 =>
  some (.go E29))
  else (some (.go S14.2)))
  (fun (T24 : List Int) => some (.go (IntKind.i64.wrap (S14.1 + (1 : Int)), T24))))
  else (some (.done (.go S14.2)))))
  ((0 : Int), ([] : List Int)))
  (fun (T16 : List Int) => ((spec_l1In who (1 : Int) (99 : Int)).bind fun R33 =>
  if (!R33) = true then (some true)
  else (if (decide (n < (1 : Int))) = true then (some true)
  else (some (decide (((T16.length : Nat) : Int) < n))))).bind (fun (T31 : Bool) =>
  if T31 = true then (some (R9, ([] : List Int), false))
  else (bindC (loopO (fun (S40 : Int × List Int) => if (decide (S40.1 < ((T16.length : Nat) : Int))) = true then ((idx T16 S40.1).bind fun E45 =>
  (idx S40.2 E45).bind fun E47 =>
  some (.go (IntKind.i64.wrap (S40.1 + (1 : Int)), (S40.2.set E45.toNat who))))
  else (some (.done (.go S40.2))))
  ((0 : Int), R9.Owner))
  (fun (T42 : List Int) => some ({ Owner := T42 : Space }, T16, true))))))

theorem spec_SpaceTake_con (s : Space) (who : Int) (n : Int) (V_s0 : Value) (r : Space × List Int × Bool) (hm : spec_SpaceTake s who n = some r) :
    Con Try.prog 8 [.agg #[V_s0], .int .i64 who, .int .i64 n] [] [(V_s0, lc s.Owner)] (fun X : Value × Value => .tuple #[.agg #[X.1], X.2, .bool r.2.2]) (fun X => [.own X.1 (lc r.1.Owner), .own X.2 (lc r.2.1)]) := by
  refine Con.intro (args := [.agg #[V_s0], .int .i64 who, .int .i64 n]) (n := 75) (val := fun r (X : Value × Value) => .tuple #[.agg #[X.1], X.2, .bool r.2.2]) (post := fun r X => [.own X.1 (lc r.1.Owner), .own X.2 (lc r.2.1)]) (m := spec_SpaceTake s who n) Try.func8 rfl rfl rfl hm ?_
  intro w S hrd
  have HB_V_s0 := hrd _ (.head _)
  clear hrd
  unfold spec_SpaceTake
  refine TW.seq ?_
  refine TW.region ?_
  refine TO.ef (Ef.box rfl (Cel.agg ⟨(One.can (Base.can HB_V_s0)), trivial⟩)) rfl rfl rfl (fun B1 => ?_)
  refine TO.ef (Ef.alloc kz26 rfl) rfl rfl rfl (fun B2 => ?_)
  refine TO.y (Y.assign rfl) rfl rfl rfl ?_
  refine TO.y (Y.assign rfl) rfl rfl rfl ?_
  refine TO.nil ?_
  refine TE.next ?_
  refine TW.seq ?_
  refine TW.seq ?_
  refine TW.region ?_
  refine TO.y (Y.load_box (v := .agg #[V_s0]) 1 kk26 rfl rfl rfl) rfl rfl rfl ?_
  refine TO.bind fun R3 H4 => ?_
  refine TO.ef (Ef.call (rest := [.box B2 26 [.slice none 0 0], .box B1 26 [V_s0]]) [0, 0] (spec_SpaceOk_con s V_s0 R3 H4) kc10 rfl rfl ⟨(Base.can HB_V_s0), trivial⟩) rfl rfl rfl (fun _ => ?_)
  refine TO.y (Y.not rfl) rfl rfl rfl ?_
  refine TO.nil ?_
  refine TE.next ?_
  refine TW.cond rfl (fun H6 => ?_) (fun H6 => ?_)
  · refine TW.seq ?_
    refine TW.region ?_
    refine TO.y (Y.build (cells := [.slice none 0 0]) [] kp26 kz26 trivial rfl) rfl rfl rfl ?_
    refine TO.ef (Ef.buildSlice (α := Int) (Vs := []) ([] : List Int) ke24 kz3 rfl rfl rfl rfl rfl) rfl rfl rfl (fun B7 => ?_)
    refine TO.ef0 (Ef.store_box (us := [.slice none 0 0]) (vs' := [.slice none 0 0]) (is' := [.own (.slice (some ⟨B7, 0, none⟩) 0 0) (lc ([] : List Int)), .box B2 26 [.slice none 0 0], .box B1 26 [V_s0]]) 1 kk26 rfl rfl rfl (Cel.plain rfl rfl) rfl rfl rfl rfl) rfl rfl (fun _ => ?_)
    refine TO.y (Y.assign rfl) rfl rfl rfl ?_
    refine TO.y (Y.assign rfl) rfl rfl rfl ?_
    refine TO.nil ?_
    refine TE.next ?_
    refine TW.ret ?_
    refine TE.then_ret ?_
    exact TE.leaf fun _ _ hf_ hs_ => ret_any (rs := [.cell 6 26, .tmp 7, .tmp 8]) (vs := [.agg #[.slice none 0 0], .slice (some ⟨B7, 0, none⟩) 0 0, .bool false]) (.inl rfl) rfl (RV.cell 1 rfl rfl kk26 rfl ⟨rfl, ⟨rfl, trivial⟩⟩) hf_ hs_ ⟨((.slice none 0 0), (.slice (some ⟨B7, 0, none⟩) 0 0)), rfl, (hs_.nilItem 1).pulls [0, 0] rfl⟩
  · refine TW.skip ?_
    refine TE.next ?_
    refine TW.seq ?_
    refine TW.region ?_
    refine TO.y (Y.load_box (v := .agg #[V_s0]) 1 kk26 rfl rfl rfl) rfl rfl rfl ?_
    refine TO.bind fun R9 H10 => ?_
    refine TO.ef (Ef.call (rest := [.box B2 26 [.slice none 0 0], .box B1 26 [V_s0]]) [0, 0] (spec_l18Copy_con s V_s0 R9 H10) kc30 rfl rfl ⟨(Base.can HB_V_s0), trivial⟩) rfl rfl rfl (fun Y11 => ?_)
    refine TO.ef (Ef.alloc kz26 rfl) rfl rfl rfl (fun B12 => ?_)
    refine TO.ef0 (Ef.store_box (us := [Y11]) (vs' := [Y11]) (is' := [.box B12 26 [Y11], .own Y11 (lc R9.Owner), .box B2 26 [.slice none 0 0], .box B1 26 [V_s0]]) 0 kk26 rfl rfl rfl (Cel.agg ⟨(One.can (Can.own 1 rfl)), trivial⟩) rfl rfl rfl rfl) rfl rfl (fun _ => ?_)
    refine TO.nil ?_
    refine TE.next ?_
    refine TW.seq ?_
    refine TW.region ?_
    refine TO.ef (Ef.buildSlice (α := Int) (Vs := []) ([] : List Int) ke24 kz3 rfl rfl rfl rfl rfl) rfl rfl rfl (fun B13 => ?_)
    refine TO.y (Y.assign rfl) rfl rfl rfl ?_
    refine TO.nil ?_
    refine TE.next ?_
    refine TW.seq ?_
    refine TW.seq ?_
    refine TW.region ?_
    refine TO.y (Y.assign rfl) rfl rfl rfl ?_
    refine TO.nil ?_
    refine TE.next ?_
    refine TW.joinX (τ := List Int) (X := Value) (fun _ X => [(1, .int .i64 who), (2, .int .i64 n), (6, .pointer (some ⟨B2, 0, none⟩)), (9, .pointer (some ⟨B12, 0, none⟩)), (10, X)]) (fun T X => [.box B2 26 [.slice none 0 0], .box B12 26 [Y11], .own Y11 (lc R9.Owner), .own X (lc T)]) ?_ (fun T16 X17 => ?_)
    · refine TW.block ?_
      refine TW.loopX (σ := Int × List Int) (X := Value) (fun T X => [(1, .int .i64 who), (2, .int .i64 n), (3, .pointer (some ⟨B1, 0, none⟩)), (6, .pointer (some ⟨B2, 0, none⟩)), (9, .pointer (some ⟨B12, 0, none⟩)), (10, X), (11, .int .i64 T.1)]) (fun T X => [.box B1 26 [V_s0], .box B2 26 [.slice none 0 0], .box B12 26 [Y11], .own Y11 (lc R9.Owner), .own X (lc T.2)]) (.slice (some ⟨B13, 0, none⟩) 0 0) [4, 3, 1, 1, 0] ⟨rfl, rfl, rfl, rfl, rfl, rfl, rfl, trivial⟩ rfl (fun S14 X15 => ?_)
      refine TW.seq ?_
      refine TW.seq ?_
      refine TW.joinBX (τ := Bool) (X := Unit) (fun T _ => [(1, .int .i64 who), (2, .int .i64 n), (3, .pointer (some ⟨B1, 0, none⟩)), (6, .pointer (some ⟨B2, 0, none⟩)), (9, .pointer (some ⟨B12, 0, none⟩)), (10, X15), (11, .int .i64 S14.1), (31, .bool T)]) (fun _ _ => [.box B1 26 [V_s0], .box B2 26 [.slice none 0 0], .box B12 26 [Y11], .own Y11 (lc R9.Owner), .own X15 (lc S14.2)]) ?_ (fun T18 X19 => ?_)
      · refine TW.region ?_
        refine TO.y (Y.move rfl) rfl rfl rfl ?_
        refine TO.y (Y.field_box kf26_0 rfl rfl) rfl rfl rfl ?_
        refine TO.y (Y.load_box (v := V_s0) 0 kk24 rfl rfl rfl) rfl rfl rfl ?_
        refine TO.y (Y.len (l := s.Owner) ke24 (Base.can HB_V_s0) rfl) rfl rfl rfl ?_
        refine TO.y (Y.lss rfl rfl) rfl rfl rfl ?_
        refine TO.y (Y.move rfl) rfl rfl rfl ?_
        refine TO.ite (b := decide (S14.1 < ((s.Owner.length : Nat) : Int))) (fun H20 => ?_) (fun H20 => ?_)
        · refine TO.y (Y.move rfl) (Gd.at 5 true 26 (decide (S14.1 < ((s.Owner.length : Nat) : Int))) rfl rfl rfl (beq_tt H20)) rfl rfl ?_
          refine TO.y (Y.len (l := S14.2) ke24 (Can.own 4 rfl) rfl) (Gd.at 5 true 26 (decide (S14.1 < ((s.Owner.length : Nat) : Int))) rfl rfl rfl (beq_tt H20)) rfl rfl ?_
          refine TO.y (Y.move rfl) (Gd.at 5 true 26 (decide (S14.1 < ((s.Owner.length : Nat) : Int))) rfl rfl rfl (beq_tt H20)) rfl rfl ?_
          refine TO.y (Y.lss rfl rfl) (Gd.at 5 true 26 (decide (S14.1 < ((s.Owner.length : Nat) : Int))) rfl rfl rfl (beq_tt H20)) rfl rfl ?_
          refine TO.y (Y.pick_t H20 rfl rfl) rfl rfl rfl ?_
          refine TO.nil ?_
          exact TE.jb_go () [0, 0, 0, 0, 0] ⟨rfl, rfl, rfl, rfl, rfl, rfl, rfl, rfl, trivial⟩ rfl
        · refine TO.off (Gd.at 5 true 26 (decide (S14.1 < ((s.Owner.length : Nat) : Int))) rfl rfl rfl (beq_ft H20)) rfl rfl ?_
          refine TO.off (Gd.at 5 true 26 (decide (S14.1 < ((s.Owner.length : Nat) : Int))) rfl rfl rfl (beq_ft H20)) rfl rfl ?_
          refine TO.off (Gd.at 5 true 26 (decide (S14.1 < ((s.Owner.length : Nat) : Int))) rfl rfl rfl (beq_ft H20)) rfl rfl ?_
          refine TO.off (Gd.at 5 true 26 (decide (S14.1 < ((s.Owner.length : Nat) : Int))) rfl rfl rfl (beq_ft H20)) rfl rfl ?_
          refine TO.y (Y.pick_f H20 rfl rfl) rfl rfl rfl ?_
          refine TO.nil ?_
          exact TE.jb_go () [0, 0, 0, 0, 0] ⟨rfl, rfl, rfl, rfl, rfl, rfl, rfl, rfl, trivial⟩ rfl
      · refine TE.next ?_
        refine TW.cond rfl (fun H21 => ?_) (fun H21 => ?_)
        · refine TW.skip ?_
          refine TE.next ?_
          refine TW.seq ?_
          refine TW.block ?_
          refine TW.seq ?_
          refine TW.region ?_
          refine TO.y (Y.field_box kf26_0 rfl rfl) rfl rfl rfl ?_
          refine TO.y (Y.load_box (v := V_s0) 0 kk24 rfl rfl rfl) rfl rfl rfl ?_
          refine TO.y (Y.move rfl) rfl rfl rfl ?_
          refine TO.bind fun E22 H23 => ?_
          refine TO.y (Y.index ke24 (Base.can HB_V_s0) H23 rfl rfl) rfl rfl rfl ?_
          refine TO.y (Y.load_el (us := [.int .i64 E22]) (u := .int .i64 E22) kk3 rfl (Base.can HB_V_s0) (idx_get H23).2.2 rfl rfl rfl rfl rfl) rfl rfl rfl ?_
          refine TO.y (Y.eql rfl rfl) rfl rfl rfl ?_
          refine TO.nil ?_
          refine TE.next ?_
          refine TW.joinX (τ := List Int) (X := Value) (fun _ X => [(1, .int .i64 who), (2, .int .i64 n), (3, .pointer (some ⟨B1, 0, none⟩)), (6, .pointer (some ⟨B2, 0, none⟩)), (9, .pointer (some ⟨B12, 0, none⟩)), (10, X), (11, .int .i64 S14.1)]) (fun T X => [.box B1 26 [V_s0], .box B2 26 [.slice none 0 0], .box B12 26 [Y11], .own Y11 (lc R9.Owner), .own X (lc T)]) ?_ (fun T24 X25 => ?_)
          · refine TW.cond rfl (fun H26 => ?_) (fun H26 => ?_)
            · refine TW.region ?_
              refine TO.y (Y.move rfl) rfl rfl rfl ?_
              refine TO.y (Y.move rfl) rfl rfl rfl ?_
              refine TO.ef (Ef.buildSlice (α := Int) (Vs := [.int .i64 S14.1]) [S14.1] ke24 kz3 rfl rfl rfl rfl rfl) rfl rfl rfl (fun B27 => ?_)
              refine TO.bind fun E29 H30 => ?_
              refine TO.ef (Ef.append (α := Int) (is' := [.own (.slice (some ⟨B27, 0, none⟩) 1 1) (lc ([S14.1])), .box B1 26 [V_s0], .box B2 26 [.slice none 0 0], .box B12 26 [Y11], .own Y11 (lc R9.Owner)]) [5, 0, 0, 0, 0, 0] H30 ke24 kz3 rfl rfl rfl rfl rfl (Can.own 0 rfl)) rfl rfl rfl (fun V28 => ?_)
              refine TO.y (Y.assign rfl) rfl rfl rfl ?_
              refine TO.nil ?_
              exact TE.jn_go V28 [2, 2, 2, 2, 0] ⟨rfl, rfl, rfl, rfl, rfl, rfl, rfl, trivial⟩ rfl
            · refine TW.skip ?_
              exact TE.jn_go X15 [0, 0, 0, 0, 0] ⟨rfl, rfl, rfl, rfl, rfl, rfl, rfl, trivial⟩ rfl
          · refine TE.block_normal ?_
            refine TE.next ?_
            refine TW.region ?_
            refine TO.y (Y.move rfl) rfl rfl rfl ?_
            refine TO.y (Y.add rfl rfl) rfl rfl rfl ?_
            refine TO.y (Y.assign rfl) rfl rfl rfl ?_
            refine TO.nil ?_
            exact TE.lp_go X25 [0, 0, 0, 0, 0] ⟨rfl, rfl, rfl, rfl, rfl, rfl, rfl, trivial⟩ rfl
        · refine TW.exit ?_
          refine TE.then_exit ?_
          refine TE.lp_exit ?_
          refine TE.block_exit ?_
          exact TE.jn_go X15 [1, 1, 1, 1] ⟨rfl, rfl, rfl, rfl, rfl, trivial⟩ rfl
    · refine TE.next ?_
      refine TW.seq ?_
      refine TW.seq ?_
      refine TW.joinBX (τ := Bool) (X := Unit) (fun T _ => [(1, .int .i64 who), (6, .pointer (some ⟨B2, 0, none⟩)), (9, .pointer (some ⟨B12, 0, none⟩)), (10, X17), (56, .bool T)]) (fun _ _ => [.box B2 26 [.slice none 0 0], .box B12 26 [Y11], .own Y11 (lc R9.Owner), .own X17 (lc T16)]) ?_ (fun T31 X32 => ?_)
      · refine TW.region ?_
        refine TO.y (Y.move rfl) rfl rfl rfl ?_
        refine TO.bind fun R33 H34 => ?_
        refine TO.ef (Ef.call (rest := [.box B2 26 [.slice none 0 0], .box B12 26 [Y11], .own Y11 (lc R9.Owner), .own X17 (lc T16)]) [0, 0, 0, 0] (spec_l1In_con who (1 : Int) (99 : Int)  R33 H34) kc31 rfl rfl trivial) rfl rfl rfl (fun _ => ?_)
        refine TO.y (Y.not rfl) rfl rfl rfl ?_
        refine TO.y (Y.move rfl) rfl rfl rfl ?_
        refine TO.ite (b := !R33) (fun H36 => ?_) (fun H36 => ?_)
        · refine TO.off (Gd.at 3 false 47 (!R33) rfl rfl rfl (beq_tf H36)) rfl rfl ?_
          refine TO.off (Gd.at 3 false 47 (!R33) rfl rfl rfl (beq_tf H36)) rfl rfl ?_
          refine TO.y (Y.pick_t H36 rfl rfl) rfl rfl rfl ?_
          refine TO.y (Y.move rfl) rfl rfl rfl ?_
          refine TO.off (Gd.at 7 false 51 true rfl rfl rfl rfl) rfl rfl ?_
          refine TO.off (Gd.at 7 false 51 true rfl rfl rfl rfl) rfl rfl ?_
          refine TO.off (Gd.at 7 false 51 true rfl rfl rfl rfl) rfl rfl ?_
          refine TO.off (Gd.at 7 false 51 true rfl rfl rfl rfl) rfl rfl ?_
          refine TO.y (Y.pick_t rfl rfl rfl) rfl rfl rfl ?_
          refine TO.nil ?_
          exact TE.jb_go () [0, 0, 0, 0] ⟨rfl, rfl, rfl, rfl, rfl, trivial⟩ rfl
        · refine TO.y (Y.move rfl) (Gd.at 3 false 47 (!R33) rfl rfl rfl (beq_ff H36)) rfl rfl ?_
          refine TO.y (Y.lss rfl rfl) (Gd.at 3 false 47 (!R33) rfl rfl rfl (beq_ff H36)) rfl rfl ?_
          refine TO.y (Y.pick_f H36 rfl rfl) rfl rfl rfl ?_
          refine TO.y (Y.move rfl) rfl rfl rfl ?_
          refine TO.ite (b := decide (n < (1 : Int))) (fun H37 => ?_) (fun H37 => ?_)
          · refine TO.off (Gd.at 7 false 51 (decide (n < (1 : Int))) rfl rfl rfl (beq_tf H37)) rfl rfl ?_
            refine TO.off (Gd.at 7 false 51 (decide (n < (1 : Int))) rfl rfl rfl (beq_tf H37)) rfl rfl ?_
            refine TO.off (Gd.at 7 false 51 (decide (n < (1 : Int))) rfl rfl rfl (beq_tf H37)) rfl rfl ?_
            refine TO.off (Gd.at 7 false 51 (decide (n < (1 : Int))) rfl rfl rfl (beq_tf H37)) rfl rfl ?_
            refine TO.y (Y.pick_t H37 rfl rfl) rfl rfl rfl ?_
            refine TO.nil ?_
            exact TE.jb_go () [0, 0, 0, 0] ⟨rfl, rfl, rfl, rfl, rfl, trivial⟩ rfl
          · refine TO.y (Y.move rfl) (Gd.at 7 false 51 (decide (n < (1 : Int))) rfl rfl rfl (beq_ff H37)) rfl rfl ?_
            refine TO.y (Y.len (l := T16) ke24 (Can.own 3 rfl) rfl) (Gd.at 7 false 51 (decide (n < (1 : Int))) rfl rfl rfl (beq_ff H37)) rfl rfl ?_
            refine TO.y (Y.move rfl) (Gd.at 7 false 51 (decide (n < (1 : Int))) rfl rfl rfl (beq_ff H37)) rfl rfl ?_
            refine TO.y (Y.lss rfl rfl) (Gd.at 7 false 51 (decide (n < (1 : Int))) rfl rfl rfl (beq_ff H37)) rfl rfl ?_
            refine TO.y (Y.pick_f H37 rfl rfl) rfl rfl rfl ?_
            refine TO.nil ?_
            exact TE.jb_go () [0, 0, 0, 0] ⟨rfl, rfl, rfl, rfl, rfl, trivial⟩ rfl
      · refine TE.next ?_
        refine TW.cond rfl (fun H38 => ?_) (fun H38 => ?_)
        · refine TW.seq ?_
          refine TW.region ?_
          refine TO.y (Y.load_box (v := .agg #[Y11]) 1 kk26 rfl rfl rfl) rfl rfl rfl ?_
          refine TO.ef (Ef.buildSlice (α := Int) (Vs := []) ([] : List Int) ke24 kz3 rfl rfl rfl rfl rfl) rfl rfl rfl (fun B39 => ?_)
          refine TO.ef0 (Ef.store_box (us := [Y11]) (vs' := [Y11]) (is' := [.own (.slice (some ⟨B39, 0, none⟩) 0 0) (lc ([] : List Int)), .box B2 26 [Y11], .box B12 26 [Y11], .own Y11 (lc R9.Owner), .own X17 (lc T16)]) 1 kk26 rfl rfl rfl (Cel.agg ⟨(One.can (Can.own 3 rfl)), trivial⟩) rfl rfl rfl rfl) rfl rfl (fun _ => ?_)
          refine TO.y (Y.assign rfl) rfl rfl rfl ?_
          refine TO.y (Y.assign rfl) rfl rfl rfl ?_
          refine TO.nil ?_
          refine TE.next ?_
          refine TW.ret ?_
          refine TE.then_ret ?_
          exact TE.leaf fun _ _ hf_ hs_ => ret_any (rs := [.cell 6 26, .tmp 7, .tmp 8]) (vs := [.agg #[Y11], .slice (some ⟨B39, 0, none⟩) 0 0, .bool false]) (.inl rfl) rfl (RV.cell 1 rfl rfl kk26 rfl ⟨rfl, ⟨rfl, trivial⟩⟩) hf_ hs_ ⟨(Y11, (.slice (some ⟨B39, 0, none⟩) 0 0)), rfl, hs_.pulls [3, 0] rfl⟩
        · refine TW.skip ?_
          refine TE.next ?_
          refine TW.seq ?_
          refine TW.seq ?_
          refine TW.region ?_
          refine TO.y (Y.assign rfl) rfl rfl rfl ?_
          refine TO.nil ?_
          refine TE.next ?_
          refine TW.joinX (τ := List Int) (X := Unit) (fun _ _ => [(6, .pointer (some ⟨B2, 0, none⟩)), (9, .pointer (some ⟨B12, 0, none⟩)), (10, X17)]) (fun T _ => [.box B2 26 [.slice none 0 0], .box B12 26 [Y11], .own Y11 (lc T), .own X17 (lc T16)]) ?_ (fun T42 X43 => ?_)
          · refine TW.block ?_
            refine TW.loopX (σ := Int × List Int) (X := Unit) (fun T _ => [(1, .int .i64 who), (6, .pointer (some ⟨B2, 0, none⟩)), (9, .pointer (some ⟨B12, 0, none⟩)), (10, X17), (12, .int .i64 T.1)]) (fun T _ => [.box B2 26 [.slice none 0 0], .box B12 26 [Y11], .own Y11 (lc T.2), .own X17 (lc T16)]) () [0, 0, 0, 0] ⟨rfl, rfl, rfl, rfl, rfl, trivial⟩ rfl (fun S40 X41 => ?_)
            refine TW.seq ?_
            refine TW.seq ?_
            refine TW.region ?_
            refine TO.y (Y.move rfl) rfl rfl rfl ?_
            refine TO.y (Y.move rfl) rfl rfl rfl ?_
            refine TO.y (Y.len (l := T16) ke24 (Can.own 3 rfl) rfl) rfl rfl rfl ?_
            refine TO.y (Y.lss rfl rfl) rfl rfl rfl ?_
            refine TO.nil ?_
            refine TE.next ?_
            refine TW.cond rfl (fun H44 => ?_) (fun H44 => ?_)
            · refine TW.skip ?_
              refine TE.next ?_
              refine TW.seq ?_
              refine TW.block ?_
              refine TW.draw (isH := [.box B2 26 [.slice none 0 0], .box B12 26 [Y11], .own X17 (lc T16)]) hMix ?_
              refine TA.y (listed' := #[true, false, false, false, false, false, false, false, false]) 0 [0, 0, 1] rfl (Y.field_box kf26_0 rfl rfl) rfl rfl rfl (by kernel_rfl) (by kernel_rfl) (by kernel_rfl) rfl rfl ?_
              refine TA.y (listed' := #[true, true, false, false, false, false, false, false, false]) 1 [0, 0, 1] rfl (Y.load_box (v := Y11) 1 kk24 rfl rfl rfl) rfl rfl rfl (by kernel_rfl) (by kernel_rfl) (by kernel_rfl) rfl rfl ?_
              refine TA.y (listed' := #[true, true, true, false, false, false, false, false, false]) 2 [0, 0, 1] rfl (Y.move rfl) rfl rfl rfl (by kernel_rfl) (by kernel_rfl) (by kernel_rfl) rfl rfl ?_
              refine TA.y (listed' := #[true, true, true, true, false, false, false, false, false]) 3 [0, 0, 1] rfl (Y.move rfl) rfl rfl rfl (by kernel_rfl) (by kernel_rfl) (by kernel_rfl) rfl rfl ?_
              refine TA.bind fun E45 H46 => ?_
              refine TA.y (listed' := #[true, true, true, true, true, false, false, false, false]) 4 [0, 0, 1] rfl (Y.index ke24 (Can.own 2 rfl) H46 rfl rfl) rfl rfl rfl (by kernel_rfl) (by kernel_rfl) (by kernel_rfl) rfl rfl ?_
              refine TA.y (listed' := #[true, true, true, true, true, true, false, false, false]) 5 [0, 0, 1] rfl (Y.load_el (us := [.int .i64 E45]) (u := .int .i64 E45) kk3 rfl (Can.own 2 rfl) (idx_get H46).2.2 rfl rfl rfl rfl rfl) rfl rfl rfl (by kernel_rfl) (by kernel_rfl) (by kernel_rfl) rfl rfl ?_
              refine TA.y (listed' := #[true, true, true, true, true, true, true, false, false]) 6 [0, 0, 1] rfl (Y.move rfl) rfl rfl rfl (by kernel_rfl) (by kernel_rfl) (by kernel_rfl) rfl rfl ?_
              refine TA.bind fun E47 H48 => ?_
              refine TA.one 7 (by kernel_rfl) ?_
              refine TX.y (listed' := #[true, true, true, true, true, true, true, true, false]) [0, 0, 1] rfl (Y.index ke24 (Can.own 2 rfl) H48 rfl rfl) rfl rfl rfl rfl rfl ?_
              refine TA.one 8 (by kernel_rfl) ?_
              refine TX.ef0 (listed' := #[true, true, true, true, true, true, true, true, true]) [0, 0, 1] rfl (Ef.store_el (us := [.int .i64 who]) (is' := [.box B2 26 [.slice none 0 0], .box B12 26 [Y11], .own Y11 (lc (S40.2.set E45.toNat who)), .own X17 (lc T16)]) who 2 kk3 rfl rfl (idx_get H48).2.2 rfl rfl (Cel.plain rfl rfl) rfl rfl rfl rfl) rfl rfl rfl (fun _ => rfl) (fun _ => ?_)
              refine TA.nil (by kernel_rfl) ?_
              refine TE.block_normal ?_
              refine TE.next ?_
              refine TW.region ?_
              refine TO.y (Y.move rfl) rfl rfl rfl ?_
              refine TO.y (Y.add rfl rfl) rfl rfl rfl ?_
              refine TO.y (Y.assign rfl) rfl rfl rfl ?_
              refine TO.nil ?_
              exact TE.lp_go () [0, 0, 0, 0] ⟨rfl, rfl, rfl, rfl, rfl, trivial⟩ rfl
            · refine TW.exit ?_
              refine TE.then_exit ?_
              refine TE.lp_exit ?_
              refine TE.block_exit ?_
              exact TE.jn_go () [0, 0, 0, 0] ⟨rfl, rfl, rfl, trivial⟩ rfl
          · refine TE.next ?_
            refine TW.seq ?_
            refine TW.region ?_
            refine TO.y (Y.load_box (v := .agg #[Y11]) 1 kk26 rfl rfl rfl) rfl rfl rfl ?_
            refine TO.y (Y.move rfl) rfl rfl rfl ?_
            refine TO.ef0 (Ef.store_box (us := [Y11]) (vs' := [Y11]) (is' := [.box B2 26 [Y11], .box B12 26 [Y11], .own Y11 (lc T42), .own X17 (lc T16)]) 0 kk26 rfl rfl rfl (Cel.agg ⟨(One.can (Can.own 2 rfl)), trivial⟩) rfl rfl rfl rfl) rfl rfl (fun _ => ?_)
            refine TO.y (Y.assign rfl) rfl rfl rfl ?_
            refine TO.y (Y.assign rfl) rfl rfl rfl ?_
            refine TO.nil ?_
            refine TE.next ?_
            refine TW.ret ?_
            exact TE.leaf fun _ _ hf_ hs_ => ret_any (rs := [.cell 6 26, .tmp 7, .tmp 8]) (vs := [.agg #[Y11], X17, .bool true]) (.inl rfl) rfl (RV.cell 0 rfl rfl kk26 rfl ⟨rfl, ⟨rfl, trivial⟩⟩) hf_ hs_ ⟨(Y11, X17), rfl, hs_.pulls [2, 2] rfl⟩

/-- loop.example/g00950/spec.l1Once -/
noncomputable def spec_l1Once (c : L1Cur) (n : Int) : Option (Bool × L1Cur) :=
  (spec_l1Below c n).bind fun R1 =>
  some (decide (R1.1 = (0 : Int)), { b := c.b, i := R1.2.i, h := R1.2.h : L1Cur })

theorem spec_l1Once_con (c : L1Cur) (n : Int) (V_c0 : Value) (B_c : Nat) (r : Bool × L1Cur) (hm : spec_l1Once c n = some r) :
    Con Try.prog 34 [.pointer (some ⟨B_c, 0, none⟩), .int .i64 n] [.box B_c 69 [V_c0, .int .i64 c.i, .int .i64 c.h]] [(V_c0, lc c.b)] (fun _ : Unit => .bool r.1) (fun _ => [.box B_c 69 [V_c0, .int .i64 r.2.i, .int .i64 r.2.h]]) := by
  refine Con.intro (args := [.pointer (some ⟨B_c, 0, none⟩), .int .i64 n]) (n := 9) (val := fun r (_ : Unit) => .bool r.1) (post := fun r _ => [.box B_c 69 [V_c0, .int .i64 r.2.i, .int .i64 r.2.h]]) (m := spec_l1Once c n) Try.func34 rfl rfl rfl hm ?_
  intro w S hrd
  have HB_V_c0 := hrd _ (.head _)
  clear hrd
  unfold spec_l1Once
  refine TW.seq ?_
  refine TW.region ?_
  refine TO.y (Y.assign rfl) rfl rfl rfl ?_
  refine TO.nil ?_
  refine TE.next ?_
  refine TW.seq ?_
  refine TW.region ?_
  refine TO.y (Y.move rfl) rfl rfl rfl ?_
  refine TO.y (Y.move rfl) rfl rfl rfl ?_
  refine TO.bind fun R1 H2 => ?_
  refine TO.ef (Ef.call (rest := []) [0] (spec_l1Below_con c n V_c0 B_c R1 H2) kc33 rfl rfl ⟨(Base.can HB_V_c0), trivial⟩) rfl rfl rfl (fun _ => ?_)
  refine TO.y (Y.eql rfl rfl) rfl rfl rfl ?_
  refine TO.y (Y.assign rfl) rfl rfl rfl ?_
  refine TO.nil ?_
  refine TE.next ?_
  refine TW.ret ?_
  exact TE.leaf fun _ _ hf_ hs_ => ret_any (rs := [.tmp 4]) (vs := [.bool (decide (R1.1 = (0 : Int)))]) (.inl rfl) rfl ⟨rfl, trivial⟩ hf_ hs_ ⟨(), rfl, hs_.pulls [0] rfl⟩

/-- loop.example/g00950/spec.SpaceWipe -/
noncomputable def spec_SpaceWipe (s : Space) (who : Int) : Option (Space × Int) :=
  (spec_SpaceOk s).bind fun R3 =>
  if (!R3) = true then (some ({ Owner := ([] : List Int) : Space }, (0 : Int)))
  else ((spec_l18Copy s).bind fun R8 =>
  bindC (loopO (fun (S12 : Int × Int × List Int) => (if (decide (S12.2.1 < ((S12.2.2.length : Nat) : Int))) = true then ((spec_l1In who (1 : Int) (99 : Int)).bind fun R19 =>
  some R19)
  else (some false)).bind (fun (T16 : Bool) =>
  if T16 = true then ((idx S12.2.2 S12.2.1).bind fun E23 =>
  bindC (if (decide (E23 = who)) = true then (some (.go (IntKind.i64.wrap (S12.1 + (1 : Int)), (S12.2.2.set S12.2.1.toNat (0 : Int)))))
  else (some (.go (S12.1, S12.2.2))))
  (fun (T25 : Int × List Int) => some (.go (T25.1, IntKind.i64.wrap (S12.2.1 + (1 : Int)), T25.2))))
  else (some (.done (.go (S12.1, S12.2.2))))))
  ((0 : Int), (0 : Int), R8.Owner))
  (fun (T14 : Int × List Int) => some ({ Owner := T14.2 : Space }, T14.1)))

theorem spec_SpaceWipe_con (s : Space) (who : Int) (V_s0 : Value) (r : Space × Int) (hm : spec_SpaceWipe s who = some r) :
    Con Try.prog 48 [.agg #[V_s0], .int .i64 who] [] [(V_s0, lc s.Owner)] (fun X : Value => .tuple #[.agg #[X], .int .i64 r.2]) (fun X => [.own X (lc r.1.Owner)]) := by
  refine Con.intro (args := [.agg #[V_s0], .int .i64 who]) (n := 41) (val := fun r (X : Value) => .tuple #[.agg #[X], .int .i64 r.2]) (post := fun r X => [.own X (lc r.1.Owner)]) (m := spec_SpaceWipe s who) Try.func48 rfl rfl rfl hm ?_
  intro w S hrd
  have HB_V_s0 := hrd _ (.head _)
  clear hrd
  unfold spec_SpaceWipe
  refine TW.seq ?_
  refine TW.region ?_
  refine TO.ef (Ef.box rfl (Cel.agg ⟨(One.can (Base.can HB_V_s0)), trivial⟩)) rfl rfl rfl (fun B1 => ?_)
  refine TO.ef (Ef.alloc kz26 rfl) rfl rfl rfl (fun B2 => ?_)
  refine TO.y (Y.assign rfl) rfl rfl rfl ?_
  refine TO.nil ?_
  refine TE.next ?_
  refine TW.seq ?_
  refine TW.seq ?_
  refine TW.region ?_
  refine TO.y (Y.load_box (v := .agg #[V_s0]) 1 kk26 rfl rfl rfl) rfl rfl rfl ?_
  refine TO.bind fun R3 H4 => ?_
  refine TO.ef (Ef.call (rest := [.box B2 26 [.slice none 0 0], .box B1 26 [V_s0]]) [0, 0] (spec_SpaceOk_con s V_s0 R3 H4) kc10 rfl rfl ⟨(Base.can HB_V_s0), trivial⟩) rfl rfl rfl (fun _ => ?_)
  refine TO.y (Y.not rfl) rfl rfl rfl ?_
  refine TO.nil ?_
  refine TE.next ?_
  refine TW.cond rfl (fun H6 => ?_) (fun H6 => ?_)
  · refine TW.seq ?_
    refine TW.region ?_
    refine TO.y (Y.build (cells := [.slice none 0 0]) [] kp26 kz26 trivial rfl) rfl rfl rfl ?_
    refine TO.ef0 (Ef.store_box (us := [.slice none 0 0]) (vs' := [.slice none 0 0]) (is' := [.box B2 26 [.slice none 0 0], .box B1 26 [V_s0]]) 0 kk26 rfl rfl rfl (Cel.plain rfl rfl) rfl rfl rfl rfl) rfl rfl (fun _ => ?_)
    refine TO.y (Y.assign rfl) rfl rfl rfl ?_
    refine TO.nil ?_
    refine TE.next ?_
    refine TW.ret ?_
    refine TE.then_ret ?_
    exact TE.leaf fun _ _ hf_ hs_ => ret_any (rs := [.cell 4 26, .tmp 5]) (vs := [.agg #[.slice none 0 0], .int .i64 (0 : Int)]) (.inl rfl) rfl (RV.cell 0 rfl rfl kk26 rfl ⟨rfl, trivial⟩) hf_ hs_ ⟨(.slice none 0 0), rfl, (hs_.nilItem 1).pulls [0] rfl⟩
  · refine TW.skip ?_
    refine TE.next ?_
    refine TW.seq ?_
    refine TW.region ?_
    refine TO.y (Y.load_box (v := .agg #[V_s0]) 1 kk26 rfl rfl rfl) rfl rfl rfl ?_
    refine TO.bind fun R8 H9 => ?_
    refine TO.ef (Ef.call (rest := [.box B2 26 [.slice none 0 0], .box B1 26 [V_s0]]) [0, 0] (spec_l18Copy_con s V_s0 R8 H9) kc30 rfl rfl ⟨(Base.can HB_V_s0), trivial⟩) rfl rfl rfl (fun Y10 => ?_)
    refine TO.ef (Ef.alloc kz26 rfl) rfl rfl rfl (fun B11 => ?_)
    refine TO.ef0 (Ef.store_box (us := [Y10]) (vs' := [Y10]) (is' := [.box B11 26 [Y10], .own Y10 (lc R8.Owner), .box B2 26 [.slice none 0 0], .box B1 26 [V_s0]]) 0 kk26 rfl rfl rfl (Cel.agg ⟨(One.can (Can.own 1 rfl)), trivial⟩) rfl rfl rfl rfl) rfl rfl (fun _ => ?_)
    refine TO.nil ?_
    refine TE.next ?_
    refine TW.seq ?_
    refine TW.region ?_
    refine TO.y (Y.assign rfl) rfl rfl rfl ?_
    refine TO.nil ?_
    refine TE.next ?_
    refine TW.seq ?_
    refine TW.seq ?_
    refine TW.region ?_
    refine TO.y (Y.assign rfl) rfl rfl rfl ?_
    refine TO.nil ?_
    refine TE.next ?_
    refine TW.joinX (τ := Int × List Int) (X := Unit) (fun T _ => [(4, .pointer (some ⟨B2, 0, none⟩)), (6, .pointer (some ⟨B11, 0, none⟩)), (7, .int .i64 T.1)]) (fun T _ => [.box B2 26 [.slice none 0 0], .box B11 26 [Y10], .own Y10 (lc T.2)]) ?_ (fun T14 X15 => ?_)
    · refine TW.block ?_
      refine TW.loopX (σ := Int × Int × List Int) (X := Unit) (fun T _ => [(1, .int .i64 who), (4, .pointer (some ⟨B2, 0, none⟩)), (6, .pointer (some ⟨B11, 0, none⟩)), (7, .int .i64 T.1), (8, .int .i64 T.2.1)]) (fun T _ => [.box B2 26 [.slice none 0 0], .box B11 26 [Y10], .own Y10 (lc T.2.2)]) () [2, 0, 0] ⟨rfl, rfl, rfl, rfl, rfl, trivial⟩ rfl (fun S12 X13 => ?_)
      refine TW.seq ?_
      refine TW.seq ?_
      refine TW.joinBX (τ := Bool) (X := Unit) (fun T _ => [(1, .int .i64 who), (4, .pointer (some ⟨B2, 0, none⟩)), (6, .pointer (some ⟨B11, 0, none⟩)), (7, .int .i64 S12.1), (8, .int .i64 S12.2.1), (23, .bool T)]) (fun _ _ => [.box B2 26 [.slice none 0 0], .box B11 26 [Y10], .own Y10 (lc S12.2.2)]) ?_ (fun T16 X17 => ?_)
      · refine TW.region ?_
        refine TO.y (Y.move rfl) rfl rfl rfl ?_
        refine TO.y (Y.field_box kf26_0 rfl rfl) rfl rfl rfl ?_
        refine TO.y (Y.load_box (v := Y10) 1 kk24 rfl rfl rfl) rfl rfl rfl ?_
        refine TO.y (Y.len (l := S12.2.2) ke24 (Can.own 2 rfl) rfl) rfl rfl rfl ?_
        refine TO.y (Y.lss rfl rfl) rfl rfl rfl ?_
        refine TO.y (Y.move rfl) rfl rfl rfl ?_
        refine TO.ite (b := decide (S12.2.1 < ((S12.2.2.length : Nat) : Int))) (fun H18 => ?_) (fun H18 => ?_)
        · refine TO.y (Y.move rfl) (Gd.at 5 true 20 (decide (S12.2.1 < ((S12.2.2.length : Nat) : Int))) rfl rfl rfl (beq_tt H18)) rfl rfl ?_
          refine TO.bind fun R19 H20 => ?_
          refine TO.ef (Ef.call (rest := [.box B2 26 [.slice none 0 0], .box B11 26 [Y10], .own Y10 (lc S12.2.2)]) [0, 0, 0] (spec_l1In_con who (1 : Int) (99 : Int)  R19 H20) kc31 rfl rfl trivial) (Gd.at 5 true 20 (decide (S12.2.1 < ((S12.2.2.length : Nat) : Int))) rfl rfl rfl (beq_tt H18)) rfl rfl (fun _ => ?_)
          refine TO.y (Y.pick_t H18 rfl rfl) rfl rfl rfl ?_
          refine TO.nil ?_
          exact TE.jb_go () [0, 0, 0] ⟨rfl, rfl, rfl, rfl, rfl, rfl, trivial⟩ rfl
        · refine TO.off (Gd.at 5 true 20 (decide (S12.2.1 < ((S12.2.2.length : Nat) : Int))) rfl rfl rfl (beq_ft H18)) rfl rfl ?_
          refine TO.off (Gd.at 5 true 20 (decide (S12.2.1 < ((S12.2.2.length : Nat) : Int))) rfl rfl rfl (beq_ft H18)) rfl rfl ?_
          refine TO.y (Y.pick_f H18 rfl rfl) rfl rfl rfl ?_
          refine TO.nil ?_
          exact TE.jb_go () [0, 0, 0] ⟨rfl, rfl, rfl, rfl, rfl, rfl, trivial⟩ rfl
      · refine TE.next ?_
        refine TW.cond rfl (fun H22 => ?_) (fun H22 => ?_)
        · refine TW.skip ?_
          refine TE.next ?_
          refine TW.seq ?_
          refine TW.block ?_
          refine TW.seq ?_
          refine TW.region ?_
          refine TO.y (Y.field_box kf26_0 rfl rfl) rfl rfl rfl ?_
          refine TO.y (Y.load_box (v := Y10) 1 kk24 rfl rfl rfl) rfl rfl rfl ?_
          refine TO.y (Y.move rfl) rfl rfl rfl ?_
          refine TO.bind fun E23 H24 => ?_
          refine TO.y (Y.index ke24 (Can.own 2 rfl) H24 rfl rfl) rfl rfl rfl ?_
          refine TO.y (Y.load_el (us := [.int .i64 E23]) (u := .int .i64 E23) kk3 rfl (Can.own 2 rfl) (idx_get H24).2.2 rfl rfl rfl rfl rfl) rfl rfl rfl ?_
          refine TO.y (Y.move rfl) rfl rfl rfl ?_
          refine TO.y (Y.eql rfl rfl) rfl rfl rfl ?_
          refine TO.nil ?_
          refine TE.next ?_
          refine TW.joinX (τ := Int × List Int) (X := Unit) (fun T _ => [(1, .int .i64 who), (4, .pointer (some ⟨B2, 0, none⟩)), (6, .pointer (some ⟨B11, 0, none⟩)), (7, .int .i64 T.1), (8, .int .i64 S12.2.1)]) (fun T _ => [.box B2 26 [.slice none 0 0], .box B11 26 [Y10], .own Y10 (lc T.2)]) ?_ (fun T25 X26 => ?_)
          · refine TW.cond rfl (fun H27 => ?_) (fun H27 => ?_)
            · refine TW.seq ?_
              refine TW.region ?_
              refine TO.y (Y.field_box kf26_0 rfl rfl) rfl rfl rfl ?_
              refine TO.y (Y.load_box (v := Y10) 1 kk24 rfl rfl rfl) rfl rfl rfl ?_
              refine TO.y (Y.move rfl) rfl rfl rfl ?_
              refine TO.y (Y.index ke24 (Can.own 2 rfl) H24 rfl rfl) rfl rfl rfl ?_
              refine TO.ef0 (Ef.store_el (us := [.int .i64 (0 : Int)]) (is' := [.box B2 26 [.slice none 0 0], .box B11 26 [Y10], .own Y10 (lc (S12.2.2.set S12.2.1.toNat (0 : Int)))]) (0 : Int) 2 kk3 rfl rfl (idx_get H24).2.2 rfl rfl (Cel.plain rfl rfl) rfl rfl rfl rfl) rfl rfl (fun _ => ?_)
              refine TO.nil ?_
              refine TE.next ?_
              refine TW.region ?_
              refine TO.y (Y.move rfl) rfl rfl rfl ?_
              refine TO.y (Y.add rfl rfl) rfl rfl rfl ?_
              refine TO.y (Y.assign rfl) rfl rfl rfl ?_
              refine TO.nil ?_
              exact TE.jn_go () [0, 0, 0] ⟨rfl, rfl, rfl, rfl, rfl, trivial⟩ rfl
            · refine TW.skip ?_
              exact TE.jn_go () [0, 0, 0] ⟨rfl, rfl, rfl, rfl, rfl, trivial⟩ rfl
          · refine TE.block_normal ?_
            refine TE.next ?_
            refine TW.region ?_
            refine TO.y (Y.move rfl) rfl rfl rfl ?_
            refine TO.y (Y.add rfl rfl) rfl rfl rfl ?_
            refine TO.y (Y.assign rfl) rfl rfl rfl ?_
            refine TO.nil ?_
            exact TE.lp_go () [0, 0, 0] ⟨rfl, rfl, rfl, rfl, rfl, trivial⟩ rfl
        · refine TW.exit ?_
          refine TE.then_exit ?_
          refine TE.lp_exit ?_
          refine TE.block_exit ?_
          exact TE.jn_go () [0, 0, 0] ⟨rfl, rfl, rfl, trivial⟩ rfl
    · refine TE.next ?_
      refine TW.seq ?_
      refine TW.region ?_
      refine TO.y (Y.load_box (v := .agg #[Y10]) 1 kk26 rfl rfl rfl) rfl rfl rfl ?_
      refine TO.y (Y.move rfl) rfl rfl rfl ?_
      refine TO.ef0 (Ef.store_box (us := [Y10]) (vs' := [Y10]) (is' := [.box B2 26 [Y10], .box B11 26 [Y10], .own Y10 (lc T14.2)]) 0 kk26 rfl rfl rfl (Cel.agg ⟨(One.can (Can.own 2 rfl)), trivial⟩) rfl rfl rfl rfl) rfl rfl (fun _ => ?_)
      refine TO.y (Y.assign rfl) rfl rfl rfl ?_
      refine TO.nil ?_
      refine TE.next ?_
      refine TW.ret ?_
      exact TE.leaf fun _ _ hf_ hs_ => ret_any (rs := [.cell 4 26, .tmp 5]) (vs := [.agg #[Y10], .int .i64 T14.1]) (.inl rfl) rfl (RV.cell 0 rfl rfl kk26 rfl ⟨rfl, trivial⟩) hf_ hs_ ⟨Y10, rfl, hs_.pulls [2] rfl⟩

/-- loop.example/g00950/spec.l1PickInt -/
noncomputable def spec_l1PickInt (c : L1Cur) (list : List Int) : Option (Int × L1Cur) :=
  (spec_l1Below c ((list.length : Nat) : Int)).bind fun R1 =>
  (idx list R1.1).bind fun E4 =>
  some (E4, { b := c.b, i := R1.2.i, h := R1.2.h : L1Cur })

theorem spec_l1PickInt_con (c : L1Cur) (list : List Int) (V_c0 : Value) (B_c : Nat) (V_list0 : Value) (r : Int × L1Cur) (hm : spec_l1PickInt c list = some r) :
    Con Try.prog 26 [.pointer (some ⟨B_c, 0, none⟩), V_list0] [.box B_c 69 [V_c0, .int .i64 c.i, .int .i64 c.h]] [(V_c0, lc c.b), (V_list0, lc list)] (fun _ : Unit => .int .i64 r.1) (fun _ => [.box B_c 69 [V_c0, .int .i64 r.2.i, .int .i64 r.2.h]]) := by
  refine Con.intro (args := [.pointer (some ⟨B_c, 0, none⟩), V_list0]) (n := 12) (val := fun r (_ : Unit) => .int .i64 r.1) (post := fun r _ => [.box B_c 69 [V_c0, .int .i64 r.2.i, .int .i64 r.2.h]]) (m := spec_l1PickInt c list) Try.func26 rfl rfl rfl hm ?_
  intro w S hrd
  have HB_V_c0 := hrd _ (.head _)
  have HB_V_list0 := hrd _ (.tail _ (.head _))
  clear hrd
  unfold spec_l1PickInt
  refine TW.seq ?_
  refine TW.region ?_
  refine TO.y (Y.assign rfl) rfl rfl rfl ?_
  refine TO.nil ?_
  refine TE.next ?_
  refine TW.seq ?_
  refine TW.region ?_
  refine TO.y (Y.move rfl) rfl rfl rfl ?_
  refine TO.y (Y.move rfl) rfl rfl rfl ?_
  refine TO.y (Y.move rfl) rfl rfl rfl ?_
  refine TO.y (Y.len (l := list) ke24 (Base.can HB_V_list0) rfl) rfl rfl rfl ?_
  refine TO.bind fun R1 H2 => ?_
  refine TO.ef (Ef.call (rest := []) [0] (spec_l1Below_con c ((list.length : Nat) : Int) V_c0 B_c R1 H2) kc33 rfl rfl ⟨(Base.can HB_V_c0), trivial⟩) rfl rfl rfl (fun _ => ?_)
  refine TO.bind fun E4 H5 => ?_
  refine TO.y (Y.index ke24 (Base.can HB_V_list0) H5 rfl rfl) rfl rfl rfl ?_
  refine TO.y (Y.load_el (us := [.int .i64 E4]) (u := .int .i64 E4) kk3 rfl (Base.can HB_V_list0) (idx_get H5).2.2 rfl rfl rfl rfl rfl) rfl rfl rfl ?_
  refine TO.y (Y.assign rfl) rfl rfl rfl ?_
  refine TO.nil ?_
  refine TE.next ?_
  refine TW.ret ?_
  exact TE.leaf fun _ _ hf_ hs_ => ret_any (rs := [.tmp 4]) (vs := [.int .i64 E4]) (.inl rfl) rfl ⟨rfl, trivial⟩ hf_ hs_ ⟨(), rfl, hs_.pulls [0] rfl⟩

/-- loop.example/g00950/spec.l18Some -/
noncomputable def spec_l18Some (c : L1Cur) : Option (Space × L1Cur) :=
  (spec_l1Below c (12 : Int)).bind fun R2 =>
  (mkLen 8 (IntKind.i64.wrap ((1 : Int) + R2.1))).bind fun E6 =>
  (spec_l1Below ({ b := c.b, i := R2.2.i, h := R2.2.h : L1Cur }) (5 : Int)).bind fun R9 =>
  bindC (loopO (fun (S12 : Int × Int × Int × List Int) => if (decide (S12.2.2.1 > (0 : Int))) = true then ((spec_l1Below ({ b := c.b, i := S12.1, h := S12.2.1 : L1Cur }) (3 : Int)).bind fun R17 =>
  (spec_l1Below ({ b := c.b, i := R17.2.i, h := R17.2.h : L1Cur }) (4 : Int)).bind fun R21 =>
  (spec_SpaceTake ({ Owner := S12.2.2.2 : Space }) (IntKind.i64.wrap ((1 : Int) + R17.1)) (IntKind.i64.wrap ((1 : Int) + R21.1))).bind fun R25 =>
  bindC (if R25.2.2 = true then (some (.go R25.1.Owner))
  else (some (.go S12.2.2.2)))
  (fun (T34 : List Int) => some (.go (R21.2.i, R21.2.h, IntKind.i64.wrap (S12.2.2.1 - (1 : Int)), T34))))
  else (some (.done (.go (S12.1, S12.2.1, S12.2.2.2)))))
  (R9.2.i, R9.2.h, R9.1, (List.replicate E6 (0 : Int))))
  (fun (T14 : Int × Int × List Int) => (spec_l1Once ({ b := c.b, i := T14.1, h := T14.2.1 : L1Cur }) (3 : Int)).bind fun R37 =>
  bindC (if R37.1 = true then ((spec_l1Below ({ b := c.b, i := R37.2.i, h := R37.2.h : L1Cur }) (3 : Int)).bind fun R43 =>
  (spec_SpaceWipe ({ Owner := T14.2.2 : Space }) (IntKind.i64.wrap ((1 : Int) + R43.1))).bind fun R47 =>
  some (.go (R43.2.i, R43.2.h, R47.1.Owner)))
  else (some (.go (R37.2.i, R37.2.h, T14.2.2))))
  (fun (T40 : Int × Int × List Int) => (spec_l1Once ({ b := c.b, i := T40.1, h := T40.2.1 : L1Cur }) (12 : Int)).bind fun R56 =>
  bindC (if R56.1 = true then ((spec_l1PickInt ({ b := c.b, i := R56.2.i, h := R56.2.h : L1Cur }) ([(-1 : Int), (99 : Int), (100 : Int)])).bind fun R63 =>
  (idx T40.2.2 (0 : Int)).bind fun E66 =>
  some (.go (R63.2.i, R63.2.h, (T40.2.2.set ((0 : Int).toNat) R63.1))))
  else (some (.go (R56.2.i, R56.2.h, T40.2.2))))
  (fun (T59 : Int × Int × List Int) => (spec_l1Once ({ b := c.b, i := T59.1, h := T59.2.1 : L1Cur }) (30 : Int)).bind fun R68 =>
  bindC (if R68.1 = true then ((spec_l1Below ({ b := c.b, i := R68.2.i, h := R68.2.h : L1Cur }) (2 : Int)).bind fun R74 =>
  (mkLen 8 (IntKind.i64.wrap ((40 : Int) + R74.1))).bind fun E78 =>
  some (.go (R74.2.i, R74.2.h, (List.replicate E78 (0 : Int)))))
  else (some (.go (R68.2.i, R68.2.h, T59.2.2))))
  (fun (T71 : Int × Int × List Int) => some ({ Owner := T71.2.2 : Space }, { b := c.b, i := T71.1, h := T71.2.1 : L1Cur })))))

theorem spec_l18Some_con (c : L1Cur) (V_c0 : Value) (B_c : Nat) (r : Space × L1Cur) (hm : spec_l18Some c = some r) :
    Con Try.prog 25 [.pointer (some ⟨B_c, 0, none⟩)] [.box B_c 69 [V_c0, .int .i64 c.i, .int .i64 c.h]] [(V_c0, lc c.b)] (fun X : Value => .agg #[X]) (fun X => [.box B_c 69 [V_c0, .int .i64 r.2.i, .int .i64 r.2.h], .own X (lc r.1.Owner)]) := by
  refine Con.intro (args := [.pointer (some ⟨B_c, 0, none⟩)]) (n := 62) (val := fun _ (X : Value) => .agg #[X]) (post := fun r X => [.box B_c 69 [V_c0, .int .i64 r.2.i, .int .i64 r.2.h], .own X (lc r.1.Owner)]) (m := spec_l18Some c) Try.func25 rfl rfl rfl hm ?_
  intro w S hrd
  have HB_V_c0 := hrd _ (.head _)
  clear hrd
  unfold spec_l18Some
  refine TW.seq ?_
  refine TW.region ?_
  refine TO.ef (Ef.alloc kz26 rfl) rfl rfl rfl (fun B1 => ?_)
  refine TO.nil ?_
  refine TE.next ?_
  refine TW.seq ?_
  refine TW.region ?_
  refine TO.y (Y.move rfl) rfl rfl rfl ?_
  refine TO.bind fun R2 H3 => ?_
  refine TO.ef (Ef.call (rest := [.box B1 26 [.slice none 0 0]]) [1, 0] (spec_l1Below_con c (12 : Int) V_c0 B_c R2 H3) kc33 rfl rfl ⟨(Base.can HB_V_c0), trivial⟩) rfl rfl rfl (fun _ => ?_)
  refine TO.y (Y.add rfl rfl) rfl rfl rfl ?_
  refine TO.bind fun E6 H7 => ?_
  refine TO.ef (Ef.make (α := Int) (z := (0 : Int)) H7 ke24 kz3 rfl rfl rfl rfl) rfl rfl rfl (fun V5 => ?_)
  refine TO.y (Y.build (cells := [V5]) [(0, [V5])] kp26 kz26 ⟨rfl, ⟨_, rfl, (Cel.one (One.can (Can.own 0 rfl)))⟩, trivial⟩ rfl) rfl rfl rfl ?_
  refine TO.ef (Ef.alloc kz26 rfl) rfl rfl rfl (fun B8 => ?_)
  refine TO.ef0 (Ef.store_box (us := [V5]) (vs' := [V5]) (is' := [.box B8 26 [V5], .own V5 (lc (List.replicate E6 (0 : Int))), .box B_c 69 [V_c0, .int .i64 R2.2.i, .int .i64 R2.2.h], .box B1 26 [.slice none 0 0]]) 0 kk26 rfl rfl rfl (Cel.agg ⟨(One.can (Can.own 1 rfl)), trivial⟩) rfl rfl rfl rfl) rfl rfl (fun _ => ?_)
  refine TO.nil ?_
  refine TE.next ?_
  refine TW.seq ?_
  refine TW.seq ?_
  refine TW.region ?_
  refine TO.y (Y.move rfl) rfl rfl rfl ?_
  refine TO.bind fun R9 H10 => ?_
  refine TO.ef (Ef.call (rest := [.box B8 26 [V5], .own V5 (lc (List.replicate E6 (0 : Int))), .box B1 26 [.slice none 0 0]]) [2, 0, 0, 0] (spec_l1Below_con ({ b := c.b, i := R2.2.i, h := R2.2.h : L1Cur }) (5 : Int) V_c0 B_c R9 H10) kc33 rfl rfl ⟨(Base.can HB_V_c0), trivial⟩) rfl rfl rfl (fun _ => ?_)
  refine TO.y (Y.assign rfl) rfl rfl rfl ?_
  refine TO.nil ?_
  refine TE.next ?_
  refine TW.joinX (τ := Int × Int × List Int) (X := Value) (fun _ _ => [(0, .pointer (some ⟨B_c, 0, none⟩)), (2, .pointer (some ⟨B1, 0, none⟩)), (3, .pointer (some ⟨B8, 0, none⟩))]) (fun T X => [.box B_c 69 [V_c0, .int .i64 T.1, .int .i64 T.2.1], .box B1 26 [.slice none 0 0], .box B8 26 [X], .own X (lc T.2.2)]) ?_ (fun T14 X15 => ?_)
  · refine TW.block ?_
    refine TW.loopX (σ := Int × Int × Int × List Int) (X := Value) (fun T _ => [(0, .pointer (some ⟨B_c, 0, none⟩)), (2, .pointer (some ⟨B1, 0, none⟩)), (3, .pointer (some ⟨B8, 0, none⟩)), (4, .int .i64 T.2.2.1)]) (fun T X => [.box B_c 69 [V_c0, .int .i64 T.1, .int .i64 T.2.1], .box B1 26 [.slice none 0 0], .box B8 26 [X], .own X (lc T.2.2.2)]) V5 [0, 2, 0, 0] ⟨rfl, rfl, rfl, rfl, trivial⟩ rfl (fun S12 X13 => ?_)
    refine TW.seq ?_
    refine TW.seq ?_
    refine TW.region ?_
    refine TO.y (Y.move rfl) rfl rfl rfl ?_
    refine TO.y (Y.gtr rfl rfl) rfl rfl rfl ?_
    refine TO.nil ?_
    refine TE.next ?_
    refine TW.cond rfl (fun H16 => ?_) (fun H16 => ?_)
    · refine TW.skip ?_
      refine TE.next ?_
      refine TW.seq ?_
      refine TW.block ?_
      refine TW.seq ?_
      refine TW.bind fun R17 H18 => ?_
      refine TW.bind fun R21 H22 => ?_
      refine TW.bind fun R25 H26 => ?_
      refine TW.joinU (X := Nat × Value) (fun _ X => [(0, .pointer (some ⟨B_c, 0, none⟩)), (2, .pointer (some ⟨B1, 0, none⟩)), (3, .pointer (some ⟨B8, 0, none⟩)), (4, .int .i64 S12.2.2.1), (5, .pointer (some ⟨X.1, 0, none⟩)), (7, .bool R25.2.2)]) (fun _ X => [.box B_c 69 [V_c0, .int .i64 R21.2.i, .int .i64 R21.2.h], .box B1 26 [.slice none 0 0], .box B8 26 [X13], .box X.1 26 [X.2], .own X13 (lc S12.2.2.2), .own X.2 (lc R25.1.Owner)]) ?_ (fun _ X31 => ?_)
      · refine TW.draw (isH := [.box B1 26 [.slice none 0 0], .box B8 26 [X13], .own X13 (lc S12.2.2.2)]) hMix ?_
        refine TA.y (listed' := #[true, false, false, false, false, false, false, false, false, false, false, false, false, false, false, false]) 0 [1, 1, 1] rfl (Y.load_box (v := .agg #[X13]) 1 kk26 rfl rfl rfl) rfl rfl rfl (by kernel_rfl) (by kernel_rfl) (by kernel_rfl) rfl rfl ?_
        refine TA.y (listed' := #[true, true, false, false, false, false, false, false, false, false, false, false, false, false, false, false]) 1 [1, 1, 1] rfl (Y.move rfl) rfl rfl rfl (by kernel_rfl) (by kernel_rfl) (by kernel_rfl) rfl rfl ?_
        refine TA.y (listed' := #[true, true, false, false, true, false, false, false, false, false, false, false, false, false, false, false]) 4 [1, 1, 1] rfl (Y.move rfl) rfl rfl rfl (by kernel_rfl) (by kernel_rfl) (by kernel_rfl) rfl rfl ?_
        refine TA.two 2 12 (by kernel_rfl) ?_ ?_
        · refine TX.ef (listed' := #[true, true, true, false, true, false, false, false, false, false, false, false, false, false, false, false]) [1, 1, 1] rfl (Ef.call (rest := [.box B1 26 [.slice none 0 0], .box B8 26 [X13], .own X13 (lc S12.2.2.2)]) [0, 0, 0, 0] (spec_l1Below_con ({ b := c.b, i := S12.1, h := S12.2.1 : L1Cur }) (3 : Int) V_c0 B_c R17 H18) kc33 rfl rfl ⟨(Base.can HB_V_c0), trivial⟩) rfl rfl rfl rfl (fun _ => rfl) (fun _ => ?_)
          refine TA.y (listed' := #[true, true, true, true, true, false, false, false, false, false, false, false, false, false, false, false]) 3 [1, 1, 1] rfl (Y.add rfl rfl) rfl rfl rfl (by kernel_rfl) (by kernel_rfl) (by kernel_rfl) rfl rfl ?_
          refine TA.two 5 12 (by kernel_rfl) ?_ ?_
          · refine TX.ef (listed' := #[true, true, true, true, true, true, false, false, false, false, false, false, false, false, false, false]) [1, 1, 1] rfl (Ef.call (rest := [.box B1 26 [.slice none 0 0], .box B8 26 [X13], .own X13 (lc S12.2.2.2)]) [0, 0, 0, 0] (spec_l1Below_con ({ b := c.b, i := R17.2.i, h := R17.2.h : L1Cur }) (4 : Int) V_c0 B_c R21 H22) kc33 rfl rfl ⟨(Base.can HB_V_c0), trivial⟩) rfl rfl rfl rfl (fun _ => rfl) (fun _ => ?_)
            refine TA.y (listed' := #[true, true, true, true, true, true, true, false, false, false, false, false, false, false, false, false]) 6 [1, 1, 1] rfl (Y.add rfl rfl) rfl rfl rfl (by kernel_rfl) (by kernel_rfl) (by kernel_rfl) rfl rfl ?_
            refine TA.two 7 12 (by kernel_rfl) ?_ ?_
            · refine TX.ef (listed' := #[true, true, true, true, true, true, true, true, false, false, false, false, false, false, false, false]) [3, 3, 3] rfl (Ef.call (rest := [.box B_c 69 [V_c0, .int .i64 R21.2.i, .int .i64 R21.2.h], .box B1 26 [.slice none 0 0], .box B8 26 [X13], .own X13 (lc S12.2.2.2)]) [0, 0, 0, 0] (spec_SpaceTake_con ({ Owner := S12.2.2.2 : Space }) (IntKind.i64.wrap ((1 : Int) + R17.1)) (IntKind.i64.wrap ((1 : Int) + R21.1)) X13 R25 H26) kc8 rfl rfl ⟨(Can.own 3 rfl), trivial⟩) rfl rfl rfl rfl (fun _ => rfl) (fun Y36 => ?_)
              refine TA.y (listed' := #[true, true, true, true, true, true, true, true, true, false, false, false, false, false, false, false]) 8 [3, 3, 3] rfl (Y.move rfl) rfl rfl rfl (by kernel_rfl) (by kernel_rfl) (by kernel_rfl) rfl rfl ?_
              refine TA.y (listed' := #[true, true, true, true, true, true, true, true, true, true, false, false, false, false, false, false]) 9 [3, 3, 3] rfl (Y.extract rfl rfl) rfl rfl rfl (by kernel_rfl) (by kernel_rfl) (by kernel_rfl) rfl rfl ?_
              refine TA.y (listed' := #[true, true, true, true, true, true, true, true, true, true, true, false, false, false, false, false]) 10 [3, 3, 3] rfl (Y.extract rfl rfl) rfl rfl rfl (by kernel_rfl) (by kernel_rfl) (by kernel_rfl) rfl rfl ?_
              refine TA.y (listed' := #[true, true, true, true, true, true, true, true, true, true, true, true, false, false, false, false]) 11 [3, 3, 3] rfl (Y.extract rfl rfl) rfl rfl rfl (by kernel_rfl) (by kernel_rfl) (by kernel_rfl) rfl rfl ?_
              refine TA.one 12 (by kernel_rfl) ?_
              refine TX.ef (listed' := #[true, true, true, true, true, true, true, true, true, true, true, true, true, false, false, false]) [4, 4, 4] rfl (Ef.alloc kz26 rfl) rfl rfl rfl rfl (fun _ => rfl) (fun B38 => ?_)
              refine TA.one 13 (by kernel_rfl) ?_
              refine TX.ef0 (listed' := #[true, true, true, true, true, true, true, true, true, true, true, true, true, true, false, false]) [4, 4, 4] rfl (Ef.store_box (us := [Y36.1]) (vs' := [Y36.1]) (is' := [.box B38 26 [Y36.1], .own Y36.1 (lc R25.1.Owner), .own Y36.2 (lc R25.2.1), .box B_c 69 [V_c0, .int .i64 R21.2.i, .int .i64 R21.2.h], .box B1 26 [.slice none 0 0], .box B8 26 [X13], .own X13 (lc S12.2.2.2)]) 0 kk26 rfl rfl rfl (Cel.agg ⟨(One.can (Can.own 1 rfl)), trivial⟩) rfl rfl rfl rfl) rfl rfl rfl (fun _ => rfl) (fun _ => ?_)
              refine TA.y (listed' := #[true, true, true, true, true, true, true, true, true, true, true, true, true, true, true, false]) 14 [4, 4, 4] rfl (Y.assign rfl) rfl rfl rfl (by kernel_rfl) (by kernel_rfl) (by kernel_rfl) rfl rfl ?_
              refine TA.y (listed' := #[true, true, true, true, true, true, true, true, true, true, true, true, true, true, true, true]) 15 [4, 4, 4] rfl (Y.assign rfl) rfl rfl rfl (by kernel_rfl) (by kernel_rfl) (by kernel_rfl) rfl rfl ?_
              refine TA.nil (by kernel_rfl) ?_
              exact TE.jb_go (B38, Y36.1) [3, 3, 3, 0, 2, 0] ⟨rfl, rfl, rfl, rfl, rfl, rfl, trivial⟩ rfl
            · refine TX.ef (listed' := #[true, true, true, true, true, true, true, false, false, false, false, false, true, false, false, false]) [2, 2, 2] rfl (Ef.alloc kz26 rfl) rfl rfl rfl rfl (fun _ => rfl) (fun B37 => ?_)
              refine TA.one 7 (by kernel_rfl) ?_
              refine TX.ef (listed' := #[true, true, true, true, true, true, true, true, false, false, false, false, true, false, false, false]) [4, 4, 4] rfl (Ef.call (rest := [.box B37 26 [.slice none 0 0], .box B_c 69 [V_c0, .int .i64 R21.2.i, .int .i64 R21.2.h], .box B1 26 [.slice none 0 0], .box B8 26 [X13], .own X13 (lc S12.2.2.2)]) [0, 0, 0, 0, 0] (spec_SpaceTake_con ({ Owner := S12.2.2.2 : Space }) (IntKind.i64.wrap ((1 : Int) + R17.1)) (IntKind.i64.wrap ((1 : Int) + R21.1)) X13 R25 H26) kc8 rfl rfl ⟨(Can.own 4 rfl), trivial⟩) rfl rfl rfl rfl (fun _ => rfl) (fun Y38 => ?_)
              refine TA.y (listed' := #[true, true, true, true, true, true, true, true, true, false, false, false, true, false, false, false]) 8 [4, 4, 4] rfl (Y.move rfl) rfl rfl rfl (by kernel_rfl) (by kernel_rfl) (by kernel_rfl) rfl rfl ?_
              refine TA.y (listed' := #[true, true, true, true, true, true, true, true, true, true, false, false, true, false, false, false]) 9 [4, 4, 4] rfl (Y.extract rfl rfl) rfl rfl rfl (by kernel_rfl) (by kernel_rfl) (by kernel_rfl) rfl rfl ?_
              refine TA.y (listed' := #[true, true, true, true, true, true, true, true, true, true, true, false, true, false, false, false]) 10 [4, 4, 4] rfl (Y.extract rfl rfl) rfl rfl rfl (by kernel_rfl) (by kernel_rfl) (by kernel_rfl) rfl rfl ?_
              refine TA.y (listed' := #[true, true, true, true, true, true, true, true, true, true, true, true, true, false, false, false]) 11 [4, 4, 4] rfl (Y.extract rfl rfl) rfl rfl rfl (by kernel_rfl) (by kernel_rfl) (by kernel_rfl) rfl rfl ?_
              refine TA.one 13 (by kernel_rfl) ?_
              refine TX.ef0 (listed' := #[true, true, true, true, true, true, true, true, true, true, true, true, true, true, false, false]) [4, 4, 4] rfl (Ef.store_box (us := [Y38.1]) (vs' := [Y38.1]) (is' := [.own Y38.1 (lc R25.1.Owner), .own Y38.2 (lc R25.2.1), .box B37 26 [Y38.1], .box B_c 69 [V_c0, .int .i64 R21.2.i, .int .i64 R21.2.h], .box B1 26 [.slice none 0 0], .box B8 26 [X13], .own X13 (lc S12.2.2.2)]) 2 kk26 rfl rfl rfl (Cel.agg ⟨(One.can (Can.own 0 rfl)), trivial⟩) rfl rfl rfl rfl) rfl rfl rfl (fun _ => rfl) (fun _ => ?_)
              refine TA.y (listed' := #[true, true, true, true, true, true, true, true, true, true, true, true, true, true, true, false]) 14 [4, 4, 4] rfl (Y.assign rfl) rfl rfl rfl (by kernel_rfl) (by kernel_rfl) (by kernel_rfl) rfl rfl ?_
              refine TA.y (listed' := #[true, true, true, true, true, true, true, true, true, true, true, true, true, true, true, true]) 15 [4, 4, 4] rfl (Y.assign rfl) rfl rfl rfl (by kernel_rfl) (by kernel_rfl) (by kernel_rfl) rfl rfl ?_
              refine TA.nil (by kernel_rfl) ?_
              exact TE.jb_go (B37, Y38.1) [3, 3, 3, 2, 2, 0] ⟨rfl, rfl, rfl, rfl, rfl, rfl, trivial⟩ rfl
          · refine TX.ef (listed' := #[true, true, true, true, true, false, false, false, false, false, false, false, true, false, false, false]) [2, 2, 2] rfl (Ef.alloc kz26 rfl) rfl rfl rfl rfl (fun _ => rfl) (fun B35 => ?_)
            refine TA.one 5 (by kernel_rfl) ?_
            refine TX.ef (listed' := #[true, true, true, true, true, true, false, false, false, false, false, false, true, false, false, false]) [2, 2, 2] rfl (Ef.call (rest := [.box B35 26 [.slice none 0 0], .box B1 26 [.slice none 0 0], .box B8 26 [X13], .own X13 (lc S12.2.2.2)]) [1, 0, 0, 0, 0] (spec_l1Below_con ({ b := c.b, i := R17.2.i, h := R17.2.h : L1Cur }) (4 : Int) V_c0 B_c R21 H22) kc33 rfl rfl ⟨(Base.can HB_V_c0), trivial⟩) rfl rfl rfl rfl (fun _ => rfl) (fun _ => ?_)
            refine TA.y (listed' := #[true, true, true, true, true, true, true, false, false, false, false, false, true, false, false, false]) 6 [2, 2, 2] rfl (Y.add rfl rfl) rfl rfl rfl (by kernel_rfl) (by kernel_rfl) (by kernel_rfl) rfl rfl ?_
            refine TA.one 7 (by kernel_rfl) ?_
            refine TX.ef (listed' := #[true, true, true, true, true, true, true, true, false, false, false, false, true, false, false, false]) [4, 4, 4] rfl (Ef.call (rest := [.box B_c 69 [V_c0, .int .i64 R21.2.i, .int .i64 R21.2.h], .box B35 26 [.slice none 0 0], .box B1 26 [.slice none 0 0], .box B8 26 [X13], .own X13 (lc S12.2.2.2)]) [0, 0, 0, 0, 0] (spec_SpaceTake_con ({ Owner := S12.2.2.2 : Space }) (IntKind.i64.wrap ((1 : Int) + R17.1)) (IntKind.i64.wrap ((1 : Int) + R21.1)) X13 R25 H26) kc8 rfl rfl ⟨(Can.own 4 rfl), trivial⟩) rfl rfl rfl rfl (fun _ => rfl) (fun Y37 => ?_)
            refine TA.y (listed' := #[true, true, true, true, true, true, true, true, true, false, false, false, true, false, false, false]) 8 [4, 4, 4] rfl (Y.move rfl) rfl rfl rfl (by kernel_rfl) (by kernel_rfl) (by kernel_rfl) rfl rfl ?_
            refine TA.y (listed' := #[true, true, true, true, true, true, true, true, true, true, false, false, true, false, false, false]) 9 [4, 4, 4] rfl (Y.extract rfl rfl) rfl rfl rfl (by kernel_rfl) (by kernel_rfl) (by kernel_rfl) rfl rfl ?_
            refine TA.y (listed' := #[true, true, true, true, true, true, true, true, true, true, true, false, true, false, false, false]) 10 [4, 4, 4] rfl (Y.extract rfl rfl) rfl rfl rfl (by kernel_rfl) (by kernel_rfl) (by kernel_rfl) rfl rfl ?_
            refine TA.y (listed' := #[true, true, true, true, true, true, true, true, true, true, true, true, true, false, false, false]) 11 [4, 4, 4] rfl (Y.extract rfl rfl) rfl rfl rfl (by kernel_rfl) (by kernel_rfl) (by kernel_rfl) rfl rfl ?_
            refine TA.one 13 (by kernel_rfl) ?_
            refine TX.ef0 (listed' := #[true, true, true, true, true, true, true, true, true, true, true, true, true, true, false, false]) [4, 4, 4] rfl (Ef.store_box (us := [Y37.1]) (vs' := [Y37.1]) (is' := [.own Y37.1 (lc R25.1.Owner), .own Y37.2 (lc R25.2.1), .box B_c 69 [V_c0, .int .i64 R21.2.i, .int .i64 R21.2.h], .box B35 26 [Y37.1], .box B1 26 [.slice none 0 0], .box B8 26 [X13], .own X13 (lc S12.2.2.2)]) 3 kk26 rfl rfl rfl (Cel.agg ⟨(One.can (Can.own 0 rfl)), trivial⟩) rfl rfl rfl rfl) rfl rfl rfl (fun _ => rfl) (fun _ => ?_)
            refine TA.y (listed' := #[true, true, true, true, true, true, true, true, true, true, true, true, true, true, true, false]) 14 [4, 4, 4] rfl (Y.assign rfl) rfl rfl rfl (by kernel_rfl) (by kernel_rfl) (by kernel_rfl) rfl rfl ?_
            refine TA.y (listed' := #[true, true, true, true, true, true, true, true, true, true, true, true, true, true, true, true]) 15 [4, 4, 4] rfl (Y.assign rfl) rfl rfl rfl (by kernel_rfl) (by kernel_rfl) (by kernel_rfl) rfl rfl ?_
            refine TA.nil (by kernel_rfl) ?_
            exact TE.jb_go (B35, Y37.1) [2, 3, 3, 2, 2, 0] ⟨rfl, rfl, rfl, rfl, rfl, rfl, trivial⟩ rfl
        · refine TX.ef (listed' := #[true, true, false, false, true, false, false, false, false, false, false, false, true, false, false, false]) [2, 2, 2] rfl (Ef.alloc kz26 rfl) rfl rfl rfl rfl (fun _ => rfl) (fun B33 => ?_)
          refine TA.one 2 (by kernel_rfl) ?_
          refine TX.ef (listed' := #[true, true, true, false, true, false, false, false, false, false, false, false, true, false, false, false]) [2, 2, 2] rfl (Ef.call (rest := [.box B33 26 [.slice none 0 0], .box B1 26 [.slice none 0 0], .box B8 26 [X13], .own X13 (lc S12.2.2.2)]) [1, 0, 0, 0, 0] (spec_l1Below_con ({ b := c.b, i := S12.1, h := S12.2.1 : L1Cur }) (3 : Int) V_c0 B_c R17 H18) kc33 rfl rfl ⟨(Base.can HB_V_c0), trivial⟩) rfl rfl rfl rfl (fun _ => rfl) (fun _ => ?_)
          refine TA.y (listed' := #[true, true, true, true, true, false, false, false, false, false, false, false, true, false, false, false]) 3 [2, 2, 2] rfl (Y.add rfl rfl) rfl rfl rfl (by kernel_rfl) (by kernel_rfl) (by kernel_rfl) rfl rfl ?_
          refine TA.one 5 (by kernel_rfl) ?_
          refine TX.ef (listed' := #[true, true, true, true, true, true, false, false, false, false, false, false, true, false, false, false]) [2, 2, 2] rfl (Ef.call (rest := [.box B33 26 [.slice none 0 0], .box B1 26 [.slice none 0 0], .box B8 26 [X13], .own X13 (lc S12.2.2.2)]) [0, 0, 0, 0, 0] (spec_l1Below_con ({ b := c.b, i := R17.2.i, h := R17.2.h : L1Cur }) (4 : Int) V_c0 B_c R21 H22) kc33 rfl rfl ⟨(Base.can HB_V_c0), trivial⟩) rfl rfl rfl rfl (fun _ => rfl) (fun _ => ?_)
          refine TA.y (listed' := #[true, true, true, true, true, true, true, false, false, false, false, false, true, false, false, false]) 6 [2, 2, 2] rfl (Y.add rfl rfl) rfl rfl rfl (by kernel_rfl) (by kernel_rfl) (by kernel_rfl) rfl rfl ?_
          refine TA.one 7 (by kernel_rfl) ?_
          refine TX.ef (listed' := #[true, true, true, true, true, true, true, true, false, false, false, false, true, false, false, false]) [4, 4, 4] rfl (Ef.call (rest := [.box B_c 69 [V_c0, .int .i64 R21.2.i, .int .i64 R21.2.h], .box B33 26 [.slice none 0 0], .box B1 26 [.slice none 0 0], .box B8 26 [X13], .own X13 (lc S12.2.2.2)]) [0, 0, 0, 0, 0] (spec_SpaceTake_con ({ Owner := S12.2.2.2 : Space }) (IntKind.i64.wrap ((1 : Int) + R17.1)) (IntKind.i64.wrap ((1 : Int) + R21.1)) X13 R25 H26) kc8 rfl rfl ⟨(Can.own 4 rfl), trivial⟩) rfl rfl rfl rfl (fun _ => rfl) (fun Y36 => ?_)
          refine TA.y (listed' := #[true, true, true, true, true, true, true, true, true, false, false, false, true, false, false, false]) 8 [4, 4, 4] rfl (Y.move rfl) rfl rfl rfl (by kernel_rfl) (by kernel_rfl) (by kernel_rfl) rfl rfl ?_
          refine TA.y (listed' := #[true, true, true, true, true, true, true, true, true, true, false, false, true, false, false, false]) 9 [4, 4, 4] rfl (Y.extract rfl rfl) rfl rfl rfl (by kernel_rfl) (by kernel_rfl) (by kernel_rfl) rfl rfl ?_
          refine TA.y (listed' := #[true, true, true, true, true, true, true, true, true, true, true, false, true, false, false, false]) 10 [4, 4, 4] rfl (Y.extract rfl rfl) rfl rfl rfl (by kernel_rfl) (by kernel_rfl) (by kernel_rfl) rfl rfl ?_
          refine TA.y (listed' := #[true, true, true, true, true, true, true, true, true, true, true, true, true, false, false, false]) 11 [4, 4, 4] rfl (Y.extract rfl rfl) rfl rfl rfl (by kernel_rfl) (by kernel_rfl) (by kernel_rfl) rfl rfl ?_
          refine TA.one 13 (by kernel_rfl) ?_
          refine TX.ef0 (listed' := #[true, true, true, true, true, true, true, true, true, true, true, true, true, true, false, false]) [4, 4, 4] rfl (Ef.store_box (us := [Y36.1]) (vs' := [Y36.1]) (is' := [.own Y36.1 (lc R25.1.Owner), .own Y36.2 (lc R25.2.1), .box B_c 69 [V_c0, .int .i64 R21.2.i, .int .i64 R21.2.h], .box B33 26 [Y36.1], .box B1 26 [.slice none 0 0], .box B8 26 [X13], .own X13 (lc S12.2.2.2)]) 3 kk26 rfl rfl rfl (Cel.agg ⟨(One.can (Can.own 0 rfl)), trivial⟩) rfl rfl rfl rfl) rfl rfl rfl (fun _ => rfl) (fun _ => ?_)
          refine TA.y (listed' := #[true, true, true, true, true, true, true, true, true, true, true, true, true, true, true, false]) 14 [4, 4, 4] rfl (Y.assign rfl) rfl rfl rfl (by kernel_rfl) (by kernel_rfl) (by kernel_rfl) rfl rfl ?_
          refine TA.y (listed' := #[true, true, true, true, true, true, true, true, true, true, true, true, true, true, true, true]) 15 [4, 4, 4] rfl (Y.assign rfl) rfl rfl rfl (by kernel_rfl) (by kernel_rfl) (by kernel_rfl) rfl rfl ?_
          refine TA.nil (by kernel_rfl) ?_
          exact TE.jb_go (B33, Y36.1) [2, 3, 3, 2, 2, 0] ⟨rfl, rfl, rfl, rfl, rfl, rfl, trivial⟩ rfl
      · refine TE.next ?_
        refine TW.seq ?_
        refine TW.region ?_
        refine TO.y (Y.move rfl) rfl rfl rfl ?_
        refine TO.nil ?_
        refine TE.next ?_
        refine TW.joinX (τ := List Int) (X := Value) (fun _ _ => [(0, .pointer (some ⟨B_c, 0, none⟩)), (2, .pointer (some ⟨B1, 0, none⟩)), (3, .pointer (some ⟨B8, 0, none⟩)), (4, .int .i64 S12.2.2.1)]) (fun T X => [.box B_c 69 [V_c0, .int .i64 R21.2.i, .int .i64 R21.2.h], .box B1 26 [.slice none 0 0], .box B8 26 [X], .own X (lc T)]) ?_ (fun T34 X35 => ?_)
        · refine TW.cond rfl (fun H36 => ?_) (fun H36 => ?_)
          · refine TW.region ?_
            refine TO.y (Y.load_box (v := .agg #[X31.2]) 3 kk26 rfl rfl rfl) rfl rfl rfl ?_
            refine TO.ef0 (Ef.store_box (us := [X31.2]) (vs' := [X31.2]) (is' := [.box B_c 69 [V_c0, .int .i64 R21.2.i, .int .i64 R21.2.h], .box B1 26 [.slice none 0 0], .box B8 26 [X31.2], .box X31.1 26 [X31.2], .own X13 (lc S12.2.2.2), .own X31.2 (lc R25.1.Owner)]) 2 kk26 rfl rfl rfl (Cel.agg ⟨(One.can (Can.own 5 rfl)), trivial⟩) rfl rfl rfl rfl) rfl rfl (fun _ => ?_)
            refine TO.nil ?_
            exact TE.jn_go X31.2 [0, 0, 0, 2] ⟨rfl, rfl, rfl, rfl, trivial⟩ rfl
          · refine TW.skip ?_
            exact TE.jn_go X13 [0, 0, 0, 1] ⟨rfl, rfl, rfl, rfl, trivial⟩ rfl
        · refine TE.block_normal ?_
          refine TE.next ?_
          refine TW.region ?_
          refine TO.y (Y.move rfl) rfl rfl rfl ?_
          refine TO.y (Y.sub rfl rfl) rfl rfl rfl ?_
          refine TO.y (Y.assign rfl) rfl rfl rfl ?_
          refine TO.nil ?_
          exact TE.lp_go X35 [0, 0, 0, 0] ⟨rfl, rfl, rfl, rfl, trivial⟩ rfl
    · refine TW.exit ?_
      refine TE.then_exit ?_
      refine TE.lp_exit ?_
      refine TE.block_exit ?_
      exact TE.jn_go X13 [0, 0, 0, 0] ⟨rfl, rfl, rfl, trivial⟩ rfl
  · refine TE.next ?_
    refine TW.seq ?_
    refine TW.seq ?_
    refine TW.region ?_
    refine TO.y (Y.move rfl) rfl rfl rfl ?_
    refine TO.bind fun R37 H38 => ?_
    refine TO.ef (Ef.call (rest := [.box B1 26 [.slice none 0 0], .box B8 26 [X15], .own X15 (lc T14.2.2)]) [0, 0, 0, 0] (spec_l1Once_con ({ b := c.b, i := T14.1, h := T14.2.1 : L1Cur }) (3 : Int) V_c0 B_c R37 H38) kc34 rfl rfl ⟨(Base.can HB_V_c0), trivial⟩) rfl rfl rfl (fun _ => ?_)
    refine TO.nil ?_
    refine TE.next ?_
    refine TW.joinX (τ := Int × Int × List Int) (X := Value) (fun _ _ => [(0, .pointer (some ⟨B_c, 0, none⟩)), (2, .pointer (some ⟨B1, 0, none⟩)), (3, .pointer (some ⟨B8, 0, none⟩))]) (fun T X => [.box B_c 69 [V_c0, .int .i64 T.1, .int .i64 T.2.1], .box B1 26 [.slice none 0 0], .box B8 26 [X], .own X (lc T.2.2)]) ?_ (fun T40 X41 => ?_)
    · refine TW.cond rfl (fun H42 => ?_) (fun H42 => ?_)
      · refine TW.seq ?_
        refine TW.bind fun R43 H44 => ?_
        refine TW.bind fun R47 H48 => ?_
        refine TW.joinU (X := Nat × Value) (fun _ X => [(0, .pointer (some ⟨B_c, 0, none⟩)), (2, .pointer (some ⟨B1, 0, none⟩)), (3, .pointer (some ⟨B8, 0, none⟩)), (8, .pointer (some ⟨X.1, 0, none⟩))]) (fun _ X => [.box B_c 69 [V_c0, .int .i64 R43.2.i, .int .i64 R43.2.h], .box B1 26 [.slice none 0 0], .box B8 26 [X15], .box X.1 26 [X.2], .own X15 (lc T14.2.2), .own X.2 (lc R47.1.Owner)]) ?_ (fun _ X53 => ?_)
        · refine TW.draw (isH := [.box B1 26 [.slice none 0 0], .box B8 26 [X15], .own X15 (lc T14.2.2)]) hMix ?_
          refine TA.y (listed' := #[true, false, false, false, false, false, false, false, false, false, false]) 0 [1, 1, 1] rfl (Y.load_box (v := .agg #[X15]) 1 kk26 rfl rfl rfl) rfl rfl rfl (by kernel_rfl) (by kernel_rfl) (by kernel_rfl) rfl rfl ?_
          refine TA.y (listed' := #[true, true, false, false, false, false, false, false, false, false, false]) 1 [1, 1, 1] rfl (Y.move rfl) rfl rfl rfl (by kernel_rfl) (by kernel_rfl) (by kernel_rfl) rfl rfl ?_
          refine TA.two 2 8 (by kernel_rfl) ?_ ?_
          · refine TX.ef (listed' := #[true, true, true, false, false, false, false, false, false, false, false]) [1, 1, 1] rfl (Ef.call (rest := [.box B1 26 [.slice none 0 0], .box B8 26 [X15], .own X15 (lc T14.2.2)]) [0, 0, 0, 0] (spec_l1Below_con ({ b := c.b, i := R37.2.i, h := R37.2.h : L1Cur }) (3 : Int) V_c0 B_c R43 H44) kc33 rfl rfl ⟨(Base.can HB_V_c0), trivial⟩) rfl rfl rfl rfl (fun _ => rfl) (fun _ => ?_)
            refine TA.y (listed' := #[true, true, true, true, false, false, false, false, false, false, false]) 3 [1, 1, 1] rfl (Y.add rfl rfl) rfl rfl rfl (by kernel_rfl) (by kernel_rfl) (by kernel_rfl) rfl rfl ?_
            refine TA.two 4 8 (by kernel_rfl) ?_ ?_
            · refine TX.ef (listed' := #[true, true, true, true, true, false, false, false, false, false, false]) [2, 2, 2] rfl (Ef.call (rest := [.box B_c 69 [V_c0, .int .i64 R43.2.i, .int .i64 R43.2.h], .box B1 26 [.slice none 0 0], .box B8 26 [X15], .own X15 (lc T14.2.2)]) [0, 0, 0, 0] (spec_SpaceWipe_con ({ Owner := T14.2.2 : Space }) (IntKind.i64.wrap ((1 : Int) + R43.1)) X15 R47 H48) kc48 rfl rfl ⟨(Can.own 3 rfl), trivial⟩) rfl rfl rfl rfl (fun _ => rfl) (fun Y56 => ?_)
              refine TA.y (listed' := #[true, true, true, true, true, true, false, false, false, false, false]) 5 [2, 2, 2] rfl (Y.move rfl) rfl rfl rfl (by kernel_rfl) (by kernel_rfl) (by kernel_rfl) rfl rfl ?_
              refine TA.y (listed' := #[true, true, true, true, true, true, true, false, false, false, false]) 6 [2, 2, 2] rfl (Y.extract rfl rfl) rfl rfl rfl (by kernel_rfl) (by kernel_rfl) (by kernel_rfl) rfl rfl ?_
              refine TA.y (listed' := #[true, true, true, true, true, true, true, true, false, false, false]) 7 [2, 2, 2] rfl (Y.extract rfl rfl) rfl rfl rfl (by kernel_rfl) (by kernel_rfl) (by kernel_rfl) rfl rfl ?_
              refine TA.one 8 (by kernel_rfl) ?_
              refine TX.ef (listed' := #[true, true, true, true, true, true, true, true, true, false, false]) [3, 3, 3] rfl (Ef.alloc kz26 rfl) rfl rfl rfl rfl (fun _ => rfl) (fun B58 => ?_)
              refine TA.one 9 (by kernel_rfl) ?_
              refine TX.ef0 (listed' := #[true, true, true, true, true, true, true, true, true, true, false]) [3, 3, 3] rfl (Ef.store_box (us := [Y56]) (vs' := [Y56]) (is' := [.box B58 26 [Y56], .own Y56 (lc R47.1.Owner), .box B_c 69 [V_c0, .int .i64 R43.2.i, .int .i64 R43.2.h], .box B1 26 [.slice none 0 0], .box B8 26 [X15], .own X15 (lc T14.2.2)]) 0 kk26 rfl rfl rfl (Cel.agg ⟨(One.can (Can.own 1 rfl)), trivial⟩) rfl rfl rfl rfl) rfl rfl rfl (fun _ => rfl) (fun _ => ?_)
              refine TA.y (listed' := #[true, true, true, true, true, true, true, true, true, true, true]) 10 [3, 3, 3] rfl (Y.assign rfl) rfl rfl rfl (by kernel_rfl) (by kernel_rfl) (by kernel_rfl) rfl rfl ?_
              refine TA.nil (by kernel_rfl) ?_
              exact TE.jb_go (B58, Y56) [2, 2, 2, 0, 1, 0] ⟨rfl, rfl, rfl, rfl, trivial⟩ rfl
            · refine TX.ef (listed' := #[true, true, true, true, false, false, false, false, true, false, false]) [2, 2, 2] rfl (Ef.alloc kz26 rfl) rfl rfl rfl rfl (fun _ => rfl) (fun B57 => ?_)
              refine TA.one 4 (by kernel_rfl) ?_
              refine TX.ef (listed' := #[true, true, true, true, true, false, false, false, true, false, false]) [3, 3, 3] rfl (Ef.call (rest := [.box B57 26 [.slice none 0 0], .box B_c 69 [V_c0, .int .i64 R43.2.i, .int .i64 R43.2.h], .box B1 26 [.slice none 0 0], .box B8 26 [X15], .own X15 (lc T14.2.2)]) [0, 0, 0, 0, 0] (spec_SpaceWipe_con ({ Owner := T14.2.2 : Space }) (IntKind.i64.wrap ((1 : Int) + R43.1)) X15 R47 H48) kc48 rfl rfl ⟨(Can.own 4 rfl), trivial⟩) rfl rfl rfl rfl (fun _ => rfl) (fun Y58 => ?_)
              refine TA.y (listed' := #[true, true, true, true, true, true, false, false, true, false, false]) 5 [3, 3, 3] rfl (Y.move rfl) rfl rfl rfl (by kernel_rfl) (by kernel_rfl) (by kernel_rfl) rfl rfl ?_
              refine TA.y (listed' := #[true, true, true, true, true, true, true, false, true, false, false]) 6 [3, 3, 3] rfl (Y.extract rfl rfl) rfl rfl rfl (by kernel_rfl) (by kernel_rfl) (by kernel_rfl) rfl rfl ?_
              refine TA.y (listed' := #[true, true, true, true, true, true, true, true, true, false, false]) 7 [3, 3, 3] rfl (Y.extract rfl rfl) rfl rfl rfl (by kernel_rfl) (by kernel_rfl) (by kernel_rfl) rfl rfl ?_
              refine TA.one 9 (by kernel_rfl) ?_
              refine TX.ef0 (listed' := #[true, true, true, true, true, true, true, true, true, true, false]) [3, 3, 3] rfl (Ef.store_box (us := [Y58]) (vs' := [Y58]) (is' := [.own Y58 (lc R47.1.Owner), .box B57 26 [Y58], .box B_c 69 [V_c0, .int .i64 R43.2.i, .int .i64 R43.2.h], .box B1 26 [.slice none 0 0], .box B8 26 [X15], .own X15 (lc T14.2.2)]) 1 kk26 rfl rfl rfl (Cel.agg ⟨(One.can (Can.own 0 rfl)), trivial⟩) rfl rfl rfl rfl) rfl rfl rfl (fun _ => rfl) (fun _ => ?_)
              refine TA.y (listed' := #[true, true, true, true, true, true, true, true, true, true, true]) 10 [3, 3, 3] rfl (Y.assign rfl) rfl rfl rfl (by kernel_rfl) (by kernel_rfl) (by kernel_rfl) rfl rfl ?_
              refine TA.nil (by kernel_rfl) ?_
              exact TE.jb_go (B57, Y58) [2, 2, 2, 1, 1, 0] ⟨rfl, rfl, rfl, rfl, trivial⟩ rfl
          · refine TX.ef (listed' := #[true, true, false, false, false, false, false, false, true, false, false]) [2, 2, 2] rfl (Ef.alloc kz26 rfl) rfl rfl rfl rfl (fun _ => rfl) (fun B55 => ?_)
            refine TA.one 2 (by kernel_rfl) ?_
            refine TX.ef (listed' := #[true, true, true, false, false, false, false, false, true, false, false]) [2, 2, 2] rfl (Ef.call (rest := [.box B55 26 [.slice none 0 0], .box B1 26 [.slice none 0 0], .box B8 26 [X15], .own X15 (lc T14.2.2)]) [1, 0, 0, 0, 0] (spec_l1Below_con ({ b := c.b, i := R37.2.i, h := R37.2.h : L1Cur }) (3 : Int) V_c0 B_c R43 H44) kc33 rfl rfl ⟨(Base.can HB_V_c0), trivial⟩) rfl rfl rfl rfl (fun _ => rfl) (fun _ => ?_)
            refine TA.y (listed' := #[true, true, true, true, false, false, false, false, true, false, false]) 3 [2, 2, 2] rfl (Y.add rfl rfl) rfl rfl rfl (by kernel_rfl) (by kernel_rfl) (by kernel_rfl) rfl rfl ?_
            refine TA.one 4 (by kernel_rfl) ?_
            refine TX.ef (listed' := #[true, true, true, true, true, false, false, false, true, false, false]) [3, 3, 3] rfl (Ef.call (rest := [.box B_c 69 [V_c0, .int .i64 R43.2.i, .int .i64 R43.2.h], .box B55 26 [.slice none 0 0], .box B1 26 [.slice none 0 0], .box B8 26 [X15], .own X15 (lc T14.2.2)]) [0, 0, 0, 0, 0] (spec_SpaceWipe_con ({ Owner := T14.2.2 : Space }) (IntKind.i64.wrap ((1 : Int) + R43.1)) X15 R47 H48) kc48 rfl rfl ⟨(Can.own 4 rfl), trivial⟩) rfl rfl rfl rfl (fun _ => rfl) (fun Y57 => ?_)
            refine TA.y (listed' := #[true, true, true, true, true, true, false, false, true, false, false]) 5 [3, 3, 3] rfl (Y.move rfl) rfl rfl rfl (by kernel_rfl) (by kernel_rfl) (by kernel_rfl) rfl rfl ?_
            refine TA.y (listed' := #[true, true, true, true, true, true, true, false, true, false, false]) 6 [3, 3, 3] rfl (Y.extract rfl rfl) rfl rfl rfl (by kernel_rfl) (by kernel_rfl) (by kernel_rfl) rfl rfl ?_
            refine TA.y (listed' := #[true, true, true, true, true, true, true, true, true, false, false]) 7 [3, 3, 3] rfl (Y.extract rfl rfl) rfl rfl rfl (by kernel_rfl) (by kernel_rfl) (by kernel_rfl) rfl rfl ?_
            refine TA.one 9 (by kernel_rfl) ?_
            refine TX.ef0 (listed' := #[true, true, true, true, true, true, true, true, true, true, false]) [3, 3, 3] rfl (Ef.store_box (us := [Y57]) (vs' := [Y57]) (is' := [.own Y57 (lc R47.1.Owner), .box B_c 69 [V_c0, .int .i64 R43.2.i, .int .i64 R43.2.h], .box B55 26 [Y57], .box B1 26 [.slice none 0 0], .box B8 26 [X15], .own X15 (lc T14.2.2)]) 2 kk26 rfl rfl rfl (Cel.agg ⟨(One.can (Can.own 0 rfl)), trivial⟩) rfl rfl rfl rfl) rfl rfl rfl (fun _ => rfl) (fun _ => ?_)
            refine TA.y (listed' := #[true, true, true, true, true, true, true, true, true, true, true]) 10 [3, 3, 3] rfl (Y.assign rfl) rfl rfl rfl (by kernel_rfl) (by kernel_rfl) (by kernel_rfl) rfl rfl ?_
            refine TA.nil (by kernel_rfl) ?_
            exact TE.jb_go (B55, Y57) [1, 2, 2, 1, 1, 0] ⟨rfl, rfl, rfl, rfl, trivial⟩ rfl
        · refine TE.next ?_
          refine TW.region ?_
          refine TO.y (Y.load_box (v := .agg #[X53.2]) 3 kk26 rfl rfl rfl) rfl rfl rfl ?_
          refine TO.ef0 (Ef.store_box (us := [X53.2]) (vs' := [X53.2]) (is' := [.box B_c 69 [V_c0, .int .i64 R43.2.i, .int .i64 R43.2.h], .box B1 26 [.slice none 0 0], .box B8 26 [X53.2], .box X53.1 26 [X53.2], .own X15 (lc T14.2.2), .own X53.2 (lc R47.1.Owner)]) 2 kk26 rfl rfl rfl (Cel.agg ⟨(One.can (Can.own 5 rfl)), trivial⟩) rfl rfl rfl rfl) rfl rfl (fun _ => ?_)
          refine TO.nil ?_
          exact TE.jn_go X53.2 [0, 0, 0, 2] ⟨rfl, rfl, rfl, trivial⟩ rfl
      · refine TW.skip ?_
        exact TE.jn_go X15 [0, 0, 0, 0] ⟨rfl, rfl, rfl, trivial⟩ rfl
    · refine TE.next ?_
      refine TW.seq ?_
      refine TW.seq ?_
      refine TW.region ?_
      refine TO.y (Y.move rfl) rfl rfl rfl ?_
      refine TO.bind fun R56 H57 => ?_
      refine TO.ef (Ef.call (rest := [.box B1 26 [.slice none 0 0], .box B8 26 [X41], .own X41 (lc T40.2.2)]) [0, 0, 0, 0] (spec_l1Once_con ({ b := c.b, i := T40.1, h := T40.2.1 : L1Cur }) (12 : Int) V_c0 B_c R56 H57) kc34 rfl rfl ⟨(Base.can HB_V_c0), trivial⟩) rfl rfl rfl (fun _ => ?_)
      refine TO.nil ?_
      refine TE.next ?_
      refine TW.joinX (τ := Int × Int × List Int) (X := Unit) (fun _ _ => [(0, .pointer (some ⟨B_c, 0, none⟩)), (2, .pointer (some ⟨B1, 0, none⟩)), (3, .pointer (some ⟨B8, 0, none⟩))]) (fun T _ => [.box B_c 69 [V_c0, .int .i64 T.1, .int .i64 T.2.1], .box B1 26 [.slice none 0 0], .box B8 26 [X41], .own X41 (lc T.2.2)]) ?_ (fun T59 X60 => ?_)
      · refine TW.cond rfl (fun H61 => ?_) (fun H61 => ?_)
        · refine TW.draw (isH := [.box B1 26 [.slice none 0 0], .box B8 26 [X41]]) hMix ?_
          refine TA.y (listed' := #[true, false, false, false, false, false, false]) 0 [1, 1] rfl (Y.field_box kf26_0 rfl rfl) rfl rfl rfl (by kernel_rfl) (by kernel_rfl) (by kernel_rfl) rfl rfl ?_
          refine TA.y (listed' := #[true, true, false, false, false, false, false]) 1 [1, 1] rfl (Y.load_box (v := X41) 1 kk24 rfl rfl rfl) rfl rfl rfl (by kernel_rfl) (by kernel_rfl) (by kernel_rfl) rfl rfl ?_
          refine TA.y (listed' := #[true, true, true, false, false, false, false]) 2 [1, 1] rfl (Y.move rfl) rfl rfl rfl (by kernel_rfl) (by kernel_rfl) (by kernel_rfl) rfl rfl ?_
          refine TA.one 3 (by kernel_rfl) ?_
          refine TX.ef (listed' := #[true, true, true, true, false, false, false]) [2, 2] rfl (Ef.buildSlice (α := Int) (Vs := [.int .i64 (-1 : Int), .int .i64 (99 : Int), .int .i64 (100 : Int)]) [(-1 : Int), (99 : Int), (100 : Int)] ke24 kz3 rfl rfl rfl rfl rfl) rfl rfl rfl rfl (fun _ => rfl) (fun B62 => ?_)
          refine TA.bind fun R63 H64 => ?_
          refine TA.one 4 (by kernel_rfl) ?_
          refine TX.ef (listed' := #[true, true, true, true, true, false, false]) [2, 2] rfl (Ef.call (rest := [.own (.slice (some ⟨B62, 0, none⟩) 3 3) (lc ([(-1 : Int), (99 : Int), (100 : Int)])), .box B1 26 [.slice none 0 0], .box B8 26 [X41], .own X41 (lc T40.2.2)]) [1, 0, 0, 0, 0] (spec_l1PickInt_con ({ b := c.b, i := R56.2.i, h := R56.2.h : L1Cur }) ([(-1 : Int), (99 : Int), (100 : Int)]) V_c0 B_c (.slice (some ⟨B62, 0, none⟩) 3 3) R63 H64) kc26 rfl rfl ⟨(Base.can HB_V_c0), (Can.own 0 rfl), trivial⟩) rfl rfl rfl rfl (fun _ => rfl) (fun _ => ?_)
          refine TA.bind fun E66 H67 => ?_
          refine TA.one 5 (by kernel_rfl) ?_
          refine TX.y (listed' := #[true, true, true, true, true, true, false]) [2, 2] rfl (Y.index ke24 (Can.own 4 rfl) H67 rfl rfl) rfl rfl rfl rfl rfl ?_
          refine TA.one 6 (by kernel_rfl) ?_
          refine TX.ef0 (listed' := #[true, true, true, true, true, true, true]) [2, 2] rfl (Ef.store_el (us := [.int .i64 R63.1]) (is' := [.box B_c 69 [V_c0, .int .i64 R63.2.i, .int .i64 R63.2.h], .own (.slice (some ⟨B62, 0, none⟩) 3 3) (lc ([(-1 : Int), (99 : Int), (100 : Int)])), .box B1 26 [.slice none 0 0], .box B8 26 [X41], .own X41 (lc (T40.2.2.set ((0 : Int).toNat) R63.1))]) R63.1 4 kk3 rfl rfl (idx_get H67).2.2 rfl rfl (Cel.plain rfl rfl) rfl rfl rfl rfl) rfl rfl rfl (fun _ => rfl) (fun _ => ?_)
          refine TA.nil (by kernel_rfl) ?_
          exact TE.jn_go () [0, 1, 1, 1] ⟨rfl, rfl, rfl, trivial⟩ rfl
        · refine TW.skip ?_
          exact TE.jn_go () [0, 0, 0, 0] ⟨rfl, rfl, rfl, trivial⟩ rfl
      · refine TE.next ?_
        refine TW.seq ?_
        refine TW.seq ?_
        refine TW.region ?_
        refine TO.y (Y.move rfl) rfl rfl rfl ?_
        refine TO.bind fun R68 H69 => ?_
        refine TO.ef (Ef.call (rest := [.box B1 26 [.slice none 0 0], .box B8 26 [X41], .own X41 (lc T59.2.2)]) [0, 0, 0, 0] (spec_l1Once_con ({ b := c.b, i := T59.1, h := T59.2.1 : L1Cur }) (30 : Int) V_c0 B_c R68 H69) kc34 rfl rfl ⟨(Base.can HB_V_c0), trivial⟩) rfl rfl rfl (fun _ => ?_)
        refine TO.nil ?_
        refine TE.next ?_
        refine TW.joinX (τ := Int × Int × List Int) (X := Value) (fun _ _ => [(2, .pointer (some ⟨B1, 0, none⟩)), (3, .pointer (some ⟨B8, 0, none⟩))]) (fun T X => [.box B1 26 [.slice none 0 0], .box B8 26 [X], .box B_c 69 [V_c0, .int .i64 T.1, .int .i64 T.2.1], .own X (lc T.2.2)]) ?_ (fun T71 X72 => ?_)
        · refine TW.cond rfl (fun H73 => ?_) (fun H73 => ?_)
          · refine TW.region ?_
            refine TO.y (Y.move rfl) rfl rfl rfl ?_
            refine TO.bind fun R74 H75 => ?_
            refine TO.ef (Ef.call (rest := [.box B1 26 [.slice none 0 0], .box B8 26 [X41], .own X41 (lc T59.2.2)]) [0, 0, 0, 0] (spec_l1Below_con ({ b := c.b, i := R68.2.i, h := R68.2.h : L1Cur }) (2 : Int) V_c0 B_c R74 H75) kc33 rfl rfl ⟨(Base.can HB_V_c0), trivial⟩) rfl rfl rfl (fun _ => ?_)
            refine TO.y (Y.add rfl rfl) rfl rfl rfl ?_
            refine TO.bind fun E78 H79 => ?_
            refine TO.ef (Ef.make (α := Int) (z := (0 : Int)) H79 ke24 kz3 rfl rfl rfl rfl) rfl rfl rfl (fun V77 => ?_)
            refine TO.y (Y.field_box kf26_0 rfl rfl) rfl rfl rfl ?_
            refine TO.ef0 (Ef.store_box (us := [V77]) (vs' := [V77]) (is' := [.own V77 (lc (List.replicate E78 (0 : Int))), .box B_c 69 [V_c0, .int .i64 R74.2.i, .int .i64 R74.2.h], .box B1 26 [.slice none 0 0], .box B8 26 [V77], .own X41 (lc T59.2.2)]) 3 kk24 rfl rfl rfl (Cel.one (One.can (Can.own 0 rfl))) rfl rfl rfl rfl) rfl rfl (fun _ => ?_)
            refine TO.nil ?_
            exact TE.jn_go V77 [2, 2, 1, 0] ⟨rfl, rfl, trivial⟩ rfl
          · refine TW.skip ?_
            exact TE.jn_go X41 [1, 1, 0, 0] ⟨rfl, rfl, trivial⟩ rfl
        · refine TE.next ?_
          refine TW.seq ?_
          refine TW.region ?_
          refine TO.y (Y.load_box (v := .agg #[X72]) 1 kk26 rfl rfl rfl) rfl rfl rfl ?_
          refine TO.ef0 (Ef.store_box (us := [X72]) (vs' := [X72]) (is' := [.box B1 26 [X72], .box B8 26 [X72], .box B_c 69 [V_c0, .int .i64 T71.1, .int .i64 T71.2.1], .own X72 (lc T71.2.2)]) 0 kk26 rfl rfl rfl (Cel.agg ⟨(One.can (Can.own 3 rfl)), trivial⟩) rfl rfl rfl rfl) rfl rfl (fun _ => ?_)
          refine TO.nil ?_
          refine TE.next ?_
          refine TW.ret ?_
          exact TE.leaf fun _ _ hf_ hs_ => ret_any (rs := [.cell 2 26]) (vs := [.agg #[X72]]) (.inl rfl) rfl (RV.cell 0 rfl rfl kk26 rfl trivial) hf_ hs_ ⟨X72, rfl, hs_.pulls [2, 2] rfl⟩

/-- loop.example/g00950/spec.DrawSpaceTake -/
noncomputable def spec_DrawSpaceTake (code : List UInt8) : Option (Space × Int × Int) :=
  (spec_l1New code).bind fun R2 =>
  (spec_l18Some ({ b := code, i := R2.i, h := R2.h : L1Cur })).bind fun R5 =>
  (spec_l1PickInt ({ b := code, i := R5.2.i, h := R5.2.h : L1Cur }) ([(1 : Int), (2 : Int), (99 : Int), (0 : Int), (100 : Int)])).bind fun R10 =>
  (spec_l1PickInt ({ b := code, i := R10.2.i, h := R10.2.h : L1Cur }) ([(1 : Int), (2 : Int), (3 : Int), (9 : Int), (0 : Int), (-1 : Int), (9223372036854775807 : Int)])).bind fun R14 =>
  some (R5.1, R10.1, R14.1)

theorem spec_DrawSpaceTake_con (code : List UInt8) (V_code0 : Value) (r : Space × Int × Int) (hm : spec_DrawSpaceTake code = some r) :
    Con Try.prog 6 [V_code0] [] [(V_code0, lc code)] (fun X : Value => .tuple #[.agg #[X], .int .i64 r.2.1, .int .i64 r.2.2]) (fun X => [.own X (lc r.1.Owner)]) := by
  refine Con.intro (args := [V_code0]) (n := 20) (val := fun r (X : Value) => .tuple #[.agg #[X], .int .i64 r.2.1, .int .i64 r.2.2]) (post := fun r X => [.own X (lc r.1.Owner)]) (m := spec_DrawSpaceTake code) Try.func6 rfl rfl rfl hm ?_
  intro w S hrd
  have HB_V_code0 := hrd _ (.head _)
  clear hrd
  unfold spec_DrawSpaceTake
  refine TW.seq ?_
  refine TW.region ?_
  refine TO.ef (Ef.alloc kz26 rfl) rfl rfl rfl (fun B1 => ?_)
  refine TO.y (Y.assign rfl) rfl rfl rfl ?_
  refine TO.y (Y.assign rfl) rfl rfl rfl ?_
  refine TO.nil ?_
  refine TE.next ?_
  refine TW.seq ?_
  refine TW.region ?_
  refine TO.y (Y.move rfl) rfl rfl rfl ?_
  refine TO.bind fun R2 H3 => ?_
  refine TO.ef (Ef.call (rest := [.box B1 26 [.slice none 0 0]]) [0] (spec_l1New_con code V_code0 R2 H3) kc24 rfl rfl ⟨(Base.can HB_V_code0), trivial⟩) rfl rfl rfl (fun Y4 => ?_)
  refine TO.y (Y.assign rfl) rfl rfl rfl ?_
  refine TO.nil ?_
  refine TE.next ?_
  refine TW.seq ?_
  refine TW.region ?_
  refine TO.y (Y.move rfl) rfl rfl rfl ?_
  refine TO.bind fun R5 H6 => ?_
  refine TO.ef (Ef.call (rest := [.box B1 26 [.slice none 0 0]]) [0, 0] (spec_l18Some_con ({ b := code, i := R2.i, h := R2.h : L1Cur }) V_code0 Y4 R5 H6) kc25 rfl rfl ⟨(Base.can HB_V_code0), trivial⟩) rfl rfl rfl (fun Y7 => ?_)
  refine TO.ef (Ef.alloc kz26 rfl) rfl rfl rfl (fun B8 => ?_)
  refine TO.ef0 (Ef.store_box (us := [Y7]) (vs' := [Y7]) (is' := [.box B8 26 [Y7], .box Y4 69 [V_code0, .int .i64 R5.2.i, .int .i64 R5.2.h], .own Y7 (lc R5.1.Owner), .box B1 26 [.slice none 0 0]]) 0 kk26 rfl rfl rfl (Cel.agg ⟨(One.can (Can.own 2 rfl)), trivial⟩) rfl rfl rfl rfl) rfl rfl (fun _ => ?_)
  refine TO.nil ?_
  refine TE.next ?_
  refine TW.seq ?_
  refine TW.region ?_
  refine TO.y (Y.move rfl) rfl rfl rfl ?_
  refine TO.ef (Ef.buildSlice (α := Int) (Vs := [.int .i64 (1 : Int), .int .i64 (2 : Int), .int .i64 (99 : Int), .int .i64 (0 : Int), .int .i64 (100 : Int)]) [(1 : Int), (2 : Int), (99 : Int), (0 : Int), (100 : Int)] ke24 kz3 rfl rfl rfl rfl rfl) rfl rfl rfl (fun B9 => ?_)
  refine TO.bind fun R10 H11 => ?_
  refine TO.ef (Ef.call (rest := [.own (.slice (some ⟨B9, 0, none⟩) 5 5) (lc ([(1 : Int), (2 : Int), (99 : Int), (0 : Int), (100 : Int)])), .box B8 26 [Y7], .own Y7 (lc R5.1.Owner), .box B1 26 [.slice none 0 0]]) [2, 0, 0, 0, 0] (spec_l1PickInt_con ({ b := code, i := R5.2.i, h := R5.2.h : L1Cur }) ([(1 : Int), (2 : Int), (99 : Int), (0 : Int), (100 : Int)]) V_code0 Y4 (.slice (some ⟨B9, 0, none⟩) 5 5) R10 H11) kc26 rfl rfl ⟨(Base.can HB_V_code0), (Can.own 0 rfl), trivial⟩) rfl rfl rfl (fun _ => ?_)
  refine TO.y (Y.assign rfl) rfl rfl rfl ?_
  refine TO.nil ?_
  refine TE.next ?_
  refine TW.seq ?_
  refine TW.draw (isH := [.own (.slice (some ⟨B9, 0, none⟩) 5 5) (lc ([(1 : Int), (2 : Int), (99 : Int), (0 : Int), (100 : Int)])), .box B8 26 [Y7], .own Y7 (lc R5.1.Owner)]) hMix ?_
  refine TA.y (listed' := #[true, false, false, false, false, false, false, false]) 0 [1, 1, 1] rfl (Y.load_box (v := .agg #[Y7]) 1 kk26 rfl rfl rfl) rfl rfl rfl (by kernel_rfl) (by kernel_rfl) (by kernel_rfl) rfl rfl ?_
  refine TA.y (listed' := #[true, true, false, false, false, false, false, false]) 1 [1, 1, 1] rfl (Y.move rfl) rfl rfl rfl (by kernel_rfl) (by kernel_rfl) (by kernel_rfl) rfl rfl ?_
  refine TA.y (listed' := #[true, true, true, false, false, false, false, false]) 2 [1, 1, 1] rfl (Y.move rfl) rfl rfl rfl (by kernel_rfl) (by kernel_rfl) (by kernel_rfl) rfl rfl ?_
  refine TA.one 3 (by kernel_rfl) ?_
  refine TX.ef (listed' := #[true, true, true, true, false, false, false, false]) [2, 2, 2] rfl (Ef.buildSlice (α := Int) (Vs := [.int .i64 (1 : Int), .int .i64 (2 : Int), .int .i64 (3 : Int), .int .i64 (9 : Int), .int .i64 (0 : Int), .int .i64 (-1 : Int), .int .i64 (9223372036854775807 : Int)]) [(1 : Int), (2 : Int), (3 : Int), (9 : Int), (0 : Int), (-1 : Int), (9223372036854775807 : Int)] ke24 kz3 rfl rfl rfl rfl rfl) rfl rfl rfl rfl (fun _ => rfl) (fun B13 => ?_)
  refine TA.bind fun R14 H15 => ?_
  refine TA.one 4 (by kernel_rfl) ?_
  refine TX.ef (listed' := #[true, true, true, true, true, false, false, false]) [2, 2, 2] rfl (Ef.call (rest := [.own (.slice (some ⟨B13, 0, none⟩) 7 7) (lc ([(1 : Int), (2 : Int), (3 : Int), (9 : Int), (0 : Int), (-1 : Int), (9223372036854775807 : Int)])), .own (.slice (some ⟨B9, 0, none⟩) 5 5) (lc ([(1 : Int), (2 : Int), (99 : Int), (0 : Int), (100 : Int)])), .box B8 26 [Y7], .own Y7 (lc R5.1.Owner), .box B1 26 [.slice none 0 0]]) [1, 0, 0, 0, 0, 0] (spec_l1PickInt_con ({ b := code, i := R10.2.i, h := R10.2.h : L1Cur }) ([(1 : Int), (2 : Int), (3 : Int), (9 : Int), (0 : Int), (-1 : Int), (9223372036854775807 : Int)]) V_code0 Y4 (.slice (some ⟨B13, 0, none⟩) 7 7) R14 H15) kc26 rfl rfl ⟨(Base.can HB_V_code0), (Can.own 0 rfl), trivial⟩) rfl rfl rfl rfl (fun _ => rfl) (fun _ => ?_)
  refine TA.one 5 (by kernel_rfl) ?_
  refine TX.ef0 (listed' := #[true, true, true, true, true, true, false, false]) [2, 2, 2] rfl (Ef.store_box (us := [Y7]) (vs' := [Y7]) (is' := [.box Y4 69 [V_code0, .int .i64 R14.2.i, .int .i64 R14.2.h], .own (.slice (some ⟨B13, 0, none⟩) 7 7) (lc ([(1 : Int), (2 : Int), (3 : Int), (9 : Int), (0 : Int), (-1 : Int), (9223372036854775807 : Int)])), .own (.slice (some ⟨B9, 0, none⟩) 5 5) (lc ([(1 : Int), (2 : Int), (99 : Int), (0 : Int), (100 : Int)])), .box B8 26 [Y7], .own Y7 (lc R5.1.Owner), .box B1 26 [Y7]]) 5 kk26 rfl rfl rfl (Cel.agg ⟨(One.can (Can.own 4 rfl)), trivial⟩) rfl rfl rfl rfl) rfl rfl rfl (fun _ => rfl) (fun _ => ?_)
  refine TA.y (listed' := #[true, true, true, true, true, true, true, false]) 6 [2, 2, 2] rfl (Y.assign rfl) rfl rfl rfl (by kernel_rfl) (by kernel_rfl) (by kernel_rfl) rfl rfl ?_
  refine TA.y (listed' := #[true, true, true, true, true, true, true, true]) 7 [2, 2, 2] rfl (Y.assign rfl) rfl rfl rfl (by kernel_rfl) (by kernel_rfl) (by kernel_rfl) rfl rfl ?_
  refine TA.nil (by kernel_rfl) ?_
  refine TE.next ?_
  refine TW.ret ?_
  exact TE.leaf fun _ _ hf_ hs_ => ret_any (rs := [.cell 2 26, .tmp 3, .tmp 4]) (vs := [.agg #[Y7], .int .i64 R10.1, .int .i64 R14.1]) (.inl rfl) rfl (RV.cell 5 rfl rfl kk26 rfl ⟨rfl, ⟨rfl, trivial⟩⟩) hf_ hs_ ⟨Y7, rfl, hs_.pulls [4] rfl⟩

/-- loop.example/g00950/impl.inRange -/
noncomputable def impl_inRange (n : Int) (least : Int) (most : Int) : Option Bool :=
  (if (decide (n ≥ least)) = true then (some (decide (n ≤ most)))
  else (some false)).bind (fun (T1 : Bool) =>
  some T1)

theorem impl_inRange_con (n : Int) (least : Int) (most : Int)  (r : Bool) (hm : impl_inRange n least most = some r) :
    Con Try.prog 32 [.int .i64 n, .int .i64 least, .int .i64 most] [] [] (fun _ : Unit => .bool r) (fun _ => []) := by
  refine Con.intro (args := [.int .i64 n, .int .i64 least, .int .i64 most]) (n := 15) (val := fun r (_ : Unit) => .bool r) (post := fun _ _ => []) (m := impl_inRange n least most) Try.func32 rfl rfl rfl hm ?_
  intro w S _
  unfold impl_inRange
  refine TW.seq ?_
  refine TW.region ?_
  refine TO.y (Y.assign rfl) rfl rfl rfl ?_
  refine TO.nil ?_
  refine TE.next ?_
  refine TW.seq ?_
  refine TW.joinBX (τ := Bool) (X := Unit) (fun T _ => [(6, .bool T)]) (fun _ _ => []) ?_ (fun T1 X2 => ?_)
  · refine TW.region ?_
    refine TO.y (Y.move rfl) rfl rfl rfl ?_
    refine TO.y (Y.move rfl) rfl rfl rfl ?_
    refine TO.y (Y.geq rfl rfl) rfl rfl rfl ?_
    refine TO.y (Y.move rfl) rfl rfl rfl ?_
    refine TO.ite (b := decide (n ≥ least)) (fun H3 => ?_) (fun H3 => ?_)
    · refine TO.y (Y.move rfl) (Gd.at 3 true 10 (decide (n ≥ least)) rfl rfl rfl (beq_tt H3)) rfl rfl ?_
      refine TO.y (Y.move rfl) (Gd.at 3 true 10 (decide (n ≥ least)) rfl rfl rfl (beq_tt H3)) rfl rfl ?_
      refine TO.y (Y.leq rfl rfl) (Gd.at 3 true 10 (decide (n ≥ least)) rfl rfl rfl (beq_tt H3)) rfl rfl ?_
      refine TO.y (Y.pick_t H3 rfl rfl) rfl rfl rfl ?_
      refine TO.y (Y.assign rfl) rfl rfl rfl ?_
      refine TO.nil ?_
      exact TE.jb_go () [] ⟨rfl, trivial⟩ rfl
    · refine TO.off (Gd.at 3 true 10 (decide (n ≥ least)) rfl rfl rfl (beq_ft H3)) rfl rfl ?_
      refine TO.off (Gd.at 3 true 10 (decide (n ≥ least)) rfl rfl rfl (beq_ft H3)) rfl rfl ?_
      refine TO.off (Gd.at 3 true 10 (decide (n ≥ least)) rfl rfl rfl (beq_ft H3)) rfl rfl ?_
      refine TO.y (Y.pick_f H3 rfl rfl) rfl rfl rfl ?_
      refine TO.y (Y.assign rfl) rfl rfl rfl ?_
      refine TO.nil ?_
      exact TE.jb_go () [] ⟨rfl, trivial⟩ rfl
  · refine TE.next ?_
    refine TW.ret ?_
    exact TE.leaf fun _ _ hf_ hs_ => ret_any (rs := [.tmp 6]) (vs := [.bool T1]) (.inl rfl) rfl ⟨rfl, trivial⟩ hf_ hs_ ⟨(), rfl, hs_.pulls [] rfl⟩

/-- loop.example/g00950/impl.SpaceOk -/
noncomputable def impl_SpaceOk (s : Space) : Option Bool :=
  bindC (loopO (fun (S2 : Int) => if (decide (S2 < ((s.Owner.length : Nat) : Int))) = true then ((idx s.Owner S2).bind fun E7 =>
  (impl_inRange E7 (0 : Int) (99 : Int)).bind fun R9 =>
  if (!R9) = true then (some (.done (.done false)))
  else (some (.go (IntKind.i64.wrap (S2 + (1 : Int))))))
  else (some (.done (.go ()))))
  (0 : Int))
  (fun (T4 : Unit) => (impl_inRange ((s.Owner.length : Nat) : Int) (1 : Int) (40 : Int)).bind fun R13 =>
  some R13)

theorem impl_SpaceOk_con (s : Space) (V_s0 : Value) (r : Bool) (hm : impl_SpaceOk s = some r) :
    Con Try.prog 27 [.agg #[V_s0]] [] [(V_s0, lc s.Owner)] (fun _ : Unit => .bool r) (fun _ => []) := by
  refine Con.intro (args := [.agg #[V_s0]]) (n := 20) (val := fun r (_ : Unit) => .bool r) (post := fun _ _ => []) (m := impl_SpaceOk s) Try.func27 rfl rfl rfl hm ?_
  intro w S hrd
  have HB_V_s0 := hrd _ (.head _)
  clear hrd
  unfold impl_SpaceOk
  refine TW.seq ?_
  refine TW.region ?_
  refine TO.ef (Ef.box rfl (Cel.agg ⟨(One.can (Base.can HB_V_s0)), trivial⟩)) rfl rfl rfl (fun B1 => ?_)
  refine TO.y (Y.assign rfl) rfl rfl rfl ?_
  refine TO.nil ?_
  refine TE.next ?_
  refine TW.seq ?_
  refine TW.seq ?_
  refine TW.region ?_
  refine TO.y (Y.field_box kf26_0 rfl rfl) rfl rfl rfl ?_
  refine TO.y (Y.load_box (v := V_s0) 0 kk24 rfl rfl rfl) rfl rfl rfl ?_
  refine TO.y (Y.len (l := s.Owner) ke24 (Base.can HB_V_s0) rfl) rfl rfl rfl ?_
  refine TO.y (Y.move rfl) rfl rfl rfl ?_
  refine TO.nil ?_
  refine TE.next ?_
  refine TW.joinX (τ := Unit) (X := Unit) (fun _ _ => [(1, .pointer (some ⟨B1, 0, none⟩))]) (fun _ _ => [.box B1 26 [V_s0]]) ?_ (fun T4 X5 => ?_)
  · refine TW.block ?_
    refine TW.loopX (σ := Int) (X := Unit) (fun T _ => [(1, .pointer (some ⟨B1, 0, none⟩)), (6, V_s0), (7, .int .i64 ((s.Owner.length : Nat) : Int)), (8, .int .i64 T)]) (fun _ _ => [.box B1 26 [V_s0]]) () [0] ⟨rfl, rfl, rfl, rfl, trivial⟩ rfl (fun S2 X3 => ?_)
    refine TW.seq ?_
    refine TW.region ?_
    refine TO.y (Y.lss rfl rfl) rfl rfl rfl ?_
    refine TO.nil ?_
    refine TE.next ?_
    refine TW.seq ?_
    refine TW.cond rfl (fun H6 => ?_) (fun H6 => ?_)
    · refine TW.skip ?_
      refine TE.next ?_
      refine TW.seq ?_
      refine TW.block ?_
      refine TW.seq ?_
      refine TW.region ?_
      refine TO.bind fun E7 H8 => ?_
      refine TO.y (Y.index ke24 (Base.can HB_V_s0) H8 rfl rfl) rfl rfl rfl ?_
      refine TO.y (Y.load_el (us := [.int .i64 E7]) (u := .int .i64 E7) kk3 rfl (Base.can HB_V_s0) (idx_get H8).2.2 rfl rfl rfl rfl rfl) rfl rfl rfl ?_
      refine TO.y (Y.assign rfl) rfl rfl rfl ?_
      refine TO.nil ?_
      refine TE.next ?_
      refine TW.seq ?_
      refine TW.region ?_
      refine TO.y (Y.move rfl) rfl rfl rfl ?_
      refine TO.bind fun R9 H10 => ?_
      refine TO.ef (Ef.call (rest := [.box B1 26 [V_s0]]) [0] (impl_inRange_con E7 (0 : Int) (99 : Int)  R9 H10) kc32 rfl rfl trivial) rfl rfl rfl (fun _ => ?_)
      refine TO.y (Y.not rfl) rfl rfl rfl ?_
      refine TO.nil ?_
      refine TE.next ?_
      refine TW.cond rfl (fun H12 => ?_) (fun H12 => ?_)
      · refine TW.seq ?_
        refine TW.region ?_
        refine TO.y (Y.assign rfl) rfl rfl rfl ?_
        refine TO.nil ?_
        refine TE.next ?_
        refine TW.ret ?_
        refine TE.block_ret ?_
        refine TE.then_ret ?_
        refine TE.lp_ret ?_
        refine TE.block_ret ?_
        refine TE.jn_done ?_
        refine TE.then_ret ?_
        exact TE.leaf fun _ _ hf_ hs_ => ret_any (rs := [.tmp 2]) (vs := [.bool false]) (.inl rfl) rfl ⟨rfl, trivial⟩ hf_ hs_ ⟨(), rfl, hs_.pulls [] rfl⟩
      · refine TW.skip ?_
        refine TE.block_normal ?_
        refine TE.next ?_
        refine TW.region ?_
        refine TO.y (Y.add rfl rfl) rfl rfl rfl ?_
        refine TO.y (Y.move rfl) rfl rfl rfl ?_
        refine TO.nil ?_
        exact TE.lp_go () [0] ⟨rfl, rfl, rfl, rfl, trivial⟩ rfl
    · refine TW.exit ?_
      refine TE.then_exit ?_
      refine TE.lp_exit ?_
      refine TE.block_exit ?_
      exact TE.jn_go () [0] ⟨rfl, trivial⟩ rfl
  · refine TE.next ?_
    refine TW.seq ?_
    refine TW.region ?_
    refine TO.y (Y.field_box kf26_0 rfl rfl) rfl rfl rfl ?_
    refine TO.y (Y.load_box (v := V_s0) 0 kk24 rfl rfl rfl) rfl rfl rfl ?_
    refine TO.y (Y.len (l := s.Owner) ke24 (Base.can HB_V_s0) rfl) rfl rfl rfl ?_
    refine TO.bind fun R13 H14 => ?_
    refine TO.ef (Ef.call (rest := [.box B1 26 [V_s0]]) [0] (impl_inRange_con ((s.Owner.length : Nat) : Int) (1 : Int) (40 : Int)  R13 H14) kc32 rfl rfl trivial) rfl rfl rfl (fun _ => ?_)
    refine TO.y (Y.assign rfl) rfl rfl rfl ?_
    refine TO.nil ?_
    refine TE.next ?_
    refine TW.ret ?_
    exact TE.leaf fun _ _ hf_ hs_ => ret_any (rs := [.tmp 2]) (vs := [.bool R13]) (.inl rfl) rfl ⟨rfl, trivial⟩ hf_ hs_ ⟨(), rfl, hs_.pulls [] rfl⟩

/-- slices.Clone[[]int,int] -/
noncomputable def slices_Clone_88240 (s : List Int) : Option (List Int) :=
  (app 8 ([] : List Int) s).bind fun E4 =>
  some E4

theorem slices_Clone_88240_con (s : List Int) (V_s0 : Value) (r : List Int) (hm : slices_Clone_88240 s = some r) :
    Con Try.prog 49 [V_s0] [] [(V_s0, lc s)] (fun X : Value => X) (fun X => [.own X (lc r)]) := by
  refine Con.intro (args := [V_s0]) (n := 8) (val := fun _ (X : Value) => X) (post := fun r X => [.own X (lc r)]) (m := slices_Clone_88240 s) Try.func49 rfl rfl rfl hm ?_
  intro w S hrd
  have HB_V_s0 := hrd _ (.head _)
  clear hrd
  unfold slices_Clone_88240
  refine TW.seq ?_
  refine TW.region ?_
  refine TO.y (Y.assign rfl) rfl rfl rfl ?_
  refine TO.nil ?_
  refine TE.next ?_
  refine TW.seq ?_
  refine TW.seq ?_
  refine TW.region ?_
  refine TO.y (Y.move rfl) rfl rfl rfl ?_
  refine TO.y (Y.nileq ke24 (Base.can HB_V_s0) rfl rfl) rfl rfl rfl ?_
  refine TO.nil ?_
  refine TE.next ?_
  refine TW.cond_nil (Base.can HB_V_s0) rfl (fun hnil_ => ?_) ?_
  · subst hnil_
    show TW _ _ _ (some ([])) _ _ _ _ _
    refine TW.seq ?_
    refine TW.region ?_
    refine TO.y (Y.assign rfl) rfl rfl rfl ?_
    refine TO.nil ?_
    refine TE.next ?_
    refine TW.ret ?_
    refine TE.then_ret ?_
    exact TE.leaf fun _ _ hf_ hs_ => ret_any (rs := [.tmp 2]) (vs := [.slice none 0 0]) (.inl rfl) rfl ⟨rfl, trivial⟩ hf_ hs_ ⟨(.slice none 0 0), rfl, (hs_.nilItem 1).pulls [0] rfl⟩
  · refine TW.skip ?_
    refine TE.next ?_
    refine TW.seq ?_
    refine TW.region ?_
    refine TO.ef (Ef.buildSlice (α := Int) (Vs := []) ([] : List Int) ke24 kz3 rfl rfl rfl rfl rfl) rfl rfl rfl (fun B2 => ?_)
    refine TO.y (Y.move rfl) rfl rfl rfl ?_
    refine TO.bind fun E4 H5 => ?_
    refine TO.ef (Ef.append (α := Int) (is' := []) [0] H5 ke24 kz3 rfl rfl rfl rfl rfl (Base.can HB_V_s0)) rfl rfl rfl (fun V3 => ?_)
    refine TO.y (Y.assign rfl) rfl rfl rfl ?_
    refine TO.nil ?_
    refine TE.next ?_
    refine TW.ret ?_
    exact TE.leaf fun _ _ hf_ hs_ => ret_any (rs := [.tmp 2]) (vs := [V3]) (.inl rfl) rfl ⟨rfl, trivial⟩ hf_ hs_ ⟨V3, rfl, hs_.pulls [0] rfl⟩

/-- loop.example/g00950/impl.copySpace -/
noncomputable def impl_copySpace (s : Space) : Option Space :=
  (slices_Clone_88240 s.Owner).bind fun R3 =>
  some ({ Owner := R3 : Space })

theorem impl_copySpace_con (s : Space) (V_s0 : Value) (r : Space) (hm : impl_copySpace s = some r) :
    Con Try.prog 28 [.agg #[V_s0]] [] [(V_s0, lc s.Owner)] (fun X : Value => .agg #[X]) (fun X => [.own X (lc r.Owner)]) := by
  refine Con.intro (args := [.agg #[V_s0]]) (n := 7) (val := fun _ (X : Value) => .agg #[X]) (post := fun r X => [.own X (lc r.Owner)]) (m := impl_copySpace s) Try.func28 rfl rfl rfl hm ?_
  intro w S hrd
  have HB_V_s0 := hrd _ (.head _)
  clear hrd
  unfold impl_copySpace
  refine TW.seq ?_
  refine TW.region ?_
  refine TO.ef (Ef.box rfl (Cel.agg ⟨(One.can (Base.can HB_V_s0)), trivial⟩)) rfl rfl rfl (fun B1 => ?_)
  refine TO.ef (Ef.alloc kz26 rfl) rfl rfl rfl (fun B2 => ?_)
  refine TO.nil ?_
  refine TE.next ?_
  refine TW.seq ?_
  refine TW.region ?_
  refine TO.y (Y.field_box kf26_0 rfl rfl) rfl rfl rfl ?_
  refine TO.y (Y.load_box (v := V_s0) 1 kk24 rfl rfl rfl) rfl rfl rfl ?_
  refine TO.bind fun R3 H4 => ?_
  refine TO.ef (Ef.call (rest := [.box B2 26 [.slice none 0 0], .box B1 26 [V_s0]]) [0, 0] (slices_Clone_88240_con s.Owner V_s0 R3 H4) kc49 rfl rfl ⟨(Base.can HB_V_s0), trivial⟩) rfl rfl rfl (fun Y5 => ?_)
  refine TO.y (Y.build (cells := [Y5]) [(0, [Y5])] kp26 kz26 ⟨rfl, ⟨_, rfl, (Cel.one (One.can (Can.own 0 rfl)))⟩, trivial⟩ rfl) rfl rfl rfl ?_
  refine TO.ef0 (Ef.store_box (us := [Y5]) (vs' := [Y5]) (is' := [.own Y5 (lc R3), .box B2 26 [Y5], .box B1 26 [V_s0]]) 1 kk26 rfl rfl rfl (Cel.agg ⟨(One.can (Can.own 0 rfl)), trivial⟩) rfl rfl rfl rfl) rfl rfl (fun _ => ?_)
  refine TO.nil ?_
  refine TE.next ?_
  refine TW.ret ?_
  exact TE.leaf fun _ _ hf_ hs_ => ret_any (rs := [.cell 2 26]) (vs := [.agg #[Y5]]) (.inl rfl) rfl (RV.cell 1 rfl rfl kk26 rfl trivial) hf_ hs_ ⟨Y5, rfl, hs_.pulls [0] rfl⟩

/-- loop.example/g00950/impl.isTenant -/
noncomputable def impl_isTenant (n : Int) : Option Bool :=
  (impl_inRange n (1 : Int) (99 : Int)).bind fun R1 =>
  some R1

theorem impl_isTenant_con (n : Int)  (r : Bool) (hm : impl_isTenant n = some r) :
    Con Try.prog 29 [.int .i64 n] [] [] (fun _ : Unit => .bool r) (fun _ => []) := by
  refine Con.intro (args := [.int .i64 n]) (n := 5) (val := fun r (_ : Unit) => .bool r) (post := fun _ _ => []) (m := impl_isTenant n) Try.func29 rfl rfl rfl hm ?_
  intro w S _
  unfold impl_isTenant
  refine TW.seq ?_
  refine TW.region ?_
  refine TO.y (Y.assign rfl) rfl rfl rfl ?_
  refine TO.nil ?_
  refine TE.next ?_
  refine TW.seq ?_
  refine TW.region ?_
  refine TO.y (Y.move rfl) rfl rfl rfl ?_
  refine TO.bind fun R1 H2 => ?_
  refine TO.ef (Ef.call (rest := []) [] (impl_inRange_con n (1 : Int) (99 : Int)  R1 H2) kc32 rfl rfl trivial) rfl rfl rfl (fun _ => ?_)
  refine TO.y (Y.assign rfl) rfl rfl rfl ?_
  refine TO.nil ?_
  refine TE.next ?_
  refine TW.ret ?_
  exact TE.leaf fun _ _ hf_ hs_ => ret_any (rs := [.tmp 2]) (vs := [.bool R1]) (.inl rfl) rfl ⟨rfl, trivial⟩ hf_ hs_ ⟨(), rfl, hs_.pulls [] rfl⟩

/-- loop.example/g00950/impl.SpaceOf -/
noncomputable def impl_SpaceOf (s : Space) (who : Int) : Option Int :=
  (impl_SpaceOk s).bind fun R2 =>
  if (!R2) = true then (some (0 : Int))
  else (bindC (loopO (fun (S6 : Int × Int) => if (decide (S6.2 < ((s.Owner.length : Nat) : Int))) = true then ((idx s.Owner S6.2).bind fun E11 =>
  bindC (if (decide (E11 = who)) = true then (some (.go (IntKind.i64.wrap (S6.1 + (1 : Int)))))
  else (some (.go S6.1)))
  (fun (T13 : Int) => some (.go (T13, IntKind.i64.wrap (S6.2 + (1 : Int))))))
  else (some (.done (.go S6.1))))
  ((0 : Int), (0 : Int)))
  (fun (T8 : Int) => some T8))

theorem impl_SpaceOf_con (s : Space) (who : Int) (V_s0 : Value) (r : Int) (hm : impl_SpaceOf s who = some r) :
    Con Try.prog 12 [.agg #[V_s0], .int .i64 who] [] [(V_s0, lc s.Owner)] (fun _ : Unit => .int .i64 r) (fun _ => []) := by
  refine Con.intro (args := [.agg #[V_s0], .int .i64 who]) (n := 25) (val := fun r (_ : Unit) => .int .i64 r) (post := fun _ _ => []) (m := impl_SpaceOf s who) Try.func12 rfl rfl rfl hm ?_
  intro w S hrd
  have HB_V_s0 := hrd _ (.head _)
  clear hrd
  unfold impl_SpaceOf
  refine TW.seq ?_
  refine TW.region ?_
  refine TO.ef (Ef.box rfl (Cel.agg ⟨(One.can (Base.can HB_V_s0)), trivial⟩)) rfl rfl rfl (fun B1 => ?_)
  refine TO.y (Y.assign rfl) rfl rfl rfl ?_
  refine TO.nil ?_
  refine TE.next ?_
  refine TW.seq ?_
  refine TW.seq ?_
  refine TW.region ?_
  refine TO.y (Y.load_box (v := .agg #[V_s0]) 0 kk26 rfl rfl rfl) rfl rfl rfl ?_
  refine TO.bind fun R2 H3 => ?_
  refine TO.ef (Ef.call (rest := [.box B1 26 [V_s0]]) [0] (impl_SpaceOk_con s V_s0 R2 H3) kc27 rfl rfl ⟨(Base.can HB_V_s0), trivial⟩) rfl rfl rfl (fun _ => ?_)
  refine TO.y (Y.not rfl) rfl rfl rfl ?_
  refine TO.nil ?_
  refine TE.next ?_
  refine TW.cond rfl (fun H5 => ?_) (fun H5 => ?_)
  · refine TW.seq ?_
    refine TW.region ?_
    refine TO.y (Y.assign rfl) rfl rfl rfl ?_
    refine TO.nil ?_
    refine TE.next ?_
    refine TW.ret ?_
    refine TE.then_ret ?_
    exact TE.leaf fun _ _ hf_ hs_ => ret_any (rs := [.tmp 4]) (vs := [.int .i64 (0 : Int)]) (.inl rfl) rfl ⟨rfl, trivial⟩ hf_ hs_ ⟨(), rfl, hs_.pulls [] rfl⟩
  · refine TW.skip ?_
    refine TE.next ?_
    refine TW.seq ?_
    refine TW.region ?_
    refine TO.y (Y.assign rfl) rfl rfl rfl ?_
    refine TO.nil ?_
    refine TE.next ?_
    refine TW.seq ?_
    refine TW.seq ?_
    refine TW.region ?_
    refine TO.y (Y.field_box kf26_0 rfl rfl) rfl rfl rfl ?_
    refine TO.y (Y.load_box (v := V_s0) 0 kk24 rfl rfl rfl) rfl rfl rfl ?_
    refine TO.y (Y.len (l := s.Owner) ke24 (Base.can HB_V_s0) rfl) rfl rfl rfl ?_
    refine TO.y (Y.move rfl) rfl rfl rfl ?_
    refine TO.nil ?_
    refine TE.next ?_
    refine TW.joinX (τ := Int) (X := Unit) (fun T _ => [(5, .int .i64 T)]) (fun _ _ => []) ?_ (fun T8 X9 => ?_)
    · refine TW.block ?_
      refine TW.loopX (σ := Int × Int) (X := Unit) (fun T _ => [(1, .int .i64 who), (5, .int .i64 T.1), (12, V_s0), (13, .int .i64 ((s.Owner.length : Nat) : Int)), (14, .int .i64 T.2)]) (fun _ _ => []) () [] ⟨rfl, rfl, rfl, rfl, rfl, trivial⟩ rfl (fun S6 X7 => ?_)
      refine TW.seq ?_
      refine TW.region ?_
      refine TO.y (Y.lss rfl rfl) rfl rfl rfl ?_
      refine TO.nil ?_
      refine TE.next ?_
      refine TW.seq ?_
      refine TW.cond rfl (fun H10 => ?_) (fun H10 => ?_)
      · refine TW.skip ?_
        refine TE.next ?_
        refine TW.seq ?_
        refine TW.block ?_
        refine TW.seq ?_
        refine TW.region ?_
        refine TO.bind fun E11 H12 => ?_
        refine TO.y (Y.index ke24 (Base.can HB_V_s0) H12 rfl rfl) rfl rfl rfl ?_
        refine TO.y (Y.load_el (us := [.int .i64 E11]) (u := .int .i64 E11) kk3 rfl (Base.can HB_V_s0) (idx_get H12).2.2 rfl rfl rfl rfl rfl) rfl rfl rfl ?_
        refine TO.y (Y.assign rfl) rfl rfl rfl ?_
        refine TO.nil ?_
        refine TE.next ?_
        refine TW.seq ?_
        refine TW.region ?_
        refine TO.y (Y.move rfl) rfl rfl rfl ?_
        refine TO.y (Y.move rfl) rfl rfl rfl ?_
        refine TO.y (Y.eql rfl rfl) rfl rfl rfl ?_
        refine TO.nil ?_
        refine TE.next ?_
        refine TW.joinX (τ := Int) (X := Unit) (fun T _ => [(1, .int .i64 who), (5, .int .i64 T), (12, V_s0), (13, .int .i64 ((s.Owner.length : Nat) : Int)), (14, .int .i64 S6.2)]) (fun _ _ => []) ?_ (fun T13 X14 => ?_)
        · refine TW.cond rfl (fun H15 => ?_) (fun H15 => ?_)
          · refine TW.region ?_
            refine TO.y (Y.move rfl) rfl rfl rfl ?_
            refine TO.y (Y.add rfl rfl) rfl rfl rfl ?_
            refine TO.y (Y.assign rfl) rfl rfl rfl ?_
            refine TO.nil ?_
            exact TE.jn_go () [] ⟨rfl, rfl, rfl, rfl, rfl, trivial⟩ rfl
          · refine TW.skip ?_
            exact TE.jn_go () [] ⟨rfl, rfl, rfl, rfl, rfl, trivial⟩ rfl
        · refine TE.block_normal ?_
          refine TE.next ?_
          refine TW.region ?_
          refine TO.y (Y.add rfl rfl) rfl rfl rfl ?_
          refine TO.y (Y.move rfl) rfl rfl rfl ?_
          refine TO.nil ?_
          exact TE.lp_go () [] ⟨rfl, rfl, rfl, rfl, rfl, trivial⟩ rfl
      · refine TW.exit ?_
        refine TE.then_exit ?_
        refine TE.lp_exit ?_
        refine TE.block_exit ?_
        exact TE.jn_go () [] ⟨rfl, trivial⟩ rfl
    · refine TE.next ?_
      refine TW.seq ?_
      refine TW.region ?_
      refine TO.y (Y.move rfl) rfl rfl rfl ?_
      refine TO.y (Y.assign rfl) rfl rfl rfl ?_
      refine TO.nil ?_
      refine TE.next ?_
      refine TW.ret ?_
      exact TE.leaf fun _ _ hf_ hs_ => ret_any (rs := [.tmp 4]) (vs := [.int .i64 T8]) (.inl rfl) rfl ⟨rfl, trivial⟩ hf_ hs_ ⟨(), rfl, hs_.pulls [] rfl⟩

/-- loop.example/g00950/impl.SpaceTake -/
noncomputable def impl_SpaceTake (s : Space) (who : Int) (n : Int) : Option (Space × List Int × Bool) :=
  (impl_SpaceOk s).bind fun R3 =>
  if (!R3) = true then (some ({ Owner := ([] : List Int) : Space }, [], false))
  else ((impl_copySpace s).bind fun R9 =>
  ((impl_isTenant who).bind fun R15 =>
  if (!R15) = true then (some true)
  else (if (decide (n < (1 : Int))) = true then (some true)
  else ((impl_SpaceOf s (0 : Int)).bind fun R20 =>
  some (decide (R20 < n))))).bind (fun (T13 : Bool) =>
  if T13 = true then (some (R9, [], false))
  else (bindC (loopO (fun (S25 : Int × List Int × List Int) => if (decide (S25.1 < ((s.Owner.length : Nat) : Int))) = true then ((idx s.Owner S25.1).bind fun E30 =>
  (if (decide (E30 = (0 : Int))) = true then (some (decide (((S25.2.2.length : Nat) : Int) < n)))
  else (some false)).bind (fun (T32 : Bool) =>
  bindC (if T32 = true then ((app 8 S25.2.2 ([S25.1])).bind fun E40 =>
  (idx S25.2.1 S25.1).bind fun E42 =>
  some (.go ((S25.2.1.set S25.1.toNat who), E40)))
  else (some (.go (S25.2.1, S25.2.2))))
  (fun (T35 : List Int × List Int) => some (.go (IntKind.i64.wrap (S25.1 + (1 : Int)), T35.1, T35.2)))))
  else (some (.done (.go (S25.2.1, S25.2.2)))))
  ((0 : Int), R9.Owner, ([] : List Int)))
  (fun (T27 : List Int × List Int) => some ({ Owner := T27.1 : Space }, T27.2, true)))))

theorem impl_SpaceTake_con (s : Space) (who : Int) (n : Int) (V_s0 : Value) (r : Space × List Int × Bool) (hm : impl_SpaceTake s who n = some r) :
    Con Try.prog 7 [.agg #[V_s0], .int .i64 who, .int .i64 n] [] [(V_s0, lc s.Owner)] (fun X : Value × Value => .tuple #[.agg #[X.1], X.2, .bool r.2.2]) (fun X => [.own X.1 (lc r.1.Owner), .own X.2 (lc r.2.1)]) := by
  refine Con.intro (args := [.agg #[V_s0], .int .i64 who, .int .i64 n]) (n := 61) (val := fun r (X : Value × Value) => .tuple #[.agg #[X.1], X.2, .bool r.2.2]) (post := fun r X => [.own X.1 (lc r.1.Owner), .own X.2 (lc r.2.1)]) (m := impl_SpaceTake s who n) Try.func7 rfl rfl rfl hm ?_
  intro w S hrd
  have HB_V_s0 := hrd _ (.head _)
  clear hrd
  unfold impl_SpaceTake
  refine TW.seq ?_
  refine TW.region ?_
  refine TO.ef (Ef.box rfl (Cel.agg ⟨(One.can (Base.can HB_V_s0)), trivial⟩)) rfl rfl rfl (fun B1 => ?_)
  refine TO.ef (Ef.alloc kz26 rfl) rfl rfl rfl (fun B2 => ?_)
  refine TO.y (Y.assign rfl) rfl rfl rfl ?_
  refine TO.y (Y.assign rfl) rfl rfl rfl ?_
  refine TO.nil ?_
  refine TE.next ?_
  refine TW.seq ?_
  refine TW.seq ?_
  refine TW.region ?_
  refine TO.y (Y.load_box (v := .agg #[V_s0]) 1 kk26 rfl rfl rfl) rfl rfl rfl ?_
  refine TO.bind fun R3 H4 => ?_
  refine TO.ef (Ef.call (rest := [.box B2 26 [.slice none 0 0], .box B1 26 [V_s0]]) [0, 0] (impl_SpaceOk_con s V_s0 R3 H4) kc27 rfl rfl ⟨(Base.can HB_V_s0), trivial⟩) rfl rfl rfl (fun _ => ?_)
  refine TO.y (Y.not rfl) rfl rfl rfl ?_
  refine TO.nil ?_
  refine TE.next ?_
  refine TW.cond rfl (fun H6 => ?_) (fun H6 => ?_)
  · refine TW.seq ?_
    refine TW.region ?_
    refine TO.y (Y.build (cells := [.slice none 0 0]) [] kp26 kz26 trivial rfl) rfl rfl rfl ?_
    refine TO.ef0 (Ef.store_box (us := [.slice none 0 0]) (vs' := [.slice none 0 0]) (is' := [.box B2 26 [.slice none 0 0], .box B1 26 [V_s0]]) 0 kk26 rfl rfl rfl (Cel.plain rfl rfl) rfl rfl rfl rfl) rfl rfl (fun _ => ?_)
    refine TO.y (Y.assign rfl) rfl rfl rfl ?_
    refine TO.y (Y.assign rfl) rfl rfl rfl ?_
    refine TO.nil ?_
    refine TE.next ?_
    refine TW.ret ?_
    refine TE.then_ret ?_
    exact TE.leaf fun _ _ hf_ hs_ => ret_any (rs := [.cell 6 26, .tmp 7, .tmp 8]) (vs := [.agg #[.slice none 0 0], .slice none 0 0, .bool false]) (.inl rfl) rfl (RV.cell 0 rfl rfl kk26 rfl ⟨rfl, ⟨rfl, trivial⟩⟩) hf_ hs_ ⟨((.slice none 0 0), (.slice none 0 0)), rfl, ((hs_.nilItem 1).nilItem 1).pulls [1, 0] rfl⟩
  · refine TW.skip ?_
    refine TE.next ?_
    refine TW.seq ?_
    refine TW.region ?_
    refine TO.y (Y.load_box (v := .agg #[V_s0]) 1 kk26 rfl rfl rfl) rfl rfl rfl ?_
    refine TO.bind fun R9 H10 => ?_
    refine TO.ef (Ef.call (rest := [.box B2 26 [.slice none 0 0], .box B1 26 [V_s0]]) [0, 0] (impl_copySpace_con s V_s0 R9 H10) kc28 rfl rfl ⟨(Base.can HB_V_s0), trivial⟩) rfl rfl rfl (fun Y11 => ?_)
    refine TO.ef (Ef.alloc kz26 rfl) rfl rfl rfl (fun B12 => ?_)
    refine TO.ef0 (Ef.store_box (us := [Y11]) (vs' := [Y11]) (is' := [.box B12 26 [Y11], .own Y11 (lc R9.Owner), .box B2 26 [.slice none 0 0], .box B1 26 [V_s0]]) 0 kk26 rfl rfl rfl (Cel.agg ⟨(One.can (Can.own 1 rfl)), trivial⟩) rfl rfl rfl rfl) rfl rfl (fun _ => ?_)
    refine TO.nil ?_
    refine TE.next ?_
    refine TW.seq ?_
    refine TW.seq ?_
    refine TW.joinBX (τ := Bool) (X := Unit) (fun T _ => [(1, .int .i64 who), (2, .int .i64 n), (3, .pointer (some ⟨B1, 0, none⟩)), (6, .pointer (some ⟨B2, 0, none⟩)), (9, .pointer (some ⟨B12, 0, none⟩)), (31, .bool T)]) (fun _ _ => [.box B1 26 [V_s0], .box B2 26 [.slice none 0 0], .box B12 26 [Y11], .own Y11 (lc R9.Owner)]) ?_ (fun T13 X14 => ?_)
    · refine TW.region ?_
      refine TO.y (Y.move rfl) rfl rfl rfl ?_
      refine TO.bind fun R15 H16 => ?_
      refine TO.ef (Ef.call (rest := [.box B12 26 [Y11], .own Y11 (lc R9.Owner), .box B2 26 [.slice none 0 0], .box B1 26 [V_s0]]) [0, 0, 0, 0] (impl_isTenant_con who  R15 H16) kc29 rfl rfl trivial) rfl rfl rfl (fun _ => ?_)
      refine TO.y (Y.not rfl) rfl rfl rfl ?_
      refine TO.y (Y.move rfl) rfl rfl rfl ?_
      refine TO.ite (b := !R15) (fun H18 => ?_) (fun H18 => ?_)
      · refine TO.off (Gd.at 3 false 22 (!R15) rfl rfl rfl (beq_tf H18)) rfl rfl ?_
        refine TO.off (Gd.at 3 false 22 (!R15) rfl rfl rfl (beq_tf H18)) rfl rfl ?_
        refine TO.y (Y.pick_t H18 rfl rfl) rfl rfl rfl ?_
        refine TO.y (Y.move rfl) rfl rfl rfl ?_
        refine TO.off (Gd.at 7 false 26 true rfl rfl rfl rfl) rfl rfl ?_
        refine TO.off (Gd.at 7 false 26 true rfl rfl rfl rfl) rfl rfl ?_
        refine TO.off (Gd.at 7 false 26 true rfl rfl rfl rfl) rfl rfl ?_
        refine TO.off (Gd.at 7 false 26 true rfl rfl rfl rfl) rfl rfl ?_
        refine TO.y (Y.pick_t rfl rfl rfl) rfl rfl rfl ?_
        refine TO.nil ?_
        exact TE.jb_go () [3, 2, 0, 0] ⟨rfl, rfl, rfl, rfl, rfl, rfl, trivial⟩ rfl
      · refine TO.y (Y.move rfl) (Gd.at 3 false 22 (!R15) rfl rfl rfl (beq_ff H18)) rfl rfl ?_
        refine TO.y (Y.lss rfl rfl) (Gd.at 3 false 22 (!R15) rfl rfl rfl (beq_ff H18)) rfl rfl ?_
        refine TO.y (Y.pick_f H18 rfl rfl) rfl rfl rfl ?_
        refine TO.y (Y.move rfl) rfl rfl rfl ?_
        refine TO.ite (b := decide (n < (1 : Int))) (fun H19 => ?_) (fun H19 => ?_)
        · refine TO.off (Gd.at 7 false 26 (decide (n < (1 : Int))) rfl rfl rfl (beq_tf H19)) rfl rfl ?_
          refine TO.off (Gd.at 7 false 26 (decide (n < (1 : Int))) rfl rfl rfl (beq_tf H19)) rfl rfl ?_
          refine TO.off (Gd.at 7 false 26 (decide (n < (1 : Int))) rfl rfl rfl (beq_tf H19)) rfl rfl ?_
          refine TO.off (Gd.at 7 false 26 (decide (n < (1 : Int))) rfl rfl rfl (beq_tf H19)) rfl rfl ?_
          refine TO.y (Y.pick_t H19 rfl rfl) rfl rfl rfl ?_
          refine TO.nil ?_
          exact TE.jb_go () [3, 2, 0, 0] ⟨rfl, rfl, rfl, rfl, rfl, rfl, trivial⟩ rfl
        · refine TO.y (Y.load_box (v := .agg #[V_s0]) 3 kk26 rfl rfl rfl) (Gd.at 7 false 26 (decide (n < (1 : Int))) rfl rfl rfl (beq_ff H19)) rfl rfl ?_
          refine TO.bind fun R20 H21 => ?_
          refine TO.ef (Ef.call (rest := [.box B12 26 [Y11], .own Y11 (lc R9.Owner), .box B2 26 [.slice none 0 0], .box B1 26 [V_s0]]) [0, 0, 0, 0] (impl_SpaceOf_con s (0 : Int) V_s0 R20 H21) kc12 rfl rfl ⟨(Base.can HB_V_s0), trivial⟩) (Gd.at 7 false 26 (decide (n < (1 : Int))) rfl rfl rfl (beq_ff H19)) rfl rfl (fun _ => ?_)
          refine TO.y (Y.move rfl) (Gd.at 7 false 26 (decide (n < (1 : Int))) rfl rfl rfl (beq_ff H19)) rfl rfl ?_
          refine TO.y (Y.lss rfl rfl) (Gd.at 7 false 26 (decide (n < (1 : Int))) rfl rfl rfl (beq_ff H19)) rfl rfl ?_
          refine TO.y (Y.pick_f H19 rfl rfl) rfl rfl rfl ?_
          refine TO.nil ?_
          exact TE.jb_go () [3, 2, 0, 0] ⟨rfl, rfl, rfl, rfl, rfl, rfl, trivial⟩ rfl
    · refine TE.next ?_
      refine TW.cond rfl (fun H23 => ?_) (fun H23 => ?_)
      · refine TW.seq ?_
        refine TW.region ?_
        refine TO.y (Y.load_box (v := .agg #[Y11]) 2 kk26 rfl rfl rfl) rfl rfl rfl ?_
        refine TO.ef0 (Ef.store_box (us := [Y11]) (vs' := [Y11]) (is' := [.box B1 26 [V_s0], .box B2 26 [Y11], .box B12 26 [Y11], .own Y11 (lc R9.Owner)]) 1 kk26 rfl rfl rfl (Cel.agg ⟨(One.can (Can.own 3 rfl)), trivial⟩) rfl rfl rfl rfl) rfl rfl (fun _ => ?_)
        refine TO.y (Y.assign rfl) rfl rfl rfl ?_
        refine TO.y (Y.assign rfl) rfl rfl rfl ?_
        refine TO.nil ?_
        refine TE.next ?_
        refine TW.ret ?_
        refine TE.then_ret ?_
        exact TE.leaf fun _ _ hf_ hs_ => ret_any (rs := [.cell 6 26, .tmp 7, .tmp 8]) (vs := [.agg #[Y11], .slice none 0 0, .bool false]) (.inl rfl) rfl (RV.cell 1 rfl rfl kk26 rfl ⟨rfl, ⟨rfl, trivial⟩⟩) hf_ hs_ ⟨(Y11, (.slice none 0 0)), rfl, (hs_.nilItem 1).pulls [4, 0] rfl⟩
      · refine TW.skip ?_
        refine TE.next ?_
        refine TW.seq ?_
        refine TW.region ?_
        refine TO.y (Y.assign rfl) rfl rfl rfl ?_
        refine TO.nil ?_
        refine TE.next ?_
        refine TW.seq ?_
        refine TW.seq ?_
        refine TW.region ?_
        refine TO.y (Y.field_box kf26_0 rfl rfl) rfl rfl rfl ?_
        refine TO.y (Y.load_box (v := V_s0) 0 kk24 rfl rfl rfl) rfl rfl rfl ?_
        refine TO.y (Y.len (l := s.Owner) ke24 (Base.can HB_V_s0) rfl) rfl rfl rfl ?_
        refine TO.y (Y.move rfl) rfl rfl rfl ?_
        refine TO.nil ?_
        refine TE.next ?_
        refine TW.joinX (τ := List Int × List Int) (X := Value) (fun _ X => [(6, .pointer (some ⟨B2, 0, none⟩)), (9, .pointer (some ⟨B12, 0, none⟩)), (10, X)]) (fun T X => [.box B2 26 [.slice none 0 0], .box B12 26 [Y11], .own Y11 (lc T.1), .own X (lc T.2)]) ?_ (fun T27 X28 => ?_)
        · refine TW.block ?_
          refine TW.nilItem 1 ?_
          refine TW.loopX (σ := Int × List Int × List Int) (X := Value) (fun T X => [(1, .int .i64 who), (2, .int .i64 n), (6, .pointer (some ⟨B2, 0, none⟩)), (9, .pointer (some ⟨B12, 0, none⟩)), (10, X), (34, V_s0), (35, .int .i64 ((s.Owner.length : Nat) : Int)), (36, .int .i64 T.1)]) (fun T X => [.box B2 26 [.slice none 0 0], .box B12 26 [Y11], .own Y11 (lc T.2.1), .own X (lc T.2.2)]) (.slice none 0 0) [2, 2, 2, 0] ⟨rfl, rfl, rfl, rfl, rfl, rfl, rfl, rfl, trivial⟩ rfl (fun S25 X26 => ?_)
          refine TW.seq ?_
          refine TW.region ?_
          refine TO.y (Y.lss rfl rfl) rfl rfl rfl ?_
          refine TO.nil ?_
          refine TE.next ?_
          refine TW.seq ?_
          refine TW.cond rfl (fun H29 => ?_) (fun H29 => ?_)
          · refine TW.skip ?_
            refine TE.next ?_
            refine TW.seq ?_
            refine TW.block ?_
            refine TW.seq ?_
            refine TW.region ?_
            refine TO.y (Y.move rfl) rfl rfl rfl ?_
            refine TO.bind fun E30 H31 => ?_
            refine TO.y (Y.index ke24 (Base.can HB_V_s0) H31 rfl rfl) rfl rfl rfl ?_
            refine TO.y (Y.load_el (us := [.int .i64 E30]) (u := .int .i64 E30) kk3 rfl (Base.can HB_V_s0) (idx_get H31).2.2 rfl rfl rfl rfl rfl) rfl rfl rfl ?_
            refine TO.y (Y.assign rfl) rfl rfl rfl ?_
            refine TO.y (Y.assign rfl) rfl rfl rfl ?_
            refine TO.nil ?_
            refine TE.next ?_
            refine TW.seq ?_
            refine TW.joinBX (τ := Bool) (X := Unit) (fun T _ => [(1, .int .i64 who), (2, .int .i64 n), (6, .pointer (some ⟨B2, 0, none⟩)), (9, .pointer (some ⟨B12, 0, none⟩)), (10, X26), (11, .int .i64 S25.1), (34, V_s0), (35, .int .i64 ((s.Owner.length : Nat) : Int)), (36, .int .i64 S25.1), (48, .bool T)]) (fun _ _ => [.box B2 26 [.slice none 0 0], .box B12 26 [Y11], .own Y11 (lc S25.2.1), .own X26 (lc S25.2.2)]) ?_ (fun T32 X33 => ?_)
            · refine TW.region ?_
              refine TO.y (Y.move rfl) rfl rfl rfl ?_
              refine TO.y (Y.eql rfl rfl) rfl rfl rfl ?_
              refine TO.y (Y.move rfl) rfl rfl rfl ?_
              refine TO.ite (b := decide (E30 = (0 : Int))) (fun H34 => ?_) (fun H34 => ?_)
              · refine TO.y (Y.move rfl) (Gd.at 2 true 43 (decide (E30 = (0 : Int))) rfl rfl rfl (beq_tt H34)) rfl rfl ?_
                refine TO.y (Y.len (l := S25.2.2) ke24 (Can.own 3 rfl) rfl) (Gd.at 2 true 43 (decide (E30 = (0 : Int))) rfl rfl rfl (beq_tt H34)) rfl rfl ?_
                refine TO.y (Y.move rfl) (Gd.at 2 true 43 (decide (E30 = (0 : Int))) rfl rfl rfl (beq_tt H34)) rfl rfl ?_
                refine TO.y (Y.lss rfl rfl) (Gd.at 2 true 43 (decide (E30 = (0 : Int))) rfl rfl rfl (beq_tt H34)) rfl rfl ?_
                refine TO.y (Y.pick_t H34 rfl rfl) rfl rfl rfl ?_
                refine TO.nil ?_
                exact TE.jb_go () [0, 0, 0, 0] ⟨rfl, rfl, rfl, rfl, rfl, rfl, rfl, rfl, rfl, rfl, trivial⟩ rfl
              · refine TO.off (Gd.at 2 true 43 (decide (E30 = (0 : Int))) rfl rfl rfl (beq_ft H34)) rfl rfl ?_
                refine TO.off (Gd.at 2 true 43 (decide (E30 = (0 : Int))) rfl rfl rfl (beq_ft H34)) rfl rfl ?_
                refine TO.off (Gd.at 2 true 43 (decide (E30 = (0 : Int))) rfl rfl rfl (beq_ft H34)) rfl rfl ?_
                refine TO.off (Gd.at 2 true 43 (decide (E30 = (0 : Int))) rfl rfl rfl (beq_ft H34)) rfl rfl ?_
                refine TO.y (Y.pick_f H34 rfl rfl) rfl rfl rfl ?_
                refine TO.nil ?_
                exact TE.jb_go () [0, 0, 0, 0] ⟨rfl, rfl, rfl, rfl, rfl, rfl, rfl, rfl, rfl, rfl, trivial⟩ rfl
            · refine TE.next ?_
              refine TW.joinX (τ := List Int × List Int) (X := Value) (fun _ X => [(1, .int .i64 who), (2, .int .i64 n), (6, .pointer (some ⟨B2, 0, none⟩)), (9, .pointer (some ⟨B12, 0, none⟩)), (10, X), (34, V_s0), (35, .int .i64 ((s.Owner.length : Nat) : Int)), (36, .int .i64 S25.1)]) (fun T X => [.box B2 26 [.slice none 0 0], .box B12 26 [Y11], .own Y11 (lc T.1), .own X (lc T.2)]) ?_ (fun T35 X36 => ?_)
              · refine TW.cond rfl (fun H37 => ?_) (fun H37 => ?_)
                · refine TW.seq ?_
                  refine TW.region ?_
                  refine TO.y (Y.move rfl) rfl rfl rfl ?_
                  refine TO.y (Y.move rfl) rfl rfl rfl ?_
                  refine TO.ef (Ef.buildSlice (α := Int) (Vs := [.int .i64 S25.1]) [S25.1] ke24 kz3 rfl rfl rfl rfl rfl) rfl rfl rfl (fun B38 => ?_)
                  refine TO.bind fun E40 H41 => ?_
                  refine TO.ef (Ef.append (α := Int) (is' := [.own (.slice (some ⟨B38, 0, none⟩) 1 1) (lc ([S25.1])), .box B2 26 [.slice none 0 0], .box B12 26 [Y11], .own Y11 (lc S25.2.1)]) [4, 0, 0, 0, 0] H41 ke24 kz3 rfl rfl rfl rfl rfl (Can.own 0 rfl)) rfl rfl rfl (fun V39 => ?_)
                  refine TO.y (Y.assign rfl) rfl rfl rfl ?_
                  refine TO.nil ?_
                  refine TE.next ?_
                  refine TW.region ?_
                  refine TO.y (Y.field_box kf26_0 rfl rfl) rfl rfl rfl ?_
                  refine TO.y (Y.load_box (v := Y11) 3 kk24 rfl rfl rfl) rfl rfl rfl ?_
                  refine TO.y (Y.move rfl) rfl rfl rfl ?_
                  refine TO.y (Y.move rfl) rfl rfl rfl ?_
                  refine TO.bind fun E42 H43 => ?_
                  refine TO.y (Y.index ke24 (Can.own 4 rfl) H43 rfl rfl) rfl rfl rfl ?_
                  refine TO.ef0 (Ef.store_el (us := [.int .i64 who]) (is' := [.own V39 (lc E40), .own (.slice (some ⟨B38, 0, none⟩) 1 1) (lc ([S25.1])), .box B2 26 [.slice none 0 0], .box B12 26 [Y11], .own Y11 (lc (S25.2.1.set S25.1.toNat who))]) who 4 kk3 rfl rfl (idx_get H43).2.2 rfl rfl (Cel.plain rfl rfl) rfl rfl rfl rfl) rfl rfl (fun _ => ?_)
                  refine TO.nil ?_
                  exact TE.jn_go V39 [2, 2, 2, 0] ⟨rfl, rfl, rfl, rfl, rfl, rfl, rfl, rfl, trivial⟩ rfl
                · refine TW.skip ?_
                  exact TE.jn_go X26 [0, 0, 0, 0] ⟨rfl, rfl, rfl, rfl, rfl, rfl, rfl, rfl, trivial⟩ rfl
              · refine TE.block_normal ?_
                refine TE.next ?_
                refine TW.region ?_
                refine TO.y (Y.add rfl rfl) rfl rfl rfl ?_
                refine TO.y (Y.move rfl) rfl rfl rfl ?_
                refine TO.nil ?_
                exact TE.lp_go X36 [0, 0, 0, 0] ⟨rfl, rfl, rfl, rfl, rfl, rfl, rfl, rfl, trivial⟩ rfl
          · refine TW.exit ?_
            refine TE.then_exit ?_
            refine TE.lp_exit ?_
            refine TE.block_exit ?_
            exact TE.jn_go X26 [0, 0, 0, 0] ⟨rfl, rfl, rfl, trivial⟩ rfl
        · refine TE.next ?_
          refine TW.seq ?_
          refine TW.region ?_
          refine TO.y (Y.load_box (v := .agg #[Y11]) 1 kk26 rfl rfl rfl) rfl rfl rfl ?_
          refine TO.y (Y.move rfl) rfl rfl rfl ?_
          refine TO.ef0 (Ef.store_box (us := [Y11]) (vs' := [Y11]) (is' := [.box B2 26 [Y11], .box B12 26 [Y11], .own Y11 (lc T27.1), .own X28 (lc T27.2)]) 0 kk26 rfl rfl rfl (Cel.agg ⟨(One.can (Can.own 2 rfl)), trivial⟩) rfl rfl rfl rfl) rfl rfl (fun _ => ?_)
          refine TO.y (Y.assign rfl) rfl rfl rfl ?_
          refine TO.y (Y.assign rfl) rfl rfl rfl ?_
          refine TO.nil ?_
          refine TE.next ?_
          refine TW.ret ?_
          exact TE.leaf fun _ _ hf_ hs_ => ret_any (rs := [.cell 6 26, .tmp 7, .tmp 8]) (vs := [.agg #[Y11], X28, .bool true]) (.inl rfl) rfl (RV.cell 0 rfl rfl kk26 rfl ⟨rfl, ⟨rfl, trivial⟩⟩) hf_ hs_ ⟨(Y11, X28), rfl, hs_.pulls [2, 2] rfl⟩

/-- loop.example/g00950/laws.sameInts -/
noncomputable def laws_sameInts (a : List Int) (b : List Int) : Option Bool :=
  if (!(decide (((a.length : Nat) : Int) = ((b.length : Nat) : Int)))) = true then (some false)
  else (bindC (loopO (fun (S2 : Int) => if (decide (S2 < ((a.length : Nat) : Int))) = true then ((idx a S2).bind fun E7 =>
  (idx b S2).bind fun E9 =>
  if (!(decide (E7 = E9))) = true then (some (.done (.done false)))
  else (some (.go (IntKind.i64.wrap (S2 + (1 : Int))))))
  else (some (.done (.go ()))))
  (0 : Int))
  (fun (T4 : Unit) => some true))

theorem laws_sameInts_con (a : List Int) (b : List Int) (V_a0 : Value) (V_b0 : Value) (r : Bool) (hm : laws_sameInts a b = some r) :
    Con Try.prog 9 [V_a0, V_b0] [] [(V_a0, lc a), (V_b0, lc b)] (fun _ : Unit => .bool r) (fun _ => []) := by
  refine Con.intro (args := [V_a0, V_b0]) (n := 26) (val := fun r (_ : Unit) => .bool r) (post := fun _ _ => []) (m := laws_sameInts a b) Try.func9 rfl rfl rfl hm ?_
  intro w S hrd
  have HB_V_a0 := hrd _ (.head _)
  have HB_V_b0 := hrd _ (.tail _ (.head _))
  clear hrd
  unfold laws_sameInts
  refine TW.seq ?_
  refine TW.region ?_
  refine TO.y (Y.assign rfl) rfl rfl rfl ?_
  refine TO.nil ?_
  refine TE.next ?_
  refine TW.seq ?_
  refine TW.seq ?_
  refine TW.region ?_
  refine TO.y (Y.move rfl) rfl rfl rfl ?_
  refine TO.y (Y.len (l := a) ke24 (Base.can HB_V_a0) rfl) rfl rfl rfl ?_
  refine TO.y (Y.move rfl) rfl rfl rfl ?_
  refine TO.y (Y.len (l := b) ke24 (Base.can HB_V_b0) rfl) rfl rfl rfl ?_
  refine TO.y (Y.neq rfl rfl) rfl rfl rfl ?_
  refine TO.nil ?_
  refine TE.next ?_
  refine TW.cond rfl (fun H1 => ?_) (fun H1 => ?_)
  · refine TW.seq ?_
    refine TW.region ?_
    refine TO.y (Y.assign rfl) rfl rfl rfl ?_
    refine TO.nil ?_
    refine TE.next ?_
    refine TW.ret ?_
    refine TE.then_ret ?_
    exact TE.leaf fun _ _ hf_ hs_ => ret_any (rs := [.tmp 4]) (vs := [.bool false]) (.inl rfl) rfl ⟨rfl, trivial⟩ hf_ hs_ ⟨(), rfl, hs_.pulls [] rfl⟩
  · refine TW.skip ?_
    refine TE.next ?_
    refine TW.seq ?_
    refine TW.seq ?_
    refine TW.region ?_
    refine TO.y (Y.assign rfl) rfl rfl rfl ?_
    refine TO.nil ?_
    refine TE.next ?_
    refine TW.joinX (τ := Unit) (X := Unit) (fun _ _ => []) (fun _ _ => []) ?_ (fun T4 X5 => ?_)
    · refine TW.block ?_
      refine TW.loopX (σ := Int) (X := Unit) (fun T _ => [(0, V_a0), (1, V_b0), (5, .int .i64 T)]) (fun _ _ => []) () [] ⟨rfl, rfl, rfl, trivial⟩ rfl (fun S2 X3 => ?_)
      refine TW.seq ?_
      refine TW.seq ?_
      refine TW.region ?_
      refine TO.y (Y.move rfl) rfl rfl rfl ?_
      refine TO.y (Y.move rfl) rfl rfl rfl ?_
      refine TO.y (Y.len (l := a) ke24 (Base.can HB_V_a0) rfl) rfl rfl rfl ?_
      refine TO.y (Y.lss rfl rfl) rfl rfl rfl ?_
      refine TO.nil ?_
      refine TE.next ?_
      refine TW.cond rfl (fun H6 => ?_) (fun H6 => ?_)
      · refine TW.skip ?_
        refine TE.next ?_
        refine TW.seq ?_
        refine TW.block ?_
        refine TW.seq ?_
        refine TW.draw (isH := []) hMix ?_
        refine TA.y (listed' := #[true, false, false, false, false, false, false, false, false]) 0 [] rfl (Y.move rfl) rfl rfl rfl (by kernel_rfl) (by kernel_rfl) (by kernel_rfl) rfl rfl ?_
        refine TA.y (listed' := #[true, true, false, false, false, false, false, false, false]) 1 [] rfl (Y.move rfl) rfl rfl rfl (by kernel_rfl) (by kernel_rfl) (by kernel_rfl) rfl rfl ?_
        refine TA.bind fun E7 H8 => ?_
        refine TA.y (listed' := #[true, true, true, false, false, false, false, false, false]) 2 [] rfl (Y.index ke24 (Base.can HB_V_a0) H8 rfl rfl) rfl rfl rfl (by kernel_rfl) (by kernel_rfl) (by kernel_rfl) rfl rfl ?_
        refine TA.y (listed' := #[true, true, true, true, false, false, false, false, false]) 3 [] rfl (Y.load_el (us := [.int .i64 E7]) (u := .int .i64 E7) kk3 rfl (Base.can HB_V_a0) (idx_get H8).2.2 rfl rfl rfl rfl rfl) rfl rfl rfl (by kernel_rfl) (by kernel_rfl) (by kernel_rfl) rfl rfl ?_
        refine TA.y (listed' := #[true, true, true, true, true, false, false, false, false]) 4 [] rfl (Y.move rfl) rfl rfl rfl (by kernel_rfl) (by kernel_rfl) (by kernel_rfl) rfl rfl ?_
        refine TA.y (listed' := #[true, true, true, true, true, true, false, false, false]) 5 [] rfl (Y.move rfl) rfl rfl rfl (by kernel_rfl) (by kernel_rfl) (by kernel_rfl) rfl rfl ?_
        refine TA.bind fun E9 H10 => ?_
        refine TA.y (listed' := #[true, true, true, true, true, true, true, false, false]) 6 [] rfl (Y.index ke24 (Base.can HB_V_b0) H10 rfl rfl) rfl rfl rfl (by kernel_rfl) (by kernel_rfl) (by kernel_rfl) rfl rfl ?_
        refine TA.y (listed' := #[true, true, true, true, true, true, true, true, false]) 7 [] rfl (Y.load_el (us := [.int .i64 E9]) (u := .int .i64 E9) kk3 rfl (Base.can HB_V_b0) (idx_get H10).2.2 rfl rfl rfl rfl rfl) rfl rfl rfl (by kernel_rfl) (by kernel_rfl) (by kernel_rfl) rfl rfl ?_
        refine TA.y (listed' := #[true, true, true, true, true, true, true, true, true]) 8 [] rfl (Y.neq rfl rfl) rfl rfl rfl (by kernel_rfl) (by kernel_rfl) (by kernel_rfl) rfl rfl ?_
        refine TA.nil (by kernel_rfl) ?_
        refine TE.next ?_
        refine TW.cond rfl (fun H11 => ?_) (fun H11 => ?_)
        · refine TW.seq ?_
          refine TW.region ?_
          refine TO.y (Y.assign rfl) rfl rfl rfl ?_
          refine TO.nil ?_
          refine TE.next ?_
          refine TW.ret ?_
          refine TE.block_ret ?_
          refine TE.then_ret ?_
          refine TE.lp_ret ?_
          refine TE.block_ret ?_
          refine TE.jn_done ?_
          refine TE.then_ret ?_
          exact TE.leaf fun _ _ hf_ hs_ => ret_any (rs := [.tmp 4]) (vs := [.bool false]) (.inl rfl) rfl ⟨rfl, trivial⟩ hf_ hs_ ⟨(), rfl, hs_.pulls [] rfl⟩
        · refine TW.skip ?_
          refine TE.block_normal ?_
          refine TE.next ?_
          refine TW.region ?_
          refine TO.y (Y.move rfl) rfl rfl rfl ?_
          refine TO.y (Y.add rfl rfl) rfl rfl rfl ?_
          refine TO.y (Y.assign rfl) rfl rfl rfl ?_
          refine TO.nil ?_
          exact TE.lp_go () [] ⟨rfl, rfl, rfl, trivial⟩ rfl
      · refine TW.exit ?_
        refine TE.then_exit ?_
        refine TE.lp_exit ?_
        refine TE.block_exit ?_
        exact TE.jn_go () [] trivial rfl
    · refine TE.next ?_
      refine TW.seq ?_
      refine TW.region ?_
      refine TO.y (Y.assign rfl) rfl rfl rfl ?_
      refine TO.nil ?_
      refine TE.next ?_
      refine TW.ret ?_
      exact TE.leaf fun _ _ hf_ hs_ => ret_any (rs := [.tmp 4]) (vs := [.bool true]) (.inl rfl) rfl ⟨rfl, trivial⟩ hf_ hs_ ⟨(), rfl, hs_.pulls [] rfl⟩

/-- loop.example/g00950/impl.SpaceGive -/
noncomputable def impl_SpaceGive (s : Space) (who : Int) (blocks : List Int) : Option (Space × Bool) :=
  (impl_SpaceOk s).bind fun R3 =>
  if (!R3) = true then (some ({ Owner := ([] : List Int) : Space }, false))
  else ((impl_copySpace s).bind fun R8 =>
  bindC (loopO (fun (S12 : Int × List Int) => if (decide (S12.1 < ((blocks.length : Nat) : Int))) = true then ((idx blocks S12.1).bind fun E17 =>
  (if (decide (who < (1 : Int))) = true then (some true)
  else ((impl_inRange E17 (0 : Int) (IntKind.i64.wrap (((S12.2.length : Nat) : Int) - (1 : Int)))).bind fun R22 =>
  if (!R22) = true then (some true)
  else ((idx S12.2 E17).bind fun E26 =>
  some (!(decide (E26 = who)))))).bind (fun (T19 : Bool) =>
  if T19 = true then (some (.done (.done (R8, false))))
  else ((idx S12.2 E17).bind fun E30 =>
  some (.go (IntKind.i64.wrap (S12.1 + (1 : Int)), (S12.2.set E17.toNat (0 : Int)))))))
  else (some (.done (.go S12.2))))
  ((0 : Int), R8.Owner))
  (fun (T14 : List Int) => some ({ Owner := T14 : Space }, true)))

theorem impl_SpaceGive_con (s : Space) (who : Int) (blocks : List Int) (V_s0 : Value) (V_blocks0 : Value) (r : Space × Bool) (hm : impl_SpaceGive s who blocks = some r) :
    Con Try.prog 11 [.agg #[V_s0], .int .i64 who, V_blocks0] [] [(V_s0, lc s.Owner), (V_blocks0, lc blocks)] (fun X : Value => .tuple #[.agg #[X], .bool r.2]) (fun X => [.own X (lc r.1.Owner)]) := by
  refine Con.intro (args := [.agg #[V_s0], .int .i64 who, V_blocks0]) (n := 51) (val := fun r (X : Value) => .tuple #[.agg #[X], .bool r.2]) (post := fun r X => [.own X (lc r.1.Owner)]) (m := impl_SpaceGive s who blocks) Try.func11 rfl rfl rfl hm ?_
  intro w S hrd
  have HB_V_s0 := hrd _ (.head _)
  have HB_V_blocks0 := hrd _ (.tail _ (.head _))
  clear hrd
  unfold impl_SpaceGive
  refine TW.seq ?_
  refine TW.region ?_
  refine TO.ef (Ef.box rfl (Cel.agg ⟨(One.can (Base.can HB_V_s0)), trivial⟩)) rfl rfl rfl (fun B1 => ?_)
  refine TO.ef (Ef.alloc kz26 rfl) rfl rfl rfl (fun B2 => ?_)
  refine TO.y (Y.assign rfl) rfl rfl rfl ?_
  refine TO.nil ?_
  refine TE.next ?_
  refine TW.seq ?_
  refine TW.seq ?_
  refine TW.region ?_
  refine TO.y (Y.load_box (v := .agg #[V_s0]) 1 kk26 rfl rfl rfl) rfl rfl rfl ?_
  refine TO.bind fun R3 H4 => ?_
  refine TO.ef (Ef.call (rest := [.box B2 26 [.slice none 0 0], .box B1 26 [V_s0]]) [0, 0] (impl_SpaceOk_con s V_s0 R3 H4) kc27 rfl rfl ⟨(Base.can HB_V_s0), trivial⟩) rfl rfl rfl (fun _ => ?_)
  refine TO.y (Y.not rfl) rfl rfl rfl ?_
  refine TO.nil ?_
  refine TE.next ?_
  refine TW.cond rfl (fun H6 => ?_) (fun H6 => ?_)
  · refine TW.seq ?_
    refine TW.region ?_
    refine TO.y (Y.build (cells := [.slice none 0 0]) [] kp26 kz26 trivial rfl) rfl rfl rfl ?_
    refine TO.ef0 (Ef.store_box (us := [.slice none 0 0]) (vs' := [.slice none 0 0]) (is' := [.box B2 26 [.slice none 0 0], .box B1 26 [V_s0]]) 0 kk26 rfl rfl rfl (Cel.plain rfl rfl) rfl rfl rfl rfl) rfl rfl (fun _ => ?_)
    refine TO.y (Y.assign rfl) rfl rfl rfl ?_
    refine TO.nil ?_
    refine TE.next ?_
    refine TW.ret ?_
    refine TE.then_ret ?_
    exact TE.leaf fun _ _ hf_ hs_ => ret_any (rs := [.cell 6 26, .tmp 7]) (vs := [.agg #[.slice none 0 0], .bool false]) (.inl rfl) rfl (RV.cell 0 rfl rfl kk26 rfl ⟨rfl, trivial⟩) hf_ hs_ ⟨(.slice none 0 0), rfl, (hs_.nilItem 1).pulls [0] rfl⟩
  · refine TW.skip ?_
    refine TE.next ?_
    refine TW.seq ?_
    refine TW.region ?_
    refine TO.y (Y.load_box (v := .agg #[V_s0]) 1 kk26 rfl rfl rfl) rfl rfl rfl ?_
    refine TO.bind fun R8 H9 => ?_
    refine TO.ef (Ef.call (rest := [.box B2 26 [.slice none 0 0], .box B1 26 [V_s0]]) [0, 0] (impl_copySpace_con s V_s0 R8 H9) kc28 rfl rfl ⟨(Base.can HB_V_s0), trivial⟩) rfl rfl rfl (fun Y10 => ?_)
    refine TO.ef (Ef.alloc kz26 rfl) rfl rfl rfl (fun B11 => ?_)
    refine TO.ef0 (Ef.store_box (us := [Y10]) (vs' := [Y10]) (is' := [.box B11 26 [Y10], .own Y10 (lc R8.Owner), .box B2 26 [.slice none 0 0], .box B1 26 [V_s0]]) 0 kk26 rfl rfl rfl (Cel.agg ⟨(One.can (Can.own 1 rfl)), trivial⟩) rfl rfl rfl rfl) rfl rfl (fun _ => ?_)
    refine TO.nil ?_
    refine TE.next ?_
    refine TW.seq ?_
    refine TW.seq ?_
    refine TW.region ?_
    refine TO.y (Y.move rfl) rfl rfl rfl ?_
    refine TO.y (Y.len (l := blocks) ke24 (Base.can HB_V_blocks0) rfl) rfl rfl rfl ?_
    refine TO.y (Y.move rfl) rfl rfl rfl ?_
    refine TO.nil ?_
    refine TE.next ?_
    refine TW.joinX (τ := List Int) (X := Unit) (fun _ _ => [(6, .pointer (some ⟨B2, 0, none⟩)), (8, .pointer (some ⟨B11, 0, none⟩))]) (fun T _ => [.box B2 26 [.slice none 0 0], .box B11 26 [Y10], .own Y10 (lc T)]) ?_ (fun T14 X15 => ?_)
    · refine TW.block ?_
      refine TW.loopX (σ := Int × List Int) (X := Unit) (fun T _ => [(1, .int .i64 who), (3, .pointer (some ⟨B1, 0, none⟩)), (6, .pointer (some ⟨B2, 0, none⟩)), (8, .pointer (some ⟨B11, 0, none⟩)), (17, V_blocks0), (18, .int .i64 ((blocks.length : Nat) : Int)), (19, .int .i64 T.1)]) (fun T _ => [.box B1 26 [V_s0], .box B2 26 [.slice none 0 0], .box B11 26 [Y10], .own Y10 (lc T.2)]) () [3, 2, 0, 0] ⟨rfl, rfl, rfl, rfl, rfl, rfl, rfl, trivial⟩ rfl (fun S12 X13 => ?_)
      refine TW.seq ?_
      refine TW.region ?_
      refine TO.y (Y.lss rfl rfl) rfl rfl rfl ?_
      refine TO.nil ?_
      refine TE.next ?_
      refine TW.seq ?_
      refine TW.cond rfl (fun H16 => ?_) (fun H16 => ?_)
      · refine TW.skip ?_
        refine TE.next ?_
        refine TW.seq ?_
        refine TW.block ?_
        refine TW.seq ?_
        refine TW.region ?_
        refine TO.bind fun E17 H18 => ?_
        refine TO.y (Y.index ke24 (Base.can HB_V_blocks0) H18 rfl rfl) rfl rfl rfl ?_
        refine TO.y (Y.load_el (us := [.int .i64 E17]) (u := .int .i64 E17) kk3 rfl (Base.can HB_V_blocks0) (idx_get H18).2.2 rfl rfl rfl rfl rfl) rfl rfl rfl ?_
        refine TO.y (Y.assign rfl) rfl rfl rfl ?_
        refine TO.nil ?_
        refine TE.next ?_
        refine TW.seq ?_
        refine TW.seq ?_
        refine TW.joinBX (τ := Bool) (X := Unit) (fun T _ => [(1, .int .i64 who), (3, .pointer (some ⟨B1, 0, none⟩)), (6, .pointer (some ⟨B2, 0, none⟩)), (8, .pointer (some ⟨B11, 0, none⟩)), (10, .int .i64 E17), (17, V_blocks0), (18, .int .i64 ((blocks.length : Nat) : Int)), (19, .int .i64 S12.1), (42, .bool T)]) (fun _ _ => [.box B1 26 [V_s0], .box B2 26 [.slice none 0 0], .box B11 26 [Y10], .own Y10 (lc S12.2)]) ?_ (fun T19 X20 => ?_)
        · refine TW.region ?_
          refine TO.y (Y.move rfl) rfl rfl rfl ?_
          refine TO.y (Y.lss rfl rfl) rfl rfl rfl ?_
          refine TO.y (Y.move rfl) rfl rfl rfl ?_
          refine TO.ite (b := decide (who < (1 : Int))) (fun H21 => ?_) (fun H21 => ?_)
          · refine TO.off (Gd.at 2 false 25 (decide (who < (1 : Int))) rfl rfl rfl (beq_tf H21)) rfl rfl ?_
            refine TO.off (Gd.at 2 false 25 (decide (who < (1 : Int))) rfl rfl rfl (beq_tf H21)) rfl rfl ?_
            refine TO.off (Gd.at 2 false 25 (decide (who < (1 : Int))) rfl rfl rfl (beq_tf H21)) rfl rfl ?_
            refine TO.off (Gd.at 2 false 25 (decide (who < (1 : Int))) rfl rfl rfl (beq_tf H21)) rfl rfl ?_
            refine TO.off (Gd.at 2 false 25 (decide (who < (1 : Int))) rfl rfl rfl (beq_tf H21)) rfl rfl ?_
            refine TO.off (Gd.at 2 false 25 (decide (who < (1 : Int))) rfl rfl rfl (beq_tf H21)) rfl rfl ?_
            refine TO.off (Gd.at 2 false 25 (decide (who < (1 : Int))) rfl rfl rfl (beq_tf H21)) rfl rfl ?_
            refine TO.y (Y.pick_t H21 rfl rfl) rfl rfl rfl ?_
            refine TO.y (Y.move rfl) rfl rfl rfl ?_
            refine TO.off (Gd.at 11 false 34 true rfl rfl rfl rfl) rfl rfl ?_
            refine TO.off (Gd.at 11 false 34 true rfl rfl rfl rfl) rfl rfl ?_
            refine TO.off (Gd.at 11 false 34 true rfl rfl rfl rfl) rfl rfl ?_
            refine TO.off (Gd.at 11 false 34 true rfl rfl rfl rfl) rfl rfl ?_
            refine TO.off (Gd.at 11 false 34 true rfl rfl rfl rfl) rfl rfl ?_
            refine TO.off (Gd.at 11 false 34 true rfl rfl rfl rfl) rfl rfl ?_
            refine TO.off (Gd.at 11 false 34 true rfl rfl rfl rfl) rfl rfl ?_
            refine TO.y (Y.pick_t rfl rfl rfl) rfl rfl rfl ?_
            refine TO.nil ?_
            exact TE.jb_go () [0, 0, 0, 0] ⟨rfl, rfl, rfl, rfl, rfl, rfl, rfl, rfl, rfl, trivial⟩ rfl
          · refine TO.y (Y.move rfl) (Gd.at 2 false 25 (decide (who < (1 : Int))) rfl rfl rfl (beq_ff H21)) rfl rfl ?_
            refine TO.y (Y.field_box kf26_0 rfl rfl) (Gd.at 2 false 25 (decide (who < (1 : Int))) rfl rfl rfl (beq_ff H21)) rfl rfl ?_
            refine TO.y (Y.load_box (v := Y10) 2 kk24 rfl rfl rfl) (Gd.at 2 false 25 (decide (who < (1 : Int))) rfl rfl rfl (beq_ff H21)) rfl rfl ?_
            refine TO.y (Y.len (l := S12.2) ke24 (Can.own 3 rfl) rfl) (Gd.at 2 false 25 (decide (who < (1 : Int))) rfl rfl rfl (beq_ff H21)) rfl rfl ?_
            refine TO.y (Y.sub rfl rfl) (Gd.at 2 false 25 (decide (who < (1 : Int))) rfl rfl rfl (beq_ff H21)) rfl rfl ?_
            refine TO.bind fun R22 H23 => ?_
            refine TO.ef (Ef.call (rest := [.box B1 26 [V_s0], .box B2 26 [.slice none 0 0], .box B11 26 [Y10], .own Y10 (lc S12.2)]) [0, 0, 0, 0] (impl_inRange_con E17 (0 : Int) (IntKind.i64.wrap (((S12.2.length : Nat) : Int) - (1 : Int)))  R22 H23) kc32 rfl rfl trivial) (Gd.at 2 false 25 (decide (who < (1 : Int))) rfl rfl rfl (beq_ff H21)) rfl rfl (fun _ => ?_)
            refine TO.y (Y.not rfl) (Gd.at 2 false 25 (decide (who < (1 : Int))) rfl rfl rfl (beq_ff H21)) rfl rfl ?_
            refine TO.y (Y.pick_f H21 rfl rfl) rfl rfl rfl ?_
            refine TO.y (Y.move rfl) rfl rfl rfl ?_
            refine TO.ite (b := !R22) (fun H25 => ?_) (fun H25 => ?_)
            · refine TO.off (Gd.at 11 false 34 (!R22) rfl rfl rfl (beq_tf H25)) rfl rfl ?_
              refine TO.off (Gd.at 11 false 34 (!R22) rfl rfl rfl (beq_tf H25)) rfl rfl ?_
              refine TO.off (Gd.at 11 false 34 (!R22) rfl rfl rfl (beq_tf H25)) rfl rfl ?_
              refine TO.off (Gd.at 11 false 34 (!R22) rfl rfl rfl (beq_tf H25)) rfl rfl ?_
              refine TO.off (Gd.at 11 false 34 (!R22) rfl rfl rfl (beq_tf H25)) rfl rfl ?_
              refine TO.off (Gd.at 11 false 34 (!R22) rfl rfl rfl (beq_tf H25)) rfl rfl ?_
              refine TO.off (Gd.at 11 false 34 (!R22) rfl rfl rfl (beq_tf H25)) rfl rfl ?_
              refine TO.y (Y.pick_t H25 rfl rfl) rfl rfl rfl ?_
              refine TO.nil ?_
              exact TE.jb_go () [0, 0, 0, 0] ⟨rfl, rfl, rfl, rfl, rfl, rfl, rfl, rfl, rfl, trivial⟩ rfl
            · refine TO.y (Y.field_box kf26_0 rfl rfl) (Gd.at 11 false 34 (!R22) rfl rfl rfl (beq_ff H25)) rfl rfl ?_
              refine TO.y (Y.load_box (v := Y10) 2 kk24 rfl rfl rfl) (Gd.at 11 false 34 (!R22) rfl rfl rfl (beq_ff H25)) rfl rfl ?_
              refine TO.y (Y.move rfl) (Gd.at 11 false 34 (!R22) rfl rfl rfl (beq_ff H25)) rfl rfl ?_
              refine TO.bind fun E26 H27 => ?_
              refine TO.y (Y.index ke24 (Can.own 3 rfl) H27 rfl rfl) (Gd.at 11 false 34 (!R22) rfl rfl rfl (beq_ff H25)) rfl rfl ?_
              refine TO.y (Y.load_el (us := [.int .i64 E26]) (u := .int .i64 E26) kk3 rfl (Can.own 3 rfl) (idx_get H27).2.2 rfl rfl rfl rfl rfl) (Gd.at 11 false 34 (!R22) rfl rfl rfl (beq_ff H25)) rfl rfl ?_
              refine TO.y (Y.move rfl) (Gd.at 11 false 34 (!R22) rfl rfl rfl (beq_ff H25)) rfl rfl ?_
              refine TO.y (Y.neq rfl rfl) (Gd.at 11 false 34 (!R22) rfl rfl rfl (beq_ff H25)) rfl rfl ?_
              refine TO.y (Y.pick_f H25 rfl rfl) rfl rfl rfl ?_
              refine TO.nil ?_
              exact TE.jb_go () [0, 0, 0, 0] ⟨rfl, rfl, rfl, rfl, rfl, rfl, rfl, rfl, rfl, trivial⟩ rfl
        · refine TE.next ?_
          refine TW.cond rfl (fun H28 => ?_) (fun H28 => ?_)
          · refine TW.seq ?_
            refine TW.region ?_
            refine TO.y (Y.load_box (v := .agg #[V_s0]) 0 kk26 rfl rfl rfl) rfl rfl rfl ?_
            refine TO.ef (Ef.call (rest := [.box B1 26 [V_s0], .box B2 26 [.slice none 0 0], .box B11 26 [Y10], .own Y10 (lc S12.2)]) [0, 0, 0, 0] (impl_copySpace_con s V_s0 R8 H9) kc28 rfl rfl ⟨(Base.can HB_V_s0), trivial⟩) rfl rfl rfl (fun Y29 => ?_)
            refine TO.ef0 (Ef.store_box (us := [Y29]) (vs' := [Y29]) (is' := [.own Y29 (lc R8.Owner), .box B1 26 [V_s0], .box B2 26 [Y29], .box B11 26 [Y10], .own Y10 (lc S12.2)]) 2 kk26 rfl rfl rfl (Cel.agg ⟨(One.can (Can.own 0 rfl)), trivial⟩) rfl rfl rfl rfl) rfl rfl (fun _ => ?_)
            refine TO.y (Y.assign rfl) rfl rfl rfl ?_
            refine TO.nil ?_
            refine TE.next ?_
            refine TW.ret ?_
            refine TE.then_ret ?_
            refine TE.block_ret ?_
            refine TE.then_ret ?_
            refine TE.lp_ret ?_
            refine TE.block_ret ?_
            refine TE.jn_done ?_
            refine TE.then_ret ?_
            exact TE.leaf fun _ _ hf_ hs_ => ret_any (rs := [.cell 6 26, .tmp 7]) (vs := [.agg #[Y29], .bool false]) (.inl rfl) rfl (RV.cell 2 rfl rfl kk26 rfl ⟨rfl, trivial⟩) hf_ hs_ ⟨Y29, rfl, hs_.pulls [0] rfl⟩
          · refine TW.skip ?_
            refine TE.next ?_
            refine TW.region ?_
            refine TO.y (Y.field_box kf26_0 rfl rfl) rfl rfl rfl ?_
            refine TO.y (Y.load_box (v := Y10) 2 kk24 rfl rfl rfl) rfl rfl rfl ?_
            refine TO.y (Y.move rfl) rfl rfl rfl ?_
            refine TO.bind fun E30 H31 => ?_
            refine TO.y (Y.index ke24 (Can.own 3 rfl) H31 rfl rfl) rfl rfl rfl ?_
            refine TO.ef0 (Ef.store_el (us := [.int .i64 (0 : Int)]) (is' := [.box B1 26 [V_s0], .box B2 26 [.slice none 0 0], .box B11 26 [Y10], .own Y10 (lc (S12.2.set E17.toNat (0 : Int)))]) (0 : Int) 3 kk3 rfl rfl (idx_get H31).2.2 rfl rfl (Cel.plain rfl rfl) rfl rfl rfl rfl) rfl rfl (fun _ => ?_)
            refine TO.nil ?_
            refine TE.block_normal ?_
            refine TE.next ?_
            refine TW.region ?_
            refine TO.y (Y.add rfl rfl) rfl rfl rfl ?_
            refine TO.y (Y.move rfl) rfl rfl rfl ?_
            refine TO.nil ?_
            exact TE.lp_go () [0, 0, 0, 0] ⟨rfl, rfl, rfl, rfl, rfl, rfl, rfl, trivial⟩ rfl
      · refine TW.exit ?_
        refine TE.then_exit ?_
        refine TE.lp_exit ?_
        refine TE.block_exit ?_
        exact TE.jn_go () [1, 1, 1] ⟨rfl, rfl, trivial⟩ rfl
    · refine TE.next ?_
      refine TW.seq ?_
      refine TW.region ?_
      refine TO.y (Y.load_box (v := .agg #[Y10]) 1 kk26 rfl rfl rfl) rfl rfl rfl ?_
      refine TO.ef0 (Ef.store_box (us := [Y10]) (vs' := [Y10]) (is' := [.box B2 26 [Y10], .box B11 26 [Y10], .own Y10 (lc T14)]) 0 kk26 rfl rfl rfl (Cel.agg ⟨(One.can (Can.own 2 rfl)), trivial⟩) rfl rfl rfl rfl) rfl rfl (fun _ => ?_)
      refine TO.y (Y.assign rfl) rfl rfl rfl ?_
      refine TO.nil ?_
      refine TE.next ?_
      refine TW.ret ?_
      exact TE.leaf fun _ _ hf_ hs_ => ret_any (rs := [.cell 6 26, .tmp 7]) (vs := [.agg #[Y10], .bool true]) (.inl rfl) rfl (RV.cell 0 rfl rfl kk26 rfl ⟨rfl, trivial⟩) hf_ hs_ ⟨Y10, rfl, hs_.pulls [2] rfl⟩

/-- loop.example/g00950/spec.SpaceOf -/
noncomputable def spec_SpaceOf (s : Space) (who : Int) : Option Int :=
  bindC (loopO (fun (S2 : Int × Int) => (if (decide (S2.2 < ((s.Owner.length : Nat) : Int))) = true then ((spec_SpaceOk s).bind fun R9 =>
  some R9)
  else (some false)).bind (fun (T6 : Bool) =>
  if T6 = true then ((idx s.Owner S2.2).bind fun E13 =>
  bindC (if (decide (E13 = who)) = true then (some (.go (IntKind.i64.wrap (S2.1 + (1 : Int)))))
  else (some (.go S2.1)))
  (fun (T15 : Int) => some (.go (T15, IntKind.i64.wrap (S2.2 + (1 : Int))))))
  else (some (.done (.go S2.1)))))
  ((0 : Int), (0 : Int)))
  (fun (T4 : Int) => some T4)

theorem spec_SpaceOf_con (s : Space) (who : Int) (V_s0 : Value) (r : Int) (hm : spec_SpaceOf s who = some r) :
    Con Try.prog 13 [.agg #[V_s0], .int .i64 who] [] [(V_s0, lc s.Owner)] (fun _ : Unit => .int .i64 r) (fun _ => []) := by
  refine Con.intro (args := [.agg #[V_s0], .int .i64 who]) (n := 28) (val := fun r (_ : Unit) => .int .i64 r) (post := fun _ _ => []) (m := spec_SpaceOf s who) Try.func13 rfl rfl rfl hm ?_
  intro w S hrd
  have HB_V_s0 := hrd _ (.head _)
  clear hrd
  unfold spec_SpaceOf
  refine TW.seq ?_
  refine TW.region ?_
  refine TO.ef (Ef.box rfl (Cel.agg ⟨(One.can (Base.can HB_V_s0)), trivial⟩)) rfl rfl rfl (fun B1 => ?_)
  refine TO.y (Y.assign rfl) rfl rfl rfl ?_
  refine TO.nil ?_
  refine TE.next ?_
  refine TW.seq ?_
  refine TW.region ?_
  refine TO.y (Y.assign rfl) rfl rfl rfl ?_
  refine TO.nil ?_
  refine TE.next ?_
  refine TW.seq ?_
  refine TW.seq ?_
  refine TW.region ?_
  refine TO.y (Y.assign rfl) rfl rfl rfl ?_
  refine TO.nil ?_
  refine TE.next ?_
  refine TW.joinX (τ := Int) (X := Unit) (fun T _ => [(5, .int .i64 T)]) (fun _ _ => []) ?_ (fun T4 X5 => ?_)
  · refine TW.block ?_
    refine TW.loopX (σ := Int × Int) (X := Unit) (fun T _ => [(1, .int .i64 who), (2, .pointer (some ⟨B1, 0, none⟩)), (5, .int .i64 T.1), (6, .int .i64 T.2)]) (fun _ _ => [.box B1 26 [V_s0]]) () [0] ⟨rfl, rfl, rfl, rfl, trivial⟩ rfl (fun S2 X3 => ?_)
    refine TW.seq ?_
    refine TW.seq ?_
    refine TW.joinBX (τ := Bool) (X := Unit) (fun T _ => [(1, .int .i64 who), (2, .pointer (some ⟨B1, 0, none⟩)), (5, .int .i64 S2.1), (6, .int .i64 S2.2), (15, .bool T)]) (fun _ _ => [.box B1 26 [V_s0]]) ?_ (fun T6 X7 => ?_)
    · refine TW.region ?_
      refine TO.y (Y.move rfl) rfl rfl rfl ?_
      refine TO.y (Y.field_box kf26_0 rfl rfl) rfl rfl rfl ?_
      refine TO.y (Y.load_box (v := V_s0) 0 kk24 rfl rfl rfl) rfl rfl rfl ?_
      refine TO.y (Y.len (l := s.Owner) ke24 (Base.can HB_V_s0) rfl) rfl rfl rfl ?_
      refine TO.y (Y.lss rfl rfl) rfl rfl rfl ?_
      refine TO.y (Y.move rfl) rfl rfl rfl ?_
      refine TO.ite (b := decide (S2.2 < ((s.Owner.length : Nat) : Int))) (fun H8 => ?_) (fun H8 => ?_)
      · refine TO.y (Y.load_box (v := .agg #[V_s0]) 0 kk26 rfl rfl rfl) (Gd.at 5 true 12 (decide (S2.2 < ((s.Owner.length : Nat) : Int))) rfl rfl rfl (beq_tt H8)) rfl rfl ?_
        refine TO.bind fun R9 H10 => ?_
        refine TO.ef (Ef.call (rest := [.box B1 26 [V_s0]]) [0] (spec_SpaceOk_con s V_s0 R9 H10) kc10 rfl rfl ⟨(Base.can HB_V_s0), trivial⟩) (Gd.at 5 true 12 (decide (S2.2 < ((s.Owner.length : Nat) : Int))) rfl rfl rfl (beq_tt H8)) rfl rfl (fun _ => ?_)
        refine TO.y (Y.pick_t H8 rfl rfl) rfl rfl rfl ?_
        refine TO.nil ?_
        exact TE.jb_go () [0] ⟨rfl, rfl, rfl, rfl, rfl, trivial⟩ rfl
      · refine TO.off (Gd.at 5 true 12 (decide (S2.2 < ((s.Owner.length : Nat) : Int))) rfl rfl rfl (beq_ft H8)) rfl rfl ?_
        refine TO.off (Gd.at 5 true 12 (decide (S2.2 < ((s.Owner.length : Nat) : Int))) rfl rfl rfl (beq_ft H8)) rfl rfl ?_
        refine TO.y (Y.pick_f H8 rfl rfl) rfl rfl rfl ?_
        refine TO.nil ?_
        exact TE.jb_go () [0] ⟨rfl, rfl, rfl, rfl, rfl, trivial⟩ rfl
    · refine TE.next ?_
      refine TW.cond rfl (fun H12 => ?_) (fun H12 => ?_)
      · refine TW.skip ?_
        refine TE.next ?_
        refine TW.seq ?_
        refine TW.block ?_
        refine TW.seq ?_
        refine TW.region ?_
        refine TO.y (Y.field_box kf26_0 rfl rfl) rfl rfl rfl ?_
        refine TO.y (Y.load_box (v := V_s0) 0 kk24 rfl rfl rfl) rfl rfl rfl ?_
        refine TO.y (Y.move rfl) rfl rfl rfl ?_
        refine TO.bind fun E13 H14 => ?_
        refine TO.y (Y.index ke24 (Base.can HB_V_s0) H14 rfl rfl) rfl rfl rfl ?_
        refine TO.y (Y.load_el (us := [.int .i64 E13]) (u := .int .i64 E13) kk3 rfl (Base.can HB_V_s0) (idx_get H14).2.2 rfl rfl rfl rfl rfl) rfl rfl rfl ?_
        refine TO.y (Y.move rfl) rfl rfl rfl ?_
        refine TO.y (Y.eql rfl rfl) rfl rfl rfl ?_
        refine TO.nil ?_
        refine TE.next ?_
        refine TW.joinX (τ := Int) (X := Unit) (fun T _ => [(1, .int .i64 who), (2, .pointer (some ⟨B1, 0, none⟩)), (5, .int .i64 T), (6, .int .i64 S2.2)]) (fun _ _ => [.box B1 26 [V_s0]]) ?_ (fun T15 X16 => ?_)
        · refine TW.cond rfl (fun H17 => ?_) (fun H17 => ?_)
          · refine TW.region ?_
            refine TO.y (Y.move rfl) rfl rfl rfl ?_
            refine TO.y (Y.add rfl rfl) rfl rfl rfl ?_
            refine TO.y (Y.assign rfl) rfl rfl rfl ?_
            refine TO.nil ?_
            exact TE.jn_go () [0] ⟨rfl, rfl, rfl, rfl, trivial⟩ rfl
          · refine TW.skip ?_
            exact TE.jn_go () [0] ⟨rfl, rfl, rfl, rfl, trivial⟩ rfl
        · refine TE.block_normal ?_
          refine TE.next ?_
          refine TW.region ?_
          refine TO.y (Y.move rfl) rfl rfl rfl ?_
          refine TO.y (Y.add rfl rfl) rfl rfl rfl ?_
          refine TO.y (Y.assign rfl) rfl rfl rfl ?_
          refine TO.nil ?_
          exact TE.lp_go () [0] ⟨rfl, rfl, rfl, rfl, trivial⟩ rfl
      · refine TW.exit ?_
        refine TE.then_exit ?_
        refine TE.lp_exit ?_
        refine TE.block_exit ?_
        exact TE.jn_go () [] ⟨rfl, trivial⟩ rfl
  · refine TE.next ?_
    refine TW.seq ?_
    refine TW.region ?_
    refine TO.y (Y.move rfl) rfl rfl rfl ?_
    refine TO.y (Y.assign rfl) rfl rfl rfl ?_
    refine TO.nil ?_
    refine TE.next ?_
    refine TW.ret ?_
    exact TE.leaf fun _ _ hf_ hs_ => ret_any (rs := [.tmp 4]) (vs := [.int .i64 T4]) (.inl rfl) rfl ⟨rfl, trivial⟩ hf_ hs_ ⟨(), rfl, hs_.pulls [] rfl⟩

end Go.Proofs.Ytammomfkamhhdaa
