/-
  The functions that a law reaches, each as a pure function, with the proof that the program computes it, and the step from a pure law to the given statement. Conditions: none.
-/
import Derived.Test.YtahennbogdbnmaaSw
import Derived.Test.YtahennbogdbnmaaRows
set_option linter.unusedVariables false
set_option maxRecDepth 100000
set_option maxHeartbeats 4000000
namespace Go.Proofs.Ytahennbogdbnmaa
open Go Sl

structure L1Cur where
  b : List UInt8
  i : Int
  h : Int
  deriving DecidableEq
instance : Enc L1Cur := ⟨3, fun x => [lc x.b, .int .i64 x.i, .int .i64 x.h], fun _ => rfl, by decide⟩
instance : Dec L1Cur where
  sh := [.sl 1 (Dec.sh UInt8), .int .i64, .int .i64]
  ok x := okl x.b ∧ okI x.i ∧ okI x.h
  dec cs h := by
    obtain ⟨c0, r0, rfl, h0, h⟩ := h.cons_inv
    obtain ⟨c1, r1, rfl, h1, h⟩ := h.cons_inv
    obtain ⟨c2, r2, rfl, h2, h⟩ := h.cons_inv
    obtain rfl := h.nil_inv
    obtain ⟨y0, rfl, w0⟩ := h0.sl_inv (α := UInt8) rfl
    obtain ⟨y1, rfl, w1_⟩ := h1.int_inv
    have w1 := okI_of w1_
    obtain ⟨y2, rfl, w2_⟩ := h2.int_inv
    have w2 := okI_of w2_
    exact ⟨{ b := y0, i := y1, h := y2 : L1Cur }, rfl, w0, w1, w2⟩
structure Share where
  Tenant : Int
  Quota : Int
  deriving DecidableEq
instance : Enc Share := ⟨2, fun x => [.int .i64 x.Tenant, .int .i64 x.Quota], fun _ => rfl, by decide⟩
instance : Dec Share where
  sh := [.int .i64, .int .i64]
  ok x := okI x.Tenant ∧ okI x.Quota
  dec cs h := by
    obtain ⟨c0, r0, rfl, h0, h⟩ := h.cons_inv
    obtain ⟨c1, r1, rfl, h1, h⟩ := h.cons_inv
    obtain rfl := h.nil_inv
    obtain ⟨y0, rfl, w0_⟩ := h0.int_inv
    have w0 := okI_of w0_
    obtain ⟨y1, rfl, w1_⟩ := h1.int_inv
    have w1 := okI_of w1_
    exact ⟨{ Tenant := y0, Quota := y1 : Share }, rfl, w0, w1⟩
instance : Flat Share := { vals := fun x => [.int .i64 x.Tenant, .int .i64 x.Quota], flat := fun _ => rfl }
structure Shares where
  Size : Int
  List : _root_.List Share
  deriving DecidableEq
instance : Enc Shares := ⟨2, fun x => [.int .i64 x.Size, lc x.List], fun _ => rfl, by decide⟩
instance : Dec Shares where
  sh := [.int .i64, .sl 2 (Dec.sh Share)]
  ok x := okI x.Size ∧ okl x.List
  dec cs h := by
    obtain ⟨c0, r0, rfl, h0, h⟩ := h.cons_inv
    obtain ⟨c1, r1, rfl, h1, h⟩ := h.cons_inv
    obtain rfl := h.nil_inv
    obtain ⟨y0, rfl, w0_⟩ := h0.int_inv
    have w0 := okI_of w0_
    obtain ⟨y1, rfl, w1⟩ := h1.sl_inv (α := Share) rfl
    exact ⟨{ Size := y0, List := y1 : Shares }, rfl, w0, w1⟩

theorem hMix : Try.prog.follows .mixedOrders = true := by kernel_rfl
theorem ke22 : elemB Try.prog 22 = some (5, 1, 1) := by kernel_rfl
theorem kk5 : kindB Try.prog 5 = some (false, 1) := by kernel_rfl
theorem ki5 : intB Try.prog 5 = some .u8 := by kernel_rfl
theorem ki3 : intB Try.prog 3 = some .i64 := by kernel_rfl
theorem kz94 : zeroB Try.prog 94 = some (.agg #[.slice none 0 0, .int .i64 (0 : Int), .int .i64 (0 : Int)]) := by kernel_rfl
theorem kp94 : placesB Try.prog 94 = some [(0, 1), (1, 1), (2, 1)] := by kernel_rfl
theorem kf94_2 : fieldB Try.prog 94 2 = some 2 := by kernel_rfl
theorem kk3 : kindB Try.prog 3 = some (false, 1) := by kernel_rfl
theorem kf94_1 : fieldB Try.prog 94 1 = some 1 := by kernel_rfl
theorem kf94_0 : fieldB Try.prog 94 0 = some 0 := by kernel_rfl
theorem kk22 : kindB Try.prog 22 = some (false, 1) := by kernel_rfl
theorem kc85 : callB Try.prog 85 = true := by kernel_rfl
theorem ke41 : elemB Try.prog 41 = some (3, 1, 8) := by kernel_rfl
theorem kc64 : callB Try.prog 64 = true := by kernel_rfl
theorem kc60 : callB Try.prog 60 = true := by kernel_rfl
theorem kf51_1 : fieldB Try.prog 51 1 = some 1 := by kernel_rfl
theorem kk49 : kindB Try.prog 49 = some (false, 1) := by kernel_rfl
theorem ke49 : elemB Try.prog 49 = some (59, 2, 16) := by kernel_rfl
theorem kf59_1 : fieldB Try.prog 59 1 = some 1 := by kernel_rfl
theorem kc27 : callB Try.prog 27 = true := by kernel_rfl
theorem kf51_0 : fieldB Try.prog 51 0 = some 0 := by kernel_rfl
theorem kk59 : kindB Try.prog 59 = some (true, 2) := by kernel_rfl
theorem kz59 : zeroB Try.prog 59 = some (.agg #[.int .i64 (0 : Int), .int .i64 (0 : Int)]) := by kernel_rfl
theorem kf59_0 : fieldB Try.prog 59 0 = some 0 := by kernel_rfl
theorem kk51 : kindB Try.prog 51 = some (true, 2) := by kernel_rfl
theorem kc61 : callB Try.prog 61 = true := by kernel_rfl
theorem kz51 : zeroB Try.prog 51 = some (.agg #[.int .i64 (0 : Int), .slice none 0 0]) := by kernel_rfl
theorem kp51 : placesB Try.prog 51 = some [(0, 1), (1, 1)] := by kernel_rfl
theorem kc25 : callB Try.prog 25 = true := by kernel_rfl
theorem kp59 : placesB Try.prog 59 = some [(0, 1), (1, 1)] := by kernel_rfl
theorem kc59 : callB Try.prog 59 = true := by kernel_rfl
theorem kz3 : zeroB Try.prog 3 = some (.int .i64 (0 : Int)) := by kernel_rfl
theorem kc54 : callB Try.prog 54 = true := by kernel_rfl
theorem kc24 : callB Try.prog 24 = true := by kernel_rfl
theorem kc46 : callB Try.prog 46 = true := by kernel_rfl
theorem kc32 : callB Try.prog 32 = true := by kernel_rfl
theorem kc53 : callB Try.prog 53 = true := by kernel_rfl
theorem kc63 : callB Try.prog 63 = true := by kernel_rfl
theorem kc28 : callB Try.prog 28 = true := by kernel_rfl
theorem kc81 : callB Try.prog 81 = true := by kernel_rfl
theorem kc62 : callB Try.prog 62 = true := by kernel_rfl
theorem kc82 : callB Try.prog 82 = true := by kernel_rfl
theorem kc55 : callB Try.prog 55 = true := by kernel_rfl
theorem kc56 : callB Try.prog 56 = true := by kernel_rfl
theorem kc57 : callB Try.prog 57 = true := by kernel_rfl
theorem kc58 : callB Try.prog 58 = true := by kernel_rfl
theorem kc65 : callB Try.prog 65 = true := by kernel_rfl
theorem kc6 : callB Try.prog 6 = true := by kernel_rfl
theorem kc22 : callB Try.prog 22 = true := by kernel_rfl
theorem kc23 : callB Try.prog 23 = true := by kernel_rfl
theorem kb4 : Try.prog.underlying 4 = some .bool := by kernel_rfl
theorem kc26 : callB Try.prog 26 = true := by kernel_rfl
theorem keq59 : eqTB Try.prog 59 = some [0, 0] := by kernel_rfl
theorem kc29 : callB Try.prog 29 = true := by kernel_rfl
theorem kc30 : callB Try.prog 30 = true := by kernel_rfl
theorem kc31 : callB Try.prog 31 = true := by kernel_rfl
theorem hu22 : Try.prog.underlying 22 = some (.slice 5) := by kernel_rfl
theorem hs22 : shB Try.prog 20 22 = some ([.sl 1 (Dec.sh UInt8)]) := by kernel_rfl

/-- loop.example/g00950/laws.big -/
noncomputable def laws_big (code : List UInt8) : Option Bool :=
  some (decide (((code.length : Nat) : Int) > (1048576 : Int)))

theorem laws_big_con (code : List UInt8) (V_code0 : Value) (r : Bool) (hm : laws_big code = some r) :
    Con Try.prog 6 [V_code0] [] [(V_code0, lc code)] (fun _ : Unit => .bool r) (fun _ => []) := by
  refine Con.intro (args := [V_code0]) (n := 6) (val := fun r (_ : Unit) => .bool r) (post := fun _ _ => []) (m := laws_big code) Try.func6 rfl rfl rfl hm ?_
  intro w S hrd
  have HB_V_code0 := hrd _ (.head _)
  clear hrd
  unfold laws_big
  refine TW.seq ?_
  refine TW.region ?_
  refine TO.y (Y.assign rfl) rfl rfl rfl ?_
  refine TO.nil ?_
  refine TE.next ?_
  refine TW.seq ?_
  refine TW.region ?_
  refine TO.y (Y.move rfl) rfl rfl rfl ?_
  refine TO.y (Y.len (l := code) ke22 (Base.can HB_V_code0) rfl) rfl rfl rfl ?_
  refine TO.y (Y.gtr rfl rfl) rfl rfl rfl ?_
  refine TO.y (Y.assign rfl) rfl rfl rfl ?_
  refine TO.nil ?_
  refine TE.next ?_
  refine TW.ret ?_
  exact TE.leaf fun _ _ hf_ hs_ => ret_any (rs := [.tmp 2]) (vs := [.bool (decide (((code.length : Nat) : Int) > (1048576 : Int)))]) (.inl rfl) rfl ⟨rfl, trivial⟩ hf_ hs_ ⟨(), rfl, hs_.pulls [] rfl⟩

/-- loop.example/g00950/spec.l1New -/
noncomputable def spec_l1New (code : List UInt8) : Option L1Cur :=
  bindC (loopO (fun (S1 : Int × Int) => (if (decide (S1.2 < ((code.length : Nat) : Int))) = true then (some (decide (S1.2 < (4000 : Int))))
  else (some false)).bind (fun (T5 : Bool) =>
  if T5 = true then ((idx code S1.2).bind fun E9 =>
  some (.go (iand .i64 (IntKind.i64.wrap (IntKind.i64.wrap (IntKind.i64.wrap (S1.1 * (131 : Int)) + (IntKind.i64.wrap ((E9.toNat : Nat) : Int))) + (7 : Int))) (1073741823 : Int), IntKind.i64.wrap (S1.2 + (1 : Int)))))
  else (some (.done (.go S1.1)))))
  (IntKind.i64.wrap ((10101 : Int) + ((code.length : Nat) : Int)), (0 : Int)))
  (fun (T3 : Int) => some ({ b := code, i := (0 : Int), h := T3 : L1Cur }))

theorem spec_l1New_con (code : List UInt8) (V_code0 : Value) (r : L1Cur) (hm : spec_l1New code = some r) :
    Con Try.prog 32 [V_code0] [] [(V_code0, lc code)] (fun X : Nat => .pointer (some ⟨X, 0, none⟩)) (fun X => [.box X 94 [V_code0, .int .i64 r.i, .int .i64 r.h]]) := by
  refine Con.intro (args := [V_code0]) (n := 32) (val := fun _ (X : Nat) => .pointer (some ⟨X, 0, none⟩)) (post := fun r X => [.box X 94 [V_code0, .int .i64 r.i, .int .i64 r.h]]) (m := spec_l1New code) Try.func32 rfl rfl rfl hm ?_
  intro w S hrd
  have HB_V_code0 := hrd _ (.head _)
  clear hrd
  unfold spec_l1New
  refine TW.seq ?_
  refine TW.region ?_
  refine TO.y (Y.assign rfl) rfl rfl rfl ?_
  refine TO.nil ?_
  refine TE.next ?_
  refine TW.seq ?_
  refine TW.region ?_
  refine TO.y (Y.move rfl) rfl rfl rfl ?_
  refine TO.y (Y.len (l := code) ke22 (Base.can HB_V_code0) rfl) rfl rfl rfl ?_
  refine TO.y (Y.add rfl rfl) rfl rfl rfl ?_
  refine TO.y (Y.assign rfl) rfl rfl rfl ?_
  refine TO.nil ?_
  refine TE.next ?_
  refine TW.seq ?_
  refine TW.seq ?_
  refine TW.region ?_
  refine TO.y (Y.assign rfl) rfl rfl rfl ?_
  refine TO.nil ?_
  refine TE.next ?_
  refine TW.joinX (τ := Int) (X := Unit) (fun T _ => [(0, V_code0), (3, .int .i64 T)]) (fun _ _ => []) ?_ (fun T3 X4 => ?_)
  · refine TW.block ?_
    refine TW.loopX (σ := Int × Int) (X := Unit) (fun T _ => [(0, V_code0), (3, .int .i64 T.1), (4, .int .i64 T.2)]) (fun _ _ => []) () [] ⟨rfl, rfl, rfl, trivial⟩ rfl (fun S1 X2 => ?_)
    refine TW.seq ?_
    refine TW.seq ?_
    refine TW.joinBX (τ := Bool) (X := Unit) (fun T _ => [(0, V_code0), (3, .int .i64 S1.1), (4, .int .i64 S1.2), (15, .bool T)]) (fun _ _ => []) ?_ (fun T5 X6 => ?_)
    · refine TW.region ?_
      refine TO.y (Y.move rfl) rfl rfl rfl ?_
      refine TO.y (Y.move rfl) rfl rfl rfl ?_
      refine TO.y (Y.len (l := code) ke22 (Base.can HB_V_code0) rfl) rfl rfl rfl ?_
      refine TO.y (Y.lss rfl rfl) rfl rfl rfl ?_
      refine TO.y (Y.move rfl) rfl rfl rfl ?_
      refine TO.ite (b := decide (S1.2 < ((code.length : Nat) : Int))) (fun H7 => ?_) (fun H7 => ?_)
      · refine TO.y (Y.move rfl) (Gd.at 4 true 12 (decide (S1.2 < ((code.length : Nat) : Int))) rfl rfl rfl (beq_tt H7)) rfl rfl ?_
        refine TO.y (Y.lss rfl rfl) (Gd.at 4 true 12 (decide (S1.2 < ((code.length : Nat) : Int))) rfl rfl rfl (beq_tt H7)) rfl rfl ?_
        refine TO.y (Y.pick_t H7 rfl rfl) rfl rfl rfl ?_
        refine TO.nil ?_
        exact TE.jb_go () [] ⟨rfl, rfl, rfl, rfl, trivial⟩ rfl
      · refine TO.off (Gd.at 4 true 12 (decide (S1.2 < ((code.length : Nat) : Int))) rfl rfl rfl (beq_ft H7)) rfl rfl ?_
        refine TO.off (Gd.at 4 true 12 (decide (S1.2 < ((code.length : Nat) : Int))) rfl rfl rfl (beq_ft H7)) rfl rfl ?_
        refine TO.y (Y.pick_f H7 rfl rfl) rfl rfl rfl ?_
        refine TO.nil ?_
        exact TE.jb_go () [] ⟨rfl, rfl, rfl, rfl, trivial⟩ rfl
    · refine TE.next ?_
      refine TW.cond rfl (fun H8 => ?_) (fun H8 => ?_)
      · refine TW.skip ?_
        refine TE.next ?_
        refine TW.seq ?_
        refine TW.block ?_
        refine TW.region ?_
        refine TO.y (Y.move rfl) rfl rfl rfl ?_
        refine TO.y (Y.mul rfl rfl) rfl rfl rfl ?_
        refine TO.y (Y.move rfl) rfl rfl rfl ?_
        refine TO.y (Y.move rfl) rfl rfl rfl ?_
        refine TO.bind fun E9 H10 => ?_
        refine TO.y (Y.index ke22 (Base.can HB_V_code0) H10 rfl rfl) rfl rfl rfl ?_
        refine TO.y (Y.load_el (us := [.int .u8 ((E9.toNat : Nat) : Int)]) (u := .int .u8 ((E9.toNat : Nat) : Int)) kk5 rfl (Base.can HB_V_code0) (idx_get H10).2.2 rfl rfl rfl rfl rfl) rfl rfl rfl ?_
        refine TO.y (Y.conv ki5 ki3 rfl) rfl rfl rfl ?_
        refine TO.y (Y.add rfl rfl) rfl rfl rfl ?_
        refine TO.y (Y.add rfl rfl) rfl rfl rfl ?_
        refine TO.y (Y.and rfl rfl) rfl rfl rfl ?_
        refine TO.y (Y.assign rfl) rfl rfl rfl ?_
        refine TO.nil ?_
        refine TE.block_normal ?_
        refine TE.next ?_
        refine TW.region ?_
        refine TO.y (Y.move rfl) rfl rfl rfl ?_
        refine TO.y (Y.add rfl rfl) rfl rfl rfl ?_
        refine TO.y (Y.assign rfl) rfl rfl rfl ?_
        refine TO.nil ?_
        exact TE.lp_go () [] ⟨rfl, rfl, rfl, trivial⟩ rfl
      · refine TW.exit ?_
        refine TE.then_exit ?_
        refine TE.lp_exit ?_
        refine TE.block_exit ?_
        exact TE.jn_go () [] ⟨rfl, rfl, trivial⟩ rfl
  · refine TE.next ?_
    refine TW.seq ?_
    refine TW.region ?_
    refine TO.y (Y.move rfl) rfl rfl rfl ?_
    refine TO.y (Y.move rfl) rfl rfl rfl ?_
    refine TO.y (Y.build (cells := [V_code0, .int .i64 (0 : Int), .int .i64 T3]) [(0, [V_code0]), (2, [.int .i64 T3])] kp94 kz94 ⟨rfl, ⟨_, rfl, (Cel.one (One.can (Base.can HB_V_code0)))⟩, ⟨rfl, ⟨_, rfl, (Cel.plain rfl rfl)⟩, trivial⟩⟩ rfl) rfl rfl rfl ?_
    refine TO.ef (Ef.box rfl (Cel.agg ⟨(One.can (Base.can HB_V_code0)), (One.plain rfl), (One.plain rfl), trivial⟩)) rfl rfl rfl (fun B11 => ?_)
    refine TO.y (Y.assign rfl) rfl rfl rfl ?_
    refine TO.nil ?_
    refine TE.next ?_
    refine TW.ret ?_
    exact TE.leaf fun _ _ hf_ hs_ => ret_any (rs := [.tmp 2]) (vs := [.pointer (some ⟨B11, 0, none⟩)]) (.inl rfl) rfl ⟨rfl, trivial⟩ hf_ hs_ ⟨B11, rfl, hs_.pulls [0] rfl⟩

/-- loop.example/g00950/spec.l1Byte -/
noncomputable def spec_l1Byte (c : L1Cur) : Option (Int × L1Cur) :=
  bindC (if (decide (c.i < ((c.b.length : Nat) : Int))) = true then ((idx c.b c.i).bind fun E4 =>
  some (.go (iand .i64 (IntKind.i64.wrap (iand .i64 (ixor .i64 (ishr .i64 (IntKind.i64.wrap (IntKind.i64.wrap (c.h * (6364136223846793005 : Int)) + (1442695040888963407 : Int))) (33 : Int)) (ishr .i64 (IntKind.i64.wrap (IntKind.i64.wrap (c.h * (6364136223846793005 : Int)) + (1442695040888963407 : Int))) (45 : Int))) (255 : Int) + (IntKind.i64.wrap ((E4.toNat : Nat) : Int)))) (255 : Int), IntKind.i64.wrap (c.i + (1 : Int)))))
  else (some (.go (iand .i64 (ixor .i64 (ishr .i64 (IntKind.i64.wrap (IntKind.i64.wrap (c.h * (6364136223846793005 : Int)) + (1442695040888963407 : Int))) (33 : Int)) (ishr .i64 (IntKind.i64.wrap (IntKind.i64.wrap (c.h * (6364136223846793005 : Int)) + (1442695040888963407 : Int))) (45 : Int))) (255 : Int), c.i))))
  (fun (T1 : Int × Int) => some (T1.1, { b := c.b, i := T1.2, h := IntKind.i64.wrap (IntKind.i64.wrap (c.h * (6364136223846793005 : Int)) + (1442695040888963407 : Int)) : L1Cur }))

theorem spec_l1Byte_con (c : L1Cur) (V_c0 : Value) (B_c : Nat) (r : Int × L1Cur) (hm : spec_l1Byte c = some r) :
    Con Try.prog 85 [.pointer (some ⟨B_c, 0, none⟩)] [.box B_c 94 [V_c0, .int .i64 c.i, .int .i64 c.h]] [(V_c0, lc c.b)] (fun _ : Unit => .int .i64 r.1) (fun _ => [.box B_c 94 [V_c0, .int .i64 r.2.i, .int .i64 r.2.h]]) := by
  refine Con.intro (args := [.pointer (some ⟨B_c, 0, none⟩)]) (n := 58) (val := fun r (_ : Unit) => .int .i64 r.1) (post := fun r _ => [.box B_c 94 [V_c0, .int .i64 r.2.i, .int .i64 r.2.h]]) (m := spec_l1Byte c) Try.func85 rfl rfl rfl hm ?_
  intro w S hrd
  have HB_V_c0 := hrd _ (.head _)
  clear hrd
  unfold spec_l1Byte
  refine TW.seq ?_
  refine TW.region ?_
  refine TO.y (Y.assign rfl) rfl rfl rfl ?_
  refine TO.nil ?_
  refine TE.next ?_
  refine TW.seq ?_
  refine TW.region ?_
  refine TO.y (Y.move rfl) rfl rfl rfl ?_
  refine TO.y (Y.move rfl) rfl rfl rfl ?_
  refine TO.y (Y.nilCheck rfl) rfl rfl rfl ?_
  refine TO.y (Y.field_box kf94_2 rfl rfl) rfl rfl rfl ?_
  refine TO.y (Y.load_box (v := .int .i64 c.h) 0 kk3 rfl rfl rfl) rfl rfl rfl ?_
  refine TO.y (Y.mul rfl rfl) rfl rfl rfl ?_
  refine TO.y (Y.add rfl rfl) rfl rfl rfl ?_
  refine TO.y (Y.nilCheck rfl) rfl rfl rfl ?_
  refine TO.y (Y.field_box kf94_2 rfl rfl) rfl rfl rfl ?_
  refine TO.ef0 (Ef.store_box (us := [.int .i64 (IntKind.i64.wrap (IntKind.i64.wrap (c.h * (6364136223846793005 : Int)) + (1442695040888963407 : Int)))]) (vs' := [V_c0, .int .i64 c.i, .int .i64 (IntKind.i64.wrap (IntKind.i64.wrap (c.h * (6364136223846793005 : Int)) + (1442695040888963407 : Int)))]) (is' := [.box B_c 94 [V_c0, .int .i64 c.i, .int .i64 (IntKind.i64.wrap (IntKind.i64.wrap (c.h * (6364136223846793005 : Int)) + (1442695040888963407 : Int)))]]) 0 kk3 rfl rfl rfl (Cel.plain rfl rfl) rfl rfl rfl rfl) rfl rfl (fun _ => ?_)
  refine TO.nil ?_
  refine TE.next ?_
  refine TW.seq ?_
  refine TW.draw (isH := [.box B_c 94 [V_c0, .int .i64 c.i, .int .i64 (IntKind.i64.wrap (IntKind.i64.wrap (c.h * (6364136223846793005 : Int)) + (1442695040888963407 : Int)))]]) hMix ?_
  refine TA.y (listed' := #[true, false, false, false, false, false, false, false, false, false, false, false, false]) 0 [0] rfl (Y.move rfl) rfl rfl rfl (by kernel_rfl) (by kernel_rfl) (by kernel_rfl) rfl rfl ?_
  refine TA.y (listed' := #[true, true, false, false, false, false, false, false, false, false, false, false, false]) 1 [0] rfl (Y.nilCheck rfl) rfl rfl rfl (by kernel_rfl) (by kernel_rfl) (by kernel_rfl) rfl rfl ?_
  refine TA.y (listed' := #[true, true, true, false, false, false, false, false, false, false, false, false, false]) 2 [0] rfl (Y.field_box kf94_2 rfl rfl) rfl rfl rfl (by kernel_rfl) (by kernel_rfl) (by kernel_rfl) rfl rfl ?_
  refine TA.y (listed' := #[true, true, true, true, false, false, false, false, false, false, false, false, false]) 3 [0] rfl (Y.load_box (v := .int .i64 (IntKind.i64.wrap (IntKind.i64.wrap (c.h * (6364136223846793005 : Int)) + (1442695040888963407 : Int)))) 0 kk3 rfl rfl rfl) rfl rfl rfl (by kernel_rfl) (by kernel_rfl) (by kernel_rfl) rfl rfl ?_
  refine TA.y (listed' := #[true, true, true, true, true, false, false, false, false, false, false, false, false]) 4 [0] rfl (Y.shr (by decide) rfl rfl) rfl rfl rfl (by kernel_rfl) (by kernel_rfl) (by kernel_rfl) rfl rfl ?_
  refine TA.y (listed' := #[true, true, true, true, true, true, false, false, false, false, false, false, false]) 5 [0] rfl (Y.move rfl) rfl rfl rfl (by kernel_rfl) (by kernel_rfl) (by kernel_rfl) rfl rfl ?_
  refine TA.y (listed' := #[true, true, true, true, true, true, true, false, false, false, false, false, false]) 6 [0] rfl (Y.nilCheck rfl) rfl rfl rfl (by kernel_rfl) (by kernel_rfl) (by kernel_rfl) rfl rfl ?_
  refine TA.y (listed' := #[true, true, true, true, true, true, true, true, false, false, false, false, false]) 7 [0] rfl (Y.field_box kf94_2 rfl rfl) rfl rfl rfl (by kernel_rfl) (by kernel_rfl) (by kernel_rfl) rfl rfl ?_
  refine TA.y (listed' := #[true, true, true, true, true, true, true, true, true, false, false, false, false]) 8 [0] rfl (Y.load_box (v := .int .i64 (IntKind.i64.wrap (IntKind.i64.wrap (c.h * (6364136223846793005 : Int)) + (1442695040888963407 : Int)))) 0 kk3 rfl rfl rfl) rfl rfl rfl (by kernel_rfl) (by kernel_rfl) (by kernel_rfl) rfl rfl ?_
  refine TA.y (listed' := #[true, true, true, true, true, true, true, true, true, true, false, false, false]) 9 [0] rfl (Y.shr (by decide) rfl rfl) rfl rfl rfl (by kernel_rfl) (by kernel_rfl) (by kernel_rfl) rfl rfl ?_
  refine TA.y (listed' := #[true, true, true, true, true, true, true, true, true, true, true, false, false]) 10 [0] rfl (Y.xor rfl rfl) rfl rfl rfl (by kernel_rfl) (by kernel_rfl) (by kernel_rfl) rfl rfl ?_
  refine TA.y (listed' := #[true, true, true, true, true, true, true, true, true, true, true, true, false]) 11 [0] rfl (Y.and rfl rfl) rfl rfl rfl (by kernel_rfl) (by kernel_rfl) (by kernel_rfl) rfl rfl ?_
  refine TA.y (listed' := #[true, true, true, true, true, true, true, true, true, true, true, true, true]) 12 [0] rfl (Y.assign rfl) rfl rfl rfl (by kernel_rfl) (by kernel_rfl) (by kernel_rfl) rfl rfl ?_
  refine TA.nil (by kernel_rfl) ?_
  refine TE.next ?_
  refine TW.seq ?_
  refine TW.seq ?_
  refine TW.draw (isH := [.box B_c 94 [V_c0, .int .i64 c.i, .int .i64 (IntKind.i64.wrap (IntKind.i64.wrap (c.h * (6364136223846793005 : Int)) + (1442695040888963407 : Int)))]]) hMix ?_
  refine TA.y (listed' := #[true, false, false, false, false, false, false, false, false, false]) 0 [0] rfl (Y.move rfl) rfl rfl rfl (by kernel_rfl) (by kernel_rfl) (by kernel_rfl) rfl rfl ?_
  refine TA.y (listed' := #[true, true, false, false, false, false, false, false, false, false]) 1 [0] rfl (Y.nilCheck rfl) rfl rfl rfl (by kernel_rfl) (by kernel_rfl) (by kernel_rfl) rfl rfl ?_
  refine TA.y (listed' := #[true, true, true, false, false, false, false, false, false, false]) 2 [0] rfl (Y.field_box kf94_1 rfl rfl) rfl rfl rfl (by kernel_rfl) (by kernel_rfl) (by kernel_rfl) rfl rfl ?_
  refine TA.y (listed' := #[true, true, true, true, false, false, false, false, false, false]) 3 [0] rfl (Y.load_box (v := .int .i64 c.i) 0 kk3 rfl rfl rfl) rfl rfl rfl (by kernel_rfl) (by kernel_rfl) (by kernel_rfl) rfl rfl ?_
  refine TA.y (listed' := #[true, true, true, true, true, false, false, false, false, false]) 4 [0] rfl (Y.move rfl) rfl rfl rfl (by kernel_rfl) (by kernel_rfl) (by kernel_rfl) rfl rfl ?_
  refine TA.y (listed' := #[true, true, true, true, true, true, false, false, false, false]) 5 [0] rfl (Y.nilCheck rfl) rfl rfl rfl (by kernel_rfl) (by kernel_rfl) (by kernel_rfl) rfl rfl ?_
  refine TA.y (listed' := #[true, true, true, true, true, true, true, false, false, false]) 6 [0] rfl (Y.field_box kf94_0 rfl rfl) rfl rfl rfl (by kernel_rfl) (by kernel_rfl) (by kernel_rfl) rfl rfl ?_
  refine TA.y (listed' := #[true, true, true, true, true, true, true, true, false, false]) 7 [0] rfl (Y.load_box (v := V_c0) 0 kk22 rfl rfl rfl) rfl rfl rfl (by kernel_rfl) (by kernel_rfl) (by kernel_rfl) rfl rfl ?_
  refine TA.y (listed' := #[true, true, true, true, true, true, true, true, true, false]) 8 [0] rfl (Y.len (l := c.b) ke22 (Base.can HB_V_c0) rfl) rfl rfl rfl (by kernel_rfl) (by kernel_rfl) (by kernel_rfl) rfl rfl ?_
  refine TA.y (listed' := #[true, true, true, true, true, true, true, true, true, true]) 9 [0] rfl (Y.lss rfl rfl) rfl rfl rfl (by kernel_rfl) (by kernel_rfl) (by kernel_rfl) rfl rfl ?_
  refine TA.nil (by kernel_rfl) ?_
  refine TE.next ?_
  refine TW.joinX (τ := Int × Int) (X := Unit) (fun T _ => [(3, .int .i64 T.1)]) (fun T _ => [.box B_c 94 [V_c0, .int .i64 T.2, .int .i64 (IntKind.i64.wrap (IntKind.i64.wrap (c.h * (6364136223846793005 : Int)) + (1442695040888963407 : Int)))]]) ?_ (fun T1 X2 => ?_)
  · refine TW.cond rfl (fun H3 => ?_) (fun H3 => ?_)
    · refine TW.seq ?_
      refine TW.draw (isH := [.box B_c 94 [V_c0, .int .i64 c.i, .int .i64 (IntKind.i64.wrap (IntKind.i64.wrap (c.h * (6364136223846793005 : Int)) + (1442695040888963407 : Int)))]]) hMix ?_
      refine TA.y (listed' := #[true, false, false, false, false, false, false, false, false, false, false, false, false, false, false]) 0 [0] rfl (Y.move rfl) rfl rfl rfl (by kernel_rfl) (by kernel_rfl) (by kernel_rfl) rfl rfl ?_
      refine TA.y (listed' := #[true, true, false, false, false, false, false, false, false, false, false, false, false, false, false]) 1 [0] rfl (Y.move rfl) rfl rfl rfl (by kernel_rfl) (by kernel_rfl) (by kernel_rfl) rfl rfl ?_
      refine TA.y (listed' := #[true, true, true, false, false, false, false, false, false, false, false, false, false, false, false]) 2 [0] rfl (Y.nilCheck rfl) rfl rfl rfl (by kernel_rfl) (by kernel_rfl) (by kernel_rfl) rfl rfl ?_
      refine TA.y (listed' := #[true, true, true, true, false, false, false, false, false, false, false, false, false, false, false]) 3 [0] rfl (Y.field_box kf94_0 rfl rfl) rfl rfl rfl (by kernel_rfl) (by kernel_rfl) (by kernel_rfl) rfl rfl ?_
      refine TA.y (listed' := #[true, true, true, true, true, false, false, false, false, false, false, false, false, false, false]) 4 [0] rfl (Y.load_box (v := V_c0) 0 kk22 rfl rfl rfl) rfl rfl rfl (by kernel_rfl) (by kernel_rfl) (by kernel_rfl) rfl rfl ?_
      refine TA.y (listed' := #[true, true, true, true, true, true, false, false, false, false, false, false, false, false, false]) 5 [0] rfl (Y.move rfl) rfl rfl rfl (by kernel_rfl) (by kernel_rfl) (by kernel_rfl) rfl rfl ?_
      refine TA.y (listed' := #[true, true, true, true, true, true, true, false, false, false, false, false, false, false, false]) 6 [0] rfl (Y.nilCheck rfl) rfl rfl rfl (by kernel_rfl) (by kernel_rfl) (by kernel_rfl) rfl rfl ?_
      refine TA.y (listed' := #[true, true, true, true, true, true, true, true, false, false, false, false, false, false, false]) 7 [0] rfl (Y.field_box kf94_1 rfl rfl) rfl rfl rfl (by kernel_rfl) (by kernel_rfl) (by kernel_rfl) rfl rfl ?_
      refine TA.y (listed' := #[true, true, true, true, true, true, true, true, true, false, false, false, false, false, false]) 8 [0] rfl (Y.load_box (v := .int .i64 c.i) 0 kk3 rfl rfl rfl) rfl rfl rfl (by kernel_rfl) (by kernel_rfl) (by kernel_rfl) rfl rfl ?_
      refine TA.bind fun E4 H5 => ?_
      refine TA.y (listed' := #[true, true, true, true, true, true, true, true, true, true, false, false, false, false, false]) 9 [0] rfl (Y.index ke22 (Base.can HB_V_c0) H5 rfl rfl) rfl rfl rfl (by kernel_rfl) (by kernel_rfl) (by kernel_rfl) rfl rfl ?_
      refine TA.y (listed' := #[true, true, true, true, true, true, true, true, true, true, true, false, false, false, false]) 10 [0] rfl (Y.load_el (us := [.int .u8 ((E4.toNat : Nat) : Int)]) (u := .int .u8 ((E4.toNat : Nat) : Int)) kk5 rfl (Base.can HB_V_c0) (idx_get H5).2.2 rfl rfl rfl rfl rfl) rfl rfl rfl (by kernel_rfl) (by kernel_rfl) (by kernel_rfl) rfl rfl ?_
      refine TA.y (listed' := #[true, true, true, true, true, true, true, true, true, true, true, true, false, false, false]) 11 [0] rfl (Y.conv ki5 ki3 rfl) rfl rfl rfl (by kernel_rfl) (by kernel_rfl) (by kernel_rfl) rfl rfl ?_
      refine TA.y (listed' := #[true, true, true, true, true, true, true, true, true, true, true, true, true, false, false]) 12 [0] rfl (Y.add rfl rfl) rfl rfl rfl (by kernel_rfl) (by kernel_rfl) (by kernel_rfl) rfl rfl ?_
      refine TA.y (listed' := #[true, true, true, true, true, true, true, true, true, true, true, true, true, true, false]) 13 [0] rfl (Y.and rfl rfl) rfl rfl rfl (by kernel_rfl) (by kernel_rfl) (by kernel_rfl) rfl rfl ?_
      refine TA.y (listed' := #[true, true, true, true, true, true, true, true, true, true, true, true, true, true, true]) 14 [0] rfl (Y.assign rfl) rfl rfl rfl (by kernel_rfl) (by kernel_rfl) (by kernel_rfl) rfl rfl ?_
      refine TA.nil (by kernel_rfl) ?_
      refine TE.next ?_
      refine TW.region ?_
      refine TO.y (Y.move rfl) rfl rfl rfl ?_
      refine TO.y (Y.move rfl) rfl rfl rfl ?_
      refine TO.y (Y.nilCheck rfl) rfl rfl rfl ?_
      refine TO.y (Y.field_box kf94_1 rfl rfl) rfl rfl rfl ?_
      refine TO.y (Y.load_box (v := .int .i64 c.i) 0 kk3 rfl rfl rfl) rfl rfl rfl ?_
      refine TO.y (Y.add rfl rfl) rfl rfl rfl ?_
      refine TO.y (Y.nilCheck rfl) rfl rfl rfl ?_
      refine TO.y (Y.field_box kf94_1 rfl rfl) rfl rfl rfl ?_
      refine TO.ef0 (Ef.store_box (us := [.int .i64 (IntKind.i64.wrap (c.i + (1 : Int)))]) (vs' := [V_c0, .int .i64 (IntKind.i64.wrap (c.i + (1 : Int))), .int .i64 (IntKind.i64.wrap (IntKind.i64.wrap (c.h * (6364136223846793005 : Int)) + (1442695040888963407 : Int)))]) (is' := [.box B_c 94 [V_c0, .int .i64 (IntKind.i64.wrap (c.i + (1 : Int))), .int .i64 (IntKind.i64.wrap (IntKind.i64.wrap (c.h * (6364136223846793005 : Int)) + (1442695040888963407 : Int)))]]) 0 kk3 rfl rfl rfl (Cel.plain rfl rfl) rfl rfl rfl rfl) rfl rfl (fun _ => ?_)
      refine TO.nil ?_
      exact TE.jn_go () [0] ⟨rfl, trivial⟩ rfl
    · refine TW.skip ?_
      exact TE.jn_go () [0] ⟨rfl, trivial⟩ rfl
  · refine TE.next ?_
    refine TW.seq ?_
    refine TW.region ?_
    refine TO.y (Y.move rfl) rfl rfl rfl ?_
    refine TO.y (Y.assign rfl) rfl rfl rfl ?_
    refine TO.nil ?_
    refine TE.next ?_
    refine TW.ret ?_
    exact TE.leaf fun _ _ hf_ hs_ => ret_any (rs := [.tmp 2]) (vs := [.int .i64 T1.1]) (.inl rfl) rfl ⟨rfl, trivial⟩ hf_ hs_ ⟨(), rfl, hs_.pulls [0] rfl⟩

/-- loop.example/g00950/spec.l1Below -/
noncomputable def spec_l1Below (c : L1Cur) (n : Int) : Option (Int × L1Cur) :=
  if (decide (n ≤ (0 : Int))) = true then (some ((0 : Int), c))
  else (if (decide (n ≤ (256 : Int))) = true then ((spec_l1Byte c).bind fun R3 =>
  (nz n).bind fun E6 =>
  some (Int.tmod R3.1 n, { b := c.b, i := R3.2.i, h := R3.2.h : L1Cur }))
  else ((spec_l1Byte c).bind fun R8 =>
  (spec_l1Byte ({ b := c.b, i := R8.2.i, h := R8.2.h : L1Cur })).bind fun R11 =>
  (spec_l1Byte ({ b := c.b, i := R11.2.i, h := R11.2.h : L1Cur })).bind fun R14 =>
  (spec_l1Byte ({ b := c.b, i := R14.2.i, h := R14.2.h : L1Cur })).bind fun R17 =>
  (nz n).bind fun E20 =>
  some (Int.tmod (IntKind.i64.wrap (IntKind.i64.wrap (IntKind.i64.wrap (IntKind.i64.wrap (R8.1 * (16777216 : Int)) + (IntKind.i64.wrap (R11.1 * (65536 : Int)))) + (IntKind.i64.wrap (R14.1 * (256 : Int)))) + R17.1)) n, { b := c.b, i := R17.2.i, h := R17.2.h : L1Cur })))

theorem spec_l1Below_con (c : L1Cur) (n : Int) (V_c0 : Value) (B_c : Nat) (r : Int × L1Cur) (hm : spec_l1Below c n = some r) :
    Con Try.prog 64 [.pointer (some ⟨B_c, 0, none⟩), .int .i64 n] [.box B_c 94 [V_c0, .int .i64 c.i, .int .i64 c.h]] [(V_c0, lc c.b)] (fun _ : Unit => .int .i64 r.1) (fun _ => [.box B_c 94 [V_c0, .int .i64 r.2.i, .int .i64 r.2.h]]) := by
  refine Con.intro (args := [.pointer (some ⟨B_c, 0, none⟩), .int .i64 n]) (n := 37) (val := fun r (_ : Unit) => .int .i64 r.1) (post := fun r _ => [.box B_c 94 [V_c0, .int .i64 r.2.i, .int .i64 r.2.h]]) (m := spec_l1Below c n) Try.func64 rfl rfl rfl hm ?_
  intro w S hrd
  have HB_V_c0 := hrd _ (.head _)
  clear hrd
  unfold spec_l1Below
  refine TW.seq ?_
  refine TW.region ?_
  refine TO.y (Y.assign rfl) rfl rfl rfl ?_
  refine TO.nil ?_
  refine TE.next ?_
  refine TW.seq ?_
  refine TW.seq ?_
  refine TW.region ?_
  refine TO.y (Y.move rfl) rfl rfl rfl ?_
  refine TO.y (Y.leq rfl rfl) rfl rfl rfl ?_
  refine TO.nil ?_
  refine TE.next ?_
  refine TW.cond rfl (fun H1 => ?_) (fun H1 => ?_)
  · refine TW.seq ?_
    refine TW.region ?_
    refine TO.y (Y.assign rfl) rfl rfl rfl ?_
    refine TO.nil ?_
    refine TE.next ?_
    refine TW.ret ?_
    refine TE.then_ret ?_
    exact TE.leaf fun _ _ hf_ hs_ => ret_any (rs := [.tmp 4]) (vs := [.int .i64 (0 : Int)]) (.inl rfl) rfl ⟨rfl, trivial⟩ hf_ hs_ ⟨(), rfl, hs_.pulls [0] rfl⟩
  · refine TW.skip ?_
    refine TE.next ?_
    refine TW.seq ?_
    refine TW.seq ?_
    refine TW.region ?_
    refine TO.y (Y.move rfl) rfl rfl rfl ?_
    refine TO.y (Y.leq rfl rfl) rfl rfl rfl ?_
    refine TO.nil ?_
    refine TE.next ?_
    refine TW.cond rfl (fun H2 => ?_) (fun H2 => ?_)
    · refine TW.seq ?_
      refine TW.region ?_
      refine TO.y (Y.move rfl) rfl rfl rfl ?_
      refine TO.bind fun R3 H4 => ?_
      refine TO.ef (Ef.call (rest := []) [0] (spec_l1Byte_con c V_c0 B_c R3 H4) kc85 rfl rfl ⟨(Base.can HB_V_c0), trivial⟩) rfl rfl rfl (fun _ => ?_)
      refine TO.y (Y.move rfl) rfl rfl rfl ?_
      refine TO.bind fun E6 H7 => ?_
      refine TO.y (Y.rem (nz_ne H7) rfl rfl) rfl rfl rfl ?_
      refine TO.y (Y.assign rfl) rfl rfl rfl ?_
      refine TO.nil ?_
      refine TE.next ?_
      refine TW.ret ?_
      refine TE.then_ret ?_
      exact TE.leaf fun _ _ hf_ hs_ => ret_any (rs := [.tmp 4]) (vs := [.int .i64 (Int.tmod R3.1 n)]) (.inl rfl) rfl ⟨rfl, trivial⟩ hf_ hs_ ⟨(), rfl, hs_.pulls [0] rfl⟩
    · refine TW.skip ?_
      refine TE.next ?_
      refine TW.seq ?_
      refine TW.region ?_
      refine TO.y (Y.move rfl) rfl rfl rfl ?_
      refine TO.bind fun R8 H9 => ?_
      refine TO.ef (Ef.call (rest := []) [0] (spec_l1Byte_con c V_c0 B_c R8 H9) kc85 rfl rfl ⟨(Base.can HB_V_c0), trivial⟩) rfl rfl rfl (fun _ => ?_)
      refine TO.y (Y.assign rfl) rfl rfl rfl ?_
      refine TO.nil ?_
      refine TE.next ?_
      refine TW.seq ?_
      refine TW.region ?_
      refine TO.y (Y.move rfl) rfl rfl rfl ?_
      refine TO.bind fun R11 H12 => ?_
      refine TO.ef (Ef.call (rest := []) [0] (spec_l1Byte_con ({ b := c.b, i := R8.2.i, h := R8.2.h : L1Cur }) V_c0 B_c R11 H12) kc85 rfl rfl ⟨(Base.can HB_V_c0), trivial⟩) rfl rfl rfl (fun _ => ?_)
      refine TO.y (Y.assign rfl) rfl rfl rfl ?_
      refine TO.nil ?_
      refine TE.next ?_
      refine TW.seq ?_
      refine TW.region ?_
      refine TO.y (Y.move rfl) rfl rfl rfl ?_
      refine TO.bind fun R14 H15 => ?_
      refine TO.ef (Ef.call (rest := []) [0] (spec_l1Byte_con ({ b := c.b, i := R11.2.i, h := R11.2.h : L1Cur }) V_c0 B_c R14 H15) kc85 rfl rfl ⟨(Base.can HB_V_c0), trivial⟩) rfl rfl rfl (fun _ => ?_)
      refine TO.y (Y.assign rfl) rfl rfl rfl ?_
      refine TO.nil ?_
      refine TE.next ?_
      refine TW.seq ?_
      refine TW.region ?_
      refine TO.y (Y.move rfl) rfl rfl rfl ?_
      refine TO.bind fun R17 H18 => ?_
      refine TO.ef (Ef.call (rest := []) [0] (spec_l1Byte_con ({ b := c.b, i := R14.2.i, h := R14.2.h : L1Cur }) V_c0 B_c R17 H18) kc85 rfl rfl ⟨(Base.can HB_V_c0), trivial⟩) rfl rfl rfl (fun _ => ?_)
      refine TO.y (Y.assign rfl) rfl rfl rfl ?_
      refine TO.nil ?_
      refine TE.next ?_
      refine TW.seq ?_
      refine TW.region ?_
      refine TO.y (Y.move rfl) rfl rfl rfl ?_
      refine TO.y (Y.mul rfl rfl) rfl rfl rfl ?_
      refine TO.y (Y.move rfl) rfl rfl rfl ?_
      refine TO.y (Y.mul rfl rfl) rfl rfl rfl ?_
      refine TO.y (Y.add rfl rfl) rfl rfl rfl ?_
      refine TO.y (Y.move rfl) rfl rfl rfl ?_
      refine TO.y (Y.mul rfl rfl) rfl rfl rfl ?_
      refine TO.y (Y.add rfl rfl) rfl rfl rfl ?_
      refine TO.y (Y.move rfl) rfl rfl rfl ?_
      refine TO.y (Y.add rfl rfl) rfl rfl rfl ?_
      refine TO.y (Y.move rfl) rfl rfl rfl ?_
      refine TO.bind fun E20 H21 => ?_
      refine TO.y (Y.rem (nz_ne H21) rfl rfl) rfl rfl rfl ?_
      refine TO.y (Y.assign rfl) rfl rfl rfl ?_
      refine TO.nil ?_
      refine TE.next ?_
      refine TW.ret ?_
      exact TE.leaf fun _ _ hf_ hs_ => ret_any (rs := [.tmp 4]) (vs := [.int .i64 (Int.tmod (IntKind.i64.wrap (IntKind.i64.wrap (IntKind.i64.wrap (IntKind.i64.wrap (R8.1 * (16777216 : Int)) + (IntKind.i64.wrap (R11.1 * (65536 : Int)))) + (IntKind.i64.wrap (R14.1 * (256 : Int)))) + R17.1)) n)]) (.inl rfl) rfl ⟨rfl, trivial⟩ hf_ hs_ ⟨(), rfl, hs_.pulls [0] rfl⟩

/-- loop.example/g00950/spec.l1PickInt -/
noncomputable def spec_l1PickInt (c : L1Cur) (list : List Int) : Option (Int × L1Cur) :=
  (spec_l1Below c ((list.length : Nat) : Int)).bind fun R1 =>
  (idx list R1.1).bind fun E4 =>
  some (E4, { b := c.b, i := R1.2.i, h := R1.2.h : L1Cur })

theorem spec_l1PickInt_con (c : L1Cur) (list : List Int) (V_c0 : Value) (B_c : Nat) (V_list0 : Value) (r : Int × L1Cur) (hm : spec_l1PickInt c list = some r) :
    Con Try.prog 54 [.pointer (some ⟨B_c, 0, none⟩), V_list0] [.box B_c 94 [V_c0, .int .i64 c.i, .int .i64 c.h]] [(V_c0, lc c.b), (V_list0, lc list)] (fun _ : Unit => .int .i64 r.1) (fun _ => [.box B_c 94 [V_c0, .int .i64 r.2.i, .int .i64 r.2.h]]) := by
  refine Con.intro (args := [.pointer (some ⟨B_c, 0, none⟩), V_list0]) (n := 12) (val := fun r (_ : Unit) => .int .i64 r.1) (post := fun r _ => [.box B_c 94 [V_c0, .int .i64 r.2.i, .int .i64 r.2.h]]) (m := spec_l1PickInt c list) Try.func54 rfl rfl rfl hm ?_
  intro w S hrd
  have HB_V_c0 := hrd _ (.head _)
  have HB_V_list0 := hrd _ (.tail _ (.head _))
  clear hrd
  unfold spec_l1PickInt
  refine TW.seq ?_
  refine TW.region ?_
  refine TO.y (Y.assign rfl) rfl rfl rfl ?_
  refine TO.nil ?_
  refine TE.next ?_
  refine TW.seq ?_
  refine TW.region ?_
  refine TO.y (Y.move rfl) rfl rfl rfl ?_
  refine TO.y (Y.move rfl) rfl rfl rfl ?_
  refine TO.y (Y.move rfl) rfl rfl rfl ?_
  refine TO.y (Y.len (l := list) ke41 (Base.can HB_V_list0) rfl) rfl rfl rfl ?_
  refine TO.bind fun R1 H2 => ?_
  refine TO.ef (Ef.call (rest := []) [0] (spec_l1Below_con c ((list.length : Nat) : Int) V_c0 B_c R1 H2) kc64 rfl rfl ⟨(Base.can HB_V_c0), trivial⟩) rfl rfl rfl (fun _ => ?_)
  refine TO.bind fun E4 H5 => ?_
  refine TO.y (Y.index ke41 (Base.can HB_V_list0) H5 rfl rfl) rfl rfl rfl ?_
  refine TO.y (Y.load_el (us := [.int .i64 E4]) (u := .int .i64 E4) kk3 rfl (Base.can HB_V_list0) (idx_get H5).2.2 rfl rfl rfl rfl rfl) rfl rfl rfl ?_
  refine TO.y (Y.assign rfl) rfl rfl rfl ?_
  refine TO.nil ?_
  refine TE.next ?_
  refine TW.ret ?_
  exact TE.leaf fun _ _ hf_ hs_ => ret_any (rs := [.tmp 4]) (vs := [.int .i64 E4]) (.inl rfl) rfl ⟨rfl, trivial⟩ hf_ hs_ ⟨(), rfl, hs_.pulls [0] rfl⟩

/-- loop.example/g00950/spec.l1In -/
noncomputable def spec_l1In (x : Int) (low : Int) (high : Int) : Option Bool :=
  (if (decide (x ≥ low)) = true then (some (decide (x ≤ high)))
  else (some false)).bind (fun (T1 : Bool) =>
  some T1)

theorem spec_l1In_con (x : Int) (low : Int) (high : Int)  (r : Bool) (hm : spec_l1In x low high = some r) :
    Con Try.prog 60 [.int .i64 x, .int .i64 low, .int .i64 high] [] [] (fun _ : Unit => .bool r) (fun _ => []) := by
  refine Con.intro (args := [.int .i64 x, .int .i64 low, .int .i64 high]) (n := 15) (val := fun r (_ : Unit) => .bool r) (post := fun _ _ => []) (m := spec_l1In x low high) Try.func60 rfl rfl rfl hm ?_
  intro w S _
  unfold spec_l1In
  refine TW.seq ?_
  refine TW.region ?_
  refine TO.y (Y.assign rfl) rfl rfl rfl ?_
  refine TO.nil ?_
  refine TE.next ?_
  refine TW.seq ?_
  refine TW.joinBX (τ := Bool) (X := Unit) (fun T _ => [(6, .bool T)]) (fun _ _ => []) ?_ (fun T1 X2 => ?_)
  · refine TW.region ?_
    refine TO.y (Y.move rfl) rfl rfl rfl ?_
    refine TO.y (Y.move rfl) rfl rfl rfl ?_
    refine TO.y (Y.geq rfl rfl) rfl rfl rfl ?_
    refine TO.y (Y.move rfl) rfl rfl rfl ?_
    refine TO.ite (b := decide (x ≥ low)) (fun H3 => ?_) (fun H3 => ?_)
    · refine TO.y (Y.move rfl) (Gd.at 3 true 10 (decide (x ≥ low)) rfl rfl rfl (beq_tt H3)) rfl rfl ?_
      refine TO.y (Y.move rfl) (Gd.at 3 true 10 (decide (x ≥ low)) rfl rfl rfl (beq_tt H3)) rfl rfl ?_
      refine TO.y (Y.leq rfl rfl) (Gd.at 3 true 10 (decide (x ≥ low)) rfl rfl rfl (beq_tt H3)) rfl rfl ?_
      refine TO.y (Y.pick_t H3 rfl rfl) rfl rfl rfl ?_
      refine TO.y (Y.assign rfl) rfl rfl rfl ?_
      refine TO.nil ?_
      exact TE.jb_go () [] ⟨rfl, trivial⟩ rfl
    · refine TO.off (Gd.at 3 true 10 (decide (x ≥ low)) rfl rfl rfl (beq_ft H3)) rfl rfl ?_
      refine TO.off (Gd.at 3 true 10 (decide (x ≥ low)) rfl rfl rfl (beq_ft H3)) rfl rfl ?_
      refine TO.off (Gd.at 3 true 10 (decide (x ≥ low)) rfl rfl rfl (beq_ft H3)) rfl rfl ?_
      refine TO.y (Y.pick_f H3 rfl rfl) rfl rfl rfl ?_
      refine TO.y (Y.assign rfl) rfl rfl rfl ?_
      refine TO.nil ?_
      exact TE.jb_go () [] ⟨rfl, trivial⟩ rfl
  · refine TE.next ?_
    refine TW.ret ?_
    exact TE.leaf fun _ _ hf_ hs_ => ret_any (rs := [.tmp 6]) (vs := [.bool T1]) (.inl rfl) rfl ⟨rfl, trivial⟩ hf_ hs_ ⟨(), rfl, hs_.pulls [] rfl⟩

/-- loop.example/g00950/spec.Need -/
noncomputable def spec_Need (quota : Int) : Option Int :=
  (spec_l1In quota (0 : Int) (1000 : Int)).bind fun R1 =>
  if (!R1) = true then (some (0 : Int))
  else (some (IntKind.i64.wrap ((2 : Int) + (IntKind.i64.wrap ((2 : Int) * (IntKind.i64.wrap (Int.tdiv (IntKind.i64.wrap (quota + (49 : Int))) (50 : Int))))))))

theorem spec_Need_con (quota : Int)  (r : Int) (hm : spec_Need quota = some r) :
    Con Try.prog 27 [.int .i64 quota] [] [] (fun _ : Unit => .int .i64 r) (fun _ => []) := by
  refine Con.intro (args := [.int .i64 quota]) (n := 11) (val := fun r (_ : Unit) => .int .i64 r) (post := fun _ _ => []) (m := spec_Need quota) Try.func27 rfl rfl rfl hm ?_
  intro w S _
  unfold spec_Need
  refine TW.seq ?_
  refine TW.region ?_
  refine TO.y (Y.assign rfl) rfl rfl rfl ?_
  refine TO.nil ?_
  refine TE.next ?_
  refine TW.seq ?_
  refine TW.seq ?_
  refine TW.region ?_
  refine TO.y (Y.move rfl) rfl rfl rfl ?_
  refine TO.bind fun R1 H2 => ?_
  refine TO.ef (Ef.call (rest := []) [] (spec_l1In_con quota (0 : Int) (1000 : Int)  R1 H2) kc60 rfl rfl trivial) rfl rfl rfl (fun _ => ?_)
  refine TO.y (Y.not rfl) rfl rfl rfl ?_
  refine TO.nil ?_
  refine TE.next ?_
  refine TW.cond rfl (fun H4 => ?_) (fun H4 => ?_)
  · refine TW.seq ?_
    refine TW.region ?_
    refine TO.y (Y.assign rfl) rfl rfl rfl ?_
    refine TO.nil ?_
    refine TE.next ?_
    refine TW.ret ?_
    refine TE.then_ret ?_
    exact TE.leaf fun _ _ hf_ hs_ => ret_any (rs := [.tmp 2]) (vs := [.int .i64 (0 : Int)]) (.inl rfl) rfl ⟨rfl, trivial⟩ hf_ hs_ ⟨(), rfl, hs_.pulls [] rfl⟩
  · refine TW.skip ?_
    refine TE.next ?_
    refine TW.seq ?_
    refine TW.region ?_
    refine TO.y (Y.move rfl) rfl rfl rfl ?_
    refine TO.y (Y.add rfl rfl) rfl rfl rfl ?_
    refine TO.y (Y.quo (by decide) rfl rfl) rfl rfl rfl ?_
    refine TO.y (Y.mul rfl rfl) rfl rfl rfl ?_
    refine TO.y (Y.add rfl rfl) rfl rfl rfl ?_
    refine TO.y (Y.assign rfl) rfl rfl rfl ?_
    refine TO.nil ?_
    refine TE.next ?_
    refine TW.ret ?_
    exact TE.leaf fun _ _ hf_ hs_ => ret_any (rs := [.tmp 2]) (vs := [.int .i64 (IntKind.i64.wrap ((2 : Int) + (IntKind.i64.wrap ((2 : Int) * (IntKind.i64.wrap (Int.tdiv (IntKind.i64.wrap (quota + (49 : Int))) (50 : Int)))))))]) (.inl rfl) rfl ⟨rfl, trivial⟩ hf_ hs_ ⟨(), rfl, hs_.pulls [] rfl⟩

/-- loop.example/g00950/spec.l19All -/
noncomputable def spec_l19All (s : Shares) : Option Int :=
  bindC (loopO (fun (S2 : Int × Int) => if (decide (S2.2 < ((s.List.length : Nat) : Int))) = true then ((idx s.List S2.2).bind fun E7 =>
  (spec_Need E7.Quota).bind fun R9 =>
  some (.go (IntKind.i64.wrap (S2.1 + R9), IntKind.i64.wrap (S2.2 + (1 : Int)))))
  else (some (.done (.go S2.1))))
  ((0 : Int), (0 : Int)))
  (fun (T4 : Int) => bindC (if (decide (((s.List.length : Nat) : Int) > (0 : Int))) = true then (some (.go (IntKind.i64.wrap (T4 + (4 : Int)))))
  else (some (.go T4)))
  (fun (T12 : Int) => some T12))

theorem spec_l19All_con (s : Shares) (V_s1 : Value) (r : Int) (hm : spec_l19All s = some r) :
    Con Try.prog 61 [.agg #[.int .i64 s.Size, V_s1]] [] [(V_s1, lc s.List)] (fun _ : Unit => .int .i64 r) (fun _ => []) := by
  refine Con.intro (args := [.agg #[.int .i64 s.Size, V_s1]]) (n := 28) (val := fun r (_ : Unit) => .int .i64 r) (post := fun _ _ => []) (m := spec_l19All s) Try.func61 rfl rfl rfl hm ?_
  intro w S hrd
  have HB_V_s1 := hrd _ (.head _)
  clear hrd
  unfold spec_l19All
  refine TW.seq ?_
  refine TW.region ?_
  refine TO.ef (Ef.box rfl (Cel.agg ⟨(One.plain rfl), (One.can (Base.can HB_V_s1)), trivial⟩)) rfl rfl rfl (fun B1 => ?_)
  refine TO.y (Y.assign rfl) rfl rfl rfl ?_
  refine TO.nil ?_
  refine TE.next ?_
  refine TW.seq ?_
  refine TW.region ?_
  refine TO.y (Y.assign rfl) rfl rfl rfl ?_
  refine TO.nil ?_
  refine TE.next ?_
  refine TW.seq ?_
  refine TW.seq ?_
  refine TW.region ?_
  refine TO.y (Y.assign rfl) rfl rfl rfl ?_
  refine TO.nil ?_
  refine TE.next ?_
  refine TW.joinX (τ := Int) (X := Unit) (fun T _ => [(1, .pointer (some ⟨B1, 0, none⟩)), (3, .int .i64 T)]) (fun _ _ => [.box B1 51 [.int .i64 s.Size, V_s1]]) ?_ (fun T4 X5 => ?_)
  · refine TW.block ?_
    refine TW.loopX (σ := Int × Int) (X := Unit) (fun T _ => [(1, .pointer (some ⟨B1, 0, none⟩)), (3, .int .i64 T.1), (4, .int .i64 T.2)]) (fun _ _ => [.box B1 51 [.int .i64 s.Size, V_s1]]) () [0] ⟨rfl, rfl, rfl, trivial⟩ rfl (fun S2 X3 => ?_)
    refine TW.seq ?_
    refine TW.seq ?_
    refine TW.region ?_
    refine TO.y (Y.move rfl) rfl rfl rfl ?_
    refine TO.y (Y.field_box kf51_1 rfl rfl) rfl rfl rfl ?_
    refine TO.y (Y.load_box (v := V_s1) 0 kk49 rfl rfl rfl) rfl rfl rfl ?_
    refine TO.y (Y.len (l := s.List) ke49 (Base.can HB_V_s1) rfl) rfl rfl rfl ?_
    refine TO.y (Y.lss rfl rfl) rfl rfl rfl ?_
    refine TO.nil ?_
    refine TE.next ?_
    refine TW.cond rfl (fun H6 => ?_) (fun H6 => ?_)
    · refine TW.skip ?_
      refine TE.next ?_
      refine TW.seq ?_
      refine TW.block ?_
      refine TW.region ?_
      refine TO.y (Y.move rfl) rfl rfl rfl ?_
      refine TO.y (Y.field_box kf51_1 rfl rfl) rfl rfl rfl ?_
      refine TO.y (Y.load_box (v := V_s1) 0 kk49 rfl rfl rfl) rfl rfl rfl ?_
      refine TO.y (Y.move rfl) rfl rfl rfl ?_
      refine TO.bind fun E7 H8 => ?_
      refine TO.y (Y.index ke49 (Base.can HB_V_s1) H8 rfl rfl) rfl rfl rfl ?_
      refine TO.y (Y.field_el kf59_1 (Base.can HB_V_s1) (idx_get H8).2.2 rfl rfl) rfl rfl rfl ?_
      refine TO.y (Y.load_el (us := [.int .i64 E7.Quota]) (u := .int .i64 E7.Quota) kk3 rfl (Base.can HB_V_s1) (idx_get H8).2.2 rfl rfl rfl rfl rfl) rfl rfl rfl ?_
      refine TO.bind fun R9 H10 => ?_
      refine TO.ef (Ef.call (rest := [.box B1 51 [.int .i64 s.Size, V_s1]]) [0] (spec_Need_con E7.Quota  R9 H10) kc27 rfl rfl trivial) rfl rfl rfl (fun _ => ?_)
      refine TO.y (Y.add rfl rfl) rfl rfl rfl ?_
      refine TO.y (Y.assign rfl) rfl rfl rfl ?_
      refine TO.nil ?_
      refine TE.block_normal ?_
      refine TE.next ?_
      refine TW.region ?_
      refine TO.y (Y.move rfl) rfl rfl rfl ?_
      refine TO.y (Y.add rfl rfl) rfl rfl rfl ?_
      refine TO.y (Y.assign rfl) rfl rfl rfl ?_
      refine TO.nil ?_
      exact TE.lp_go () [0] ⟨rfl, rfl, rfl, trivial⟩ rfl
    · refine TW.exit ?_
      refine TE.then_exit ?_
      refine TE.lp_exit ?_
      refine TE.block_exit ?_
      exact TE.jn_go () [0] ⟨rfl, rfl, trivial⟩ rfl
  · refine TE.next ?_
    refine TW.seq ?_
    refine TW.seq ?_
    refine TW.region ?_
    refine TO.y (Y.field_box kf51_1 rfl rfl) rfl rfl rfl ?_
    refine TO.y (Y.load_box (v := V_s1) 0 kk49 rfl rfl rfl) rfl rfl rfl ?_
    refine TO.y (Y.len (l := s.List) ke49 (Base.can HB_V_s1) rfl) rfl rfl rfl ?_
    refine TO.y (Y.gtr rfl rfl) rfl rfl rfl ?_
    refine TO.nil ?_
    refine TE.next ?_
    refine TW.joinX (τ := Int) (X := Unit) (fun T _ => [(3, .int .i64 T)]) (fun _ _ => []) ?_ (fun T12 X13 => ?_)
    · refine TW.cond rfl (fun H14 => ?_) (fun H14 => ?_)
      · refine TW.region ?_
        refine TO.y (Y.move rfl) rfl rfl rfl ?_
        refine TO.y (Y.add rfl rfl) rfl rfl rfl ?_
        refine TO.y (Y.assign rfl) rfl rfl rfl ?_
        refine TO.nil ?_
        exact TE.jn_go () [] ⟨rfl, trivial⟩ rfl
      · refine TW.skip ?_
        exact TE.jn_go () [] ⟨rfl, trivial⟩ rfl
    · refine TE.next ?_
      refine TW.seq ?_
      refine TW.region ?_
      refine TO.y (Y.move rfl) rfl rfl rfl ?_
      refine TO.y (Y.assign rfl) rfl rfl rfl ?_
      refine TO.nil ?_
      refine TE.next ?_
      refine TW.ret ?_
      exact TE.leaf fun _ _ hf_ hs_ => ret_any (rs := [.tmp 2]) (vs := [.int .i64 T12]) (.inl rfl) rfl ⟨rfl, trivial⟩ hf_ hs_ ⟨(), rfl, hs_.pulls [] rfl⟩

/-- loop.example/g00950/spec.SharesOk -/
noncomputable def spec_SharesOk (s : Shares) : Option Bool :=
  ((spec_l1In s.Size (0 : Int) (1000 : Int)).bind fun R4 =>
  if (!R4) = true then (some true)
  else (some (decide (((s.List.length : Nat) : Int) > (4 : Int))))).bind (fun (T2 : Bool) =>
  if T2 = true then (some false)
  else (bindC (loopO (fun (S9 : Int) => if (decide (S9 < ((s.List.length : Nat) : Int))) = true then ((idx s.List S9).bind fun E14 =>
  ((spec_l1In E14.Tenant (1 : Int) (99 : Int)).bind fun R19 =>
  if (!R19) = true then (some true)
  else ((spec_l1In E14.Quota (0 : Int) (1000 : Int)).bind fun R23 =>
  if (!R23) = true then (some true)
  else (if (decide (S9 > (0 : Int))) = true then ((idx s.List (IntKind.i64.wrap (S9 - (1 : Int)))).bind fun E28 =>
  some (decide (E28.Tenant ≥ E14.Tenant)))
  else (some false)))).bind (fun (T17 : Bool) =>
  if T17 = true then (some (.done (.done false)))
  else (some (.go (IntKind.i64.wrap (S9 + (1 : Int)))))))
  else (some (.done (.go ()))))
  (0 : Int))
  (fun (T11 : Unit) => (spec_l19All s).bind fun R31 =>
  some (decide (R31 ≤ s.Size)))))

theorem spec_SharesOk_con (s : Shares) (V_s1 : Value) (r : Bool) (hm : spec_SharesOk s = some r) :
    Con Try.prog 25 [.agg #[.int .i64 s.Size, V_s1]] [] [(V_s1, lc s.List)] (fun _ : Unit => .bool r) (fun _ => []) := by
  refine Con.intro (args := [.agg #[.int .i64 s.Size, V_s1]]) (n := 58) (val := fun r (_ : Unit) => .bool r) (post := fun _ _ => []) (m := spec_SharesOk s) Try.func25 rfl rfl rfl hm ?_
  intro w S hrd
  have HB_V_s1 := hrd _ (.head _)
  clear hrd
  unfold spec_SharesOk
  refine TW.seq ?_
  refine TW.region ?_
  refine TO.ef (Ef.box rfl (Cel.agg ⟨(One.plain rfl), (One.can (Base.can HB_V_s1)), trivial⟩)) rfl rfl rfl (fun B1 => ?_)
  refine TO.y (Y.assign rfl) rfl rfl rfl ?_
  refine TO.nil ?_
  refine TE.next ?_
  refine TW.seq ?_
  refine TW.seq ?_
  refine TW.joinBX (τ := Bool) (X := Unit) (fun T _ => [(1, .pointer (some ⟨B1, 0, none⟩)), (14, .bool T)]) (fun _ _ => [.box B1 51 [.int .i64 s.Size, V_s1]]) ?_ (fun T2 X3 => ?_)
  · refine TW.region ?_
    refine TO.y (Y.field_box kf51_0 rfl rfl) rfl rfl rfl ?_
    refine TO.y (Y.load_box (v := .int .i64 s.Size) 0 kk3 rfl rfl rfl) rfl rfl rfl ?_
    refine TO.bind fun R4 H5 => ?_
    refine TO.ef (Ef.call (rest := [.box B1 51 [.int .i64 s.Size, V_s1]]) [0] (spec_l1In_con s.Size (0 : Int) (1000 : Int)  R4 H5) kc60 rfl rfl trivial) rfl rfl rfl (fun _ => ?_)
    refine TO.y (Y.not rfl) rfl rfl rfl ?_
    refine TO.y (Y.move rfl) rfl rfl rfl ?_
    refine TO.ite (b := !R4) (fun H7 => ?_) (fun H7 => ?_)
    · refine TO.off (Gd.at 4 false 9 (!R4) rfl rfl rfl (beq_tf H7)) rfl rfl ?_
      refine TO.off (Gd.at 4 false 9 (!R4) rfl rfl rfl (beq_tf H7)) rfl rfl ?_
      refine TO.off (Gd.at 4 false 9 (!R4) rfl rfl rfl (beq_tf H7)) rfl rfl ?_
      refine TO.off (Gd.at 4 false 9 (!R4) rfl rfl rfl (beq_tf H7)) rfl rfl ?_
      refine TO.y (Y.pick_t H7 rfl rfl) rfl rfl rfl ?_
      refine TO.nil ?_
      exact TE.jb_go () [0] ⟨rfl, rfl, trivial⟩ rfl
    · refine TO.y (Y.field_box kf51_1 rfl rfl) (Gd.at 4 false 9 (!R4) rfl rfl rfl (beq_ff H7)) rfl rfl ?_
      refine TO.y (Y.load_box (v := V_s1) 0 kk49 rfl rfl rfl) (Gd.at 4 false 9 (!R4) rfl rfl rfl (beq_ff H7)) rfl rfl ?_
      refine TO.y (Y.len (l := s.List) ke49 (Base.can HB_V_s1) rfl) (Gd.at 4 false 9 (!R4) rfl rfl rfl (beq_ff H7)) rfl rfl ?_
      refine TO.y (Y.gtr rfl rfl) (Gd.at 4 false 9 (!R4) rfl rfl rfl (beq_ff H7)) rfl rfl ?_
      refine TO.y (Y.pick_f H7 rfl rfl) rfl rfl rfl ?_
      refine TO.nil ?_
      exact TE.jb_go () [0] ⟨rfl, rfl, trivial⟩ rfl
  · refine TE.next ?_
    refine TW.cond rfl (fun H8 => ?_) (fun H8 => ?_)
    · refine TW.seq ?_
      refine TW.region ?_
      refine TO.y (Y.assign rfl) rfl rfl rfl ?_
      refine TO.nil ?_
      refine TE.next ?_
      refine TW.ret ?_
      refine TE.then_ret ?_
      exact TE.leaf fun _ _ hf_ hs_ => ret_any (rs := [.tmp 2]) (vs := [.bool false]) (.inl rfl) rfl ⟨rfl, trivial⟩ hf_ hs_ ⟨(), rfl, hs_.pulls [] rfl⟩
    · refine TW.skip ?_
      refine TE.next ?_
      refine TW.seq ?_
      refine TW.seq ?_
      refine TW.region ?_
      refine TO.y (Y.assign rfl) rfl rfl rfl ?_
      refine TO.nil ?_
      refine TE.next ?_
      refine TW.joinX (τ := Unit) (X := Unit) (fun _ _ => [(1, .pointer (some ⟨B1, 0, none⟩))]) (fun _ _ => [.box B1 51 [.int .i64 s.Size, V_s1]]) ?_ (fun T11 X12 => ?_)
      · refine TW.block ?_
        refine TW.loopX (σ := Int) (X := Unit) (fun T _ => [(1, .pointer (some ⟨B1, 0, none⟩)), (3, .int .i64 T)]) (fun _ _ => [.box B1 51 [.int .i64 s.Size, V_s1]]) () [0] ⟨rfl, rfl, trivial⟩ rfl (fun S9 X10 => ?_)
        refine TW.seq ?_
        refine TW.seq ?_
        refine TW.region ?_
        refine TO.y (Y.move rfl) rfl rfl rfl ?_
        refine TO.y (Y.field_box kf51_1 rfl rfl) rfl rfl rfl ?_
        refine TO.y (Y.load_box (v := V_s1) 0 kk49 rfl rfl rfl) rfl rfl rfl ?_
        refine TO.y (Y.len (l := s.List) ke49 (Base.can HB_V_s1) rfl) rfl rfl rfl ?_
        refine TO.y (Y.lss rfl rfl) rfl rfl rfl ?_
        refine TO.nil ?_
        refine TE.next ?_
        refine TW.cond rfl (fun H13 => ?_) (fun H13 => ?_)
        · refine TW.skip ?_
          refine TE.next ?_
          refine TW.seq ?_
          refine TW.block ?_
          refine TW.seq ?_
          refine TW.region ?_
          refine TO.y (Y.field_box kf51_1 rfl rfl) rfl rfl rfl ?_
          refine TO.y (Y.load_box (v := V_s1) 0 kk49 rfl rfl rfl) rfl rfl rfl ?_
          refine TO.y (Y.move rfl) rfl rfl rfl ?_
          refine TO.bind fun E14 H15 => ?_
          refine TO.y (Y.index ke49 (Base.can HB_V_s1) H15 rfl rfl) rfl rfl rfl ?_
          refine TO.y (Y.load_el (us := [.int .i64 E14.Tenant, .int .i64 E14.Quota]) (u := .agg #[.int .i64 E14.Tenant, .int .i64 E14.Quota]) kk59 rfl (Base.can HB_V_s1) (idx_get H15).2.2 rfl rfl rfl rfl rfl) rfl rfl rfl ?_
          refine TO.ef (Ef.alloc kz59 rfl) rfl rfl rfl (fun B16 => ?_)
          refine TO.ef0 (Ef.store_box (us := [.int .i64 E14.Tenant, .int .i64 E14.Quota]) (vs' := [.int .i64 E14.Tenant, .int .i64 E14.Quota]) (is' := [.box B16 59 [.int .i64 E14.Tenant, .int .i64 E14.Quota], .box B1 51 [.int .i64 s.Size, V_s1]]) 0 kk59 rfl rfl rfl (Cel.plain rfl rfl) rfl rfl rfl rfl) rfl rfl (fun _ => ?_)
          refine TO.nil ?_
          refine TE.next ?_
          refine TW.seq ?_
          refine TW.joinBX (τ := Bool) (X := Unit) (fun T _ => [(1, .pointer (some ⟨B1, 0, none⟩)), (3, .int .i64 S9), (52, .bool T)]) (fun _ _ => [.box B1 51 [.int .i64 s.Size, V_s1]]) ?_ (fun T17 X18 => ?_)
          · refine TW.draw (isH := [.box B16 59 [.int .i64 E14.Tenant, .int .i64 E14.Quota], .box B1 51 [.int .i64 s.Size, V_s1]]) hMix ?_
            refine TA.y (listed' := #[true, false, false, false, false, false, false, false, false, false, false, false, false, false, false, false, false, false, false, false, false, false, false, false, false, false]) 0 [0, 0] rfl (Y.field_box kf59_0 rfl rfl) rfl rfl rfl (by kernel_rfl) (by kernel_rfl) (by kernel_rfl) rfl rfl ?_
            refine TA.y (listed' := #[true, true, false, false, false, false, false, false, false, false, false, false, false, false, false, false, false, false, false, false, false, false, false, false, false, false]) 1 [0, 0] rfl (Y.load_box (v := .int .i64 E14.Tenant) 0 kk3 rfl rfl rfl) rfl rfl rfl (by kernel_rfl) (by kernel_rfl) (by kernel_rfl) rfl rfl ?_
            refine TA.bind fun R19 H20 => ?_
            refine TA.one 2 (by kernel_rfl) ?_
            refine TX.ef (listed' := #[true, true, true, false, false, false, false, false, false, false, false, false, false, false, false, false, false, false, false, false, false, false, false, false, false, false]) [0, 0] rfl (Ef.call (rest := [.box B16 59 [.int .i64 E14.Tenant, .int .i64 E14.Quota], .box B1 51 [.int .i64 s.Size, V_s1]]) [0, 0] (spec_l1In_con E14.Tenant (1 : Int) (99 : Int)  R19 H20) kc60 rfl rfl trivial) rfl rfl rfl rfl (fun _ => rfl) (fun _ => ?_)
            refine TA.y (listed' := #[true, true, true, true, false, false, false, false, false, false, false, false, false, false, false, false, false, false, false, false, false, false, false, false, false, false]) 3 [0, 0] rfl (Y.not rfl) rfl rfl rfl (by kernel_rfl) (by kernel_rfl) (by kernel_rfl) rfl rfl ?_
            refine TA.y (listed' := #[true, true, true, true, true, false, false, false, false, false, false, false, false, false, false, false, false, false, false, false, false, false, false, false, false, false]) 4 [0, 0] rfl (Y.move rfl) rfl rfl rfl (by kernel_rfl) (by kernel_rfl) (by kernel_rfl) rfl rfl ?_
            refine TA.ite (b := !R19) (fun H22 => ?_) (fun H22 => ?_)
            · refine TA.off (listed' := #[true, true, true, true, true, true, false, false, false, false, false, false, false, false, false, false, false, false, false, false, false, false, false, false, false, false]) 5 [0, 0] rfl (Gd.at 4 false 31 (!R19) rfl rfl rfl (beq_tf H22)) rfl rfl (by kernel_rfl) (by kernel_rfl) (by kernel_rfl) rfl rfl ?_
              refine TA.off (listed' := #[true, true, true, true, true, true, true, false, false, false, false, false, false, false, false, false, false, false, false, false, false, false, false, false, false, false]) 6 [0, 0] rfl (Gd.at 4 false 31 (!R19) rfl rfl rfl (beq_tf H22)) rfl rfl (by kernel_rfl) (by kernel_rfl) (by kernel_rfl) rfl rfl ?_
              refine TA.off (listed' := #[true, true, true, true, true, true, true, true, false, false, false, false, false, false, false, false, false, false, false, false, false, false, false, false, false, false]) 7 [0, 0] rfl (Gd.at 4 false 31 (!R19) rfl rfl rfl (beq_tf H22)) rfl rfl (by kernel_rfl) (by kernel_rfl) (by kernel_rfl) rfl rfl ?_
              refine TA.off (listed' := #[true, true, true, true, true, true, true, true, true, false, false, false, false, false, false, false, false, false, false, false, false, false, false, false, false, false]) 8 [0, 0] rfl (Gd.at 4 false 31 (!R19) rfl rfl rfl (beq_tf H22)) rfl rfl (by kernel_rfl) (by kernel_rfl) (by kernel_rfl) rfl rfl ?_
              refine TA.y (listed' := #[true, true, true, true, true, true, true, true, true, true, false, false, false, false, false, false, false, false, false, false, false, false, false, false, false, false]) 9 [0, 0] rfl (Y.pick_t H22 rfl rfl) rfl rfl rfl (by kernel_rfl) (by kernel_rfl) (by kernel_rfl) rfl rfl ?_
              refine TA.y (listed' := #[true, true, true, true, true, true, true, true, true, true, true, false, false, false, false, false, false, false, false, false, false, false, false, false, false, false]) 10 [0, 0] rfl (Y.move rfl) rfl rfl rfl (by kernel_rfl) (by kernel_rfl) (by kernel_rfl) rfl rfl ?_
              refine TA.off (listed' := #[true, true, true, true, true, true, true, true, true, true, true, true, false, false, false, false, false, false, false, false, false, false, false, false, false, false]) 11 [0, 0] rfl (Gd.at 10 false 37 true rfl rfl rfl rfl) rfl rfl (by kernel_rfl) (by kernel_rfl) (by kernel_rfl) rfl rfl ?_
              refine TA.off (listed' := #[true, true, true, true, true, true, true, true, true, true, true, true, true, false, false, false, false, false, false, false, false, false, false, false, false, false]) 12 [0, 0] rfl (Gd.at 10 false 37 true rfl rfl rfl rfl) rfl rfl (by kernel_rfl) (by kernel_rfl) (by kernel_rfl) rfl rfl ?_
              refine TA.off (listed' := #[true, true, true, true, true, true, true, true, true, true, true, true, true, true, false, false, false, false, false, false, false, false, false, false, false, false]) 13 [0, 0] rfl (Gd.at 10 false 37 true rfl rfl rfl rfl) rfl rfl (by kernel_rfl) (by kernel_rfl) (by kernel_rfl) rfl rfl ?_
              refine TA.off (listed' := #[true, true, true, true, true, true, true, true, true, true, true, true, true, true, true, false, false, false, false, false, false, false, false, false, false, false]) 14 [0, 0] rfl (Gd.un 13 true 40 rfl rfl rfl) rfl rfl (by kernel_rfl) (by kernel_rfl) (by kernel_rfl) rfl rfl ?_
              refine TA.off (listed' := #[true, true, true, true, true, true, true, true, true, true, true, true, true, true, true, true, false, false, false, false, false, false, false, false, false, false]) 15 [0, 0] rfl (Gd.un 13 true 40 rfl rfl rfl) rfl rfl (by kernel_rfl) (by kernel_rfl) (by kernel_rfl) rfl rfl ?_
              refine TA.off (listed' := #[true, true, true, true, true, true, true, true, true, true, true, true, true, true, true, true, true, false, false, false, false, false, false, false, false, false]) 16 [0, 0] rfl (Gd.un 13 true 40 rfl rfl rfl) rfl rfl (by kernel_rfl) (by kernel_rfl) (by kernel_rfl) rfl rfl ?_
              refine TA.off (listed' := #[true, true, true, true, true, true, true, true, true, true, true, true, true, true, true, true, true, true, false, false, false, false, false, false, false, false]) 17 [0, 0] rfl (Gd.un 13 true 40 rfl rfl rfl) rfl rfl (by kernel_rfl) (by kernel_rfl) (by kernel_rfl) rfl rfl ?_
              refine TA.off (listed' := #[true, true, true, true, true, true, true, true, true, true, true, true, true, true, true, true, true, true, true, false, false, false, false, false, false, false]) 18 [0, 0] rfl (Gd.un 13 true 40 rfl rfl rfl) rfl rfl (by kernel_rfl) (by kernel_rfl) (by kernel_rfl) rfl rfl ?_
              refine TA.off (listed' := #[true, true, true, true, true, true, true, true, true, true, true, true, true, true, true, true, true, true, true, true, false, false, false, false, false, false]) 19 [0, 0] rfl (Gd.un 13 true 40 rfl rfl rfl) rfl rfl (by kernel_rfl) (by kernel_rfl) (by kernel_rfl) rfl rfl ?_
              refine TA.off (listed' := #[true, true, true, true, true, true, true, true, true, true, true, true, true, true, true, true, true, true, true, true, true, false, false, false, false, false]) 20 [0, 0] rfl (Gd.un 13 true 40 rfl rfl rfl) rfl rfl (by kernel_rfl) (by kernel_rfl) (by kernel_rfl) rfl rfl ?_
              refine TA.off (listed' := #[true, true, true, true, true, true, true, true, true, true, true, true, true, true, true, true, true, true, true, true, true, true, false, false, false, false]) 21 [0, 0] rfl (Gd.un 13 true 40 rfl rfl rfl) rfl rfl (by kernel_rfl) (by kernel_rfl) (by kernel_rfl) rfl rfl ?_
              refine TA.off (listed' := #[true, true, true, true, true, true, true, true, true, true, true, true, true, true, true, true, true, true, true, true, true, true, true, false, false, false]) 22 [0, 0] rfl (Gd.un 13 true 40 rfl rfl rfl) rfl rfl (by kernel_rfl) (by kernel_rfl) (by kernel_rfl) rfl rfl ?_
              refine TA.off (listed' := #[true, true, true, true, true, true, true, true, true, true, true, true, true, true, true, true, true, true, true, true, true, true, true, true, false, false]) 23 [0, 0] rfl (Gd.un 13 true 40 rfl rfl rfl) rfl rfl (by kernel_rfl) (by kernel_rfl) (by kernel_rfl) rfl rfl ?_
              refine TA.off (listed' := #[true, true, true, true, true, true, true, true, true, true, true, true, true, true, true, true, true, true, true, true, true, true, true, true, true, false]) 24 [0, 0] rfl (Gd.at 10 false 37 true rfl rfl rfl rfl) rfl rfl (by kernel_rfl) (by kernel_rfl) (by kernel_rfl) rfl rfl ?_
              refine TA.y (listed' := #[true, true, true, true, true, true, true, true, true, true, true, true, true, true, true, true, true, true, true, true, true, true, true, true, true, true]) 25 [0, 0] rfl (Y.pick_t rfl rfl rfl) rfl rfl rfl (by kernel_rfl) (by kernel_rfl) (by kernel_rfl) rfl rfl ?_
              refine TA.nil (by kernel_rfl) ?_
              exact TE.jb_go () [1] ⟨rfl, rfl, rfl, trivial⟩ rfl
            · refine TA.y (listed' := #[true, true, true, true, true, true, false, false, false, false, false, false, false, false, false, false, false, false, false, false, false, false, false, false, false, false]) 5 [0, 0] rfl (Y.field_box kf59_1 rfl rfl) (Gd.at 4 false 31 (!R19) rfl rfl rfl (beq_ff H22)) rfl rfl (by kernel_rfl) (by kernel_rfl) (by kernel_rfl) rfl rfl ?_
              refine TA.y (listed' := #[true, true, true, true, true, true, true, false, false, false, false, false, false, false, false, false, false, false, false, false, false, false, false, false, false, false]) 6 [0, 0] rfl (Y.load_box (v := .int .i64 E14.Quota) 0 kk3 rfl rfl rfl) (Gd.at 4 false 31 (!R19) rfl rfl rfl (beq_ff H22)) rfl rfl (by kernel_rfl) (by kernel_rfl) (by kernel_rfl) rfl rfl ?_
              refine TA.bind fun R23 H24 => ?_
              refine TA.one 7 (by kernel_rfl) ?_
              refine TX.ef (listed' := #[true, true, true, true, true, true, true, true, false, false, false, false, false, false, false, false, false, false, false, false, false, false, false, false, false, false]) [0, 0] rfl (Ef.call (rest := [.box B16 59 [.int .i64 E14.Tenant, .int .i64 E14.Quota], .box B1 51 [.int .i64 s.Size, V_s1]]) [0, 0] (spec_l1In_con E14.Quota (0 : Int) (1000 : Int)  R23 H24) kc60 rfl rfl trivial) (Gd.at 4 false 31 (!R19) rfl rfl rfl (beq_ff H22)) rfl rfl rfl (fun _ => rfl) (fun _ => ?_)
              refine TA.y (listed' := #[true, true, true, true, true, true, true, true, true, false, false, false, false, false, false, false, false, false, false, false, false, false, false, false, false, false]) 8 [0, 0] rfl (Y.not rfl) (Gd.at 4 false 31 (!R19) rfl rfl rfl (beq_ff H22)) rfl rfl (by kernel_rfl) (by kernel_rfl) (by kernel_rfl) rfl rfl ?_
              refine TA.y (listed' := #[true, true, true, true, true, true, true, true, true, true, false, false, false, false, false, false, false, false, false, false, false, false, false, false, false, false]) 9 [0, 0] rfl (Y.pick_f H22 rfl rfl) rfl rfl rfl (by kernel_rfl) (by kernel_rfl) (by kernel_rfl) rfl rfl ?_
              refine TA.y (listed' := #[true, true, true, true, true, true, true, true, true, true, true, false, false, false, false, false, false, false, false, false, false, false, false, false, false, false]) 10 [0, 0] rfl (Y.move rfl) rfl rfl rfl (by kernel_rfl) (by kernel_rfl) (by kernel_rfl) rfl rfl ?_
              refine TA.ite (b := !R23) (fun H26 => ?_) (fun H26 => ?_)
              · refine TA.off (listed' := #[true, true, true, true, true, true, true, true, true, true, true, true, false, false, false, false, false, false, false, false, false, false, false, false, false, false]) 11 [0, 0] rfl (Gd.at 10 false 37 (!R23) rfl rfl rfl (beq_tf H26)) rfl rfl (by kernel_rfl) (by kernel_rfl) (by kernel_rfl) rfl rfl ?_
                refine TA.off (listed' := #[true, true, true, true, true, true, true, true, true, true, true, true, true, false, false, false, false, false, false, false, false, false, false, false, false, false]) 12 [0, 0] rfl (Gd.at 10 false 37 (!R23) rfl rfl rfl (beq_tf H26)) rfl rfl (by kernel_rfl) (by kernel_rfl) (by kernel_rfl) rfl rfl ?_
                refine TA.off (listed' := #[true, true, true, true, true, true, true, true, true, true, true, true, true, true, false, false, false, false, false, false, false, false, false, false, false, false]) 13 [0, 0] rfl (Gd.at 10 false 37 (!R23) rfl rfl rfl (beq_tf H26)) rfl rfl (by kernel_rfl) (by kernel_rfl) (by kernel_rfl) rfl rfl ?_
                refine TA.off (listed' := #[true, true, true, true, true, true, true, true, true, true, true, true, true, true, true, false, false, false, false, false, false, false, false, false, false, false]) 14 [0, 0] rfl (Gd.un 13 true 40 rfl rfl rfl) rfl rfl (by kernel_rfl) (by kernel_rfl) (by kernel_rfl) rfl rfl ?_
                refine TA.off (listed' := #[true, true, true, true, true, true, true, true, true, true, true, true, true, true, true, true, false, false, false, false, false, false, false, false, false, false]) 15 [0, 0] rfl (Gd.un 13 true 40 rfl rfl rfl) rfl rfl (by kernel_rfl) (by kernel_rfl) (by kernel_rfl) rfl rfl ?_
                refine TA.off (listed' := #[true, true, true, true, true, true, true, true, true, true, true, true, true, true, true, true, true, false, false, false, false, false, false, false, false, false]) 16 [0, 0] rfl (Gd.un 13 true 40 rfl rfl rfl) rfl rfl (by kernel_rfl) (by kernel_rfl) (by kernel_rfl) rfl rfl ?_
                refine TA.off (listed' := #[true, true, true, true, true, true, true, true, true, true, true, true, true, true, true, true, true, true, false, false, false, false, false, false, false, false]) 17 [0, 0] rfl (Gd.un 13 true 40 rfl rfl rfl) rfl rfl (by kernel_rfl) (by kernel_rfl) (by kernel_rfl) rfl rfl ?_
                refine TA.off (listed' := #[true, true, true, true, true, true, true, true, true, true, true, true, true, true, true, true, true, true, true, false, false, false, false, false, false, false]) 18 [0, 0] rfl (Gd.un 13 true 40 rfl rfl rfl) rfl rfl (by kernel_rfl) (by kernel_rfl) (by kernel_rfl) rfl rfl ?_
                refine TA.off (listed' := #[true, true, true, true, true, true, true, true, true, true, true, true, true, true, true, true, true, true, true, true, false, false, false, false, false, false]) 19 [0, 0] rfl (Gd.un 13 true 40 rfl rfl rfl) rfl rfl (by kernel_rfl) (by kernel_rfl) (by kernel_rfl) rfl rfl ?_
                refine TA.off (listed' := #[true, true, true, true, true, true, true, true, true, true, true, true, true, true, true, true, true, true, true, true, true, false, false, false, false, false]) 20 [0, 0] rfl (Gd.un 13 true 40 rfl rfl rfl) rfl rfl (by kernel_rfl) (by kernel_rfl) (by kernel_rfl) rfl rfl ?_
                refine TA.off (listed' := #[true, true, true, true, true, true, true, true, true, true, true, true, true, true, true, true, true, true, true, true, true, true, false, false, false, false]) 21 [0, 0] rfl (Gd.un 13 true 40 rfl rfl rfl) rfl rfl (by kernel_rfl) (by kernel_rfl) (by kernel_rfl) rfl rfl ?_
                refine TA.off (listed' := #[true, true, true, true, true, true, true, true, true, true, true, true, true, true, true, true, true, true, true, true, true, true, true, false, false, false]) 22 [0, 0] rfl (Gd.un 13 true 40 rfl rfl rfl) rfl rfl (by kernel_rfl) (by kernel_rfl) (by kernel_rfl) rfl rfl ?_
                refine TA.off (listed' := #[true, true, true, true, true, true, true, true, true, true, true, true, true, true, true, true, true, true, true, true, true, true, true, true, false, false]) 23 [0, 0] rfl (Gd.un 13 true 40 rfl rfl rfl) rfl rfl (by kernel_rfl) (by kernel_rfl) (by kernel_rfl) rfl rfl ?_
                refine TA.off (listed' := #[true, true, true, true, true, true, true, true, true, true, true, true, true, true, true, true, true, true, true, true, true, true, true, true, true, false]) 24 [0, 0] rfl (Gd.at 10 false 37 (!R23) rfl rfl rfl (beq_tf H26)) rfl rfl (by kernel_rfl) (by kernel_rfl) (by kernel_rfl) rfl rfl ?_
                refine TA.y (listed' := #[true, true, true, true, true, true, true, true, true, true, true, true, true, true, true, true, true, true, true, true, true, true, true, true, true, true]) 25 [0, 0] rfl (Y.pick_t H26 rfl rfl) rfl rfl rfl (by kernel_rfl) (by kernel_rfl) (by kernel_rfl) rfl rfl ?_
                refine TA.nil (by kernel_rfl) ?_
                exact TE.jb_go () [1] ⟨rfl, rfl, rfl, trivial⟩ rfl
              · refine TA.y (listed' := #[true, true, true, true, true, true, true, true, true, true, true, true, false, false, false, false, false, false, false, false, false, false, false, false, false, false]) 11 [0, 0] rfl (Y.move rfl) (Gd.at 10 false 37 (!R23) rfl rfl rfl (beq_ff H26)) rfl rfl (by kernel_rfl) (by kernel_rfl) (by kernel_rfl) rfl rfl ?_
                refine TA.y (listed' := #[true, true, true, true, true, true, true, true, true, true, true, true, true, false, false, false, false, false, false, false, false, false, false, false, false, false]) 12 [0, 0] rfl (Y.gtr rfl rfl) (Gd.at 10 false 37 (!R23) rfl rfl rfl (beq_ff H26)) rfl rfl (by kernel_rfl) (by kernel_rfl) (by kernel_rfl) rfl rfl ?_
                refine TA.y (listed' := #[true, true, true, true, true, true, true, true, true, true, true, true, true, true, false, false, false, false, false, false, false, false, false, false, false, false]) 13 [0, 0] rfl (Y.move rfl) (Gd.at 10 false 37 (!R23) rfl rfl rfl (beq_ff H26)) rfl rfl (by kernel_rfl) (by kernel_rfl) (by kernel_rfl) rfl rfl ?_
                refine TA.ite (b := decide (S9 > (0 : Int))) (fun H27 => ?_) (fun H27 => ?_)
                · refine TA.y (listed' := #[true, true, true, true, true, true, true, true, true, true, true, true, true, true, true, false, false, false, false, false, false, false, false, false, false, false]) 14 [0, 0] rfl (Y.field_box kf51_1 rfl rfl) (Gd.at 13 true 40 (decide (S9 > (0 : Int))) rfl rfl rfl (beq_tt H27)) rfl rfl (by kernel_rfl) (by kernel_rfl) (by kernel_rfl) rfl rfl ?_
                  refine TA.y (listed' := #[true, true, true, true, true, true, true, true, true, true, true, true, true, true, true, true, false, false, false, false, false, false, false, false, false, false]) 15 [0, 0] rfl (Y.load_box (v := V_s1) 1 kk49 rfl rfl rfl) (Gd.at 13 true 40 (decide (S9 > (0 : Int))) rfl rfl rfl (beq_tt H27)) rfl rfl (by kernel_rfl) (by kernel_rfl) (by kernel_rfl) rfl rfl ?_
                  refine TA.y (listed' := #[true, true, true, true, true, true, true, true, true, true, true, true, true, true, true, true, true, false, false, false, false, false, false, false, false, false]) 16 [0, 0] rfl (Y.move rfl) (Gd.at 13 true 40 (decide (S9 > (0 : Int))) rfl rfl rfl (beq_tt H27)) rfl rfl (by kernel_rfl) (by kernel_rfl) (by kernel_rfl) rfl rfl ?_
                  refine TA.y (listed' := #[true, true, true, true, true, true, true, true, true, true, true, true, true, true, true, true, true, true, false, false, false, false, false, false, false, false]) 17 [0, 0] rfl (Y.sub rfl rfl) (Gd.at 13 true 40 (decide (S9 > (0 : Int))) rfl rfl rfl (beq_tt H27)) rfl rfl (by kernel_rfl) (by kernel_rfl) (by kernel_rfl) rfl rfl ?_
                  refine TA.bind fun E28 H29 => ?_
                  refine TA.y (listed' := #[true, true, true, true, true, true, true, true, true, true, true, true, true, true, true, true, true, true, true, false, false, false, false, false, false, false]) 18 [0, 0] rfl (Y.index ke49 (Base.can HB_V_s1) H29 rfl rfl) (Gd.at 13 true 40 (decide (S9 > (0 : Int))) rfl rfl rfl (beq_tt H27)) rfl rfl (by kernel_rfl) (by kernel_rfl) (by kernel_rfl) rfl rfl ?_
                  refine TA.y (listed' := #[true, true, true, true, true, true, true, true, true, true, true, true, true, true, true, true, true, true, true, true, false, false, false, false, false, false]) 19 [0, 0] rfl (Y.field_el kf59_0 (Base.can HB_V_s1) (idx_get H29).2.2 rfl rfl) (Gd.at 13 true 40 (decide (S9 > (0 : Int))) rfl rfl rfl (beq_tt H27)) rfl rfl (by kernel_rfl) (by kernel_rfl) (by kernel_rfl) rfl rfl ?_
                  refine TA.y (listed' := #[true, true, true, true, true, true, true, true, true, true, true, true, true, true, true, true, true, true, true, true, true, false, false, false, false, false]) 20 [0, 0] rfl (Y.load_el (us := [.int .i64 E28.Tenant]) (u := .int .i64 E28.Tenant) kk3 rfl (Base.can HB_V_s1) (idx_get H29).2.2 rfl rfl rfl rfl rfl) (Gd.at 13 true 40 (decide (S9 > (0 : Int))) rfl rfl rfl (beq_tt H27)) rfl rfl (by kernel_rfl) (by kernel_rfl) (by kernel_rfl) rfl rfl ?_
                  refine TA.y (listed' := #[true, true, true, true, true, true, true, true, true, true, true, true, true, true, true, true, true, true, true, true, true, true, false, false, false, false]) 21 [0, 0] rfl (Y.field_box kf59_0 rfl rfl) (Gd.at 13 true 40 (decide (S9 > (0 : Int))) rfl rfl rfl (beq_tt H27)) rfl rfl (by kernel_rfl) (by kernel_rfl) (by kernel_rfl) rfl rfl ?_
                  refine TA.y (listed' := #[true, true, true, true, true, true, true, true, true, true, true, true, true, true, true, true, true, true, true, true, true, true, true, false, false, false]) 22 [0, 0] rfl (Y.load_box (v := .int .i64 E14.Tenant) 0 kk3 rfl rfl rfl) (Gd.at 13 true 40 (decide (S9 > (0 : Int))) rfl rfl rfl (beq_tt H27)) rfl rfl (by kernel_rfl) (by kernel_rfl) (by kernel_rfl) rfl rfl ?_
                  refine TA.y (listed' := #[true, true, true, true, true, true, true, true, true, true, true, true, true, true, true, true, true, true, true, true, true, true, true, true, false, false]) 23 [0, 0] rfl (Y.geq rfl rfl) (Gd.at 13 true 40 (decide (S9 > (0 : Int))) rfl rfl rfl (beq_tt H27)) rfl rfl (by kernel_rfl) (by kernel_rfl) (by kernel_rfl) rfl rfl ?_
                  refine TA.y (listed' := #[true, true, true, true, true, true, true, true, true, true, true, true, true, true, true, true, true, true, true, true, true, true, true, true, true, false]) 24 [0, 0] rfl (Y.pick_t H27 rfl rfl) (Gd.at 10 false 37 (!R23) rfl rfl rfl (beq_ff H26)) rfl rfl (by kernel_rfl) (by kernel_rfl) (by kernel_rfl) rfl rfl ?_
                  refine TA.y (listed' := #[true, true, true, true, true, true, true, true, true, true, true, true, true, true, true, true, true, true, true, true, true, true, true, true, true, true]) 25 [0, 0] rfl (Y.pick_f H26 rfl rfl) rfl rfl rfl (by kernel_rfl) (by kernel_rfl) (by kernel_rfl) rfl rfl ?_
                  refine TA.nil (by kernel_rfl) ?_
                  exact TE.jb_go () [1] ⟨rfl, rfl, rfl, trivial⟩ rfl
                · refine TA.off (listed' := #[true, true, true, true, true, true, true, true, true, true, true, true, true, true, true, false, false, false, false, false, false, false, false, false, false, false]) 14 [0, 0] rfl (Gd.at 13 true 40 (decide (S9 > (0 : Int))) rfl rfl rfl (beq_ft H27)) rfl rfl (by kernel_rfl) (by kernel_rfl) (by kernel_rfl) rfl rfl ?_
                  refine TA.off (listed' := #[true, true, true, true, true, true, true, true, true, true, true, true, true, true, true, true, false, false, false, false, false, false, false, false, false, false]) 15 [0, 0] rfl (Gd.at 13 true 40 (decide (S9 > (0 : Int))) rfl rfl rfl (beq_ft H27)) rfl rfl (by kernel_rfl) (by kernel_rfl) (by kernel_rfl) rfl rfl ?_
                  refine TA.off (listed' := #[true, true, true, true, true, true, true, true, true, true, true, true, true, true, true, true, true, false, false, false, false, false, false, false, false, false]) 16 [0, 0] rfl (Gd.at 13 true 40 (decide (S9 > (0 : Int))) rfl rfl rfl (beq_ft H27)) rfl rfl (by kernel_rfl) (by kernel_rfl) (by kernel_rfl) rfl rfl ?_
                  refine TA.off (listed' := #[true, true, true, true, true, true, true, true, true, true, true, true, true, true, true, true, true, true, false, false, false, false, false, false, false, false]) 17 [0, 0] rfl (Gd.at 13 true 40 (decide (S9 > (0 : Int))) rfl rfl rfl (beq_ft H27)) rfl rfl (by kernel_rfl) (by kernel_rfl) (by kernel_rfl) rfl rfl ?_
                  refine TA.off (listed' := #[true, true, true, true, true, true, true, true, true, true, true, true, true, true, true, true, true, true, true, false, false, false, false, false, false, false]) 18 [0, 0] rfl (Gd.at 13 true 40 (decide (S9 > (0 : Int))) rfl rfl rfl (beq_ft H27)) rfl rfl (by kernel_rfl) (by kernel_rfl) (by kernel_rfl) rfl rfl ?_
                  refine TA.off (listed' := #[true, true, true, true, true, true, true, true, true, true, true, true, true, true, true, true, true, true, true, true, false, false, false, false, false, false]) 19 [0, 0] rfl (Gd.at 13 true 40 (decide (S9 > (0 : Int))) rfl rfl rfl (beq_ft H27)) rfl rfl (by kernel_rfl) (by kernel_rfl) (by kernel_rfl) rfl rfl ?_
                  refine TA.off (listed' := #[true, true, true, true, true, true, true, true, true, true, true, true, true, true, true, true, true, true, true, true, true, false, false, false, false, false]) 20 [0, 0] rfl (Gd.at 13 true 40 (decide (S9 > (0 : Int))) rfl rfl rfl (beq_ft H27)) rfl rfl (by kernel_rfl) (by kernel_rfl) (by kernel_rfl) rfl rfl ?_
                  refine TA.off (listed' := #[true, true, true, true, true, true, true, true, true, true, true, true, true, true, true, true, true, true, true, true, true, true, false, false, false, false]) 21 [0, 0] rfl (Gd.at 13 true 40 (decide (S9 > (0 : Int))) rfl rfl rfl (beq_ft H27)) rfl rfl (by kernel_rfl) (by kernel_rfl) (by kernel_rfl) rfl rfl ?_
                  refine TA.off (listed' := #[true, true, true, true, true, true, true, true, true, true, true, true, true, true, true, true, true, true, true, true, true, true, true, false, false, false]) 22 [0, 0] rfl (Gd.at 13 true 40 (decide (S9 > (0 : Int))) rfl rfl rfl (beq_ft H27)) rfl rfl (by kernel_rfl) (by kernel_rfl) (by kernel_rfl) rfl rfl ?_
                  refine TA.off (listed' := #[true, true, true, true, true, true, true, true, true, true, true, true, true, true, true, true, true, true, true, true, true, true, true, true, false, false]) 23 [0, 0] rfl (Gd.at 13 true 40 (decide (S9 > (0 : Int))) rfl rfl rfl (beq_ft H27)) rfl rfl (by kernel_rfl) (by kernel_rfl) (by kernel_rfl) rfl rfl ?_
                  refine TA.y (listed' := #[true, true, true, true, true, true, true, true, true, true, true, true, true, true, true, true, true, true, true, true, true, true, true, true, true, false]) 24 [0, 0] rfl (Y.pick_f H27 rfl rfl) (Gd.at 10 false 37 (!R23) rfl rfl rfl (beq_ff H26)) rfl rfl (by kernel_rfl) (by kernel_rfl) (by kernel_rfl) rfl rfl ?_
                  refine TA.y (listed' := #[true, true, true, true, true, true, true, true, true, true, true, true, true, true, true, true, true, true, true, true, true, true, true, true, true, true]) 25 [0, 0] rfl (Y.pick_f H26 rfl rfl) rfl rfl rfl (by kernel_rfl) (by kernel_rfl) (by kernel_rfl) rfl rfl ?_
                  refine TA.nil (by kernel_rfl) ?_
                  exact TE.jb_go () [1] ⟨rfl, rfl, rfl, trivial⟩ rfl
          · refine TE.next ?_
            refine TW.cond rfl (fun H30 => ?_) (fun H30 => ?_)
            · refine TW.seq ?_
              refine TW.region ?_
              refine TO.y (Y.assign rfl) rfl rfl rfl ?_
              refine TO.nil ?_
              refine TE.next ?_
              refine TW.ret ?_
              refine TE.block_ret ?_
              refine TE.then_ret ?_
              refine TE.lp_ret ?_
              refine TE.block_ret ?_
              refine TE.jn_done ?_
              refine TE.then_ret ?_
              exact TE.leaf fun _ _ hf_ hs_ => ret_any (rs := [.tmp 2]) (vs := [.bool false]) (.inl rfl) rfl ⟨rfl, trivial⟩ hf_ hs_ ⟨(), rfl, hs_.pulls [] rfl⟩
            · refine TW.skip ?_
              refine TE.block_normal ?_
              refine TE.next ?_
              refine TW.region ?_
              refine TO.y (Y.move rfl) rfl rfl rfl ?_
              refine TO.y (Y.add rfl rfl) rfl rfl rfl ?_
              refine TO.y (Y.assign rfl) rfl rfl rfl ?_
              refine TO.nil ?_
              exact TE.lp_go () [0] ⟨rfl, rfl, trivial⟩ rfl
        · refine TW.exit ?_
          refine TE.then_exit ?_
          refine TE.lp_exit ?_
          refine TE.block_exit ?_
          exact TE.jn_go () [0] ⟨rfl, trivial⟩ rfl
      · refine TE.next ?_
        refine TW.seq ?_
        refine TW.draw (isH := [.box B1 51 [.int .i64 s.Size, V_s1]]) hMix ?_
        refine TA.y (listed' := #[true, false, false, false, false, false]) 0 [0] rfl (Y.load_box (v := .agg #[.int .i64 s.Size, V_s1]) 0 kk51 rfl rfl rfl) rfl rfl rfl (by kernel_rfl) (by kernel_rfl) (by kernel_rfl) rfl rfl ?_
        refine TA.y (listed' := #[true, false, true, false, false, false]) 2 [0] rfl (Y.field_box kf51_0 rfl rfl) rfl rfl rfl (by kernel_rfl) (by kernel_rfl) (by kernel_rfl) rfl rfl ?_
        refine TA.y (listed' := #[true, false, true, true, false, false]) 3 [0] rfl (Y.load_box (v := .int .i64 s.Size) 0 kk3 rfl rfl rfl) rfl rfl rfl (by kernel_rfl) (by kernel_rfl) (by kernel_rfl) rfl rfl ?_
        refine TA.bind fun R31 H32 => ?_
        refine TA.one 1 (by kernel_rfl) ?_
        refine TX.ef (listed' := #[true, true, true, true, false, false]) [0] rfl (Ef.call (rest := [.box B1 51 [.int .i64 s.Size, V_s1]]) [0] (spec_l19All_con s V_s1 R31 H32) kc61 rfl rfl ⟨(Base.can HB_V_s1), trivial⟩) rfl rfl rfl rfl (fun _ => rfl) (fun _ => ?_)
        refine TA.y (listed' := #[true, true, true, true, true, false]) 4 [0] rfl (Y.leq rfl rfl) rfl rfl rfl (by kernel_rfl) (by kernel_rfl) (by kernel_rfl) rfl rfl ?_
        refine TA.y (listed' := #[true, true, true, true, true, true]) 5 [0] rfl (Y.assign rfl) rfl rfl rfl (by kernel_rfl) (by kernel_rfl) (by kernel_rfl) rfl rfl ?_
        refine TA.nil (by kernel_rfl) ?_
        refine TE.next ?_
        refine TW.ret ?_
        exact TE.leaf fun _ _ hf_ hs_ => ret_any (rs := [.tmp 2]) (vs := [.bool (decide (R31 ≤ s.Size))]) (.inl rfl) rfl ⟨rfl, trivial⟩ hf_ hs_ ⟨(), rfl, hs_.pulls [] rfl⟩

/-- loop.example/g00950/spec.l19Copy -/
noncomputable def spec_l19Copy (s : Shares) : Option Shares :=
  (app 16 ([] : List Share) s.List).bind fun E5 =>
  some ({ Size := s.Size, List := E5 : Shares })

theorem spec_l19Copy_con (s : Shares) (V_s1 : Value) (r : Shares) (hm : spec_l19Copy s = some r) :
    Con Try.prog 59 [.agg #[.int .i64 s.Size, V_s1]] [] [(V_s1, lc s.List)] (fun X : Value => .agg #[.int .i64 r.Size, X]) (fun X => [.own X (lc r.List)]) := by
  refine Con.intro (args := [.agg #[.int .i64 s.Size, V_s1]]) (n := 10) (val := fun r (X : Value) => .agg #[.int .i64 r.Size, X]) (post := fun r X => [.own X (lc r.List)]) (m := spec_l19Copy s) Try.func59 rfl rfl rfl hm ?_
  intro w S hrd
  have HB_V_s1 := hrd _ (.head _)
  clear hrd
  unfold spec_l19Copy
  refine TW.seq ?_
  refine TW.region ?_
  refine TO.ef (Ef.box rfl (Cel.agg ⟨(One.plain rfl), (One.can (Base.can HB_V_s1)), trivial⟩)) rfl rfl rfl (fun B1 => ?_)
  refine TO.ef (Ef.alloc kz51 rfl) rfl rfl rfl (fun B2 => ?_)
  refine TO.nil ?_
  refine TE.next ?_
  refine TW.seq ?_
  refine TW.draw (isH := [.box B1 51 [.int .i64 s.Size, V_s1]]) hMix ?_
  refine TA.y (listed' := #[true, false, false, false, false, false, false, false]) 0 [1] rfl (Y.field_box kf51_0 rfl rfl) rfl rfl rfl (by kernel_rfl) (by kernel_rfl) (by kernel_rfl) rfl rfl ?_
  refine TA.y (listed' := #[true, true, false, false, false, false, false, false]) 1 [1] rfl (Y.load_box (v := .int .i64 s.Size) 0 kk3 rfl rfl rfl) rfl rfl rfl (by kernel_rfl) (by kernel_rfl) (by kernel_rfl) rfl rfl ?_
  refine TA.y (listed' := #[true, true, false, true, false, false, false, false]) 3 [1] rfl (Y.field_box kf51_1 rfl rfl) rfl rfl rfl (by kernel_rfl) (by kernel_rfl) (by kernel_rfl) rfl rfl ?_
  refine TA.y (listed' := #[true, true, false, true, true, false, false, false]) 4 [1] rfl (Y.load_box (v := V_s1) 0 kk49 rfl rfl rfl) rfl rfl rfl (by kernel_rfl) (by kernel_rfl) (by kernel_rfl) rfl rfl ?_
  refine TA.one 2 (by kernel_rfl) ?_
  refine TX.ef (listed' := #[true, true, true, true, true, false, false, false]) [2] rfl (Ef.buildSlice (α := Share) (Vs := []) ([] : List Share) ke49 kz59 rfl rfl rfl rfl rfl) rfl rfl rfl rfl (fun _ => rfl) (fun B3 => ?_)
  refine TA.bind fun E5 H6 => ?_
  refine TA.one 5 (by kernel_rfl) ?_
  refine TX.ef (listed' := #[true, true, true, true, true, true, false, false]) [2] rfl (Ef.append (α := Share) (is' := [.box B2 51 [.int .i64 (0 : Int), .slice none 0 0], .box B1 51 [.int .i64 s.Size, V_s1]]) [0, 0, 0] H6 ke49 kz59 rfl rfl rfl rfl rfl (Base.can HB_V_s1)) rfl rfl rfl rfl (fun _ => rfl) (fun V4 => ?_)
  refine TA.one 6 (by kernel_rfl) ?_
  refine TX.y (listed' := #[true, true, true, true, true, true, true, false]) [2] rfl (Y.build (cells := [.int .i64 s.Size, V4]) [(0, [.int .i64 s.Size]), (1, [V4])] kp51 kz51 ⟨rfl, ⟨_, rfl, (Cel.plain rfl rfl)⟩, ⟨rfl, ⟨_, rfl, (Cel.one (One.can (Can.own 0 rfl)))⟩, trivial⟩⟩ rfl) rfl rfl rfl rfl rfl ?_
  refine TA.one 7 (by kernel_rfl) ?_
  refine TX.ef0 (listed' := #[true, true, true, true, true, true, true, true]) [2] rfl (Ef.store_box (us := [.int .i64 s.Size, V4]) (vs' := [.int .i64 s.Size, V4]) (is' := [.own V4 (lc E5), .box B2 51 [.int .i64 s.Size, V4], .box B1 51 [.int .i64 s.Size, V_s1]]) 1 kk51 rfl rfl rfl (Cel.agg ⟨(One.plain rfl), (One.can (Can.own 0 rfl)), trivial⟩) rfl rfl rfl rfl) rfl rfl rfl (fun _ => rfl) (fun _ => ?_)
  refine TA.nil (by kernel_rfl) ?_
  refine TE.next ?_
  refine TW.ret ?_
  exact TE.leaf fun _ _ hf_ hs_ => ret_any (rs := [.cell 2 51]) (vs := [.agg #[.int .i64 s.Size, V4]]) (.inl rfl) rfl (RV.cell 1 rfl rfl kk51 rfl trivial) hf_ hs_ ⟨V4, rfl, hs_.pulls [0] rfl⟩

/-- loop.example/g00950/spec.ShareSet -/
noncomputable def spec_ShareSet (s : Shares) (tenant : Int) (quota : Int) : Option (Shares × Bool) :=
  (spec_SharesOk s).bind fun R3 =>
  if (!R3) = true then (some ({ Size := (0 : Int), List := ([] : List Share) : Shares }, false))
  else (bindC (loopO (fun (S9 : Bool × Int × List Share) => if (decide (S9.2.1 < ((s.List.length : Nat) : Int))) = true then ((if (!S9.1) = true then ((idx s.List S9.2.1).bind fun E17 =>
  some (decide (E17.Tenant ≥ tenant)))
  else (some false)).bind (fun (T14 : Bool) =>
  bindC (if T14 = true then ((app 16 S9.2.2 ([{ Tenant := tenant, Quota := quota : Share }])).bind fun E24 =>
  some (.go (true, E24)))
  else (some (.go (S9.1, S9.2.2))))
  (fun (T19 : Bool × List Share) => (idx s.List S9.2.1).bind fun E26 =>
  bindC (if (!(decide (E26.Tenant = tenant))) = true then ((app 16 T19.2 ([E26])).bind fun E34 =>
  some (.go E34))
  else (some (.go T19.2)))
  (fun (T28 : List Share) => some (.go (T19.1, IntKind.i64.wrap (S9.2.1 + (1 : Int)), T28))))))
  else (some (.done (.go (S9.1, S9.2.2)))))
  (false, (0 : Int), ([] : List Share)))
  (fun (T11 : Bool × List Share) => bindC (if (!T11.1) = true then ((app 16 T11.2 ([{ Tenant := tenant, Quota := quota : Share }])).bind fun E44 =>
  some (.go E44))
  else (some (.go T11.2)))
  (fun (T39 : List Share) => (spec_SharesOk ({ Size := s.Size, List := T39 : Shares })).bind fun R46 =>
  if (!R46) = true then ((spec_l19Copy s).bind fun R50 =>
  some (R50, false))
  else (some ({ Size := s.Size, List := T39 : Shares }, true)))))

theorem spec_ShareSet_con (s : Shares) (tenant : Int) (quota : Int) (V_s1 : Value) (r : Shares × Bool) (hm : spec_ShareSet s tenant quota = some r) :
    Con Try.prog 24 [.agg #[.int .i64 s.Size, V_s1], .int .i64 tenant, .int .i64 quota] [] [(V_s1, lc s.List)] (fun X : Value => .tuple #[.agg #[.int .i64 r.1.Size, X], .bool r.2]) (fun X => [.own X (lc r.1.List)]) := by
  refine Con.intro (args := [.agg #[.int .i64 s.Size, V_s1], .int .i64 tenant, .int .i64 quota]) (n := 79) (val := fun r (X : Value) => .tuple #[.agg #[.int .i64 r.1.Size, X], .bool r.2]) (post := fun r X => [.own X (lc r.1.List)]) (m := spec_ShareSet s tenant quota) Try.func24 rfl rfl rfl hm ?_
  intro w S hrd
  have HB_V_s1 := hrd _ (.head _)
  clear hrd
  unfold spec_ShareSet
  refine TW.seq ?_
  refine TW.region ?_
  refine TO.ef (Ef.box rfl (Cel.agg ⟨(One.plain rfl), (One.can (Base.can HB_V_s1)), trivial⟩)) rfl rfl rfl (fun B1 => ?_)
  refine TO.ef (Ef.alloc kz51 rfl) rfl rfl rfl (fun B2 => ?_)
  refine TO.y (Y.assign rfl) rfl rfl rfl ?_
  refine TO.nil ?_
  refine TE.next ?_
  refine TW.seq ?_
  refine TW.seq ?_
  refine TW.region ?_
  refine TO.y (Y.load_box (v := .agg #[.int .i64 s.Size, V_s1]) 1 kk51 rfl rfl rfl) rfl rfl rfl ?_
  refine TO.bind fun R3 H4 => ?_
  refine TO.ef (Ef.call (rest := [.box B2 51 [.int .i64 (0 : Int), .slice none 0 0], .box B1 51 [.int .i64 s.Size, V_s1]]) [0, 0] (spec_SharesOk_con s V_s1 R3 H4) kc25 rfl rfl ⟨(Base.can HB_V_s1), trivial⟩) rfl rfl rfl (fun _ => ?_)
  refine TO.y (Y.not rfl) rfl rfl rfl ?_
  refine TO.nil ?_
  refine TE.next ?_
  refine TW.cond rfl (fun H6 => ?_) (fun H6 => ?_)
  · refine TW.seq ?_
    refine TW.region ?_
    refine TO.y (Y.build (cells := [.int .i64 (0 : Int), .slice none 0 0]) [] kp51 kz51 trivial rfl) rfl rfl rfl ?_
    refine TO.ef0 (Ef.store_box (us := [.int .i64 (0 : Int), .slice none 0 0]) (vs' := [.int .i64 (0 : Int), .slice none 0 0]) (is' := [.box B2 51 [.int .i64 (0 : Int), .slice none 0 0], .box B1 51 [.int .i64 s.Size, V_s1]]) 0 kk51 rfl rfl rfl (Cel.plain rfl rfl) rfl rfl rfl rfl) rfl rfl (fun _ => ?_)
    refine TO.y (Y.assign rfl) rfl rfl rfl ?_
    refine TO.nil ?_
    refine TE.next ?_
    refine TW.ret ?_
    refine TE.then_ret ?_
    exact TE.leaf fun _ _ hf_ hs_ => ret_any (rs := [.cell 6 51, .tmp 7]) (vs := [.agg #[.int .i64 (0 : Int), .slice none 0 0], .bool false]) (.inl rfl) rfl (RV.cell 0 rfl rfl kk51 rfl ⟨rfl, trivial⟩) hf_ hs_ ⟨(.slice none 0 0), rfl, (hs_.nilItem 2).pulls [0] rfl⟩
  · refine TW.skip ?_
    refine TE.next ?_
    refine TW.seq ?_
    refine TW.region ?_
    refine TO.y (Y.field_box kf51_0 rfl rfl) rfl rfl rfl ?_
    refine TO.y (Y.load_box (v := .int .i64 s.Size) 1 kk3 rfl rfl rfl) rfl rfl rfl ?_
    refine TO.y (Y.build (cells := [.int .i64 s.Size, .slice none 0 0]) [(0, [.int .i64 s.Size])] kp51 kz51 ⟨rfl, ⟨_, rfl, (Cel.plain rfl rfl)⟩, trivial⟩ rfl) rfl rfl rfl ?_
    refine TO.ef (Ef.alloc kz51 rfl) rfl rfl rfl (fun B8 => ?_)
    refine TO.ef0 (Ef.store_box (us := [.int .i64 s.Size, .slice none 0 0]) (vs' := [.int .i64 s.Size, .slice none 0 0]) (is' := [.box B8 51 [.int .i64 s.Size, .slice none 0 0], .box B2 51 [.int .i64 (0 : Int), .slice none 0 0], .box B1 51 [.int .i64 s.Size, V_s1]]) 0 kk51 rfl rfl rfl (Cel.plain rfl rfl) rfl rfl rfl rfl) rfl rfl (fun _ => ?_)
    refine TO.nil ?_
    refine TE.next ?_
    refine TW.seq ?_
    refine TW.region ?_
    refine TO.y (Y.assign rfl) rfl rfl rfl ?_
    refine TO.nil ?_
    refine TE.next ?_
    refine TW.seq ?_
    refine TW.seq ?_
    refine TW.region ?_
    refine TO.y (Y.assign rfl) rfl rfl rfl ?_
    refine TO.nil ?_
    refine TE.next ?_
    refine TW.joinX (τ := Bool × List Share) (X := Value) (fun T _ => [(1, .int .i64 tenant), (2, .int .i64 quota), (3, .pointer (some ⟨B1, 0, none⟩)), (6, .pointer (some ⟨B2, 0, none⟩)), (8, .pointer (some ⟨B8, 0, none⟩)), (9, .bool T.1)]) (fun T X => [.box B1 51 [.int .i64 s.Size, V_s1], .box B2 51 [.int .i64 (0 : Int), .slice none 0 0], .box B8 51 [.int .i64 s.Size, X], .own X (lc T.2)]) ?_ (fun T11 X12 => ?_)
    · refine TW.block ?_
      refine TW.nilItem 2 ?_
      refine TW.loopX (σ := Bool × Int × List Share) (X := Value) (fun T _ => [(1, .int .i64 tenant), (2, .int .i64 quota), (3, .pointer (some ⟨B1, 0, none⟩)), (6, .pointer (some ⟨B2, 0, none⟩)), (8, .pointer (some ⟨B8, 0, none⟩)), (9, .bool T.1), (10, .int .i64 T.2.1)]) (fun T X => [.box B1 51 [.int .i64 s.Size, V_s1], .box B2 51 [.int .i64 (0 : Int), .slice none 0 0], .box B8 51 [.int .i64 s.Size, X], .own X (lc T.2.2)]) (.slice none 0 0) [3, 2, 1, 0] ⟨rfl, rfl, rfl, rfl, rfl, rfl, rfl, trivial⟩ rfl (fun S9 X10 => ?_)
      refine TW.seq ?_
      refine TW.seq ?_
      refine TW.region ?_
      refine TO.y (Y.move rfl) rfl rfl rfl ?_
      refine TO.y (Y.field_box kf51_1 rfl rfl) rfl rfl rfl ?_
      refine TO.y (Y.load_box (v := V_s1) 0 kk49 rfl rfl rfl) rfl rfl rfl ?_
      refine TO.y (Y.len (l := s.List) ke49 (Base.can HB_V_s1) rfl) rfl rfl rfl ?_
      refine TO.y (Y.lss rfl rfl) rfl rfl rfl ?_
      refine TO.nil ?_
      refine TE.next ?_
      refine TW.cond rfl (fun H13 => ?_) (fun H13 => ?_)
      · refine TW.skip ?_
        refine TE.next ?_
        refine TW.seq ?_
        refine TW.block ?_
        refine TW.seq ?_
        refine TW.seq ?_
        refine TW.joinBX (τ := Bool) (X := Unit) (fun T _ => [(1, .int .i64 tenant), (2, .int .i64 quota), (3, .pointer (some ⟨B1, 0, none⟩)), (6, .pointer (some ⟨B2, 0, none⟩)), (8, .pointer (some ⟨B8, 0, none⟩)), (9, .bool S9.1), (10, .int .i64 S9.2.1), (36, .bool T)]) (fun _ _ => [.box B1 51 [.int .i64 s.Size, V_s1], .box B2 51 [.int .i64 (0 : Int), .slice none 0 0], .box B8 51 [.int .i64 s.Size, X10], .own X10 (lc S9.2.2)]) ?_ (fun T14 X15 => ?_)
        · refine TW.region ?_
          refine TO.y (Y.move rfl) rfl rfl rfl ?_
          refine TO.y (Y.not rfl) rfl rfl rfl ?_
          refine TO.y (Y.move rfl) rfl rfl rfl ?_
          refine TO.ite (b := !S9.1) (fun H16 => ?_) (fun H16 => ?_)
          · refine TO.y (Y.field_box kf51_1 rfl rfl) (Gd.at 2 true 27 (!S9.1) rfl rfl rfl (beq_tt H16)) rfl rfl ?_
            refine TO.y (Y.load_box (v := V_s1) 0 kk49 rfl rfl rfl) (Gd.at 2 true 27 (!S9.1) rfl rfl rfl (beq_tt H16)) rfl rfl ?_
            refine TO.y (Y.move rfl) (Gd.at 2 true 27 (!S9.1) rfl rfl rfl (beq_tt H16)) rfl rfl ?_
            refine TO.bind fun E17 H18 => ?_
            refine TO.y (Y.index ke49 (Base.can HB_V_s1) H18 rfl rfl) (Gd.at 2 true 27 (!S9.1) rfl rfl rfl (beq_tt H16)) rfl rfl ?_
            refine TO.y (Y.field_el kf59_0 (Base.can HB_V_s1) (idx_get H18).2.2 rfl rfl) (Gd.at 2 true 27 (!S9.1) rfl rfl rfl (beq_tt H16)) rfl rfl ?_
            refine TO.y (Y.load_el (us := [.int .i64 E17.Tenant]) (u := .int .i64 E17.Tenant) kk3 rfl (Base.can HB_V_s1) (idx_get H18).2.2 rfl rfl rfl rfl rfl) (Gd.at 2 true 27 (!S9.1) rfl rfl rfl (beq_tt H16)) rfl rfl ?_
            refine TO.y (Y.move rfl) (Gd.at 2 true 27 (!S9.1) rfl rfl rfl (beq_tt H16)) rfl rfl ?_
            refine TO.y (Y.geq rfl rfl) (Gd.at 2 true 27 (!S9.1) rfl rfl rfl (beq_tt H16)) rfl rfl ?_
            refine TO.y (Y.pick_t H16 rfl rfl) rfl rfl rfl ?_
            refine TO.nil ?_
            exact TE.jb_go () [0, 0, 0, 0] ⟨rfl, rfl, rfl, rfl, rfl, rfl, rfl, rfl, trivial⟩ rfl
          · refine TO.off (Gd.at 2 true 27 (!S9.1) rfl rfl rfl (beq_ft H16)) rfl rfl ?_
            refine TO.off (Gd.at 2 true 27 (!S9.1) rfl rfl rfl (beq_ft H16)) rfl rfl ?_
            refine TO.off (Gd.at 2 true 27 (!S9.1) rfl rfl rfl (beq_ft H16)) rfl rfl ?_
            refine TO.off (Gd.at 2 true 27 (!S9.1) rfl rfl rfl (beq_ft H16)) rfl rfl ?_
            refine TO.off (Gd.at 2 true 27 (!S9.1) rfl rfl rfl (beq_ft H16)) rfl rfl ?_
            refine TO.off (Gd.at 2 true 27 (!S9.1) rfl rfl rfl (beq_ft H16)) rfl rfl ?_
            refine TO.off (Gd.at 2 true 27 (!S9.1) rfl rfl rfl (beq_ft H16)) rfl rfl ?_
            refine TO.off (Gd.at 2 true 27 (!S9.1) rfl rfl rfl (beq_ft H16)) rfl rfl ?_
            refine TO.y (Y.pick_f H16 rfl rfl) rfl rfl rfl ?_
            refine TO.nil ?_
            exact TE.jb_go () [0, 0, 0, 0] ⟨rfl, rfl, rfl, rfl, rfl, rfl, rfl, rfl, trivial⟩ rfl
        · refine TE.next ?_
          refine TW.joinX (τ := Bool × List Share) (X := Value) (fun T _ => [(1, .int .i64 tenant), (2, .int .i64 quota), (3, .pointer (some ⟨B1, 0, none⟩)), (6, .pointer (some ⟨B2, 0, none⟩)), (8, .pointer (some ⟨B8, 0, none⟩)), (9, .bool T.1), (10, .int .i64 S9.2.1)]) (fun T X => [.box B1 51 [.int .i64 s.Size, V_s1], .box B2 51 [.int .i64 (0 : Int), .slice none 0 0], .box B8 51 [.int .i64 s.Size, X], .own X (lc T.2)]) ?_ (fun T19 X20 => ?_)
          · refine TW.cond rfl (fun H21 => ?_) (fun H21 => ?_)
            · refine TW.seq ?_
              refine TW.region ?_
              refine TO.y (Y.field_box kf51_1 rfl rfl) rfl rfl rfl ?_
              refine TO.y (Y.load_box (v := X10) 2 kk49 rfl rfl rfl) rfl rfl rfl ?_
              refine TO.y (Y.move rfl) rfl rfl rfl ?_
              refine TO.y (Y.move rfl) rfl rfl rfl ?_
              refine TO.y (Y.build (cells := [.int .i64 tenant, .int .i64 quota]) [(0, [.int .i64 tenant]), (1, [.int .i64 quota])] kp59 kz59 ⟨rfl, ⟨_, rfl, (Cel.plain rfl rfl)⟩, ⟨rfl, ⟨_, rfl, (Cel.plain rfl rfl)⟩, trivial⟩⟩ rfl) rfl rfl rfl ?_
              refine TO.ef (Ef.buildSlice (α := Share) (Vs := [.agg #[.int .i64 tenant, .int .i64 quota]]) [{ Tenant := tenant, Quota := quota : Share }] ke49 kz59 rfl rfl rfl rfl rfl) rfl rfl rfl (fun B22 => ?_)
              refine TO.bind fun E24 H25 => ?_
              refine TO.ef (Ef.append (α := Share) (is' := [.own (.slice (some ⟨B22, 0, none⟩) 1 1) (lc ([{ Tenant := tenant, Quota := quota : Share }])), .box B1 51 [.int .i64 s.Size, V_s1], .box B2 51 [.int .i64 (0 : Int), .slice none 0 0], .box B8 51 [.int .i64 s.Size, X10]]) [4, 0, 0, 0, 0] H25 ke49 kz59 rfl rfl rfl rfl rfl (Can.own 0 rfl)) rfl rfl rfl (fun V23 => ?_)
              refine TO.y (Y.field_box kf51_1 rfl rfl) rfl rfl rfl ?_
              refine TO.ef0 (Ef.store_box (us := [V23]) (vs' := [.int .i64 s.Size, V23]) (is' := [.own V23 (lc E24), .own (.slice (some ⟨B22, 0, none⟩) 1 1) (lc ([{ Tenant := tenant, Quota := quota : Share }])), .box B1 51 [.int .i64 s.Size, V_s1], .box B2 51 [.int .i64 (0 : Int), .slice none 0 0], .box B8 51 [.int .i64 s.Size, V23]]) 4 kk49 rfl rfl rfl (Cel.one (One.can (Can.own 0 rfl))) rfl rfl rfl rfl) rfl rfl (fun _ => ?_)
              refine TO.nil ?_
              refine TE.next ?_
              refine TW.region ?_
              refine TO.y (Y.assign rfl) rfl rfl rfl ?_
              refine TO.nil ?_
              exact TE.jn_go V23 [2, 2, 2, 0] ⟨rfl, rfl, rfl, rfl, rfl, rfl, rfl, trivial⟩ rfl
            · refine TW.skip ?_
              exact TE.jn_go X10 [0, 0, 0, 0] ⟨rfl, rfl, rfl, rfl, rfl, rfl, rfl, trivial⟩ rfl
          · refine TE.next ?_
            refine TW.seq ?_
            refine TW.region ?_
            refine TO.y (Y.field_box kf51_1 rfl rfl) rfl rfl rfl ?_
            refine TO.y (Y.load_box (v := V_s1) 0 kk49 rfl rfl rfl) rfl rfl rfl ?_
            refine TO.y (Y.move rfl) rfl rfl rfl ?_
            refine TO.bind fun E26 H27 => ?_
            refine TO.y (Y.index ke49 (Base.can HB_V_s1) H27 rfl rfl) rfl rfl rfl ?_
            refine TO.y (Y.field_el kf59_0 (Base.can HB_V_s1) (idx_get H27).2.2 rfl rfl) rfl rfl rfl ?_
            refine TO.y (Y.load_el (us := [.int .i64 E26.Tenant]) (u := .int .i64 E26.Tenant) kk3 rfl (Base.can HB_V_s1) (idx_get H27).2.2 rfl rfl rfl rfl rfl) rfl rfl rfl ?_
            refine TO.y (Y.move rfl) rfl rfl rfl ?_
            refine TO.y (Y.neq rfl rfl) rfl rfl rfl ?_
            refine TO.nil ?_
            refine TE.next ?_
            refine TW.joinX (τ := List Share) (X := Value) (fun _ _ => [(1, .int .i64 tenant), (2, .int .i64 quota), (3, .pointer (some ⟨B1, 0, none⟩)), (6, .pointer (some ⟨B2, 0, none⟩)), (8, .pointer (some ⟨B8, 0, none⟩)), (9, .bool T19.1), (10, .int .i64 S9.2.1)]) (fun T X => [.box B1 51 [.int .i64 s.Size, V_s1], .box B2 51 [.int .i64 (0 : Int), .slice none 0 0], .box B8 51 [.int .i64 s.Size, X], .own X (lc T)]) ?_ (fun T28 X29 => ?_)
            · refine TW.cond rfl (fun H30 => ?_) (fun H30 => ?_)
              · refine TW.bind fun E34 H35 => ?_
                refine TW.joinU (X := Value) (fun _ _ => [(1, .int .i64 tenant), (2, .int .i64 quota), (3, .pointer (some ⟨B1, 0, none⟩)), (6, .pointer (some ⟨B2, 0, none⟩)), (8, .pointer (some ⟨B8, 0, none⟩)), (9, .bool T19.1), (10, .int .i64 S9.2.1)]) (fun _ X => [.box B1 51 [.int .i64 s.Size, V_s1], .box B2 51 [.int .i64 (0 : Int), .slice none 0 0], .box B8 51 [.int .i64 s.Size, X], .own X (lc E34)]) ?_ (fun _ X37 => ?_)
                · refine TW.draw (isH := [.box B1 51 [.int .i64 s.Size, V_s1], .box B2 51 [.int .i64 (0 : Int), .slice none 0 0]]) hMix ?_
                  refine TA.y (listed' := #[true, false, false, false, false, false, false, false, false, false, false]) 0 [0, 0] rfl (Y.field_box kf51_1 rfl rfl) rfl rfl rfl (by kernel_rfl) (by kernel_rfl) (by kernel_rfl) rfl rfl ?_
                  refine TA.y (listed' := #[true, false, true, false, false, false, false, false, false, false, false]) 2 [0, 0] rfl (Y.field_box kf51_1 rfl rfl) rfl rfl rfl (by kernel_rfl) (by kernel_rfl) (by kernel_rfl) rfl rfl ?_
                  refine TA.y (listed' := #[true, false, true, true, false, false, false, false, false, false, false]) 3 [0, 0] rfl (Y.load_box (v := V_s1) 0 kk49 rfl rfl rfl) rfl rfl rfl (by kernel_rfl) (by kernel_rfl) (by kernel_rfl) rfl rfl ?_
                  refine TA.y (listed' := #[true, false, true, true, true, false, false, false, false, false, false]) 4 [0, 0] rfl (Y.move rfl) rfl rfl rfl (by kernel_rfl) (by kernel_rfl) (by kernel_rfl) rfl rfl ?_
                  refine TA.y (listed' := #[true, false, true, true, true, true, false, false, false, false, false]) 5 [0, 0] rfl (Y.index ke49 (Base.can HB_V_s1) H27 rfl rfl) rfl rfl rfl (by kernel_rfl) (by kernel_rfl) (by kernel_rfl) rfl rfl ?_
                  refine TA.y (listed' := #[true, false, true, true, true, true, true, false, false, false, false]) 6 [0, 0] rfl (Y.load_el (us := [.int .i64 E26.Tenant, .int .i64 E26.Quota]) (u := .agg #[.int .i64 E26.Tenant, .int .i64 E26.Quota]) kk59 rfl (Base.can HB_V_s1) (idx_get H27).2.2 rfl rfl rfl rfl rfl) rfl rfl rfl (by kernel_rfl) (by kernel_rfl) (by kernel_rfl) rfl rfl ?_
                  refine TA.two 1 7 (by kernel_rfl) ?_ ?_
                  · refine TX.y (listed' := #[true, true, true, true, true, true, true, false, false, false, false]) [0, 0] rfl (Y.load_box (v := X20) 2 kk49 rfl rfl rfl) rfl rfl rfl rfl rfl ?_
                    refine TA.one 7 (by kernel_rfl) ?_
                    refine TX.ef (listed' := #[true, true, true, true, true, true, true, true, false, false, false]) [1, 1] rfl (Ef.buildSlice (α := Share) (Vs := [.agg #[.int .i64 E26.Tenant, .int .i64 E26.Quota]]) [E26] ke49 kz59 rfl rfl rfl rfl rfl) rfl rfl rfl rfl (fun _ => rfl) (fun B39 => ?_)
                    refine TA.one 8 (by kernel_rfl) ?_
                    refine TX.ef (listed' := #[true, true, true, true, true, true, true, true, true, false, false]) [2, 2] rfl (Ef.append (α := Share) (is' := [.own (.slice (some ⟨B39, 0, none⟩) 1 1) (lc ([E26])), .box B1 51 [.int .i64 s.Size, V_s1], .box B2 51 [.int .i64 (0 : Int), .slice none 0 0], .box B8 51 [.int .i64 s.Size, X20]]) [4, 0, 0, 0, 0] H35 ke49 kz59 rfl rfl rfl rfl rfl (Can.own 0 rfl)) rfl rfl rfl rfl (fun _ => rfl) (fun V40 => ?_)
                    refine TA.y (listed' := #[true, true, true, true, true, true, true, true, true, true, false]) 9 [2, 2] rfl (Y.field_box kf51_1 rfl rfl) rfl rfl rfl (by kernel_rfl) (by kernel_rfl) (by kernel_rfl) rfl rfl ?_
                    refine TA.one 10 (by kernel_rfl) ?_
                    refine TX.ef0 (listed' := #[true, true, true, true, true, true, true, true, true, true, true]) [2, 2] rfl (Ef.store_box (us := [V40]) (vs' := [.int .i64 s.Size, V40]) (is' := [.own V40 (lc E34), .own (.slice (some ⟨B39, 0, none⟩) 1 1) (lc ([E26])), .box B1 51 [.int .i64 s.Size, V_s1], .box B2 51 [.int .i64 (0 : Int), .slice none 0 0], .box B8 51 [.int .i64 s.Size, V40]]) 4 kk49 rfl rfl rfl (Cel.one (One.can (Can.own 0 rfl))) rfl rfl rfl rfl) rfl rfl rfl (fun _ => rfl) (fun _ => ?_)
                    refine TA.nil (by kernel_rfl) ?_
                    exact TE.jb_go V40 [2, 2, 2, 0] ⟨rfl, rfl, rfl, rfl, rfl, rfl, rfl, trivial⟩ rfl
                  · refine TX.ef (listed' := #[true, false, true, true, true, true, true, true, false, false, false]) [1, 1] rfl (Ef.buildSlice (α := Share) (Vs := [.agg #[.int .i64 E26.Tenant, .int .i64 E26.Quota]]) [E26] ke49 kz59 rfl rfl rfl rfl rfl) rfl rfl rfl rfl (fun _ => rfl) (fun B38 => ?_)
                    refine TA.one 1 (by kernel_rfl) ?_
                    refine TX.y (listed' := #[true, true, true, true, true, true, true, true, false, false, false]) [1, 1] rfl (Y.load_box (v := X20) 3 kk49 rfl rfl rfl) rfl rfl rfl rfl rfl ?_
                    refine TA.one 8 (by kernel_rfl) ?_
                    refine TX.ef (listed' := #[true, true, true, true, true, true, true, true, true, false, false]) [2, 2] rfl (Ef.append (α := Share) (is' := [.own (.slice (some ⟨B38, 0, none⟩) 1 1) (lc ([E26])), .box B1 51 [.int .i64 s.Size, V_s1], .box B2 51 [.int .i64 (0 : Int), .slice none 0 0], .box B8 51 [.int .i64 s.Size, X20]]) [4, 0, 0, 0, 0] H35 ke49 kz59 rfl rfl rfl rfl rfl (Can.own 0 rfl)) rfl rfl rfl rfl (fun _ => rfl) (fun V39 => ?_)
                    refine TA.y (listed' := #[true, true, true, true, true, true, true, true, true, true, false]) 9 [2, 2] rfl (Y.field_box kf51_1 rfl rfl) rfl rfl rfl (by kernel_rfl) (by kernel_rfl) (by kernel_rfl) rfl rfl ?_
                    refine TA.one 10 (by kernel_rfl) ?_
                    refine TX.ef0 (listed' := #[true, true, true, true, true, true, true, true, true, true, true]) [2, 2] rfl (Ef.store_box (us := [V39]) (vs' := [.int .i64 s.Size, V39]) (is' := [.own V39 (lc E34), .own (.slice (some ⟨B38, 0, none⟩) 1 1) (lc ([E26])), .box B1 51 [.int .i64 s.Size, V_s1], .box B2 51 [.int .i64 (0 : Int), .slice none 0 0], .box B8 51 [.int .i64 s.Size, V39]]) 4 kk49 rfl rfl rfl (Cel.one (One.can (Can.own 0 rfl))) rfl rfl rfl rfl) rfl rfl rfl (fun _ => rfl) (fun _ => ?_)
                    refine TA.nil (by kernel_rfl) ?_
                    exact TE.jb_go V39 [2, 2, 2, 0] ⟨rfl, rfl, rfl, rfl, rfl, rfl, rfl, trivial⟩ rfl
                · exact TE.jn_go X37 [0, 0, 0, 0] ⟨rfl, rfl, rfl, rfl, rfl, rfl, rfl, trivial⟩ rfl
              · refine TW.skip ?_
                exact TE.jn_go X20 [0, 0, 0, 0] ⟨rfl, rfl, rfl, rfl, rfl, rfl, rfl, trivial⟩ rfl
            · refine TE.block_normal ?_
              refine TE.next ?_
              refine TW.region ?_
              refine TO.y (Y.move rfl) rfl rfl rfl ?_
              refine TO.y (Y.add rfl rfl) rfl rfl rfl ?_
              refine TO.y (Y.assign rfl) rfl rfl rfl ?_
              refine TO.nil ?_
              exact TE.lp_go X29 [0, 0, 0, 0] ⟨rfl, rfl, rfl, rfl, rfl, rfl, rfl, trivial⟩ rfl
      · refine TW.exit ?_
        refine TE.then_exit ?_
        refine TE.lp_exit ?_
        refine TE.block_exit ?_
        exact TE.jn_go X10 [0, 0, 0, 0] ⟨rfl, rfl, rfl, rfl, rfl, rfl, trivial⟩ rfl
    · refine TE.next ?_
      refine TW.seq ?_
      refine TW.seq ?_
      refine TW.region ?_
      refine TO.y (Y.move rfl) rfl rfl rfl ?_
      refine TO.y (Y.not rfl) rfl rfl rfl ?_
      refine TO.nil ?_
      refine TE.next ?_
      refine TW.joinX (τ := List Share) (X := Value) (fun _ _ => [(3, .pointer (some ⟨B1, 0, none⟩)), (6, .pointer (some ⟨B2, 0, none⟩)), (8, .pointer (some ⟨B8, 0, none⟩))]) (fun T X => [.box B1 51 [.int .i64 s.Size, V_s1], .box B2 51 [.int .i64 (0 : Int), .slice none 0 0], .box B8 51 [.int .i64 s.Size, X], .own X (lc T)]) ?_ (fun T39 X40 => ?_)
      · refine TW.cond rfl (fun H41 => ?_) (fun H41 => ?_)
        · refine TW.region ?_
          refine TO.y (Y.field_box kf51_1 rfl rfl) rfl rfl rfl ?_
          refine TO.y (Y.load_box (v := X12) 2 kk49 rfl rfl rfl) rfl rfl rfl ?_
          refine TO.y (Y.move rfl) rfl rfl rfl ?_
          refine TO.y (Y.move rfl) rfl rfl rfl ?_
          refine TO.y (Y.build (cells := [.int .i64 tenant, .int .i64 quota]) [(0, [.int .i64 tenant]), (1, [.int .i64 quota])] kp59 kz59 ⟨rfl, ⟨_, rfl, (Cel.plain rfl rfl)⟩, ⟨rfl, ⟨_, rfl, (Cel.plain rfl rfl)⟩, trivial⟩⟩ rfl) rfl rfl rfl ?_
          refine TO.ef (Ef.buildSlice (α := Share) (Vs := [.agg #[.int .i64 tenant, .int .i64 quota]]) [{ Tenant := tenant, Quota := quota : Share }] ke49 kz59 rfl rfl rfl rfl rfl) rfl rfl rfl (fun B42 => ?_)
          refine TO.bind fun E44 H45 => ?_
          refine TO.ef (Ef.append (α := Share) (is' := [.own (.slice (some ⟨B42, 0, none⟩) 1 1) (lc ([{ Tenant := tenant, Quota := quota : Share }])), .box B1 51 [.int .i64 s.Size, V_s1], .box B2 51 [.int .i64 (0 : Int), .slice none 0 0], .box B8 51 [.int .i64 s.Size, X12]]) [4, 0, 0, 0, 0] H45 ke49 kz59 rfl rfl rfl rfl rfl (Can.own 0 rfl)) rfl rfl rfl (fun V43 => ?_)
          refine TO.y (Y.field_box kf51_1 rfl rfl) rfl rfl rfl ?_
          refine TO.ef0 (Ef.store_box (us := [V43]) (vs' := [.int .i64 s.Size, V43]) (is' := [.own V43 (lc E44), .own (.slice (some ⟨B42, 0, none⟩) 1 1) (lc ([{ Tenant := tenant, Quota := quota : Share }])), .box B1 51 [.int .i64 s.Size, V_s1], .box B2 51 [.int .i64 (0 : Int), .slice none 0 0], .box B8 51 [.int .i64 s.Size, V43]]) 4 kk49 rfl rfl rfl (Cel.one (One.can (Can.own 0 rfl))) rfl rfl rfl rfl) rfl rfl (fun _ => ?_)
          refine TO.nil ?_
          exact TE.jn_go V43 [2, 2, 2, 0] ⟨rfl, rfl, rfl, trivial⟩ rfl
        · refine TW.skip ?_
          exact TE.jn_go X12 [0, 0, 0, 0] ⟨rfl, rfl, rfl, trivial⟩ rfl
      · refine TE.next ?_
        refine TW.seq ?_
        refine TW.seq ?_
        refine TW.region ?_
        refine TO.y (Y.load_box (v := .agg #[.int .i64 s.Size, X40]) 2 kk51 rfl rfl rfl) rfl rfl rfl ?_
        refine TO.bind fun R46 H47 => ?_
        refine TO.ef (Ef.call (rest := [.box B1 51 [.int .i64 s.Size, V_s1], .box B2 51 [.int .i64 (0 : Int), .slice none 0 0], .box B8 51 [.int .i64 s.Size, X40], .own X40 (lc T39)]) [0, 0, 0, 0] (spec_SharesOk_con ({ Size := s.Size, List := T39 : Shares }) X40 R46 H47) kc25 rfl rfl ⟨(Can.own 3 rfl), trivial⟩) rfl rfl rfl (fun _ => ?_)
        refine TO.y (Y.not rfl) rfl rfl rfl ?_
        refine TO.nil ?_
        refine TE.next ?_
        refine TW.cond rfl (fun H49 => ?_) (fun H49 => ?_)
        · refine TW.seq ?_
          refine TW.region ?_
          refine TO.y (Y.load_box (v := .agg #[.int .i64 s.Size, V_s1]) 0 kk51 rfl rfl rfl) rfl rfl rfl ?_
          refine TO.bind fun R50 H51 => ?_
          refine TO.ef (Ef.call (rest := [.box B1 51 [.int .i64 s.Size, V_s1], .box B2 51 [.int .i64 (0 : Int), .slice none 0 0], .box B8 51 [.int .i64 s.Size, X40], .own X40 (lc T39)]) [0, 0, 0, 0] (spec_l19Copy_con s V_s1 R50 H51) kc59 rfl rfl ⟨(Base.can HB_V_s1), trivial⟩) rfl rfl rfl (fun Y52 => ?_)
          refine TO.ef0 (Ef.store_box (us := [.int .i64 R50.Size, Y52]) (vs' := [.int .i64 R50.Size, Y52]) (is' := [.own Y52 (lc R50.List), .box B1 51 [.int .i64 s.Size, V_s1], .box B2 51 [.int .i64 R50.Size, Y52], .box B8 51 [.int .i64 s.Size, X40], .own X40 (lc T39)]) 2 kk51 rfl rfl rfl (Cel.agg ⟨(One.plain rfl), (One.can (Can.own 0 rfl)), trivial⟩) rfl rfl rfl rfl) rfl rfl (fun _ => ?_)
          refine TO.y (Y.assign rfl) rfl rfl rfl ?_
          refine TO.nil ?_
          refine TE.next ?_
          refine TW.ret ?_
          refine TE.then_ret ?_
          exact TE.leaf fun _ _ hf_ hs_ => ret_any (rs := [.cell 6 51, .tmp 7]) (vs := [.agg #[.int .i64 R50.Size, Y52], .bool false]) (.inl rfl) rfl (RV.cell 2 rfl rfl kk51 rfl ⟨rfl, trivial⟩) hf_ hs_ ⟨Y52, rfl, hs_.pulls [0] rfl⟩
        · refine TW.skip ?_
          refine TE.next ?_
          refine TW.seq ?_
          refine TW.region ?_
          refine TO.y (Y.load_box (v := .agg #[.int .i64 s.Size, X40]) 2 kk51 rfl rfl rfl) rfl rfl rfl ?_
          refine TO.ef0 (Ef.store_box (us := [.int .i64 s.Size, X40]) (vs' := [.int .i64 s.Size, X40]) (is' := [.box B1 51 [.int .i64 s.Size, V_s1], .box B2 51 [.int .i64 s.Size, X40], .box B8 51 [.int .i64 s.Size, X40], .own X40 (lc T39)]) 1 kk51 rfl rfl rfl (Cel.agg ⟨(One.plain rfl), (One.can (Can.own 3 rfl)), trivial⟩) rfl rfl rfl rfl) rfl rfl (fun _ => ?_)
          refine TO.y (Y.assign rfl) rfl rfl rfl ?_
          refine TO.nil ?_
          refine TE.next ?_
          refine TW.ret ?_
          exact TE.leaf fun _ _ hf_ hs_ => ret_any (rs := [.cell 6 51, .tmp 7]) (vs := [.agg #[.int .i64 s.Size, X40], .bool true]) (.inl rfl) rfl (RV.cell 1 rfl rfl kk51 rfl ⟨rfl, trivial⟩) hf_ hs_ ⟨X40, rfl, hs_.pulls [3] rfl⟩

/-- loop.example/g00950/spec.l1Once -/
noncomputable def spec_l1Once (c : L1Cur) (n : Int) : Option (Bool × L1Cur) :=
  (spec_l1Below c n).bind fun R1 =>
  some (decide (R1.1 = (0 : Int)), { b := c.b, i := R1.2.i, h := R1.2.h : L1Cur })

theorem spec_l1Once_con (c : L1Cur) (n : Int) (V_c0 : Value) (B_c : Nat) (r : Bool × L1Cur) (hm : spec_l1Once c n = some r) :
    Con Try.prog 46 [.pointer (some ⟨B_c, 0, none⟩), .int .i64 n] [.box B_c 94 [V_c0, .int .i64 c.i, .int .i64 c.h]] [(V_c0, lc c.b)] (fun _ : Unit => .bool r.1) (fun _ => [.box B_c 94 [V_c0, .int .i64 r.2.i, .int .i64 r.2.h]]) := by
  refine Con.intro (args := [.pointer (some ⟨B_c, 0, none⟩), .int .i64 n]) (n := 9) (val := fun r (_ : Unit) => .bool r.1) (post := fun r _ => [.box B_c 94 [V_c0, .int .i64 r.2.i, .int .i64 r.2.h]]) (m := spec_l1Once c n) Try.func46 rfl rfl rfl hm ?_
  intro w S hrd
  have HB_V_c0 := hrd _ (.head _)
  clear hrd
  unfold spec_l1Once
  refine TW.seq ?_
  refine TW.region ?_
  refine TO.y (Y.assign rfl) rfl rfl rfl ?_
  refine TO.nil ?_
  refine TE.next ?_
  refine TW.seq ?_
  refine TW.region ?_
  refine TO.y (Y.move rfl) rfl rfl rfl ?_
  refine TO.y (Y.move rfl) rfl rfl rfl ?_
  refine TO.bind fun R1 H2 => ?_
  refine TO.ef (Ef.call (rest := []) [0] (spec_l1Below_con c n V_c0 B_c R1 H2) kc64 rfl rfl ⟨(Base.can HB_V_c0), trivial⟩) rfl rfl rfl (fun _ => ?_)
  refine TO.y (Y.eql rfl rfl) rfl rfl rfl ?_
  refine TO.y (Y.assign rfl) rfl rfl rfl ?_
  refine TO.nil ?_
  refine TE.next ?_
  refine TW.ret ?_
  exact TE.leaf fun _ _ hf_ hs_ => ret_any (rs := [.tmp 4]) (vs := [.bool (decide (R1.1 = (0 : Int)))]) (.inl rfl) rfl ⟨rfl, trivial⟩ hf_ hs_ ⟨(), rfl, hs_.pulls [0] rfl⟩

/-- loop.example/g00950/spec.l19Some -/
noncomputable def spec_l19Some (c : L1Cur) : Option (Shares × L1Cur) :=
  (spec_l1PickInt c ([(0 : Int), (3 : Int), (20 : Int), (40 : Int), (1000 : Int)])).bind fun R3 =>
  (spec_l1Below ({ b := c.b, i := R3.2.i, h := R3.2.h : L1Cur }) (6 : Int)).bind fun R7 =>
  bindC (loopO (fun (S10 : Int × Int × Int × Int × List Share) => if (decide (S10.2.2.2.1 > (0 : Int))) = true then ((spec_l1Below ({ b := c.b, i := S10.1, h := S10.2.1 : L1Cur }) (6 : Int)).bind fun R15 =>
  (spec_l1PickInt ({ b := c.b, i := R15.2.i, h := R15.2.h : L1Cur }) ([(0 : Int), (1 : Int), (49 : Int), (50 : Int), (51 : Int), (200 : Int)])).bind fun R22 =>
  (spec_ShareSet ({ Size := S10.2.2.1, List := S10.2.2.2.2 : Shares }) (IntKind.i64.wrap ((1 : Int) + R15.1)) R22.1).bind fun R26 =>
  bindC (if R26.2 = true then (some (.go (R26.1.Size, R26.1.List)))
  else (some (.go (S10.2.2.1, S10.2.2.2.2))))
  (fun (T36 : Int × List Share) => some (.go (R22.2.i, R22.2.h, T36.1, IntKind.i64.wrap (S10.2.2.2.1 - (1 : Int)), T36.2))))
  else (some (.done (.go (S10.1, S10.2.1, S10.2.2.1, S10.2.2.2.2)))))
  (R7.2.i, R7.2.h, R3.1, R7.1, ([] : List Share)))
  (fun (T12 : Int × Int × Int × List Share) => (spec_l1Once ({ b := c.b, i := T12.1, h := T12.2.1 : L1Cur }) (10 : Int)).bind fun R39 =>
  bindC (if R39.1 = true then ((spec_l1Below ({ b := c.b, i := R39.2.i, h := R39.2.h : L1Cur }) (3 : Int)).bind fun R45 =>
  bindC (if (decide (R45.1 = (0 : Int))) = true then ((spec_l1PickInt ({ b := c.b, i := R45.2.i, h := R45.2.h : L1Cur }) ([(-1 : Int), (1001 : Int), (7 : Int)])).bind fun R52 =>
  some (.go (R52.1, R52.2.i, R52.2.h, T12.2.2.2)))
  else (bindC (if (decide (R45.1 = (1 : Int))) = true then ((spec_l1Below ({ b := c.b, i := R45.2.i, h := R45.2.h : L1Cur }) (9 : Int)).bind fun R58 =>
  (app 16 T12.2.2.2 ([{ Tenant := R58.1, Quota := (1 : Int) : Share }])).bind fun E64 =>
  some (.go (R58.2.i, R58.2.h, E64)))
  else (bindC (if (decide (((T12.2.2.2.length : Nat) : Int) > (0 : Int))) = true then ((spec_l1PickInt ({ b := c.b, i := R45.2.i, h := R45.2.h : L1Cur }) ([(-1 : Int), (1000 : Int), (1001 : Int)])).bind fun R73 =>
  (idx T12.2.2.2 (0 : Int)).bind fun E76 =>
  some (.go (R73.2.i, R73.2.h, (T12.2.2.2.set ((0 : Int).toNat) ({ Tenant := E76.Tenant, Quota := R73.1 : Share })))))
  else (some (.go (R45.2.i, R45.2.h, T12.2.2.2))))
  (fun (T69 : Int × Int × List Share) => some (.go (T69.1, T69.2.1, T69.2.2)))))
  (fun (T55 : Int × Int × List Share) => some (.go (T12.2.2.1, T55.1, T55.2.1, T55.2.2)))))
  (fun (T48 : Int × Int × Int × List Share) => some (.go (T48.1, T48.2.1, T48.2.2.1, T48.2.2.2))))
  else (some (.go (T12.2.2.1, R39.2.i, R39.2.h, T12.2.2.2))))
  (fun (T42 : Int × Int × Int × List Share) => some ({ Size := T42.1, List := T42.2.2.2 : Shares }, { b := c.b, i := T42.2.1, h := T42.2.2.1 : L1Cur })))

theorem spec_l19Some_con (c : L1Cur) (V_c0 : Value) (B_c : Nat) (r : Shares × L1Cur) (hm : spec_l19Some c = some r) :
    Con Try.prog 53 [.pointer (some ⟨B_c, 0, none⟩)] [.box B_c 94 [V_c0, .int .i64 c.i, .int .i64 c.h]] [(V_c0, lc c.b)] (fun X : Value => .agg #[.int .i64 r.1.Size, X]) (fun X => [.box B_c 94 [V_c0, .int .i64 r.2.i, .int .i64 r.2.h], .own X (lc r.1.List)]) := by
  refine Con.intro (args := [.pointer (some ⟨B_c, 0, none⟩)]) (n := 62) (val := fun r (X : Value) => .agg #[.int .i64 r.1.Size, X]) (post := fun r X => [.box B_c 94 [V_c0, .int .i64 r.2.i, .int .i64 r.2.h], .own X (lc r.1.List)]) (m := spec_l19Some c) Try.func53 rfl rfl rfl hm ?_
  intro w S hrd
  have HB_V_c0 := hrd _ (.head _)
  clear hrd
  unfold spec_l19Some
  refine TW.seq ?_
  refine TW.region ?_
  refine TO.ef (Ef.alloc kz51 rfl) rfl rfl rfl (fun B1 => ?_)
  refine TO.nil ?_
  refine TE.next ?_
  refine TW.seq ?_
  refine TW.region ?_
  refine TO.y (Y.move rfl) rfl rfl rfl ?_
  refine TO.ef (Ef.buildSlice (α := Int) (Vs := [.int .i64 (0 : Int), .int .i64 (3 : Int), .int .i64 (20 : Int), .int .i64 (40 : Int), .int .i64 (1000 : Int)]) [(0 : Int), (3 : Int), (20 : Int), (40 : Int), (1000 : Int)] ke41 kz3 rfl rfl rfl rfl rfl) rfl rfl rfl (fun B2 => ?_)
  refine TO.bind fun R3 H4 => ?_
  refine TO.ef (Ef.call (rest := [.own (.slice (some ⟨B2, 0, none⟩) 5 5) (lc ([(0 : Int), (3 : Int), (20 : Int), (40 : Int), (1000 : Int)])), .box B1 51 [.int .i64 (0 : Int), .slice none 0 0]]) [2, 0, 0] (spec_l1PickInt_con c ([(0 : Int), (3 : Int), (20 : Int), (40 : Int), (1000 : Int)]) V_c0 B_c (.slice (some ⟨B2, 0, none⟩) 5 5) R3 H4) kc54 rfl rfl ⟨(Base.can HB_V_c0), (Can.own 0 rfl), trivial⟩) rfl rfl rfl (fun _ => ?_)
  refine TO.y (Y.build (cells := [.int .i64 R3.1, .slice none 0 0]) [(0, [.int .i64 R3.1])] kp51 kz51 ⟨rfl, ⟨_, rfl, (Cel.plain rfl rfl)⟩, trivial⟩ rfl) rfl rfl rfl ?_
  refine TO.ef (Ef.alloc kz51 rfl) rfl rfl rfl (fun B6 => ?_)
  refine TO.ef0 (Ef.store_box (us := [.int .i64 R3.1, .slice none 0 0]) (vs' := [.int .i64 R3.1, .slice none 0 0]) (is' := [.box B6 51 [.int .i64 R3.1, .slice none 0 0], .box B_c 94 [V_c0, .int .i64 R3.2.i, .int .i64 R3.2.h], .own (.slice (some ⟨B2, 0, none⟩) 5 5) (lc ([(0 : Int), (3 : Int), (20 : Int), (40 : Int), (1000 : Int)])), .box B1 51 [.int .i64 (0 : Int), .slice none 0 0]]) 0 kk51 rfl rfl rfl (Cel.plain rfl rfl) rfl rfl rfl rfl) rfl rfl (fun _ => ?_)
  refine TO.nil ?_
  refine TE.next ?_
  refine TW.seq ?_
  refine TW.seq ?_
  refine TW.region ?_
  refine TO.y (Y.move rfl) rfl rfl rfl ?_
  refine TO.bind fun R7 H8 => ?_
  refine TO.ef (Ef.call (rest := [.box B6 51 [.int .i64 R3.1, .slice none 0 0], .own (.slice (some ⟨B2, 0, none⟩) 5 5) (lc ([(0 : Int), (3 : Int), (20 : Int), (40 : Int), (1000 : Int)])), .box B1 51 [.int .i64 (0 : Int), .slice none 0 0]]) [1, 0, 0, 0] (spec_l1Below_con ({ b := c.b, i := R3.2.i, h := R3.2.h : L1Cur }) (6 : Int) V_c0 B_c R7 H8) kc64 rfl rfl ⟨(Base.can HB_V_c0), trivial⟩) rfl rfl rfl (fun _ => ?_)
  refine TO.y (Y.assign rfl) rfl rfl rfl ?_
  refine TO.nil ?_
  refine TE.next ?_
  refine TW.joinX (τ := Int × Int × Int × List Share) (X := Value) (fun _ _ => [(0, .pointer (some ⟨B_c, 0, none⟩)), (2, .pointer (some ⟨B1, 0, none⟩)), (3, .pointer (some ⟨B6, 0, none⟩))]) (fun T X => [.box B_c 94 [V_c0, .int .i64 T.1, .int .i64 T.2.1], .box B1 51 [.int .i64 (0 : Int), .slice none 0 0], .box B6 51 [.int .i64 T.2.2.1, X], .own X (lc T.2.2.2)]) ?_ (fun T12 X13 => ?_)
  · refine TW.block ?_
    refine TW.nilItem 2 ?_
    refine TW.loopX (σ := Int × Int × Int × Int × List Share) (X := Value) (fun T _ => [(0, .pointer (some ⟨B_c, 0, none⟩)), (2, .pointer (some ⟨B1, 0, none⟩)), (3, .pointer (some ⟨B6, 0, none⟩)), (4, .int .i64 T.2.2.2.1)]) (fun T X => [.box B_c 94 [V_c0, .int .i64 T.1, .int .i64 T.2.1], .box B1 51 [.int .i64 (0 : Int), .slice none 0 0], .box B6 51 [.int .i64 T.2.2.1, X], .own X (lc T.2.2.2.2)]) (.slice none 0 0) [1, 3, 1, 0] ⟨rfl, rfl, rfl, rfl, trivial⟩ rfl (fun S10 X11 => ?_)
    refine TW.seq ?_
    refine TW.seq ?_
    refine TW.region ?_
    refine TO.y (Y.move rfl) rfl rfl rfl ?_
    refine TO.y (Y.gtr rfl rfl) rfl rfl rfl ?_
    refine TO.nil ?_
    refine TE.next ?_
    refine TW.cond rfl (fun H14 => ?_) (fun H14 => ?_)
    · refine TW.skip ?_
      refine TE.next ?_
      refine TW.seq ?_
      refine TW.block ?_
      refine TW.seq ?_
      refine TW.bind fun R15 H16 => ?_
      refine TW.bind fun R22 H23 => ?_
      refine TW.bind fun R26 H27 => ?_
      refine TW.joinU (X := Nat × Value) (fun _ X => [(0, .pointer (some ⟨B_c, 0, none⟩)), (2, .pointer (some ⟨B1, 0, none⟩)), (3, .pointer (some ⟨B6, 0, none⟩)), (4, .int .i64 S10.2.2.2.1), (5, .pointer (some ⟨X.1, 0, none⟩)), (6, .bool R26.2)]) (fun _ X => [.box B_c 94 [V_c0, .int .i64 R22.2.i, .int .i64 R22.2.h], .box B1 51 [.int .i64 (0 : Int), .slice none 0 0], .box B6 51 [.int .i64 S10.2.2.1, X11], .box X.1 51 [.int .i64 R26.1.Size, X.2], .own X11 (lc S10.2.2.2.2), .own X.2 (lc R26.1.List)]) ?_ (fun _ X32 => ?_)
      · refine TW.draw (isH := [.box B1 51 [.int .i64 (0 : Int), .slice none 0 0], .box B6 51 [.int .i64 S10.2.2.1, X11], .own X11 (lc S10.2.2.2.2)]) hMix ?_
        refine TA.y (listed' := #[true, false, false, false, false, false, false, false, false, false, false, false, false, false]) 0 [1, 1, 1] rfl (Y.load_box (v := .agg #[.int .i64 S10.2.2.1, X11]) 1 kk51 rfl rfl rfl) rfl rfl rfl (by kernel_rfl) (by kernel_rfl) (by kernel_rfl) rfl rfl ?_
        refine TA.y (listed' := #[true, true, false, false, false, false, false, false, false, false, false, false, false, false]) 1 [1, 1, 1] rfl (Y.move rfl) rfl rfl rfl (by kernel_rfl) (by kernel_rfl) (by kernel_rfl) rfl rfl ?_
        refine TA.y (listed' := #[true, true, false, false, true, false, false, false, false, false, false, false, false, false]) 4 [1, 1, 1] rfl (Y.move rfl) rfl rfl rfl (by kernel_rfl) (by kernel_rfl) (by kernel_rfl) rfl rfl ?_
        refine TA.three 2 5 11 (by kernel_rfl) ?_ ?_ ?_
        · refine TX.ef (listed' := #[true, true, true, false, true, false, false, false, false, false, false, false, false, false]) [1, 1, 1] rfl (Ef.call (rest := [.box B1 51 [.int .i64 (0 : Int), .slice none 0 0], .box B6 51 [.int .i64 S10.2.2.1, X11], .own X11 (lc S10.2.2.2.2)]) [0, 0, 0, 0] (spec_l1Below_con ({ b := c.b, i := S10.1, h := S10.2.1 : L1Cur }) (6 : Int) V_c0 B_c R15 H16) kc64 rfl rfl ⟨(Base.can HB_V_c0), trivial⟩) rfl rfl rfl rfl (fun _ => rfl) (fun _ => ?_)
          refine TA.y (listed' := #[true, true, true, true, true, false, false, false, false, false, false, false, false, false]) 3 [1, 1, 1] rfl (Y.add rfl rfl) rfl rfl rfl (by kernel_rfl) (by kernel_rfl) (by kernel_rfl) rfl rfl ?_
          refine TA.two 5 11 (by kernel_rfl) ?_ ?_
          · refine TX.ef (listed' := #[true, true, true, true, true, true, false, false, false, false, false, false, false, false]) [2, 2, 2] rfl (Ef.buildSlice (α := Int) (Vs := [.int .i64 (0 : Int), .int .i64 (1 : Int), .int .i64 (49 : Int), .int .i64 (50 : Int), .int .i64 (51 : Int), .int .i64 (200 : Int)]) [(0 : Int), (1 : Int), (49 : Int), (50 : Int), (51 : Int), (200 : Int)] ke41 kz3 rfl rfl rfl rfl rfl) rfl rfl rfl rfl (fun _ => rfl) (fun B36 => ?_)
            refine TA.two 6 11 (by kernel_rfl) ?_ ?_
            · refine TX.ef (listed' := #[true, true, true, true, true, true, true, false, false, false, false, false, false, false]) [2, 2, 2] rfl (Ef.call (rest := [.own (.slice (some ⟨B36, 0, none⟩) 6 6) (lc ([(0 : Int), (1 : Int), (49 : Int), (50 : Int), (51 : Int), (200 : Int)])), .box B1 51 [.int .i64 (0 : Int), .slice none 0 0], .box B6 51 [.int .i64 S10.2.2.1, X11], .own X11 (lc S10.2.2.2.2)]) [1, 0, 0, 0, 0] (spec_l1PickInt_con ({ b := c.b, i := R15.2.i, h := R15.2.h : L1Cur }) ([(0 : Int), (1 : Int), (49 : Int), (50 : Int), (51 : Int), (200 : Int)]) V_c0 B_c (.slice (some ⟨B36, 0, none⟩) 6 6) R22 H23) kc54 rfl rfl ⟨(Base.can HB_V_c0), (Can.own 0 rfl), trivial⟩) rfl rfl rfl rfl (fun _ => rfl) (fun _ => ?_)
              refine TA.two 7 11 (by kernel_rfl) ?_ ?_
              · refine TX.ef (listed' := #[true, true, true, true, true, true, true, true, false, false, false, false, false, false]) [3, 3, 3] rfl (Ef.call (rest := [.box B_c 94 [V_c0, .int .i64 R22.2.i, .int .i64 R22.2.h], .own (.slice (some ⟨B36, 0, none⟩) 6 6) (lc ([(0 : Int), (1 : Int), (49 : Int), (50 : Int), (51 : Int), (200 : Int)])), .box B1 51 [.int .i64 (0 : Int), .slice none 0 0], .box B6 51 [.int .i64 S10.2.2.1, X11], .own X11 (lc S10.2.2.2.2)]) [0, 0, 0, 0, 0] (spec_ShareSet_con ({ Size := S10.2.2.1, List := S10.2.2.2.2 : Shares }) (IntKind.i64.wrap ((1 : Int) + R15.1)) R22.1 X11 R26 H27) kc24 rfl rfl ⟨(Can.own 4 rfl), trivial⟩) rfl rfl rfl rfl (fun _ => rfl) (fun Y40 => ?_)
                refine TA.y (listed' := #[true, true, true, true, true, true, true, true, true, false, false, false, false, false]) 8 [3, 3, 3] rfl (Y.move rfl) rfl rfl rfl (by kernel_rfl) (by kernel_rfl) (by kernel_rfl) rfl rfl ?_
                refine TA.y (listed' := #[true, true, true, true, true, true, true, true, true, true, false, false, false, false]) 9 [3, 3, 3] rfl (Y.extract rfl rfl) rfl rfl rfl (by kernel_rfl) (by kernel_rfl) (by kernel_rfl) rfl rfl ?_
                refine TA.y (listed' := #[true, true, true, true, true, true, true, true, true, true, true, false, false, false]) 10 [3, 3, 3] rfl (Y.extract rfl rfl) rfl rfl rfl (by kernel_rfl) (by kernel_rfl) (by kernel_rfl) rfl rfl ?_
                refine TA.one 11 (by kernel_rfl) ?_
                refine TX.ef (listed' := #[true, true, true, true, true, true, true, true, true, true, true, true, false, false]) [4, 4, 4] rfl (Ef.alloc kz51 rfl) rfl rfl rfl rfl (fun _ => rfl) (fun B42 => ?_)
                refine TA.one 12 (by kernel_rfl) ?_
                refine TX.ef0 (listed' := #[true, true, true, true, true, true, true, true, true, true, true, true, true, false]) [4, 4, 4] rfl (Ef.store_box (us := [.int .i64 R26.1.Size, Y40]) (vs' := [.int .i64 R26.1.Size, Y40]) (is' := [.box B42 51 [.int .i64 R26.1.Size, Y40], .own Y40 (lc R26.1.List), .box B_c 94 [V_c0, .int .i64 R22.2.i, .int .i64 R22.2.h], .own (.slice (some ⟨B36, 0, none⟩) 6 6) (lc ([(0 : Int), (1 : Int), (49 : Int), (50 : Int), (51 : Int), (200 : Int)])), .box B1 51 [.int .i64 (0 : Int), .slice none 0 0], .box B6 51 [.int .i64 S10.2.2.1, X11], .own X11 (lc S10.2.2.2.2)]) 0 kk51 rfl rfl rfl (Cel.agg ⟨(One.plain rfl), (One.can (Can.own 1 rfl)), trivial⟩) rfl rfl rfl rfl) rfl rfl rfl (fun _ => rfl) (fun _ => ?_)
                refine TA.y (listed' := #[true, true, true, true, true, true, true, true, true, true, true, true, true, true]) 13 [4, 4, 4] rfl (Y.assign rfl) rfl rfl rfl (by kernel_rfl) (by kernel_rfl) (by kernel_rfl) rfl rfl ?_
                refine TA.nil (by kernel_rfl) ?_
                exact TE.jb_go (B42, Y40) [2, 3, 3, 0, 2, 0] ⟨rfl, rfl, rfl, rfl, rfl, rfl, trivial⟩ rfl
              · refine TX.ef (listed' := #[true, true, true, true, true, true, true, false, false, false, false, true, false, false]) [3, 3, 3] rfl (Ef.alloc kz51 rfl) rfl rfl rfl rfl (fun _ => rfl) (fun B41 => ?_)
                refine TA.one 7 (by kernel_rfl) ?_
                refine TX.ef (listed' := #[true, true, true, true, true, true, true, true, false, false, false, true, false, false]) [4, 4, 4] rfl (Ef.call (rest := [.box B41 51 [.int .i64 (0 : Int), .slice none 0 0], .box B_c 94 [V_c0, .int .i64 R22.2.i, .int .i64 R22.2.h], .own (.slice (some ⟨B36, 0, none⟩) 6 6) (lc ([(0 : Int), (1 : Int), (49 : Int), (50 : Int), (51 : Int), (200 : Int)])), .box B1 51 [.int .i64 (0 : Int), .slice none 0 0], .box B6 51 [.int .i64 S10.2.2.1, X11], .own X11 (lc S10.2.2.2.2)]) [0, 0, 0, 0, 0, 0] (spec_ShareSet_con ({ Size := S10.2.2.1, List := S10.2.2.2.2 : Shares }) (IntKind.i64.wrap ((1 : Int) + R15.1)) R22.1 X11 R26 H27) kc24 rfl rfl ⟨(Can.own 5 rfl), trivial⟩) rfl rfl rfl rfl (fun _ => rfl) (fun Y42 => ?_)
                refine TA.y (listed' := #[true, true, true, true, true, true, true, true, true, false, false, true, false, false]) 8 [4, 4, 4] rfl (Y.move rfl) rfl rfl rfl (by kernel_rfl) (by kernel_rfl) (by kernel_rfl) rfl rfl ?_
                refine TA.y (listed' := #[true, true, true, true, true, true, true, true, true, true, false, true, false, false]) 9 [4, 4, 4] rfl (Y.extract rfl rfl) rfl rfl rfl (by kernel_rfl) (by kernel_rfl) (by kernel_rfl) rfl rfl ?_
                refine TA.y (listed' := #[true, true, true, true, true, true, true, true, true, true, true, true, false, false]) 10 [4, 4, 4] rfl (Y.extract rfl rfl) rfl rfl rfl (by kernel_rfl) (by kernel_rfl) (by kernel_rfl) rfl rfl ?_
                refine TA.one 12 (by kernel_rfl) ?_
                refine TX.ef0 (listed' := #[true, true, true, true, true, true, true, true, true, true, true, true, true, false]) [4, 4, 4] rfl (Ef.store_box (us := [.int .i64 R26.1.Size, Y42]) (vs' := [.int .i64 R26.1.Size, Y42]) (is' := [.own Y42 (lc R26.1.List), .box B41 51 [.int .i64 R26.1.Size, Y42], .box B_c 94 [V_c0, .int .i64 R22.2.i, .int .i64 R22.2.h], .own (.slice (some ⟨B36, 0, none⟩) 6 6) (lc ([(0 : Int), (1 : Int), (49 : Int), (50 : Int), (51 : Int), (200 : Int)])), .box B1 51 [.int .i64 (0 : Int), .slice none 0 0], .box B6 51 [.int .i64 S10.2.2.1, X11], .own X11 (lc S10.2.2.2.2)]) 1 kk51 rfl rfl rfl (Cel.agg ⟨(One.plain rfl), (One.can (Can.own 0 rfl)), trivial⟩) rfl rfl rfl rfl) rfl rfl rfl (fun _ => rfl) (fun _ => ?_)
                refine TA.y (listed' := #[true, true, true, true, true, true, true, true, true, true, true, true, true, true]) 13 [4, 4, 4] rfl (Y.assign rfl) rfl rfl rfl (by kernel_rfl) (by kernel_rfl) (by kernel_rfl) rfl rfl ?_
                refine TA.nil (by kernel_rfl) ?_
                exact TE.jb_go (B41, Y42) [2, 3, 3, 1, 2, 0] ⟨rfl, rfl, rfl, rfl, rfl, rfl, trivial⟩ rfl
            · refine TX.ef (listed' := #[true, true, true, true, true, true, false, false, false, false, false, true, false, false]) [3, 3, 3] rfl (Ef.alloc kz51 rfl) rfl rfl rfl rfl (fun _ => rfl) (fun B39 => ?_)
              refine TA.one 6 (by kernel_rfl) ?_
              refine TX.ef (listed' := #[true, true, true, true, true, true, true, false, false, false, false, true, false, false]) [3, 3, 3] rfl (Ef.call (rest := [.box B39 51 [.int .i64 (0 : Int), .slice none 0 0], .own (.slice (some ⟨B36, 0, none⟩) 6 6) (lc ([(0 : Int), (1 : Int), (49 : Int), (50 : Int), (51 : Int), (200 : Int)])), .box B1 51 [.int .i64 (0 : Int), .slice none 0 0], .box B6 51 [.int .i64 S10.2.2.1, X11], .own X11 (lc S10.2.2.2.2)]) [2, 0, 0, 0, 0, 0] (spec_l1PickInt_con ({ b := c.b, i := R15.2.i, h := R15.2.h : L1Cur }) ([(0 : Int), (1 : Int), (49 : Int), (50 : Int), (51 : Int), (200 : Int)]) V_c0 B_c (.slice (some ⟨B36, 0, none⟩) 6 6) R22 H23) kc54 rfl rfl ⟨(Base.can HB_V_c0), (Can.own 1 rfl), trivial⟩) rfl rfl rfl rfl (fun _ => rfl) (fun _ => ?_)
              refine TA.one 7 (by kernel_rfl) ?_
              refine TX.ef (listed' := #[true, true, true, true, true, true, true, true, false, false, false, true, false, false]) [4, 4, 4] rfl (Ef.call (rest := [.box B_c 94 [V_c0, .int .i64 R22.2.i, .int .i64 R22.2.h], .box B39 51 [.int .i64 (0 : Int), .slice none 0 0], .own (.slice (some ⟨B36, 0, none⟩) 6 6) (lc ([(0 : Int), (1 : Int), (49 : Int), (50 : Int), (51 : Int), (200 : Int)])), .box B1 51 [.int .i64 (0 : Int), .slice none 0 0], .box B6 51 [.int .i64 S10.2.2.1, X11], .own X11 (lc S10.2.2.2.2)]) [0, 0, 0, 0, 0, 0] (spec_ShareSet_con ({ Size := S10.2.2.1, List := S10.2.2.2.2 : Shares }) (IntKind.i64.wrap ((1 : Int) + R15.1)) R22.1 X11 R26 H27) kc24 rfl rfl ⟨(Can.own 5 rfl), trivial⟩) rfl rfl rfl rfl (fun _ => rfl) (fun Y41 => ?_)
              refine TA.y (listed' := #[true, true, true, true, true, true, true, true, true, false, false, true, false, false]) 8 [4, 4, 4] rfl (Y.move rfl) rfl rfl rfl (by kernel_rfl) (by kernel_rfl) (by kernel_rfl) rfl rfl ?_
              refine TA.y (listed' := #[true, true, true, true, true, true, true, true, true, true, false, true, false, false]) 9 [4, 4, 4] rfl (Y.extract rfl rfl) rfl rfl rfl (by kernel_rfl) (by kernel_rfl) (by kernel_rfl) rfl rfl ?_
              refine TA.y (listed' := #[true, true, true, true, true, true, true, true, true, true, true, true, false, false]) 10 [4, 4, 4] rfl (Y.extract rfl rfl) rfl rfl rfl (by kernel_rfl) (by kernel_rfl) (by kernel_rfl) rfl rfl ?_
              refine TA.one 12 (by kernel_rfl) ?_
              refine TX.ef0 (listed' := #[true, true, true, true, true, true, true, true, true, true, true, true, true, false]) [4, 4, 4] rfl (Ef.store_box (us := [.int .i64 R26.1.Size, Y41]) (vs' := [.int .i64 R26.1.Size, Y41]) (is' := [.own Y41 (lc R26.1.List), .box B_c 94 [V_c0, .int .i64 R22.2.i, .int .i64 R22.2.h], .box B39 51 [.int .i64 R26.1.Size, Y41], .own (.slice (some ⟨B36, 0, none⟩) 6 6) (lc ([(0 : Int), (1 : Int), (49 : Int), (50 : Int), (51 : Int), (200 : Int)])), .box B1 51 [.int .i64 (0 : Int), .slice none 0 0], .box B6 51 [.int .i64 S10.2.2.1, X11], .own X11 (lc S10.2.2.2.2)]) 2 kk51 rfl rfl rfl (Cel.agg ⟨(One.plain rfl), (One.can (Can.own 0 rfl)), trivial⟩) rfl rfl rfl rfl) rfl rfl rfl (fun _ => rfl) (fun _ => ?_)
              refine TA.y (listed' := #[true, true, true, true, true, true, true, true, true, true, true, true, true, true]) 13 [4, 4, 4] rfl (Y.assign rfl) rfl rfl rfl (by kernel_rfl) (by kernel_rfl) (by kernel_rfl) rfl rfl ?_
              refine TA.nil (by kernel_rfl) ?_
              exact TE.jb_go (B39, Y41) [1, 3, 3, 1, 2, 0] ⟨rfl, rfl, rfl, rfl, rfl, rfl, trivial⟩ rfl
          · refine TX.ef (listed' := #[true, true, true, true, true, false, false, false, false, false, false, true, false, false]) [2, 2, 2] rfl (Ef.alloc kz51 rfl) rfl rfl rfl rfl (fun _ => rfl) (fun B37 => ?_)
            refine TA.one 5 (by kernel_rfl) ?_
            refine TX.ef (listed' := #[true, true, true, true, true, true, false, false, false, false, false, true, false, false]) [3, 3, 3] rfl (Ef.buildSlice (α := Int) (Vs := [.int .i64 (0 : Int), .int .i64 (1 : Int), .int .i64 (49 : Int), .int .i64 (50 : Int), .int .i64 (51 : Int), .int .i64 (200 : Int)]) [(0 : Int), (1 : Int), (49 : Int), (50 : Int), (51 : Int), (200 : Int)] ke41 kz3 rfl rfl rfl rfl rfl) rfl rfl rfl rfl (fun _ => rfl) (fun B38 => ?_)
            refine TA.one 6 (by kernel_rfl) ?_
            refine TX.ef (listed' := #[true, true, true, true, true, true, true, false, false, false, false, true, false, false]) [3, 3, 3] rfl (Ef.call (rest := [.own (.slice (some ⟨B38, 0, none⟩) 6 6) (lc ([(0 : Int), (1 : Int), (49 : Int), (50 : Int), (51 : Int), (200 : Int)])), .box B37 51 [.int .i64 (0 : Int), .slice none 0 0], .box B1 51 [.int .i64 (0 : Int), .slice none 0 0], .box B6 51 [.int .i64 S10.2.2.1, X11], .own X11 (lc S10.2.2.2.2)]) [2, 0, 0, 0, 0, 0] (spec_l1PickInt_con ({ b := c.b, i := R15.2.i, h := R15.2.h : L1Cur }) ([(0 : Int), (1 : Int), (49 : Int), (50 : Int), (51 : Int), (200 : Int)]) V_c0 B_c (.slice (some ⟨B38, 0, none⟩) 6 6) R22 H23) kc54 rfl rfl ⟨(Base.can HB_V_c0), (Can.own 0 rfl), trivial⟩) rfl rfl rfl rfl (fun _ => rfl) (fun _ => ?_)
            refine TA.one 7 (by kernel_rfl) ?_
            refine TX.ef (listed' := #[true, true, true, true, true, true, true, true, false, false, false, true, false, false]) [4, 4, 4] rfl (Ef.call (rest := [.box B_c 94 [V_c0, .int .i64 R22.2.i, .int .i64 R22.2.h], .own (.slice (some ⟨B38, 0, none⟩) 6 6) (lc ([(0 : Int), (1 : Int), (49 : Int), (50 : Int), (51 : Int), (200 : Int)])), .box B37 51 [.int .i64 (0 : Int), .slice none 0 0], .box B1 51 [.int .i64 (0 : Int), .slice none 0 0], .box B6 51 [.int .i64 S10.2.2.1, X11], .own X11 (lc S10.2.2.2.2)]) [0, 0, 0, 0, 0, 0] (spec_ShareSet_con ({ Size := S10.2.2.1, List := S10.2.2.2.2 : Shares }) (IntKind.i64.wrap ((1 : Int) + R15.1)) R22.1 X11 R26 H27) kc24 rfl rfl ⟨(Can.own 5 rfl), trivial⟩) rfl rfl rfl rfl (fun _ => rfl) (fun Y40 => ?_)
            refine TA.y (listed' := #[true, true, true, true, true, true, true, true, true, false, false, true, false, false]) 8 [4, 4, 4] rfl (Y.move rfl) rfl rfl rfl (by kernel_rfl) (by kernel_rfl) (by kernel_rfl) rfl rfl ?_
            refine TA.y (listed' := #[true, true, true, true, true, true, true, true, true, true, false, true, false, false]) 9 [4, 4, 4] rfl (Y.extract rfl rfl) rfl rfl rfl (by kernel_rfl) (by kernel_rfl) (by kernel_rfl) rfl rfl ?_
            refine TA.y (listed' := #[true, true, true, true, true, true, true, true, true, true, true, true, false, false]) 10 [4, 4, 4] rfl (Y.extract rfl rfl) rfl rfl rfl (by kernel_rfl) (by kernel_rfl) (by kernel_rfl) rfl rfl ?_
            refine TA.one 12 (by kernel_rfl) ?_
            refine TX.ef0 (listed' := #[true, true, true, true, true, true, true, true, true, true, true, true, true, false]) [4, 4, 4] rfl (Ef.store_box (us := [.int .i64 R26.1.Size, Y40]) (vs' := [.int .i64 R26.1.Size, Y40]) (is' := [.own Y40 (lc R26.1.List), .box B_c 94 [V_c0, .int .i64 R22.2.i, .int .i64 R22.2.h], .own (.slice (some ⟨B38, 0, none⟩) 6 6) (lc ([(0 : Int), (1 : Int), (49 : Int), (50 : Int), (51 : Int), (200 : Int)])), .box B37 51 [.int .i64 R26.1.Size, Y40], .box B1 51 [.int .i64 (0 : Int), .slice none 0 0], .box B6 51 [.int .i64 S10.2.2.1, X11], .own X11 (lc S10.2.2.2.2)]) 3 kk51 rfl rfl rfl (Cel.agg ⟨(One.plain rfl), (One.can (Can.own 0 rfl)), trivial⟩) rfl rfl rfl rfl) rfl rfl rfl (fun _ => rfl) (fun _ => ?_)
            refine TA.y (listed' := #[true, true, true, true, true, true, true, true, true, true, true, true, true, true]) 13 [4, 4, 4] rfl (Y.assign rfl) rfl rfl rfl (by kernel_rfl) (by kernel_rfl) (by kernel_rfl) rfl rfl ?_
            refine TA.nil (by kernel_rfl) ?_
            exact TE.jb_go (B37, Y40) [1, 3, 3, 2, 2, 0] ⟨rfl, rfl, rfl, rfl, rfl, rfl, trivial⟩ rfl
        · refine TX.ef (listed' := #[true, true, false, false, true, true, false, false, false, false, false, false, false, false]) [2, 2, 2] rfl (Ef.buildSlice (α := Int) (Vs := [.int .i64 (0 : Int), .int .i64 (1 : Int), .int .i64 (49 : Int), .int .i64 (50 : Int), .int .i64 (51 : Int), .int .i64 (200 : Int)]) [(0 : Int), (1 : Int), (49 : Int), (50 : Int), (51 : Int), (200 : Int)] ke41 kz3 rfl rfl rfl rfl rfl) rfl rfl rfl rfl (fun _ => rfl) (fun B34 => ?_)
          refine TA.two 2 11 (by kernel_rfl) ?_ ?_
          · refine TX.ef (listed' := #[true, true, true, false, true, true, false, false, false, false, false, false, false, false]) [2, 2, 2] rfl (Ef.call (rest := [.own (.slice (some ⟨B34, 0, none⟩) 6 6) (lc ([(0 : Int), (1 : Int), (49 : Int), (50 : Int), (51 : Int), (200 : Int)])), .box B1 51 [.int .i64 (0 : Int), .slice none 0 0], .box B6 51 [.int .i64 S10.2.2.1, X11], .own X11 (lc S10.2.2.2.2)]) [1, 0, 0, 0, 0] (spec_l1Below_con ({ b := c.b, i := S10.1, h := S10.2.1 : L1Cur }) (6 : Int) V_c0 B_c R15 H16) kc64 rfl rfl ⟨(Base.can HB_V_c0), trivial⟩) rfl rfl rfl rfl (fun _ => rfl) (fun _ => ?_)
            refine TA.y (listed' := #[true, true, true, true, true, true, false, false, false, false, false, false, false, false]) 3 [2, 2, 2] rfl (Y.add rfl rfl) rfl rfl rfl (by kernel_rfl) (by kernel_rfl) (by kernel_rfl) rfl rfl ?_
            refine TA.two 6 11 (by kernel_rfl) ?_ ?_
            · refine TX.ef (listed' := #[true, true, true, true, true, true, true, false, false, false, false, false, false, false]) [2, 2, 2] rfl (Ef.call (rest := [.own (.slice (some ⟨B34, 0, none⟩) 6 6) (lc ([(0 : Int), (1 : Int), (49 : Int), (50 : Int), (51 : Int), (200 : Int)])), .box B1 51 [.int .i64 (0 : Int), .slice none 0 0], .box B6 51 [.int .i64 S10.2.2.1, X11], .own X11 (lc S10.2.2.2.2)]) [0, 0, 0, 0, 0] (spec_l1PickInt_con ({ b := c.b, i := R15.2.i, h := R15.2.h : L1Cur }) ([(0 : Int), (1 : Int), (49 : Int), (50 : Int), (51 : Int), (200 : Int)]) V_c0 B_c (.slice (some ⟨B34, 0, none⟩) 6 6) R22 H23) kc54 rfl rfl ⟨(Base.can HB_V_c0), (Can.own 0 rfl), trivial⟩) rfl rfl rfl rfl (fun _ => rfl) (fun _ => ?_)
              refine TA.two 7 11 (by kernel_rfl) ?_ ?_
              · refine TX.ef (listed' := #[true, true, true, true, true, true, true, true, false, false, false, false, false, false]) [3, 3, 3] rfl (Ef.call (rest := [.box B_c 94 [V_c0, .int .i64 R22.2.i, .int .i64 R22.2.h], .own (.slice (some ⟨B34, 0, none⟩) 6 6) (lc ([(0 : Int), (1 : Int), (49 : Int), (50 : Int), (51 : Int), (200 : Int)])), .box B1 51 [.int .i64 (0 : Int), .slice none 0 0], .box B6 51 [.int .i64 S10.2.2.1, X11], .own X11 (lc S10.2.2.2.2)]) [0, 0, 0, 0, 0] (spec_ShareSet_con ({ Size := S10.2.2.1, List := S10.2.2.2.2 : Shares }) (IntKind.i64.wrap ((1 : Int) + R15.1)) R22.1 X11 R26 H27) kc24 rfl rfl ⟨(Can.own 4 rfl), trivial⟩) rfl rfl rfl rfl (fun _ => rfl) (fun Y40 => ?_)
                refine TA.y (listed' := #[true, true, true, true, true, true, true, true, true, false, false, false, false, false]) 8 [3, 3, 3] rfl (Y.move rfl) rfl rfl rfl (by kernel_rfl) (by kernel_rfl) (by kernel_rfl) rfl rfl ?_
                refine TA.y (listed' := #[true, true, true, true, true, true, true, true, true, true, false, false, false, false]) 9 [3, 3, 3] rfl (Y.extract rfl rfl) rfl rfl rfl (by kernel_rfl) (by kernel_rfl) (by kernel_rfl) rfl rfl ?_
                refine TA.y (listed' := #[true, true, true, true, true, true, true, true, true, true, true, false, false, false]) 10 [3, 3, 3] rfl (Y.extract rfl rfl) rfl rfl rfl (by kernel_rfl) (by kernel_rfl) (by kernel_rfl) rfl rfl ?_
                refine TA.one 11 (by kernel_rfl) ?_
                refine TX.ef (listed' := #[true, true, true, true, true, true, true, true, true, true, true, true, false, false]) [4, 4, 4] rfl (Ef.alloc kz51 rfl) rfl rfl rfl rfl (fun _ => rfl) (fun B42 => ?_)
                refine TA.one 12 (by kernel_rfl) ?_
                refine TX.ef0 (listed' := #[true, true, true, true, true, true, true, true, true, true, true, true, true, false]) [4, 4, 4] rfl (Ef.store_box (us := [.int .i64 R26.1.Size, Y40]) (vs' := [.int .i64 R26.1.Size, Y40]) (is' := [.box B42 51 [.int .i64 R26.1.Size, Y40], .own Y40 (lc R26.1.List), .box B_c 94 [V_c0, .int .i64 R22.2.i, .int .i64 R22.2.h], .own (.slice (some ⟨B34, 0, none⟩) 6 6) (lc ([(0 : Int), (1 : Int), (49 : Int), (50 : Int), (51 : Int), (200 : Int)])), .box B1 51 [.int .i64 (0 : Int), .slice none 0 0], .box B6 51 [.int .i64 S10.2.2.1, X11], .own X11 (lc S10.2.2.2.2)]) 0 kk51 rfl rfl rfl (Cel.agg ⟨(One.plain rfl), (One.can (Can.own 1 rfl)), trivial⟩) rfl rfl rfl rfl) rfl rfl rfl (fun _ => rfl) (fun _ => ?_)
                refine TA.y (listed' := #[true, true, true, true, true, true, true, true, true, true, true, true, true, true]) 13 [4, 4, 4] rfl (Y.assign rfl) rfl rfl rfl (by kernel_rfl) (by kernel_rfl) (by kernel_rfl) rfl rfl ?_
                refine TA.nil (by kernel_rfl) ?_
                exact TE.jb_go (B42, Y40) [2, 3, 3, 0, 2, 0] ⟨rfl, rfl, rfl, rfl, rfl, rfl, trivial⟩ rfl
              · refine TX.ef (listed' := #[true, true, true, true, true, true, true, false, false, false, false, true, false, false]) [3, 3, 3] rfl (Ef.alloc kz51 rfl) rfl rfl rfl rfl (fun _ => rfl) (fun B41 => ?_)
                refine TA.one 7 (by kernel_rfl) ?_
                refine TX.ef (listed' := #[true, true, true, true, true, true, true, true, false, false, false, true, false, false]) [4, 4, 4] rfl (Ef.call (rest := [.box B41 51 [.int .i64 (0 : Int), .slice none 0 0], .box B_c 94 [V_c0, .int .i64 R22.2.i, .int .i64 R22.2.h], .own (.slice (some ⟨B34, 0, none⟩) 6 6) (lc ([(0 : Int), (1 : Int), (49 : Int), (50 : Int), (51 : Int), (200 : Int)])), .box B1 51 [.int .i64 (0 : Int), .slice none 0 0], .box B6 51 [.int .i64 S10.2.2.1, X11], .own X11 (lc S10.2.2.2.2)]) [0, 0, 0, 0, 0, 0] (spec_ShareSet_con ({ Size := S10.2.2.1, List := S10.2.2.2.2 : Shares }) (IntKind.i64.wrap ((1 : Int) + R15.1)) R22.1 X11 R26 H27) kc24 rfl rfl ⟨(Can.own 5 rfl), trivial⟩) rfl rfl rfl rfl (fun _ => rfl) (fun Y42 => ?_)
                refine TA.y (listed' := #[true, true, true, true, true, true, true, true, true, false, false, true, false, false]) 8 [4, 4, 4] rfl (Y.move rfl) rfl rfl rfl (by kernel_rfl) (by kernel_rfl) (by kernel_rfl) rfl rfl ?_
                refine TA.y (listed' := #[true, true, true, true, true, true, true, true, true, true, false, true, false, false]) 9 [4, 4, 4] rfl (Y.extract rfl rfl) rfl rfl rfl (by kernel_rfl) (by kernel_rfl) (by kernel_rfl) rfl rfl ?_
                refine TA.y (listed' := #[true, true, true, true, true, true, true, true, true, true, true, true, false, false]) 10 [4, 4, 4] rfl (Y.extract rfl rfl) rfl rfl rfl (by kernel_rfl) (by kernel_rfl) (by kernel_rfl) rfl rfl ?_
                refine TA.one 12 (by kernel_rfl) ?_
                refine TX.ef0 (listed' := #[true, true, true, true, true, true, true, true, true, true, true, true, true, false]) [4, 4, 4] rfl (Ef.store_box (us := [.int .i64 R26.1.Size, Y42]) (vs' := [.int .i64 R26.1.Size, Y42]) (is' := [.own Y42 (lc R26.1.List), .box B41 51 [.int .i64 R26.1.Size, Y42], .box B_c 94 [V_c0, .int .i64 R22.2.i, .int .i64 R22.2.h], .own (.slice (some ⟨B34, 0, none⟩) 6 6) (lc ([(0 : Int), (1 : Int), (49 : Int), (50 : Int), (51 : Int), (200 : Int)])), .box B1 51 [.int .i64 (0 : Int), .slice none 0 0], .box B6 51 [.int .i64 S10.2.2.1, X11], .own X11 (lc S10.2.2.2.2)]) 1 kk51 rfl rfl rfl (Cel.agg ⟨(One.plain rfl), (One.can (Can.own 0 rfl)), trivial⟩) rfl rfl rfl rfl) rfl rfl rfl (fun _ => rfl) (fun _ => ?_)
                refine TA.y (listed' := #[true, true, true, true, true, true, true, true, true, true, true, true, true, true]) 13 [4, 4, 4] rfl (Y.assign rfl) rfl rfl rfl (by kernel_rfl) (by kernel_rfl) (by kernel_rfl) rfl rfl ?_
                refine TA.nil (by kernel_rfl) ?_
                exact TE.jb_go (B41, Y42) [2, 3, 3, 1, 2, 0] ⟨rfl, rfl, rfl, rfl, rfl, rfl, trivial⟩ rfl
            · refine TX.ef (listed' := #[true, true, true, true, true, true, false, false, false, false, false, true, false, false]) [3, 3, 3] rfl (Ef.alloc kz51 rfl) rfl rfl rfl rfl (fun _ => rfl) (fun B39 => ?_)
              refine TA.one 6 (by kernel_rfl) ?_
              refine TX.ef (listed' := #[true, true, true, true, true, true, true, false, false, false, false, true, false, false]) [3, 3, 3] rfl (Ef.call (rest := [.box B39 51 [.int .i64 (0 : Int), .slice none 0 0], .own (.slice (some ⟨B34, 0, none⟩) 6 6) (lc ([(0 : Int), (1 : Int), (49 : Int), (50 : Int), (51 : Int), (200 : Int)])), .box B1 51 [.int .i64 (0 : Int), .slice none 0 0], .box B6 51 [.int .i64 S10.2.2.1, X11], .own X11 (lc S10.2.2.2.2)]) [1, 0, 0, 0, 0, 0] (spec_l1PickInt_con ({ b := c.b, i := R15.2.i, h := R15.2.h : L1Cur }) ([(0 : Int), (1 : Int), (49 : Int), (50 : Int), (51 : Int), (200 : Int)]) V_c0 B_c (.slice (some ⟨B34, 0, none⟩) 6 6) R22 H23) kc54 rfl rfl ⟨(Base.can HB_V_c0), (Can.own 1 rfl), trivial⟩) rfl rfl rfl rfl (fun _ => rfl) (fun _ => ?_)
              refine TA.one 7 (by kernel_rfl) ?_
              refine TX.ef (listed' := #[true, true, true, true, true, true, true, true, false, false, false, true, false, false]) [4, 4, 4] rfl (Ef.call (rest := [.box B_c 94 [V_c0, .int .i64 R22.2.i, .int .i64 R22.2.h], .box B39 51 [.int .i64 (0 : Int), .slice none 0 0], .own (.slice (some ⟨B34, 0, none⟩) 6 6) (lc ([(0 : Int), (1 : Int), (49 : Int), (50 : Int), (51 : Int), (200 : Int)])), .box B1 51 [.int .i64 (0 : Int), .slice none 0 0], .box B6 51 [.int .i64 S10.2.2.1, X11], .own X11 (lc S10.2.2.2.2)]) [0, 0, 0, 0, 0, 0] (spec_ShareSet_con ({ Size := S10.2.2.1, List := S10.2.2.2.2 : Shares }) (IntKind.i64.wrap ((1 : Int) + R15.1)) R22.1 X11 R26 H27) kc24 rfl rfl ⟨(Can.own 5 rfl), trivial⟩) rfl rfl rfl rfl (fun _ => rfl) (fun Y41 => ?_)
              refine TA.y (listed' := #[true, true, true, true, true, true, true, true, true, false, false, true, false, false]) 8 [4, 4, 4] rfl (Y.move rfl) rfl rfl rfl (by kernel_rfl) (by kernel_rfl) (by kernel_rfl) rfl rfl ?_
              refine TA.y (listed' := #[true, true, true, true, true, true, true, true, true, true, false, true, false, false]) 9 [4, 4, 4] rfl (Y.extract rfl rfl) rfl rfl rfl (by kernel_rfl) (by kernel_rfl) (by kernel_rfl) rfl rfl ?_
              refine TA.y (listed' := #[true, true, true, true, true, true, true, true, true, true, true, true, false, false]) 10 [4, 4, 4] rfl (Y.extract rfl rfl) rfl rfl rfl (by kernel_rfl) (by kernel_rfl) (by kernel_rfl) rfl rfl ?_
              refine TA.one 12 (by kernel_rfl) ?_
              refine TX.ef0 (listed' := #[true, true, true, true, true, true, true, true, true, true, true, true, true, false]) [4, 4, 4] rfl (Ef.store_box (us := [.int .i64 R26.1.Size, Y41]) (vs' := [.int .i64 R26.1.Size, Y41]) (is' := [.own Y41 (lc R26.1.List), .box B_c 94 [V_c0, .int .i64 R22.2.i, .int .i64 R22.2.h], .box B39 51 [.int .i64 R26.1.Size, Y41], .own (.slice (some ⟨B34, 0, none⟩) 6 6) (lc ([(0 : Int), (1 : Int), (49 : Int), (50 : Int), (51 : Int), (200 : Int)])), .box B1 51 [.int .i64 (0 : Int), .slice none 0 0], .box B6 51 [.int .i64 S10.2.2.1, X11], .own X11 (lc S10.2.2.2.2)]) 2 kk51 rfl rfl rfl (Cel.agg ⟨(One.plain rfl), (One.can (Can.own 0 rfl)), trivial⟩) rfl rfl rfl rfl) rfl rfl rfl (fun _ => rfl) (fun _ => ?_)
              refine TA.y (listed' := #[true, true, true, true, true, true, true, true, true, true, true, true, true, true]) 13 [4, 4, 4] rfl (Y.assign rfl) rfl rfl rfl (by kernel_rfl) (by kernel_rfl) (by kernel_rfl) rfl rfl ?_
              refine TA.nil (by kernel_rfl) ?_
              exact TE.jb_go (B39, Y41) [1, 3, 3, 1, 2, 0] ⟨rfl, rfl, rfl, rfl, rfl, rfl, trivial⟩ rfl
          · refine TX.ef (listed' := #[true, true, false, false, true, true, false, false, false, false, false, true, false, false]) [3, 3, 3] rfl (Ef.alloc kz51 rfl) rfl rfl rfl rfl (fun _ => rfl) (fun B37 => ?_)
            refine TA.one 2 (by kernel_rfl) ?_
            refine TX.ef (listed' := #[true, true, true, false, true, true, false, false, false, false, false, true, false, false]) [3, 3, 3] rfl (Ef.call (rest := [.box B37 51 [.int .i64 (0 : Int), .slice none 0 0], .own (.slice (some ⟨B34, 0, none⟩) 6 6) (lc ([(0 : Int), (1 : Int), (49 : Int), (50 : Int), (51 : Int), (200 : Int)])), .box B1 51 [.int .i64 (0 : Int), .slice none 0 0], .box B6 51 [.int .i64 S10.2.2.1, X11], .own X11 (lc S10.2.2.2.2)]) [2, 0, 0, 0, 0, 0] (spec_l1Below_con ({ b := c.b, i := S10.1, h := S10.2.1 : L1Cur }) (6 : Int) V_c0 B_c R15 H16) kc64 rfl rfl ⟨(Base.can HB_V_c0), trivial⟩) rfl rfl rfl rfl (fun _ => rfl) (fun _ => ?_)
            refine TA.y (listed' := #[true, true, true, true, true, true, false, false, false, false, false, true, false, false]) 3 [3, 3, 3] rfl (Y.add rfl rfl) rfl rfl rfl (by kernel_rfl) (by kernel_rfl) (by kernel_rfl) rfl rfl ?_
            refine TA.one 6 (by kernel_rfl) ?_
            refine TX.ef (listed' := #[true, true, true, true, true, true, true, false, false, false, false, true, false, false]) [3, 3, 3] rfl (Ef.call (rest := [.box B37 51 [.int .i64 (0 : Int), .slice none 0 0], .own (.slice (some ⟨B34, 0, none⟩) 6 6) (lc ([(0 : Int), (1 : Int), (49 : Int), (50 : Int), (51 : Int), (200 : Int)])), .box B1 51 [.int .i64 (0 : Int), .slice none 0 0], .box B6 51 [.int .i64 S10.2.2.1, X11], .own X11 (lc S10.2.2.2.2)]) [0, 0, 0, 0, 0, 0] (spec_l1PickInt_con ({ b := c.b, i := R15.2.i, h := R15.2.h : L1Cur }) ([(0 : Int), (1 : Int), (49 : Int), (50 : Int), (51 : Int), (200 : Int)]) V_c0 B_c (.slice (some ⟨B34, 0, none⟩) 6 6) R22 H23) kc54 rfl rfl ⟨(Base.can HB_V_c0), (Can.own 1 rfl), trivial⟩) rfl rfl rfl rfl (fun _ => rfl) (fun _ => ?_)
            refine TA.one 7 (by kernel_rfl) ?_
            refine TX.ef (listed' := #[true, true, true, true, true, true, true, true, false, false, false, true, false, false]) [4, 4, 4] rfl (Ef.call (rest := [.box B_c 94 [V_c0, .int .i64 R22.2.i, .int .i64 R22.2.h], .box B37 51 [.int .i64 (0 : Int), .slice none 0 0], .own (.slice (some ⟨B34, 0, none⟩) 6 6) (lc ([(0 : Int), (1 : Int), (49 : Int), (50 : Int), (51 : Int), (200 : Int)])), .box B1 51 [.int .i64 (0 : Int), .slice none 0 0], .box B6 51 [.int .i64 S10.2.2.1, X11], .own X11 (lc S10.2.2.2.2)]) [0, 0, 0, 0, 0, 0] (spec_ShareSet_con ({ Size := S10.2.2.1, List := S10.2.2.2.2 : Shares }) (IntKind.i64.wrap ((1 : Int) + R15.1)) R22.1 X11 R26 H27) kc24 rfl rfl ⟨(Can.own 5 rfl), trivial⟩) rfl rfl rfl rfl (fun _ => rfl) (fun Y40 => ?_)
            refine TA.y (listed' := #[true, true, true, true, true, true, true, true, true, false, false, true, false, false]) 8 [4, 4, 4] rfl (Y.move rfl) rfl rfl rfl (by kernel_rfl) (by kernel_rfl) (by kernel_rfl) rfl rfl ?_
            refine TA.y (listed' := #[true, true, true, true, true, true, true, true, true, true, false, true, false, false]) 9 [4, 4, 4] rfl (Y.extract rfl rfl) rfl rfl rfl (by kernel_rfl) (by kernel_rfl) (by kernel_rfl) rfl rfl ?_
            refine TA.y (listed' := #[true, true, true, true, true, true, true, true, true, true, true, true, false, false]) 10 [4, 4, 4] rfl (Y.extract rfl rfl) rfl rfl rfl (by kernel_rfl) (by kernel_rfl) (by kernel_rfl) rfl rfl ?_
            refine TA.one 12 (by kernel_rfl) ?_
            refine TX.ef0 (listed' := #[true, true, true, true, true, true, true, true, true, true, true, true, true, false]) [4, 4, 4] rfl (Ef.store_box (us := [.int .i64 R26.1.Size, Y40]) (vs' := [.int .i64 R26.1.Size, Y40]) (is' := [.own Y40 (lc R26.1.List), .box B_c 94 [V_c0, .int .i64 R22.2.i, .int .i64 R22.2.h], .box B37 51 [.int .i64 R26.1.Size, Y40], .own (.slice (some ⟨B34, 0, none⟩) 6 6) (lc ([(0 : Int), (1 : Int), (49 : Int), (50 : Int), (51 : Int), (200 : Int)])), .box B1 51 [.int .i64 (0 : Int), .slice none 0 0], .box B6 51 [.int .i64 S10.2.2.1, X11], .own X11 (lc S10.2.2.2.2)]) 2 kk51 rfl rfl rfl (Cel.agg ⟨(One.plain rfl), (One.can (Can.own 0 rfl)), trivial⟩) rfl rfl rfl rfl) rfl rfl rfl (fun _ => rfl) (fun _ => ?_)
            refine TA.y (listed' := #[true, true, true, true, true, true, true, true, true, true, true, true, true, true]) 13 [4, 4, 4] rfl (Y.assign rfl) rfl rfl rfl (by kernel_rfl) (by kernel_rfl) (by kernel_rfl) rfl rfl ?_
            refine TA.nil (by kernel_rfl) ?_
            exact TE.jb_go (B37, Y40) [1, 3, 3, 1, 2, 0] ⟨rfl, rfl, rfl, rfl, rfl, rfl, trivial⟩ rfl
        · refine TX.ef (listed' := #[true, true, false, false, true, false, false, false, false, false, false, true, false, false]) [2, 2, 2] rfl (Ef.alloc kz51 rfl) rfl rfl rfl rfl (fun _ => rfl) (fun B35 => ?_)
          refine TA.two 2 5 (by kernel_rfl) ?_ ?_
          · refine TX.ef (listed' := #[true, true, true, false, true, false, false, false, false, false, false, true, false, false]) [2, 2, 2] rfl (Ef.call (rest := [.box B35 51 [.int .i64 (0 : Int), .slice none 0 0], .box B1 51 [.int .i64 (0 : Int), .slice none 0 0], .box B6 51 [.int .i64 S10.2.2.1, X11], .own X11 (lc S10.2.2.2.2)]) [1, 0, 0, 0, 0] (spec_l1Below_con ({ b := c.b, i := S10.1, h := S10.2.1 : L1Cur }) (6 : Int) V_c0 B_c R15 H16) kc64 rfl rfl ⟨(Base.can HB_V_c0), trivial⟩) rfl rfl rfl rfl (fun _ => rfl) (fun _ => ?_)
            refine TA.y (listed' := #[true, true, true, true, true, false, false, false, false, false, false, true, false, false]) 3 [2, 2, 2] rfl (Y.add rfl rfl) rfl rfl rfl (by kernel_rfl) (by kernel_rfl) (by kernel_rfl) rfl rfl ?_
            refine TA.one 5 (by kernel_rfl) ?_
            refine TX.ef (listed' := #[true, true, true, true, true, true, false, false, false, false, false, true, false, false]) [3, 3, 3] rfl (Ef.buildSlice (α := Int) (Vs := [.int .i64 (0 : Int), .int .i64 (1 : Int), .int .i64 (49 : Int), .int .i64 (50 : Int), .int .i64 (51 : Int), .int .i64 (200 : Int)]) [(0 : Int), (1 : Int), (49 : Int), (50 : Int), (51 : Int), (200 : Int)] ke41 kz3 rfl rfl rfl rfl rfl) rfl rfl rfl rfl (fun _ => rfl) (fun B38 => ?_)
            refine TA.one 6 (by kernel_rfl) ?_
            refine TX.ef (listed' := #[true, true, true, true, true, true, true, false, false, false, false, true, false, false]) [3, 3, 3] rfl (Ef.call (rest := [.own (.slice (some ⟨B38, 0, none⟩) 6 6) (lc ([(0 : Int), (1 : Int), (49 : Int), (50 : Int), (51 : Int), (200 : Int)])), .box B35 51 [.int .i64 (0 : Int), .slice none 0 0], .box B1 51 [.int .i64 (0 : Int), .slice none 0 0], .box B6 51 [.int .i64 S10.2.2.1, X11], .own X11 (lc S10.2.2.2.2)]) [1, 0, 0, 0, 0, 0] (spec_l1PickInt_con ({ b := c.b, i := R15.2.i, h := R15.2.h : L1Cur }) ([(0 : Int), (1 : Int), (49 : Int), (50 : Int), (51 : Int), (200 : Int)]) V_c0 B_c (.slice (some ⟨B38, 0, none⟩) 6 6) R22 H23) kc54 rfl rfl ⟨(Base.can HB_V_c0), (Can.own 0 rfl), trivial⟩) rfl rfl rfl rfl (fun _ => rfl) (fun _ => ?_)
            refine TA.one 7 (by kernel_rfl) ?_
            refine TX.ef (listed' := #[true, true, true, true, true, true, true, true, false, false, false, true, false, false]) [4, 4, 4] rfl (Ef.call (rest := [.box B_c 94 [V_c0, .int .i64 R22.2.i, .int .i64 R22.2.h], .own (.slice (some ⟨B38, 0, none⟩) 6 6) (lc ([(0 : Int), (1 : Int), (49 : Int), (50 : Int), (51 : Int), (200 : Int)])), .box B35 51 [.int .i64 (0 : Int), .slice none 0 0], .box B1 51 [.int .i64 (0 : Int), .slice none 0 0], .box B6 51 [.int .i64 S10.2.2.1, X11], .own X11 (lc S10.2.2.2.2)]) [0, 0, 0, 0, 0, 0] (spec_ShareSet_con ({ Size := S10.2.2.1, List := S10.2.2.2.2 : Shares }) (IntKind.i64.wrap ((1 : Int) + R15.1)) R22.1 X11 R26 H27) kc24 rfl rfl ⟨(Can.own 5 rfl), trivial⟩) rfl rfl rfl rfl (fun _ => rfl) (fun Y40 => ?_)
            refine TA.y (listed' := #[true, true, true, true, true, true, true, true, true, false, false, true, false, false]) 8 [4, 4, 4] rfl (Y.move rfl) rfl rfl rfl (by kernel_rfl) (by kernel_rfl) (by kernel_rfl) rfl rfl ?_
            refine TA.y (listed' := #[true, true, true, true, true, true, true, true, true, true, false, true, false, false]) 9 [4, 4, 4] rfl (Y.extract rfl rfl) rfl rfl rfl (by kernel_rfl) (by kernel_rfl) (by kernel_rfl) rfl rfl ?_
            refine TA.y (listed' := #[true, true, true, true, true, true, true, true, true, true, true, true, false, false]) 10 [4, 4, 4] rfl (Y.extract rfl rfl) rfl rfl rfl (by kernel_rfl) (by kernel_rfl) (by kernel_rfl) rfl rfl ?_
            refine TA.one 12 (by kernel_rfl) ?_
            refine TX.ef0 (listed' := #[true, true, true, true, true, true, true, true, true, true, true, true, true, false]) [4, 4, 4] rfl (Ef.store_box (us := [.int .i64 R26.1.Size, Y40]) (vs' := [.int .i64 R26.1.Size, Y40]) (is' := [.own Y40 (lc R26.1.List), .box B_c 94 [V_c0, .int .i64 R22.2.i, .int .i64 R22.2.h], .own (.slice (some ⟨B38, 0, none⟩) 6 6) (lc ([(0 : Int), (1 : Int), (49 : Int), (50 : Int), (51 : Int), (200 : Int)])), .box B35 51 [.int .i64 R26.1.Size, Y40], .box B1 51 [.int .i64 (0 : Int), .slice none 0 0], .box B6 51 [.int .i64 S10.2.2.1, X11], .own X11 (lc S10.2.2.2.2)]) 3 kk51 rfl rfl rfl (Cel.agg ⟨(One.plain rfl), (One.can (Can.own 0 rfl)), trivial⟩) rfl rfl rfl rfl) rfl rfl rfl (fun _ => rfl) (fun _ => ?_)
            refine TA.y (listed' := #[true, true, true, true, true, true, true, true, true, true, true, true, true, true]) 13 [4, 4, 4] rfl (Y.assign rfl) rfl rfl rfl (by kernel_rfl) (by kernel_rfl) (by kernel_rfl) rfl rfl ?_
            refine TA.nil (by kernel_rfl) ?_
            exact TE.jb_go (B35, Y40) [1, 3, 3, 2, 2, 0] ⟨rfl, rfl, rfl, rfl, rfl, rfl, trivial⟩ rfl
          · refine TX.ef (listed' := #[true, true, false, false, true, true, false, false, false, false, false, true, false, false]) [3, 3, 3] rfl (Ef.buildSlice (α := Int) (Vs := [.int .i64 (0 : Int), .int .i64 (1 : Int), .int .i64 (49 : Int), .int .i64 (50 : Int), .int .i64 (51 : Int), .int .i64 (200 : Int)]) [(0 : Int), (1 : Int), (49 : Int), (50 : Int), (51 : Int), (200 : Int)] ke41 kz3 rfl rfl rfl rfl rfl) rfl rfl rfl rfl (fun _ => rfl) (fun B37 => ?_)
            refine TA.one 2 (by kernel_rfl) ?_
            refine TX.ef (listed' := #[true, true, true, false, true, true, false, false, false, false, false, true, false, false]) [3, 3, 3] rfl (Ef.call (rest := [.own (.slice (some ⟨B37, 0, none⟩) 6 6) (lc ([(0 : Int), (1 : Int), (49 : Int), (50 : Int), (51 : Int), (200 : Int)])), .box B35 51 [.int .i64 (0 : Int), .slice none 0 0], .box B1 51 [.int .i64 (0 : Int), .slice none 0 0], .box B6 51 [.int .i64 S10.2.2.1, X11], .own X11 (lc S10.2.2.2.2)]) [2, 0, 0, 0, 0, 0] (spec_l1Below_con ({ b := c.b, i := S10.1, h := S10.2.1 : L1Cur }) (6 : Int) V_c0 B_c R15 H16) kc64 rfl rfl ⟨(Base.can HB_V_c0), trivial⟩) rfl rfl rfl rfl (fun _ => rfl) (fun _ => ?_)
            refine TA.y (listed' := #[true, true, true, true, true, true, false, false, false, false, false, true, false, false]) 3 [3, 3, 3] rfl (Y.add rfl rfl) rfl rfl rfl (by kernel_rfl) (by kernel_rfl) (by kernel_rfl) rfl rfl ?_
            refine TA.one 6 (by kernel_rfl) ?_
            refine TX.ef (listed' := #[true, true, true, true, true, true, true, false, false, false, false, true, false, false]) [3, 3, 3] rfl (Ef.call (rest := [.own (.slice (some ⟨B37, 0, none⟩) 6 6) (lc ([(0 : Int), (1 : Int), (49 : Int), (50 : Int), (51 : Int), (200 : Int)])), .box B35 51 [.int .i64 (0 : Int), .slice none 0 0], .box B1 51 [.int .i64 (0 : Int), .slice none 0 0], .box B6 51 [.int .i64 S10.2.2.1, X11], .own X11 (lc S10.2.2.2.2)]) [0, 0, 0, 0, 0, 0] (spec_l1PickInt_con ({ b := c.b, i := R15.2.i, h := R15.2.h : L1Cur }) ([(0 : Int), (1 : Int), (49 : Int), (50 : Int), (51 : Int), (200 : Int)]) V_c0 B_c (.slice (some ⟨B37, 0, none⟩) 6 6) R22 H23) kc54 rfl rfl ⟨(Base.can HB_V_c0), (Can.own 0 rfl), trivial⟩) rfl rfl rfl rfl (fun _ => rfl) (fun _ => ?_)
            refine TA.one 7 (by kernel_rfl) ?_
            refine TX.ef (listed' := #[true, true, true, true, true, true, true, true, false, false, false, true, false, false]) [4, 4, 4] rfl (Ef.call (rest := [.box B_c 94 [V_c0, .int .i64 R22.2.i, .int .i64 R22.2.h], .own (.slice (some ⟨B37, 0, none⟩) 6 6) (lc ([(0 : Int), (1 : Int), (49 : Int), (50 : Int), (51 : Int), (200 : Int)])), .box B35 51 [.int .i64 (0 : Int), .slice none 0 0], .box B1 51 [.int .i64 (0 : Int), .slice none 0 0], .box B6 51 [.int .i64 S10.2.2.1, X11], .own X11 (lc S10.2.2.2.2)]) [0, 0, 0, 0, 0, 0] (spec_ShareSet_con ({ Size := S10.2.2.1, List := S10.2.2.2.2 : Shares }) (IntKind.i64.wrap ((1 : Int) + R15.1)) R22.1 X11 R26 H27) kc24 rfl rfl ⟨(Can.own 5 rfl), trivial⟩) rfl rfl rfl rfl (fun _ => rfl) (fun Y40 => ?_)
            refine TA.y (listed' := #[true, true, true, true, true, true, true, true, true, false, false, true, false, false]) 8 [4, 4, 4] rfl (Y.move rfl) rfl rfl rfl (by kernel_rfl) (by kernel_rfl) (by kernel_rfl) rfl rfl ?_
            refine TA.y (listed' := #[true, true, true, true, true, true, true, true, true, true, false, true, false, false]) 9 [4, 4, 4] rfl (Y.extract rfl rfl) rfl rfl rfl (by kernel_rfl) (by kernel_rfl) (by kernel_rfl) rfl rfl ?_
            refine TA.y (listed' := #[true, true, true, true, true, true, true, true, true, true, true, true, false, false]) 10 [4, 4, 4] rfl (Y.extract rfl rfl) rfl rfl rfl (by kernel_rfl) (by kernel_rfl) (by kernel_rfl) rfl rfl ?_
            refine TA.one 12 (by kernel_rfl) ?_
            refine TX.ef0 (listed' := #[true, true, true, true, true, true, true, true, true, true, true, true, true, false]) [4, 4, 4] rfl (Ef.store_box (us := [.int .i64 R26.1.Size, Y40]) (vs' := [.int .i64 R26.1.Size, Y40]) (is' := [.own Y40 (lc R26.1.List), .box B_c 94 [V_c0, .int .i64 R22.2.i, .int .i64 R22.2.h], .own (.slice (some ⟨B37, 0, none⟩) 6 6) (lc ([(0 : Int), (1 : Int), (49 : Int), (50 : Int), (51 : Int), (200 : Int)])), .box B35 51 [.int .i64 R26.1.Size, Y40], .box B1 51 [.int .i64 (0 : Int), .slice none 0 0], .box B6 51 [.int .i64 S10.2.2.1, X11], .own X11 (lc S10.2.2.2.2)]) 3 kk51 rfl rfl rfl (Cel.agg ⟨(One.plain rfl), (One.can (Can.own 0 rfl)), trivial⟩) rfl rfl rfl rfl) rfl rfl rfl (fun _ => rfl) (fun _ => ?_)
            refine TA.y (listed' := #[true, true, true, true, true, true, true, true, true, true, true, true, true, true]) 13 [4, 4, 4] rfl (Y.assign rfl) rfl rfl rfl (by kernel_rfl) (by kernel_rfl) (by kernel_rfl) rfl rfl ?_
            refine TA.nil (by kernel_rfl) ?_
            exact TE.jb_go (B35, Y40) [1, 3, 3, 2, 2, 0] ⟨rfl, rfl, rfl, rfl, rfl, rfl, trivial⟩ rfl
      · refine TE.next ?_
        refine TW.seq ?_
        refine TW.region ?_
        refine TO.y (Y.move rfl) rfl rfl rfl ?_
        refine TO.nil ?_
        refine TE.next ?_
        refine TW.joinX (τ := Int × List Share) (X := Value) (fun _ _ => [(0, .pointer (some ⟨B_c, 0, none⟩)), (2, .pointer (some ⟨B1, 0, none⟩)), (3, .pointer (some ⟨B6, 0, none⟩)), (4, .int .i64 S10.2.2.2.1)]) (fun T X => [.box B_c 94 [V_c0, .int .i64 R22.2.i, .int .i64 R22.2.h], .box B1 51 [.int .i64 (0 : Int), .slice none 0 0], .box B6 51 [.int .i64 T.1, X], .own X (lc T.2)]) ?_ (fun T36 X37 => ?_)
        · refine TW.cond rfl (fun H38 => ?_) (fun H38 => ?_)
          · refine TW.region ?_
            refine TO.y (Y.load_box (v := .agg #[.int .i64 R26.1.Size, X32.2]) 3 kk51 rfl rfl rfl) rfl rfl rfl ?_
            refine TO.ef0 (Ef.store_box (us := [.int .i64 R26.1.Size, X32.2]) (vs' := [.int .i64 R26.1.Size, X32.2]) (is' := [.box B_c 94 [V_c0, .int .i64 R22.2.i, .int .i64 R22.2.h], .box B1 51 [.int .i64 (0 : Int), .slice none 0 0], .box B6 51 [.int .i64 R26.1.Size, X32.2], .box X32.1 51 [.int .i64 R26.1.Size, X32.2], .own X11 (lc S10.2.2.2.2), .own X32.2 (lc R26.1.List)]) 2 kk51 rfl rfl rfl (Cel.agg ⟨(One.plain rfl), (One.can (Can.own 5 rfl)), trivial⟩) rfl rfl rfl rfl) rfl rfl (fun _ => ?_)
            refine TO.nil ?_
            exact TE.jn_go X32.2 [0, 0, 0, 2] ⟨rfl, rfl, rfl, rfl, trivial⟩ rfl
          · refine TW.skip ?_
            exact TE.jn_go X11 [0, 0, 0, 1] ⟨rfl, rfl, rfl, rfl, trivial⟩ rfl
        · refine TE.block_normal ?_
          refine TE.next ?_
          refine TW.region ?_
          refine TO.y (Y.move rfl) rfl rfl rfl ?_
          refine TO.y (Y.sub rfl rfl) rfl rfl rfl ?_
          refine TO.y (Y.assign rfl) rfl rfl rfl ?_
          refine TO.nil ?_
          exact TE.lp_go X37 [0, 0, 0, 0] ⟨rfl, rfl, rfl, rfl, trivial⟩ rfl
    · refine TW.exit ?_
      refine TE.then_exit ?_
      refine TE.lp_exit ?_
      refine TE.block_exit ?_
      exact TE.jn_go X11 [0, 0, 0, 0] ⟨rfl, rfl, rfl, trivial⟩ rfl
  · refine TE.next ?_
    refine TW.seq ?_
    refine TW.seq ?_
    refine TW.region ?_
    refine TO.y (Y.move rfl) rfl rfl rfl ?_
    refine TO.bind fun R39 H40 => ?_
    refine TO.ef (Ef.call (rest := [.box B1 51 [.int .i64 (0 : Int), .slice none 0 0], .box B6 51 [.int .i64 T12.2.2.1, X13], .own X13 (lc T12.2.2.2)]) [0, 0, 0, 0] (spec_l1Once_con ({ b := c.b, i := T12.1, h := T12.2.1 : L1Cur }) (10 : Int) V_c0 B_c R39 H40) kc46 rfl rfl ⟨(Base.can HB_V_c0), trivial⟩) rfl rfl rfl (fun _ => ?_)
    refine TO.nil ?_
    refine TE.next ?_
    refine TW.joinX (τ := Int × Int × Int × List Share) (X := Value) (fun _ _ => [(2, .pointer (some ⟨B1, 0, none⟩)), (3, .pointer (some ⟨B6, 0, none⟩))]) (fun T X => [.box B1 51 [.int .i64 (0 : Int), .slice none 0 0], .box B6 51 [.int .i64 T.1, X], .box B_c 94 [V_c0, .int .i64 T.2.1, .int .i64 T.2.2.1], .own X (lc T.2.2.2)]) ?_ (fun T42 X43 => ?_)
    · refine TW.cond rfl (fun H44 => ?_) (fun H44 => ?_)
      · refine TW.seq ?_
        refine TW.region ?_
        refine TO.y (Y.move rfl) rfl rfl rfl ?_
        refine TO.bind fun R45 H46 => ?_
        refine TO.ef (Ef.call (rest := [.box B1 51 [.int .i64 (0 : Int), .slice none 0 0], .box B6 51 [.int .i64 T12.2.2.1, X13], .own X13 (lc T12.2.2.2)]) [0, 0, 0, 0] (spec_l1Below_con ({ b := c.b, i := R39.2.i, h := R39.2.h : L1Cur }) (3 : Int) V_c0 B_c R45 H46) kc64 rfl rfl ⟨(Base.can HB_V_c0), trivial⟩) rfl rfl rfl (fun _ => ?_)
        refine TO.nil ?_
        refine TE.next ?_
        refine TW.block ?_
        refine TW.seq ?_
        refine TW.region ?_
        refine TO.y (Y.eql rfl rfl) rfl rfl rfl ?_
        refine TO.y (Y.assign rfl) rfl rfl rfl ?_
        refine TO.nil ?_
        refine TE.next ?_
        refine TW.joinX (τ := Int × Int × Int × List Share) (X := Value) (fun _ _ => [(2, .pointer (some ⟨B1, 0, none⟩)), (3, .pointer (some ⟨B6, 0, none⟩))]) (fun T X => [.box B1 51 [.int .i64 (0 : Int), .slice none 0 0], .box B6 51 [.int .i64 T.1, X], .box B_c 94 [V_c0, .int .i64 T.2.1, .int .i64 T.2.2.1], .own X (lc T.2.2.2)]) ?_ (fun T48 X49 => ?_)
        · refine TW.cond rfl (fun H50 => ?_) (fun H50 => ?_)
          · refine TW.region ?_
            refine TO.y (Y.move rfl) rfl rfl rfl ?_
            refine TO.ef (Ef.buildSlice (α := Int) (Vs := [.int .i64 (-1 : Int), .int .i64 (1001 : Int), .int .i64 (7 : Int)]) [(-1 : Int), (1001 : Int), (7 : Int)] ke41 kz3 rfl rfl rfl rfl rfl) rfl rfl rfl (fun B51 => ?_)
            refine TO.bind fun R52 H53 => ?_
            refine TO.ef (Ef.call (rest := [.own (.slice (some ⟨B51, 0, none⟩) 3 3) (lc ([(-1 : Int), (1001 : Int), (7 : Int)])), .box B1 51 [.int .i64 (0 : Int), .slice none 0 0], .box B6 51 [.int .i64 T12.2.2.1, X13], .own X13 (lc T12.2.2.2)]) [1, 0, 0, 0, 0] (spec_l1PickInt_con ({ b := c.b, i := R45.2.i, h := R45.2.h : L1Cur }) ([(-1 : Int), (1001 : Int), (7 : Int)]) V_c0 B_c (.slice (some ⟨B51, 0, none⟩) 3 3) R52 H53) kc54 rfl rfl ⟨(Base.can HB_V_c0), (Can.own 0 rfl), trivial⟩) rfl rfl rfl (fun _ => ?_)
            refine TO.y (Y.field_box kf51_0 rfl rfl) rfl rfl rfl ?_
            refine TO.ef0 (Ef.store_box (us := [.int .i64 R52.1]) (vs' := [.int .i64 R52.1, X13]) (is' := [.box B_c 94 [V_c0, .int .i64 R52.2.i, .int .i64 R52.2.h], .own (.slice (some ⟨B51, 0, none⟩) 3 3) (lc ([(-1 : Int), (1001 : Int), (7 : Int)])), .box B1 51 [.int .i64 (0 : Int), .slice none 0 0], .box B6 51 [.int .i64 R52.1, X13], .own X13 (lc T12.2.2.2)]) 3 kk3 rfl rfl rfl (Cel.plain rfl rfl) rfl rfl rfl rfl) rfl rfl (fun _ => ?_)
            refine TO.nil ?_
            exact TE.jn_go X13 [2, 2, 0, 1] ⟨rfl, rfl, trivial⟩ rfl
          · refine TW.seq ?_
            refine TW.region ?_
            refine TO.y (Y.eql rfl rfl) rfl rfl rfl ?_
            refine TO.y (Y.assign rfl) rfl rfl rfl ?_
            refine TO.nil ?_
            refine TE.next ?_
            refine TW.joinX (τ := Int × Int × List Share) (X := Value) (fun _ _ => [(2, .pointer (some ⟨B1, 0, none⟩)), (3, .pointer (some ⟨B6, 0, none⟩))]) (fun T X => [.box B1 51 [.int .i64 (0 : Int), .slice none 0 0], .box B6 51 [.int .i64 T12.2.2.1, X], .box B_c 94 [V_c0, .int .i64 T.1, .int .i64 T.2.1], .own X (lc T.2.2)]) ?_ (fun T55 X56 => ?_)
            · refine TW.cond rfl (fun H57 => ?_) (fun H57 => ?_)
              · refine TW.bind fun R58 H59 => ?_
                refine TW.bind fun E64 H65 => ?_
                refine TW.joinU (X := Value) (fun _ _ => [(2, .pointer (some ⟨B1, 0, none⟩)), (3, .pointer (some ⟨B6, 0, none⟩))]) (fun _ X => [.box B1 51 [.int .i64 (0 : Int), .slice none 0 0], .box B6 51 [.int .i64 T12.2.2.1, X], .box B_c 94 [V_c0, .int .i64 R58.2.i, .int .i64 R58.2.h], .own X (lc E64)]) ?_ (fun _ X67 => ?_)
                · refine TW.draw (isH := [.box B1 51 [.int .i64 (0 : Int), .slice none 0 0]]) hMix ?_
                  refine TA.y (listed' := #[true, false, false, false, false, false, false, false, false]) 0 [1] rfl (Y.field_box kf51_1 rfl rfl) rfl rfl rfl (by kernel_rfl) (by kernel_rfl) (by kernel_rfl) rfl rfl ?_
                  refine TA.y (listed' := #[true, false, true, false, false, false, false, false, false]) 2 [1] rfl (Y.move rfl) rfl rfl rfl (by kernel_rfl) (by kernel_rfl) (by kernel_rfl) rfl rfl ?_
                  refine TA.two 1 3 (by kernel_rfl) ?_ ?_
                  · refine TX.y (listed' := #[true, true, true, false, false, false, false, false, false]) [1] rfl (Y.load_box (v := X13) 2 kk49 rfl rfl rfl) rfl rfl rfl rfl rfl ?_
                    refine TA.one 3 (by kernel_rfl) ?_
                    refine TX.ef (listed' := #[true, true, true, true, false, false, false, false, false]) [1] rfl (Ef.call (rest := [.box B1 51 [.int .i64 (0 : Int), .slice none 0 0], .box B6 51 [.int .i64 T12.2.2.1, X13], .own X13 (lc T12.2.2.2)]) [0, 0, 0, 0] (spec_l1Below_con ({ b := c.b, i := R45.2.i, h := R45.2.h : L1Cur }) (9 : Int) V_c0 B_c R58 H59) kc64 rfl rfl ⟨(Base.can HB_V_c0), trivial⟩) rfl rfl rfl rfl (fun _ => rfl) (fun _ => ?_)
                    refine TA.y (listed' := #[true, true, true, true, true, false, false, false, false]) 4 [1] rfl (Y.build (cells := [.int .i64 R58.1, .int .i64 (1 : Int)]) [(0, [.int .i64 R58.1]), (1, [.int .i64 (1 : Int)])] kp59 kz59 ⟨rfl, ⟨_, rfl, (Cel.plain rfl rfl)⟩, ⟨rfl, ⟨_, rfl, (Cel.plain rfl rfl)⟩, trivial⟩⟩ rfl) rfl rfl rfl (by kernel_rfl) (by kernel_rfl) (by kernel_rfl) rfl rfl ?_
                    refine TA.one 5 (by kernel_rfl) ?_
                    refine TX.ef (listed' := #[true, true, true, true, true, true, false, false, false]) [2] rfl (Ef.buildSlice (α := Share) (Vs := [.agg #[.int .i64 R58.1, .int .i64 (1 : Int)]]) [{ Tenant := R58.1, Quota := (1 : Int) : Share }] ke49 kz59 rfl rfl rfl rfl rfl) rfl rfl rfl rfl (fun _ => rfl) (fun B70 => ?_)
                    refine TA.one 6 (by kernel_rfl) ?_
                    refine TX.ef (listed' := #[true, true, true, true, true, true, true, false, false]) [3] rfl (Ef.append (α := Share) (is' := [.own (.slice (some ⟨B70, 0, none⟩) 1 1) (lc ([{ Tenant := R58.1, Quota := (1 : Int) : Share }])), .box B_c 94 [V_c0, .int .i64 R58.2.i, .int .i64 R58.2.h], .box B1 51 [.int .i64 (0 : Int), .slice none 0 0], .box B6 51 [.int .i64 T12.2.2.1, X13]]) [4, 0, 0, 0, 0] H65 ke49 kz59 rfl rfl rfl rfl rfl (Can.own 0 rfl)) rfl rfl rfl rfl (fun _ => rfl) (fun V71 => ?_)
                    refine TA.y (listed' := #[true, true, true, true, true, true, true, true, false]) 7 [3] rfl (Y.field_box kf51_1 rfl rfl) rfl rfl rfl (by kernel_rfl) (by kernel_rfl) (by kernel_rfl) rfl rfl ?_
                    refine TA.one 8 (by kernel_rfl) ?_
                    refine TX.ef0 (listed' := #[true, true, true, true, true, true, true, true, true]) [3] rfl (Ef.store_box (us := [V71]) (vs' := [.int .i64 T12.2.2.1, V71]) (is' := [.own V71 (lc E64), .own (.slice (some ⟨B70, 0, none⟩) 1 1) (lc ([{ Tenant := R58.1, Quota := (1 : Int) : Share }])), .box B_c 94 [V_c0, .int .i64 R58.2.i, .int .i64 R58.2.h], .box B1 51 [.int .i64 (0 : Int), .slice none 0 0], .box B6 51 [.int .i64 T12.2.2.1, V71]]) 4 kk49 rfl rfl rfl (Cel.one (One.can (Can.own 0 rfl))) rfl rfl rfl rfl) rfl rfl rfl (fun _ => rfl) (fun _ => ?_)
                    refine TA.nil (by kernel_rfl) ?_
                    exact TE.jb_go V71 [3, 3, 2, 0] ⟨rfl, rfl, trivial⟩ rfl
                  · refine TX.ef (listed' := #[true, false, true, true, false, false, false, false, false]) [1] rfl (Ef.call (rest := [.box B1 51 [.int .i64 (0 : Int), .slice none 0 0], .box B6 51 [.int .i64 T12.2.2.1, X13], .own X13 (lc T12.2.2.2)]) [0, 0, 0, 0] (spec_l1Below_con ({ b := c.b, i := R45.2.i, h := R45.2.h : L1Cur }) (9 : Int) V_c0 B_c R58 H59) kc64 rfl rfl ⟨(Base.can HB_V_c0), trivial⟩) rfl rfl rfl rfl (fun _ => rfl) (fun _ => ?_)
                    refine TA.y (listed' := #[true, false, true, true, true, false, false, false, false]) 4 [1] rfl (Y.build (cells := [.int .i64 R58.1, .int .i64 (1 : Int)]) [(0, [.int .i64 R58.1]), (1, [.int .i64 (1 : Int)])] kp59 kz59 ⟨rfl, ⟨_, rfl, (Cel.plain rfl rfl)⟩, ⟨rfl, ⟨_, rfl, (Cel.plain rfl rfl)⟩, trivial⟩⟩ rfl) rfl rfl rfl (by kernel_rfl) (by kernel_rfl) (by kernel_rfl) rfl rfl ?_
                    refine TA.two 1 5 (by kernel_rfl) ?_ ?_
                    · refine TX.y (listed' := #[true, true, true, true, true, false, false, false, false]) [1] rfl (Y.load_box (v := X13) 2 kk49 rfl rfl rfl) rfl rfl rfl rfl rfl ?_
                      refine TA.one 5 (by kernel_rfl) ?_
                      refine TX.ef (listed' := #[true, true, true, true, true, true, false, false, false]) [2] rfl (Ef.buildSlice (α := Share) (Vs := [.agg #[.int .i64 R58.1, .int .i64 (1 : Int)]]) [{ Tenant := R58.1, Quota := (1 : Int) : Share }] ke49 kz59 rfl rfl rfl rfl rfl) rfl rfl rfl rfl (fun _ => rfl) (fun B70 => ?_)
                      refine TA.one 6 (by kernel_rfl) ?_
                      refine TX.ef (listed' := #[true, true, true, true, true, true, true, false, false]) [3] rfl (Ef.append (α := Share) (is' := [.own (.slice (some ⟨B70, 0, none⟩) 1 1) (lc ([{ Tenant := R58.1, Quota := (1 : Int) : Share }])), .box B_c 94 [V_c0, .int .i64 R58.2.i, .int .i64 R58.2.h], .box B1 51 [.int .i64 (0 : Int), .slice none 0 0], .box B6 51 [.int .i64 T12.2.2.1, X13]]) [4, 0, 0, 0, 0] H65 ke49 kz59 rfl rfl rfl rfl rfl (Can.own 0 rfl)) rfl rfl rfl rfl (fun _ => rfl) (fun V71 => ?_)
                      refine TA.y (listed' := #[true, true, true, true, true, true, true, true, false]) 7 [3] rfl (Y.field_box kf51_1 rfl rfl) rfl rfl rfl (by kernel_rfl) (by kernel_rfl) (by kernel_rfl) rfl rfl ?_
                      refine TA.one 8 (by kernel_rfl) ?_
                      refine TX.ef0 (listed' := #[true, true, true, true, true, true, true, true, true]) [3] rfl (Ef.store_box (us := [V71]) (vs' := [.int .i64 T12.2.2.1, V71]) (is' := [.own V71 (lc E64), .own (.slice (some ⟨B70, 0, none⟩) 1 1) (lc ([{ Tenant := R58.1, Quota := (1 : Int) : Share }])), .box B_c 94 [V_c0, .int .i64 R58.2.i, .int .i64 R58.2.h], .box B1 51 [.int .i64 (0 : Int), .slice none 0 0], .box B6 51 [.int .i64 T12.2.2.1, V71]]) 4 kk49 rfl rfl rfl (Cel.one (One.can (Can.own 0 rfl))) rfl rfl rfl rfl) rfl rfl rfl (fun _ => rfl) (fun _ => ?_)
                      refine TA.nil (by kernel_rfl) ?_
                      exact TE.jb_go V71 [3, 3, 2, 0] ⟨rfl, rfl, trivial⟩ rfl
                    · refine TX.ef (listed' := #[true, false, true, true, true, true, false, false, false]) [2] rfl (Ef.buildSlice (α := Share) (Vs := [.agg #[.int .i64 R58.1, .int .i64 (1 : Int)]]) [{ Tenant := R58.1, Quota := (1 : Int) : Share }] ke49 kz59 rfl rfl rfl rfl rfl) rfl rfl rfl rfl (fun _ => rfl) (fun B69 => ?_)
                      refine TA.one 1 (by kernel_rfl) ?_
                      refine TX.y (listed' := #[true, true, true, true, true, true, false, false, false]) [2] rfl (Y.load_box (v := X13) 3 kk49 rfl rfl rfl) rfl rfl rfl rfl rfl ?_
                      refine TA.one 6 (by kernel_rfl) ?_
                      refine TX.ef (listed' := #[true, true, true, true, true, true, true, false, false]) [3] rfl (Ef.append (α := Share) (is' := [.own (.slice (some ⟨B69, 0, none⟩) 1 1) (lc ([{ Tenant := R58.1, Quota := (1 : Int) : Share }])), .box B_c 94 [V_c0, .int .i64 R58.2.i, .int .i64 R58.2.h], .box B1 51 [.int .i64 (0 : Int), .slice none 0 0], .box B6 51 [.int .i64 T12.2.2.1, X13]]) [4, 0, 0, 0, 0] H65 ke49 kz59 rfl rfl rfl rfl rfl (Can.own 0 rfl)) rfl rfl rfl rfl (fun _ => rfl) (fun V70 => ?_)
                      refine TA.y (listed' := #[true, true, true, true, true, true, true, true, false]) 7 [3] rfl (Y.field_box kf51_1 rfl rfl) rfl rfl rfl (by kernel_rfl) (by kernel_rfl) (by kernel_rfl) rfl rfl ?_
                      refine TA.one 8 (by kernel_rfl) ?_
                      refine TX.ef0 (listed' := #[true, true, true, true, true, true, true, true, true]) [3] rfl (Ef.store_box (us := [V70]) (vs' := [.int .i64 T12.2.2.1, V70]) (is' := [.own V70 (lc E64), .own (.slice (some ⟨B69, 0, none⟩) 1 1) (lc ([{ Tenant := R58.1, Quota := (1 : Int) : Share }])), .box B_c 94 [V_c0, .int .i64 R58.2.i, .int .i64 R58.2.h], .box B1 51 [.int .i64 (0 : Int), .slice none 0 0], .box B6 51 [.int .i64 T12.2.2.1, V70]]) 4 kk49 rfl rfl rfl (Cel.one (One.can (Can.own 0 rfl))) rfl rfl rfl rfl) rfl rfl rfl (fun _ => rfl) (fun _ => ?_)
                      refine TA.nil (by kernel_rfl) ?_
                      exact TE.jb_go V70 [3, 3, 2, 0] ⟨rfl, rfl, trivial⟩ rfl
                · exact TE.jn_go X67 [0, 0, 0, 0] ⟨rfl, rfl, trivial⟩ rfl
              · refine TW.seq ?_
                refine TW.region ?_
                refine TO.y (Y.field_box kf51_1 rfl rfl) rfl rfl rfl ?_
                refine TO.y (Y.load_box (v := X13) 2 kk49 rfl rfl rfl) rfl rfl rfl ?_
                refine TO.y (Y.len (l := T12.2.2.2) ke49 (Can.own 3 rfl) rfl) rfl rfl rfl ?_
                refine TO.y (Y.gtr rfl rfl) rfl rfl rfl ?_
                refine TO.nil ?_
                refine TE.next ?_
                refine TW.joinX (τ := Int × Int × List Share) (X := Unit) (fun _ _ => [(2, .pointer (some ⟨B1, 0, none⟩)), (3, .pointer (some ⟨B6, 0, none⟩))]) (fun T _ => [.box B1 51 [.int .i64 (0 : Int), .slice none 0 0], .box B6 51 [.int .i64 T12.2.2.1, X13], .box B_c 94 [V_c0, .int .i64 T.1, .int .i64 T.2.1], .own X13 (lc T.2.2)]) ?_ (fun T69 X70 => ?_)
                · refine TW.cond rfl (fun H71 => ?_) (fun H71 => ?_)
                  · refine TW.draw (isH := [.box B1 51 [.int .i64 (0 : Int), .slice none 0 0], .box B6 51 [.int .i64 T12.2.2.1, X13]]) hMix ?_
                    refine TA.y (listed' := #[true, false, false, false, false, false, false, false]) 0 [1, 1] rfl (Y.field_box kf51_1 rfl rfl) rfl rfl rfl (by kernel_rfl) (by kernel_rfl) (by kernel_rfl) rfl rfl ?_
                    refine TA.y (listed' := #[true, true, false, false, false, false, false, false]) 1 [1, 1] rfl (Y.load_box (v := X13) 1 kk49 rfl rfl rfl) rfl rfl rfl (by kernel_rfl) (by kernel_rfl) (by kernel_rfl) rfl rfl ?_
                    refine TA.y (listed' := #[true, true, true, false, false, false, false, false]) 2 [1, 1] rfl (Y.move rfl) rfl rfl rfl (by kernel_rfl) (by kernel_rfl) (by kernel_rfl) rfl rfl ?_
                    refine TA.one 3 (by kernel_rfl) ?_
                    refine TX.ef (listed' := #[true, true, true, true, false, false, false, false]) [2, 2] rfl (Ef.buildSlice (α := Int) (Vs := [.int .i64 (-1 : Int), .int .i64 (1000 : Int), .int .i64 (1001 : Int)]) [(-1 : Int), (1000 : Int), (1001 : Int)] ke41 kz3 rfl rfl rfl rfl rfl) rfl rfl rfl rfl (fun _ => rfl) (fun B72 => ?_)
                    refine TA.bind fun R73 H74 => ?_
                    refine TA.one 4 (by kernel_rfl) ?_
                    refine TX.ef (listed' := #[true, true, true, true, true, false, false, false]) [2, 2] rfl (Ef.call (rest := [.own (.slice (some ⟨B72, 0, none⟩) 3 3) (lc ([(-1 : Int), (1000 : Int), (1001 : Int)])), .box B1 51 [.int .i64 (0 : Int), .slice none 0 0], .box B6 51 [.int .i64 T12.2.2.1, X13], .own X13 (lc T12.2.2.2)]) [1, 0, 0, 0, 0] (spec_l1PickInt_con ({ b := c.b, i := R45.2.i, h := R45.2.h : L1Cur }) ([(-1 : Int), (1000 : Int), (1001 : Int)]) V_c0 B_c (.slice (some ⟨B72, 0, none⟩) 3 3) R73 H74) kc54 rfl rfl ⟨(Base.can HB_V_c0), (Can.own 0 rfl), trivial⟩) rfl rfl rfl rfl (fun _ => rfl) (fun _ => ?_)
                    refine TA.bind fun E76 H77 => ?_
                    refine TA.one 5 (by kernel_rfl) ?_
                    refine TX.y (listed' := #[true, true, true, true, true, true, false, false]) [2, 2] rfl (Y.index ke49 (Can.own 4 rfl) H77 rfl rfl) rfl rfl rfl rfl rfl ?_
                    refine TA.one 6 (by kernel_rfl) ?_
                    refine TX.y (listed' := #[true, true, true, true, true, true, true, false]) [2, 2] rfl (Y.field_el kf59_1 (Can.own 4 rfl) (idx_get H77).2.2 rfl rfl) rfl rfl rfl rfl rfl ?_
                    refine TA.one 7 (by kernel_rfl) ?_
                    refine TX.ef0 (listed' := #[true, true, true, true, true, true, true, true]) [2, 2] rfl (Ef.store_el (us := [.int .i64 R73.1]) (is' := [.box B_c 94 [V_c0, .int .i64 R73.2.i, .int .i64 R73.2.h], .own (.slice (some ⟨B72, 0, none⟩) 3 3) (lc ([(-1 : Int), (1000 : Int), (1001 : Int)])), .box B1 51 [.int .i64 (0 : Int), .slice none 0 0], .box B6 51 [.int .i64 T12.2.2.1, X13], .own X13 (lc (T12.2.2.2.set ((0 : Int).toNat) ({ Tenant := E76.Tenant, Quota := R73.1 : Share })))]) ({ Tenant := E76.Tenant, Quota := R73.1 : Share }) 4 kk3 rfl rfl (idx_get H77).2.2 rfl rfl (Cel.plain rfl rfl) rfl rfl rfl rfl) rfl rfl rfl (fun _ => rfl) (fun _ => ?_)
                    refine TA.nil (by kernel_rfl) ?_
                    exact TE.jn_go () [2, 2, 0, 1] ⟨rfl, rfl, trivial⟩ rfl
                  · refine TW.skip ?_
                    exact TE.jn_go () [1, 1, 0, 0] ⟨rfl, rfl, trivial⟩ rfl
                · exact TE.jn_go X13 [0, 0, 0, 0] ⟨rfl, rfl, trivial⟩ rfl
            · exact TE.jn_go X56 [0, 0, 0, 0] ⟨rfl, rfl, trivial⟩ rfl
        · refine TE.block_normal ?_
          exact TE.jn_go X49 [0, 0, 0, 0] ⟨rfl, rfl, trivial⟩ rfl
      · refine TW.skip ?_
        exact TE.jn_go X13 [1, 1, 0, 0] ⟨rfl, rfl, trivial⟩ rfl
    · refine TE.next ?_
      refine TW.seq ?_
      refine TW.region ?_
      refine TO.y (Y.load_box (v := .agg #[.int .i64 T42.1, X43]) 1 kk51 rfl rfl rfl) rfl rfl rfl ?_
      refine TO.ef0 (Ef.store_box (us := [.int .i64 T42.1, X43]) (vs' := [.int .i64 T42.1, X43]) (is' := [.box B1 51 [.int .i64 T42.1, X43], .box B6 51 [.int .i64 T42.1, X43], .box B_c 94 [V_c0, .int .i64 T42.2.1, .int .i64 T42.2.2.1], .own X43 (lc T42.2.2.2)]) 0 kk51 rfl rfl rfl (Cel.agg ⟨(One.plain rfl), (One.can (Can.own 3 rfl)), trivial⟩) rfl rfl rfl rfl) rfl rfl (fun _ => ?_)
      refine TO.nil ?_
      refine TE.next ?_
      refine TW.ret ?_
      exact TE.leaf fun _ _ hf_ hs_ => ret_any (rs := [.cell 2 51]) (vs := [.agg #[.int .i64 T42.1, X43]]) (.inl rfl) rfl (RV.cell 0 rfl rfl kk51 rfl trivial) hf_ hs_ ⟨X43, rfl, hs_.pulls [2, 2] rfl⟩

/-- loop.example/g00950/spec.DrawShareSet -/
noncomputable def spec_DrawShareSet (code : List UInt8) : Option (Shares × Int × Int) :=
  (spec_l1New code).bind fun R2 =>
  (spec_l19Some ({ b := code, i := R2.i, h := R2.h : L1Cur })).bind fun R5 =>
  (spec_l1PickInt ({ b := code, i := R5.2.i, h := R5.2.h : L1Cur }) ([(1 : Int), (2 : Int), (3 : Int), (9 : Int), (0 : Int), (100 : Int)])).bind fun R10 =>
  (spec_l1PickInt ({ b := code, i := R10.2.i, h := R10.2.h : L1Cur }) ([(0 : Int), (50 : Int), (51 : Int), (300 : Int), (1000 : Int), (1001 : Int), (-1 : Int)])).bind fun R14 =>
  some (R5.1, R10.1, R14.1)

theorem spec_DrawShareSet_con (code : List UInt8) (V_code0 : Value) (r : Shares × Int × Int) (hm : spec_DrawShareSet code = some r) :
    Con Try.prog 22 [V_code0] [] [(V_code0, lc code)] (fun X : Value => .tuple #[.agg #[.int .i64 r.1.Size, X], .int .i64 r.2.1, .int .i64 r.2.2]) (fun X => [.own X (lc r.1.List)]) := by
  refine Con.intro (args := [V_code0]) (n := 20) (val := fun r (X : Value) => .tuple #[.agg #[.int .i64 r.1.Size, X], .int .i64 r.2.1, .int .i64 r.2.2]) (post := fun r X => [.own X (lc r.1.List)]) (m := spec_DrawShareSet code) Try.func22 rfl rfl rfl hm ?_
  intro w S hrd
  have HB_V_code0 := hrd _ (.head _)
  clear hrd
  unfold spec_DrawShareSet
  refine TW.seq ?_
  refine TW.region ?_
  refine TO.ef (Ef.alloc kz51 rfl) rfl rfl rfl (fun B1 => ?_)
  refine TO.y (Y.assign rfl) rfl rfl rfl ?_
  refine TO.y (Y.assign rfl) rfl rfl rfl ?_
  refine TO.nil ?_
  refine TE.next ?_
  refine TW.seq ?_
  refine TW.region ?_
  refine TO.y (Y.move rfl) rfl rfl rfl ?_
  refine TO.bind fun R2 H3 => ?_
  refine TO.ef (Ef.call (rest := [.box B1 51 [.int .i64 (0 : Int), .slice none 0 0]]) [0] (spec_l1New_con code V_code0 R2 H3) kc32 rfl rfl ⟨(Base.can HB_V_code0), trivial⟩) rfl rfl rfl (fun Y4 => ?_)
  refine TO.y (Y.assign rfl) rfl rfl rfl ?_
  refine TO.nil ?_
  refine TE.next ?_
  refine TW.seq ?_
  refine TW.region ?_
  refine TO.y (Y.move rfl) rfl rfl rfl ?_
  refine TO.bind fun R5 H6 => ?_
  refine TO.ef (Ef.call (rest := [.box B1 51 [.int .i64 (0 : Int), .slice none 0 0]]) [0, 0] (spec_l19Some_con ({ b := code, i := R2.i, h := R2.h : L1Cur }) V_code0 Y4 R5 H6) kc53 rfl rfl ⟨(Base.can HB_V_code0), trivial⟩) rfl rfl rfl (fun Y7 => ?_)
  refine TO.ef (Ef.alloc kz51 rfl) rfl rfl rfl (fun B8 => ?_)
  refine TO.ef0 (Ef.store_box (us := [.int .i64 R5.1.Size, Y7]) (vs' := [.int .i64 R5.1.Size, Y7]) (is' := [.box B8 51 [.int .i64 R5.1.Size, Y7], .box Y4 94 [V_code0, .int .i64 R5.2.i, .int .i64 R5.2.h], .own Y7 (lc R5.1.List), .box B1 51 [.int .i64 (0 : Int), .slice none 0 0]]) 0 kk51 rfl rfl rfl (Cel.agg ⟨(One.plain rfl), (One.can (Can.own 2 rfl)), trivial⟩) rfl rfl rfl rfl) rfl rfl (fun _ => ?_)
  refine TO.nil ?_
  refine TE.next ?_
  refine TW.seq ?_
  refine TW.region ?_
  refine TO.y (Y.move rfl) rfl rfl rfl ?_
  refine TO.ef (Ef.buildSlice (α := Int) (Vs := [.int .i64 (1 : Int), .int .i64 (2 : Int), .int .i64 (3 : Int), .int .i64 (9 : Int), .int .i64 (0 : Int), .int .i64 (100 : Int)]) [(1 : Int), (2 : Int), (3 : Int), (9 : Int), (0 : Int), (100 : Int)] ke41 kz3 rfl rfl rfl rfl rfl) rfl rfl rfl (fun B9 => ?_)
  refine TO.bind fun R10 H11 => ?_
  refine TO.ef (Ef.call (rest := [.own (.slice (some ⟨B9, 0, none⟩) 6 6) (lc ([(1 : Int), (2 : Int), (3 : Int), (9 : Int), (0 : Int), (100 : Int)])), .box B8 51 [.int .i64 R5.1.Size, Y7], .own Y7 (lc R5.1.List), .box B1 51 [.int .i64 (0 : Int), .slice none 0 0]]) [2, 0, 0, 0, 0] (spec_l1PickInt_con ({ b := code, i := R5.2.i, h := R5.2.h : L1Cur }) ([(1 : Int), (2 : Int), (3 : Int), (9 : Int), (0 : Int), (100 : Int)]) V_code0 Y4 (.slice (some ⟨B9, 0, none⟩) 6 6) R10 H11) kc54 rfl rfl ⟨(Base.can HB_V_code0), (Can.own 0 rfl), trivial⟩) rfl rfl rfl (fun _ => ?_)
  refine TO.y (Y.assign rfl) rfl rfl rfl ?_
  refine TO.nil ?_
  refine TE.next ?_
  refine TW.seq ?_
  refine TW.draw (isH := [.own (.slice (some ⟨B9, 0, none⟩) 6 6) (lc ([(1 : Int), (2 : Int), (3 : Int), (9 : Int), (0 : Int), (100 : Int)])), .box B8 51 [.int .i64 R5.1.Size, Y7], .own Y7 (lc R5.1.List)]) hMix ?_
  refine TA.y (listed' := #[true, false, false, false, false, false, false, false]) 0 [1, 1, 1] rfl (Y.load_box (v := .agg #[.int .i64 R5.1.Size, Y7]) 1 kk51 rfl rfl rfl) rfl rfl rfl (by kernel_rfl) (by kernel_rfl) (by kernel_rfl) rfl rfl ?_
  refine TA.y (listed' := #[true, true, false, false, false, false, false, false]) 1 [1, 1, 1] rfl (Y.move rfl) rfl rfl rfl (by kernel_rfl) (by kernel_rfl) (by kernel_rfl) rfl rfl ?_
  refine TA.y (listed' := #[true, true, true, false, false, false, false, false]) 2 [1, 1, 1] rfl (Y.move rfl) rfl rfl rfl (by kernel_rfl) (by kernel_rfl) (by kernel_rfl) rfl rfl ?_
  refine TA.one 3 (by kernel_rfl) ?_
  refine TX.ef (listed' := #[true, true, true, true, false, false, false, false]) [2, 2, 2] rfl (Ef.buildSlice (α := Int) (Vs := [.int .i64 (0 : Int), .int .i64 (50 : Int), .int .i64 (51 : Int), .int .i64 (300 : Int), .int .i64 (1000 : Int), .int .i64 (1001 : Int), .int .i64 (-1 : Int)]) [(0 : Int), (50 : Int), (51 : Int), (300 : Int), (1000 : Int), (1001 : Int), (-1 : Int)] ke41 kz3 rfl rfl rfl rfl rfl) rfl rfl rfl rfl (fun _ => rfl) (fun B13 => ?_)
  refine TA.bind fun R14 H15 => ?_
  refine TA.one 4 (by kernel_rfl) ?_
  refine TX.ef (listed' := #[true, true, true, true, true, false, false, false]) [2, 2, 2] rfl (Ef.call (rest := [.own (.slice (some ⟨B13, 0, none⟩) 7 7) (lc ([(0 : Int), (50 : Int), (51 : Int), (300 : Int), (1000 : Int), (1001 : Int), (-1 : Int)])), .own (.slice (some ⟨B9, 0, none⟩) 6 6) (lc ([(1 : Int), (2 : Int), (3 : Int), (9 : Int), (0 : Int), (100 : Int)])), .box B8 51 [.int .i64 R5.1.Size, Y7], .own Y7 (lc R5.1.List), .box B1 51 [.int .i64 (0 : Int), .slice none 0 0]]) [1, 0, 0, 0, 0, 0] (spec_l1PickInt_con ({ b := code, i := R10.2.i, h := R10.2.h : L1Cur }) ([(0 : Int), (50 : Int), (51 : Int), (300 : Int), (1000 : Int), (1001 : Int), (-1 : Int)]) V_code0 Y4 (.slice (some ⟨B13, 0, none⟩) 7 7) R14 H15) kc54 rfl rfl ⟨(Base.can HB_V_code0), (Can.own 0 rfl), trivial⟩) rfl rfl rfl rfl (fun _ => rfl) (fun _ => ?_)
  refine TA.one 5 (by kernel_rfl) ?_
  refine TX.ef0 (listed' := #[true, true, true, true, true, true, false, false]) [2, 2, 2] rfl (Ef.store_box (us := [.int .i64 R5.1.Size, Y7]) (vs' := [.int .i64 R5.1.Size, Y7]) (is' := [.box Y4 94 [V_code0, .int .i64 R14.2.i, .int .i64 R14.2.h], .own (.slice (some ⟨B13, 0, none⟩) 7 7) (lc ([(0 : Int), (50 : Int), (51 : Int), (300 : Int), (1000 : Int), (1001 : Int), (-1 : Int)])), .own (.slice (some ⟨B9, 0, none⟩) 6 6) (lc ([(1 : Int), (2 : Int), (3 : Int), (9 : Int), (0 : Int), (100 : Int)])), .box B8 51 [.int .i64 R5.1.Size, Y7], .own Y7 (lc R5.1.List), .box B1 51 [.int .i64 R5.1.Size, Y7]]) 5 kk51 rfl rfl rfl (Cel.agg ⟨(One.plain rfl), (One.can (Can.own 4 rfl)), trivial⟩) rfl rfl rfl rfl) rfl rfl rfl (fun _ => rfl) (fun _ => ?_)
  refine TA.y (listed' := #[true, true, true, true, true, true, true, false]) 6 [2, 2, 2] rfl (Y.assign rfl) rfl rfl rfl (by kernel_rfl) (by kernel_rfl) (by kernel_rfl) rfl rfl ?_
  refine TA.y (listed' := #[true, true, true, true, true, true, true, true]) 7 [2, 2, 2] rfl (Y.assign rfl) rfl rfl rfl (by kernel_rfl) (by kernel_rfl) (by kernel_rfl) rfl rfl ?_
  refine TA.nil (by kernel_rfl) ?_
  refine TE.next ?_
  refine TW.ret ?_
  exact TE.leaf fun _ _ hf_ hs_ => ret_any (rs := [.cell 2 51, .tmp 3, .tmp 4]) (vs := [.agg #[.int .i64 R5.1.Size, Y7], .int .i64 R10.1, .int .i64 R14.1]) (.inl rfl) rfl (RV.cell 5 rfl rfl kk51 rfl ⟨rfl, ⟨rfl, trivial⟩⟩) hf_ hs_ ⟨Y7, rfl, hs_.pulls [4] rfl⟩

/-- loop.example/g00950/impl.inRange -/
noncomputable def impl_inRange (n : Int) (least : Int) (most : Int) : Option Bool :=
  (if (decide (n ≥ least)) = true then (some (decide (n ≤ most)))
  else (some false)).bind (fun (T1 : Bool) =>
  some T1)

theorem impl_inRange_con (n : Int) (least : Int) (most : Int)  (r : Bool) (hm : impl_inRange n least most = some r) :
    Con Try.prog 63 [.int .i64 n, .int .i64 least, .int .i64 most] [] [] (fun _ : Unit => .bool r) (fun _ => []) := by
  refine Con.intro (args := [.int .i64 n, .int .i64 least, .int .i64 most]) (n := 15) (val := fun r (_ : Unit) => .bool r) (post := fun _ _ => []) (m := impl_inRange n least most) Try.func63 rfl rfl rfl hm ?_
  intro w S _
  unfold impl_inRange
  refine TW.seq ?_
  refine TW.region ?_
  refine TO.y (Y.assign rfl) rfl rfl rfl ?_
  refine TO.nil ?_
  refine TE.next ?_
  refine TW.seq ?_
  refine TW.joinBX (τ := Bool) (X := Unit) (fun T _ => [(6, .bool T)]) (fun _ _ => []) ?_ (fun T1 X2 => ?_)
  · refine TW.region ?_
    refine TO.y (Y.move rfl) rfl rfl rfl ?_
    refine TO.y (Y.move rfl) rfl rfl rfl ?_
    refine TO.y (Y.geq rfl rfl) rfl rfl rfl ?_
    refine TO.y (Y.move rfl) rfl rfl rfl ?_
    refine TO.ite (b := decide (n ≥ least)) (fun H3 => ?_) (fun H3 => ?_)
    · refine TO.y (Y.move rfl) (Gd.at 3 true 10 (decide (n ≥ least)) rfl rfl rfl (beq_tt H3)) rfl rfl ?_
      refine TO.y (Y.move rfl) (Gd.at 3 true 10 (decide (n ≥ least)) rfl rfl rfl (beq_tt H3)) rfl rfl ?_
      refine TO.y (Y.leq rfl rfl) (Gd.at 3 true 10 (decide (n ≥ least)) rfl rfl rfl (beq_tt H3)) rfl rfl ?_
      refine TO.y (Y.pick_t H3 rfl rfl) rfl rfl rfl ?_
      refine TO.y (Y.assign rfl) rfl rfl rfl ?_
      refine TO.nil ?_
      exact TE.jb_go () [] ⟨rfl, trivial⟩ rfl
    · refine TO.off (Gd.at 3 true 10 (decide (n ≥ least)) rfl rfl rfl (beq_ft H3)) rfl rfl ?_
      refine TO.off (Gd.at 3 true 10 (decide (n ≥ least)) rfl rfl rfl (beq_ft H3)) rfl rfl ?_
      refine TO.off (Gd.at 3 true 10 (decide (n ≥ least)) rfl rfl rfl (beq_ft H3)) rfl rfl ?_
      refine TO.y (Y.pick_f H3 rfl rfl) rfl rfl rfl ?_
      refine TO.y (Y.assign rfl) rfl rfl rfl ?_
      refine TO.nil ?_
      exact TE.jb_go () [] ⟨rfl, trivial⟩ rfl
  · refine TE.next ?_
    refine TW.ret ?_
    exact TE.leaf fun _ _ hf_ hs_ => ret_any (rs := [.tmp 6]) (vs := [.bool T1]) (.inl rfl) rfl ⟨rfl, trivial⟩ hf_ hs_ ⟨(), rfl, hs_.pulls [] rfl⟩

/-- loop.example/g00950/impl.isTenant -/
noncomputable def impl_isTenant (n : Int) : Option Bool :=
  (impl_inRange n (1 : Int) (99 : Int)).bind fun R1 =>
  some R1

theorem impl_isTenant_con (n : Int)  (r : Bool) (hm : impl_isTenant n = some r) :
    Con Try.prog 81 [.int .i64 n] [] [] (fun _ : Unit => .bool r) (fun _ => []) := by
  refine Con.intro (args := [.int .i64 n]) (n := 5) (val := fun r (_ : Unit) => .bool r) (post := fun _ _ => []) (m := impl_isTenant n) Try.func81 rfl rfl rfl hm ?_
  intro w S _
  unfold impl_isTenant
  refine TW.seq ?_
  refine TW.region ?_
  refine TO.y (Y.assign rfl) rfl rfl rfl ?_
  refine TO.nil ?_
  refine TE.next ?_
  refine TW.seq ?_
  refine TW.region ?_
  refine TO.y (Y.move rfl) rfl rfl rfl ?_
  refine TO.bind fun R1 H2 => ?_
  refine TO.ef (Ef.call (rest := []) [] (impl_inRange_con n (1 : Int) (99 : Int)  R1 H2) kc63 rfl rfl trivial) rfl rfl rfl (fun _ => ?_)
  refine TO.y (Y.assign rfl) rfl rfl rfl ?_
  refine TO.nil ?_
  refine TE.next ?_
  refine TW.ret ?_
  exact TE.leaf fun _ _ hf_ hs_ => ret_any (rs := [.tmp 2]) (vs := [.bool R1]) (.inl rfl) rfl ⟨rfl, trivial⟩ hf_ hs_ ⟨(), rfl, hs_.pulls [] rfl⟩

end Go.Proofs.Ytahennbogdbnmaa
