/-
  The functions that a law reaches, each as a pure function, with the proof that the program computes it, and the step from a pure law to the given statement. Conditions: none.
-/
import Derived.Test.YtldbnjgpcilgiaaSw
import Derived.Test.YtldbnjgpcilgiaaRows
set_option linter.unusedVariables false
set_option maxRecDepth 100000
set_option maxHeartbeats 4000000
namespace Go.Proofs.Ytldbnjgpcilgiaa
open Go Sl

structure L1Cur where
  b : List UInt8
  i : Int
  h : Int
  deriving DecidableEq
instance : Enc L1Cur := ⟨3, fun x => [lc x.b, .int .i64 x.i, .int .i64 x.h], fun _ => rfl, by decide⟩
instance : Dec L1Cur where
  sh := [.sl 1 (Dec.sh UInt8), .int .i64, .int .i64]
  ok x := okl x.b ∧ okI x.i ∧ okI x.h
  dec cs h := by
    obtain ⟨c0, r0, rfl, h0, h⟩ := h.cons_inv
    obtain ⟨c1, r1, rfl, h1, h⟩ := h.cons_inv
    obtain ⟨c2, r2, rfl, h2, h⟩ := h.cons_inv
    obtain rfl := h.nil_inv
    obtain ⟨y0, rfl, w0⟩ := h0.sl_inv (α := UInt8) rfl
    obtain ⟨y1, rfl, w1_⟩ := h1.int_inv
    have w1 := okI_of w1_
    obtain ⟨y2, rfl, w2_⟩ := h2.int_inv
    have w2 := okI_of w2_
    exact ⟨{ b := y0, i := y1, h := y2 : L1Cur }, rfl, w0, w1, w2⟩
structure LogRow where
  Tenant : Int
  Boot : Int
  Seq : Int
  Text : List UInt8
  Synced : Bool
  deriving DecidableEq
instance : Enc LogRow := ⟨5, fun x => [.int .i64 x.Tenant, .int .i64 x.Boot, .int .i64 x.Seq, .str x.Text, .bool x.Synced], fun _ => rfl, by decide⟩
instance : Dec LogRow where
  sh := [.int .i64, .int .i64, .int .i64, .str, .bool]
  ok x := okI x.Tenant ∧ okI x.Boot ∧ okI x.Seq ∧ x.Text.length ≤ 9223372036854775807 ∧ True
  dec cs h := by
    obtain ⟨c0, r0, rfl, h0, h⟩ := h.cons_inv
    obtain ⟨c1, r1, rfl, h1, h⟩ := h.cons_inv
    obtain ⟨c2, r2, rfl, h2, h⟩ := h.cons_inv
    obtain ⟨c3, r3, rfl, h3, h⟩ := h.cons_inv
    obtain ⟨c4, r4, rfl, h4, h⟩ := h.cons_inv
    obtain rfl := h.nil_inv
    obtain ⟨y0, rfl, w0_⟩ := h0.int_inv
    have w0 := okI_of w0_
    obtain ⟨y1, rfl, w1_⟩ := h1.int_inv
    have w1 := okI_of w1_
    obtain ⟨y2, rfl, w2_⟩ := h2.int_inv
    have w2 := okI_of w2_
    obtain ⟨y3, rfl, w3⟩ := h3.str_inv
    obtain ⟨y4, rfl⟩ := h4.bool_inv
    have w4 := True.intro
    exact ⟨{ Tenant := y0, Boot := y1, Seq := y2, Text := y3, Synced := y4 : LogRow }, rfl, w0, w1, w2, w3, w4⟩
instance : Flat LogRow := { vals := fun x => [.int .i64 x.Tenant, .int .i64 x.Boot, .int .i64 x.Seq, strV x.Text, .bool x.Synced], flat := fun _ => rfl }
structure Reader where
  text : List UInt8
  at_ : Int
  bad : Bool
  deriving DecidableEq
instance : Enc Reader := ⟨3, fun x => [.str x.text, .int .i64 x.at_, .bool x.bad], fun _ => rfl, by decide⟩
instance : Dec Reader where
  sh := [.str, .int .i64, .bool]
  ok x := x.text.length ≤ 9223372036854775807 ∧ okI x.at_ ∧ True
  dec cs h := by
    obtain ⟨c0, r0, rfl, h0, h⟩ := h.cons_inv
    obtain ⟨c1, r1, rfl, h1, h⟩ := h.cons_inv
    obtain ⟨c2, r2, rfl, h2, h⟩ := h.cons_inv
    obtain rfl := h.nil_inv
    obtain ⟨y0, rfl, w0⟩ := h0.str_inv
    obtain ⟨y1, rfl, w1_⟩ := h1.int_inv
    have w1 := okI_of w1_
    obtain ⟨y2, rfl⟩ := h2.bool_inv
    have w2 := True.intro
    exact ⟨{ text := y0, at_ := y1, bad := y2 : Reader }, rfl, w0, w1, w2⟩
instance : Flat Reader := { vals := fun x => [strV x.text, .int .i64 x.at_, .bool x.bad], flat := fun _ => rfl }

theorem hMix : Try.prog.follows .mixedOrders = true := by kernel_rfl
theorem ke22 : elemB Try.prog 22 = some (5, 1, 1) := by kernel_rfl
theorem kk5 : kindB Try.prog 5 = some (false, 1) := by kernel_rfl
theorem ki5 : intB Try.prog 5 = some .u8 := by kernel_rfl
theorem ki3 : intB Try.prog 3 = some .i64 := by kernel_rfl
theorem kz75 : zeroB Try.prog 75 = some (.agg #[.slice none 0 0, .int .i64 (0 : Int), .int .i64 (0 : Int)]) := by kernel_rfl
theorem kp75 : placesB Try.prog 75 = some [(0, 1), (1, 1), (2, 1)] := by kernel_rfl
theorem kf75_2 : fieldB Try.prog 75 2 = some 2 := by kernel_rfl
theorem kk3 : kindB Try.prog 3 = some (false, 1) := by kernel_rfl
theorem kf75_1 : fieldB Try.prog 75 1 = some 1 := by kernel_rfl
theorem kf75_0 : fieldB Try.prog 75 0 = some 0 := by kernel_rfl
theorem kk22 : kindB Try.prog 22 = some (false, 1) := by kernel_rfl
theorem kc58 : callB Try.prog 58 = true := by kernel_rfl
theorem kz5 : zeroB Try.prog 5 = some (.int .u8 (0 : Int)) := by kernel_rfl
theorem kc25 : callB Try.prog 25 = true := by kernel_rfl
theorem ks9 : isStrB Try.prog 9 = true := by kernel_rfl
theorem ke55 : elemB Try.prog 55 = some (3, 1, 8) := by kernel_rfl
theorem kz31 : zeroB Try.prog 31 = some (.agg #[.int .i64 (0 : Int), .int .i64 (0 : Int), .int .i64 (0 : Int), strV ([]), .bool false]) := by kernel_rfl
theorem kc29 : callB Try.prog 29 = true := by kernel_rfl
theorem kc62 : callB Try.prog 62 = true := by kernel_rfl
theorem kp31 : placesB Try.prog 31 = some [(0, 1), (1, 1), (2, 1), (3, 1), (4, 1)] := by kernel_rfl
theorem kk31 : kindB Try.prog 31 = some (true, 5) := by kernel_rfl
theorem kz3 : zeroB Try.prog 3 = some (.int .i64 (0 : Int)) := by kernel_rfl
theorem kc47 : callB Try.prog 47 = true := by kernel_rfl
theorem kf31_0 : fieldB Try.prog 31 0 = some 0 := by kernel_rfl
theorem kf31_1 : fieldB Try.prog 31 1 = some 1 := by kernel_rfl
theorem kf31_2 : fieldB Try.prog 31 2 = some 2 := by kernel_rfl
theorem kf31_3 : fieldB Try.prog 31 3 = some 3 := by kernel_rfl
theorem kk9 : kindB Try.prog 9 = some (false, 1) := by kernel_rfl
theorem kc59 : callB Try.prog 59 = true := by kernel_rfl
theorem kc56 : callB Try.prog 56 = true := by kernel_rfl
theorem kc53 : callB Try.prog 53 = true := by kernel_rfl
theorem kc57 : callB Try.prog 57 = true := by kernel_rfl
theorem kc61 : callB Try.prog 61 = true := by kernel_rfl
theorem kc60 : callB Try.prog 60 = true := by kernel_rfl
theorem kc24 : callB Try.prog 24 = true := by kernel_rfl
theorem kc27 : callB Try.prog 27 = true := by kernel_rfl
theorem kc26 : callB Try.prog 26 = true := by kernel_rfl
theorem kc28 : callB Try.prog 28 = true := by kernel_rfl
theorem kf81_2 : fieldB Try.prog 81 2 = some 2 := by kernel_rfl
theorem kk4 : kindB Try.prog 4 = some (false, 1) := by kernel_rfl
theorem kf81_0 : fieldB Try.prog 81 0 = some 0 := by kernel_rfl
theorem kf81_1 : fieldB Try.prog 81 1 = some 1 := by kernel_rfl
theorem ki86 : intB Try.prog 86 = some .u64 := by kernel_rfl
theorem kc88 : callB Try.prog 88 = true := by kernel_rfl
theorem kc64 : callB Try.prog 64 = true := by kernel_rfl
theorem kc63 : callB Try.prog 63 = true := by kernel_rfl
theorem kc67 : callB Try.prog 67 = true := by kernel_rfl
theorem kc36 : callB Try.prog 36 = true := by kernel_rfl
theorem ki88 : intB Try.prog 88 = some .u32 := by kernel_rfl
theorem kc69 : callB Try.prog 69 = true := by kernel_rfl
theorem kc68 : callB Try.prog 68 = true := by kernel_rfl
theorem kc33 : callB Try.prog 33 = true := by kernel_rfl
theorem kc34 : callB Try.prog 34 = true := by kernel_rfl
theorem kc37 : callB Try.prog 37 = true := by kernel_rfl
theorem kc35 : callB Try.prog 35 = true := by kernel_rfl
theorem kz81 : zeroB Try.prog 81 = some (.agg #[strV ([]), .int .i64 (0 : Int), .bool false]) := by kernel_rfl
theorem kp81 : placesB Try.prog 81 = some [(0, 1), (1, 1), (2, 1)] := by kernel_rfl
theorem kk81 : kindB Try.prog 81 = some (true, 3) := by kernel_rfl
theorem kc65 : callB Try.prog 65 = true := by kernel_rfl
theorem kc11 : callB Try.prog 11 = true := by kernel_rfl
theorem kc30 : callB Try.prog 30 = true := by kernel_rfl
theorem ke25 : elemB Try.prog 25 = some (31, 5, 48) := by kernel_rfl
theorem kc66 : callB Try.prog 66 = true := by kernel_rfl
theorem kc31 : callB Try.prog 31 = true := by kernel_rfl
theorem kc32 : callB Try.prog 32 = true := by kernel_rfl
theorem keq31 : eqTB Try.prog 31 = some [0, 0, 0, 2, 1] := by kernel_rfl
theorem kc6 : callB Try.prog 6 = true := by kernel_rfl
theorem kc7 : callB Try.prog 7 = true := by kernel_rfl
theorem kc8 : callB Try.prog 8 = true := by kernel_rfl
theorem kc9 : callB Try.prog 9 = true := by kernel_rfl
theorem kc10 : callB Try.prog 10 = true := by kernel_rfl
theorem kc12 : callB Try.prog 12 = true := by kernel_rfl
theorem hu22 : Try.prog.underlying 22 = some (.slice 5) := by kernel_rfl
theorem hs22 : shB Try.prog 20 22 = some ([.sl 1 (Dec.sh UInt8)]) := by kernel_rfl
theorem kb4 : Try.prog.underlying 4 = some .bool := by kernel_rfl

/-- loop.example/g00950/laws.big -/
noncomputable def laws_big (code : List UInt8) : Option Bool :=
  some (decide (((code.length : Nat) : Int) > (1048576 : Int)))

theorem laws_big_con (code : List UInt8) (V_code0 : Value) (r : Bool) (hm : laws_big code = some r) :
    Con Try.prog 6 [V_code0] [] [(V_code0, lc code)] (fun _ : Unit => .bool r) (fun _ => []) := by
  refine Con.intro (args := [V_code0]) (n := 6) (val := fun r (_ : Unit) => .bool r) (post := fun _ _ => []) (m := laws_big code) Try.func6 rfl rfl rfl hm ?_
  intro w S hrd
  have HB_V_code0 := hrd _ (.head _)
  clear hrd
  unfold laws_big
  refine TW.seq ?_
  refine TW.region ?_
  refine TO.y (Y.assign rfl) rfl rfl rfl ?_
  refine TO.nil ?_
  refine TE.next ?_
  refine TW.seq ?_
  refine TW.region ?_
  refine TO.y (Y.move rfl) rfl rfl rfl ?_
  refine TO.y (Y.len (l := code) ke22 (Base.can HB_V_code0) rfl) rfl rfl rfl ?_
  refine TO.y (Y.gtr rfl rfl) rfl rfl rfl ?_
  refine TO.y (Y.assign rfl) rfl rfl rfl ?_
  refine TO.nil ?_
  refine TE.next ?_
  refine TW.ret ?_
  exact TE.leaf fun _ _ hf_ hs_ => ret_any (rs := [.tmp 2]) (vs := [.bool (decide (((code.length : Nat) : Int) > (1048576 : Int)))]) (.inl rfl) rfl ⟨rfl, trivial⟩ hf_ hs_ ⟨(), rfl, hs_.pulls [] rfl⟩

/-- loop.example/g00950/spec.l1New -/
noncomputable def spec_l1New (code : List UInt8) : Option L1Cur :=
  bindC (loopO (fun (S1 : Int × Int) => (if (decide (S1.2 < ((code.length : Nat) : Int))) = true then (some (decide (S1.2 < (4000 : Int))))
  else (some false)).bind (fun (T5 : Bool) =>
  if T5 = true then ((idx code S1.2).bind fun E9 =>
  some (.go (iand .i64 (IntKind.i64.wrap (IntKind.i64.wrap (IntKind.i64.wrap (S1.1 * (131 : Int)) + (IntKind.i64.wrap ((E9.toNat : Nat) : Int))) + (7 : Int))) (1073741823 : Int), IntKind.i64.wrap (S1.2 + (1 : Int)))))
  else (some (.done (.go S1.1)))))
  (IntKind.i64.wrap ((10101 : Int) + ((code.length : Nat) : Int)), (0 : Int)))
  (fun (T3 : Int) => some ({ b := code, i := (0 : Int), h := T3 : L1Cur }))

theorem spec_l1New_con (code : List UInt8) (V_code0 : Value) (r : L1Cur) (hm : spec_l1New code = some r) :
    Con Try.prog 24 [V_code0] [] [(V_code0, lc code)] (fun X : Nat => .pointer (some ⟨X, 0, none⟩)) (fun X => [.box X 75 [V_code0, .int .i64 r.i, .int .i64 r.h]]) := by
  refine Con.intro (args := [V_code0]) (n := 32) (val := fun _ (X : Nat) => .pointer (some ⟨X, 0, none⟩)) (post := fun r X => [.box X 75 [V_code0, .int .i64 r.i, .int .i64 r.h]]) (m := spec_l1New code) Try.func24 rfl rfl rfl hm ?_
  intro w S hrd
  have HB_V_code0 := hrd _ (.head _)
  clear hrd
  unfold spec_l1New
  refine TW.seq ?_
  refine TW.region ?_
  refine TO.y (Y.assign rfl) rfl rfl rfl ?_
  refine TO.nil ?_
  refine TE.next ?_
  refine TW.seq ?_
  refine TW.region ?_
  refine TO.y (Y.move rfl) rfl rfl rfl ?_
  refine TO.y (Y.len (l := code) ke22 (Base.can HB_V_code0) rfl) rfl rfl rfl ?_
  refine TO.y (Y.add rfl rfl) rfl rfl rfl ?_
  refine TO.y (Y.assign rfl) rfl rfl rfl ?_
  refine TO.nil ?_
  refine TE.next ?_
  refine TW.seq ?_
  refine TW.seq ?_
  refine TW.region ?_
  refine TO.y (Y.assign rfl) rfl rfl rfl ?_
  refine TO.nil ?_
  refine TE.next ?_
  refine TW.joinX (τ := Int) (X := Unit) (fun T _ => [(0, V_code0), (3, .int .i64 T)]) (fun _ _ => []) ?_ (fun T3 X4 => ?_)
  · refine TW.block ?_
    refine TW.loopX (σ := Int × Int) (X := Unit) (fun T _ => [(0, V_code0), (3, .int .i64 T.1), (4, .int .i64 T.2)]) (fun _ _ => []) () [] ⟨rfl, rfl, rfl, trivial⟩ rfl (fun S1 X2 => ?_)
    refine TW.seq ?_
    refine TW.seq ?_
    refine TW.joinBX (τ := Bool) (X := Unit) (fun T _ => [(0, V_code0), (3, .int .i64 S1.1), (4, .int .i64 S1.2), (15, .bool T)]) (fun _ _ => []) ?_ (fun T5 X6 => ?_)
    · refine TW.region ?_
      refine TO.y (Y.move rfl) rfl rfl rfl ?_
      refine TO.y (Y.move rfl) rfl rfl rfl ?_
      refine TO.y (Y.len (l := code) ke22 (Base.can HB_V_code0) rfl) rfl rfl rfl ?_
      refine TO.y (Y.lss rfl rfl) rfl rfl rfl ?_
      refine TO.y (Y.move rfl) rfl rfl rfl ?_
      refine TO.ite (b := decide (S1.2 < ((code.length : Nat) : Int))) (fun H7 => ?_) (fun H7 => ?_)
      · refine TO.y (Y.move rfl) (Gd.at 4 true 12 (decide (S1.2 < ((code.length : Nat) : Int))) rfl rfl rfl (beq_tt H7)) rfl rfl ?_
        refine TO.y (Y.lss rfl rfl) (Gd.at 4 true 12 (decide (S1.2 < ((code.length : Nat) : Int))) rfl rfl rfl (beq_tt H7)) rfl rfl ?_
        refine TO.y (Y.pick_t H7 rfl rfl) rfl rfl rfl ?_
        refine TO.nil ?_
        exact TE.jb_go () [] ⟨rfl, rfl, rfl, rfl, trivial⟩ rfl
      · refine TO.off (Gd.at 4 true 12 (decide (S1.2 < ((code.length : Nat) : Int))) rfl rfl rfl (beq_ft H7)) rfl rfl ?_
        refine TO.off (Gd.at 4 true 12 (decide (S1.2 < ((code.length : Nat) : Int))) rfl rfl rfl (beq_ft H7)) rfl rfl ?_
        refine TO.y (Y.pick_f H7 rfl rfl) rfl rfl rfl ?_
        refine TO.nil ?_
        exact TE.jb_go () [] ⟨rfl, rfl, rfl, rfl, trivial⟩ rfl
    · refine TE.next ?_
      refine TW.cond rfl (fun H8 => ?_) (fun H8 => ?_)
      · refine TW.skip ?_
        refine TE.next ?_
        refine TW.seq ?_
        refine TW.block ?_
        refine TW.region ?_
        refine TO.y (Y.move rfl) rfl rfl rfl ?_
        refine TO.y (Y.mul rfl rfl) rfl rfl rfl ?_
        refine TO.y (Y.move rfl) rfl rfl rfl ?_
        refine TO.y (Y.move rfl) rfl rfl rfl ?_
        refine TO.bind fun E9 H10 => ?_
        refine TO.y (Y.index ke22 (Base.can HB_V_code0) H10 rfl rfl) rfl rfl rfl ?_
        refine TO.y (Y.load_el (us := [.int .u8 ((E9.toNat : Nat) : Int)]) (u := .int .u8 ((E9.toNat : Nat) : Int)) kk5 rfl (Base.can HB_V_code0) (idx_get H10).2.2 rfl rfl rfl rfl rfl) rfl rfl rfl ?_
        refine TO.y (Y.conv ki5 ki3 rfl) rfl rfl rfl ?_
        refine TO.y (Y.add rfl rfl) rfl rfl rfl ?_
        refine TO.y (Y.add rfl rfl) rfl rfl rfl ?_
        refine TO.y (Y.and rfl rfl) rfl rfl rfl ?_
        refine TO.y (Y.assign rfl) rfl rfl rfl ?_
        refine TO.nil ?_
        refine TE.block_normal ?_
        refine TE.next ?_
        refine TW.region ?_
        refine TO.y (Y.move rfl) rfl rfl rfl ?_
        refine TO.y (Y.add rfl rfl) rfl rfl rfl ?_
        refine TO.y (Y.assign rfl) rfl rfl rfl ?_
        refine TO.nil ?_
        exact TE.lp_go () [] ⟨rfl, rfl, rfl, trivial⟩ rfl
      · refine TW.exit ?_
        refine TE.then_exit ?_
        refine TE.lp_exit ?_
        refine TE.block_exit ?_
        exact TE.jn_go () [] ⟨rfl, rfl, trivial⟩ rfl
  · refine TE.next ?_
    refine TW.seq ?_
    refine TW.region ?_
    refine TO.y (Y.move rfl) rfl rfl rfl ?_
    refine TO.y (Y.move rfl) rfl rfl rfl ?_
    refine TO.y (Y.build (cells := [V_code0, .int .i64 (0 : Int), .int .i64 T3]) [(0, [V_code0]), (2, [.int .i64 T3])] kp75 kz75 ⟨rfl, ⟨_, rfl, (Cel.one (One.can (Base.can HB_V_code0)))⟩, ⟨rfl, ⟨_, rfl, (Cel.plain rfl rfl)⟩, trivial⟩⟩ rfl) rfl rfl rfl ?_
    refine TO.ef (Ef.box rfl (Cel.agg ⟨(One.can (Base.can HB_V_code0)), (One.plain rfl), (One.plain rfl), trivial⟩)) rfl rfl rfl (fun B11 => ?_)
    refine TO.y (Y.assign rfl) rfl rfl rfl ?_
    refine TO.nil ?_
    refine TE.next ?_
    refine TW.ret ?_
    exact TE.leaf fun _ _ hf_ hs_ => ret_any (rs := [.tmp 2]) (vs := [.pointer (some ⟨B11, 0, none⟩)]) (.inl rfl) rfl ⟨rfl, trivial⟩ hf_ hs_ ⟨B11, rfl, hs_.pulls [0] rfl⟩

/-- loop.example/g00950/spec.l1Byte -/
noncomputable def spec_l1Byte (c : L1Cur) : Option (Int × L1Cur) :=
  bindC (if (decide (c.i < ((c.b.length : Nat) : Int))) = true then ((idx c.b c.i).bind fun E4 =>
  some (.go (iand .i64 (IntKind.i64.wrap (iand .i64 (ixor .i64 (ishr .i64 (IntKind.i64.wrap (IntKind.i64.wrap (c.h * (6364136223846793005 : Int)) + (1442695040888963407 : Int))) (33 : Int)) (ishr .i64 (IntKind.i64.wrap (IntKind.i64.wrap (c.h * (6364136223846793005 : Int)) + (1442695040888963407 : Int))) (45 : Int))) (255 : Int) + (IntKind.i64.wrap ((E4.toNat : Nat) : Int)))) (255 : Int), IntKind.i64.wrap (c.i + (1 : Int)))))
  else (some (.go (iand .i64 (ixor .i64 (ishr .i64 (IntKind.i64.wrap (IntKind.i64.wrap (c.h * (6364136223846793005 : Int)) + (1442695040888963407 : Int))) (33 : Int)) (ishr .i64 (IntKind.i64.wrap (IntKind.i64.wrap (c.h * (6364136223846793005 : Int)) + (1442695040888963407 : Int))) (45 : Int))) (255 : Int), c.i))))
  (fun (T1 : Int × Int) => some (T1.1, { b := c.b, i := T1.2, h := IntKind.i64.wrap (IntKind.i64.wrap (c.h * (6364136223846793005 : Int)) + (1442695040888963407 : Int)) : L1Cur }))

theorem spec_l1Byte_con (c : L1Cur) (V_c0 : Value) (B_c : Nat) (r : Int × L1Cur) (hm : spec_l1Byte c = some r) :
    Con Try.prog 58 [.pointer (some ⟨B_c, 0, none⟩)] [.box B_c 75 [V_c0, .int .i64 c.i, .int .i64 c.h]] [(V_c0, lc c.b)] (fun _ : Unit => .int .i64 r.1) (fun _ => [.box B_c 75 [V_c0, .int .i64 r.2.i, .int .i64 r.2.h]]) := by
  refine Con.intro (args := [.pointer (some ⟨B_c, 0, none⟩)]) (n := 58) (val := fun r (_ : Unit) => .int .i64 r.1) (post := fun r _ => [.box B_c 75 [V_c0, .int .i64 r.2.i, .int .i64 r.2.h]]) (m := spec_l1Byte c) Try.func58 rfl rfl rfl hm ?_
  intro w S hrd
  have HB_V_c0 := hrd _ (.head _)
  clear hrd
  unfold spec_l1Byte
  refine TW.seq ?_
  refine TW.region ?_
  refine TO.y (Y.assign rfl) rfl rfl rfl ?_
  refine TO.nil ?_
  refine TE.next ?_
  refine TW.seq ?_
  refine TW.region ?_
  refine TO.y (Y.move rfl) rfl rfl rfl ?_
  refine TO.y (Y.move rfl) rfl rfl rfl ?_
  refine TO.y (Y.nilCheck rfl) rfl rfl rfl ?_
  refine TO.y (Y.field_box kf75_2 rfl rfl) rfl rfl rfl ?_
  refine TO.y (Y.load_box (v := .int .i64 c.h) 0 kk3 rfl rfl rfl) rfl rfl rfl ?_
  refine TO.y (Y.mul rfl rfl) rfl rfl rfl ?_
  refine TO.y (Y.add rfl rfl) rfl rfl rfl ?_
  refine TO.y (Y.nilCheck rfl) rfl rfl rfl ?_
  refine TO.y (Y.field_box kf75_2 rfl rfl) rfl rfl rfl ?_
  refine TO.ef0 (Ef.store_box (us := [.int .i64 (IntKind.i64.wrap (IntKind.i64.wrap (c.h * (6364136223846793005 : Int)) + (1442695040888963407 : Int)))]) (vs' := [V_c0, .int .i64 c.i, .int .i64 (IntKind.i64.wrap (IntKind.i64.wrap (c.h * (6364136223846793005 : Int)) + (1442695040888963407 : Int)))]) (is' := [.box B_c 75 [V_c0, .int .i64 c.i, .int .i64 (IntKind.i64.wrap (IntKind.i64.wrap (c.h * (6364136223846793005 : Int)) + (1442695040888963407 : Int)))]]) 0 kk3 rfl rfl rfl (Cel.plain rfl rfl) rfl rfl rfl rfl) rfl rfl (fun _ => ?_)
  refine TO.nil ?_
  refine TE.next ?_
  refine TW.seq ?_
  refine TW.draw (isH := [.box B_c 75 [V_c0, .int .i64 c.i, .int .i64 (IntKind.i64.wrap (IntKind.i64.wrap (c.h * (6364136223846793005 : Int)) + (1442695040888963407 : Int)))]]) hMix ?_
  refine TA.y (listed' := #[true, false, false, false, false, false, false, false, false, false, false, false, false]) 0 [0] rfl (Y.move rfl) rfl rfl rfl (by kernel_rfl) (by kernel_rfl) (by kernel_rfl) rfl rfl ?_
  refine TA.y (listed' := #[true, true, false, false, false, false, false, false, false, false, false, false, false]) 1 [0] rfl (Y.nilCheck rfl) rfl rfl rfl (by kernel_rfl) (by kernel_rfl) (by kernel_rfl) rfl rfl ?_
  refine TA.y (listed' := #[true, true, true, false, false, false, false, false, false, false, false, false, false]) 2 [0] rfl (Y.field_box kf75_2 rfl rfl) rfl rfl rfl (by kernel_rfl) (by kernel_rfl) (by kernel_rfl) rfl rfl ?_
  refine TA.y (listed' := #[true, true, true, true, false, false, false, false, false, false, false, false, false]) 3 [0] rfl (Y.load_box (v := .int .i64 (IntKind.i64.wrap (IntKind.i64.wrap (c.h * (6364136223846793005 : Int)) + (1442695040888963407 : Int)))) 0 kk3 rfl rfl rfl) rfl rfl rfl (by kernel_rfl) (by kernel_rfl) (by kernel_rfl) rfl rfl ?_
  refine TA.y (listed' := #[true, true, true, true, true, false, false, false, false, false, false, false, false]) 4 [0] rfl (Y.shr (by decide) rfl rfl) rfl rfl rfl (by kernel_rfl) (by kernel_rfl) (by kernel_rfl) rfl rfl ?_
  refine TA.y (listed' := #[true, true, true, true, true, true, false, false, false, false, false, false, false]) 5 [0] rfl (Y.move rfl) rfl rfl rfl (by kernel_rfl) (by kernel_rfl) (by kernel_rfl) rfl rfl ?_
  refine TA.y (listed' := #[true, true, true, true, true, true, true, false, false, false, false, false, false]) 6 [0] rfl (Y.nilCheck rfl) rfl rfl rfl (by kernel_rfl) (by kernel_rfl) (by kernel_rfl) rfl rfl ?_
  refine TA.y (listed' := #[true, true, true, true, true, true, true, true, false, false, false, false, false]) 7 [0] rfl (Y.field_box kf75_2 rfl rfl) rfl rfl rfl (by kernel_rfl) (by kernel_rfl) (by kernel_rfl) rfl rfl ?_
  refine TA.y (listed' := #[true, true, true, true, true, true, true, true, true, false, false, false, false]) 8 [0] rfl (Y.load_box (v := .int .i64 (IntKind.i64.wrap (IntKind.i64.wrap (c.h * (6364136223846793005 : Int)) + (1442695040888963407 : Int)))) 0 kk3 rfl rfl rfl) rfl rfl rfl (by kernel_rfl) (by kernel_rfl) (by kernel_rfl) rfl rfl ?_
  refine TA.y (listed' := #[true, true, true, true, true, true, true, true, true, true, false, false, false]) 9 [0] rfl (Y.shr (by decide) rfl rfl) rfl rfl rfl (by kernel_rfl) (by kernel_rfl) (by kernel_rfl) rfl rfl ?_
  refine TA.y (listed' := #[true, true, true, true, true, true, true, true, true, true, true, false, false]) 10 [0] rfl (Y.xor rfl rfl) rfl rfl rfl (by kernel_rfl) (by kernel_rfl) (by kernel_rfl) rfl rfl ?_
  refine TA.y (listed' := #[true, true, true, true, true, true, true, true, true, true, true, true, false]) 11 [0] rfl (Y.and rfl rfl) rfl rfl rfl (by kernel_rfl) (by kernel_rfl) (by kernel_rfl) rfl rfl ?_
  refine TA.y (listed' := #[true, true, true, true, true, true, true, true, true, true, true, true, true]) 12 [0] rfl (Y.assign rfl) rfl rfl rfl (by kernel_rfl) (by kernel_rfl) (by kernel_rfl) rfl rfl ?_
  refine TA.nil (by kernel_rfl) ?_
  refine TE.next ?_
  refine TW.seq ?_
  refine TW.seq ?_
  refine TW.draw (isH := [.box B_c 75 [V_c0, .int .i64 c.i, .int .i64 (IntKind.i64.wrap (IntKind.i64.wrap (c.h * (6364136223846793005 : Int)) + (1442695040888963407 : Int)))]]) hMix ?_
  refine TA.y (listed' := #[true, false, false, false, false, false, false, false, false, false]) 0 [0] rfl (Y.move rfl) rfl rfl rfl (by kernel_rfl) (by kernel_rfl) (by kernel_rfl) rfl rfl ?_
  refine TA.y (listed' := #[true, true, false, false, false, false, false, false, false, false]) 1 [0] rfl (Y.nilCheck rfl) rfl rfl rfl (by kernel_rfl) (by kernel_rfl) (by kernel_rfl) rfl rfl ?_
  refine TA.y (listed' := #[true, true, true, false, false, false, false, false, false, false]) 2 [0] rfl (Y.field_box kf75_1 rfl rfl) rfl rfl rfl (by kernel_rfl) (by kernel_rfl) (by kernel_rfl) rfl rfl ?_
  refine TA.y (listed' := #[true, true, true, true, false, false, false, false, false, false]) 3 [0] rfl (Y.load_box (v := .int .i64 c.i) 0 kk3 rfl rfl rfl) rfl rfl rfl (by kernel_rfl) (by kernel_rfl) (by kernel_rfl) rfl rfl ?_
  refine TA.y (listed' := #[true, true, true, true, true, false, false, false, false, false]) 4 [0] rfl (Y.move rfl) rfl rfl rfl (by kernel_rfl) (by kernel_rfl) (by kernel_rfl) rfl rfl ?_
  refine TA.y (listed' := #[true, true, true, true, true, true, false, false, false, false]) 5 [0] rfl (Y.nilCheck rfl) rfl rfl rfl (by kernel_rfl) (by kernel_rfl) (by kernel_rfl) rfl rfl ?_
  refine TA.y (listed' := #[true, true, true, true, true, true, true, false, false, false]) 6 [0] rfl (Y.field_box kf75_0 rfl rfl) rfl rfl rfl (by kernel_rfl) (by kernel_rfl) (by kernel_rfl) rfl rfl ?_
  refine TA.y (listed' := #[true, true, true, true, true, true, true, true, false, false]) 7 [0] rfl (Y.load_box (v := V_c0) 0 kk22 rfl rfl rfl) rfl rfl rfl (by kernel_rfl) (by kernel_rfl) (by kernel_rfl) rfl rfl ?_
  refine TA.y (listed' := #[true, true, true, true, true, true, true, true, true, false]) 8 [0] rfl (Y.len (l := c.b) ke22 (Base.can HB_V_c0) rfl) rfl rfl rfl (by kernel_rfl) (by kernel_rfl) (by kernel_rfl) rfl rfl ?_
  refine TA.y (listed' := #[true, true, true, true, true, true, true, true, true, true]) 9 [0] rfl (Y.lss rfl rfl) rfl rfl rfl (by kernel_rfl) (by kernel_rfl) (by kernel_rfl) rfl rfl ?_
  refine TA.nil (by kernel_rfl) ?_
  refine TE.next ?_
  refine TW.joinX (τ := Int × Int) (X := Unit) (fun T _ => [(3, .int .i64 T.1)]) (fun T _ => [.box B_c 75 [V_c0, .int .i64 T.2, .int .i64 (IntKind.i64.wrap (IntKind.i64.wrap (c.h * (6364136223846793005 : Int)) + (1442695040888963407 : Int)))]]) ?_ (fun T1 X2 => ?_)
  · refine TW.cond rfl (fun H3 => ?_) (fun H3 => ?_)
    · refine TW.seq ?_
      refine TW.draw (isH := [.box B_c 75 [V_c0, .int .i64 c.i, .int .i64 (IntKind.i64.wrap (IntKind.i64.wrap (c.h * (6364136223846793005 : Int)) + (1442695040888963407 : Int)))]]) hMix ?_
      refine TA.y (listed' := #[true, false, false, false, false, false, false, false, false, false, false, false, false, false, false]) 0 [0] rfl (Y.move rfl) rfl rfl rfl (by kernel_rfl) (by kernel_rfl) (by kernel_rfl) rfl rfl ?_
      refine TA.y (listed' := #[true, true, false, false, false, false, false, false, false, false, false, false, false, false, false]) 1 [0] rfl (Y.move rfl) rfl rfl rfl (by kernel_rfl) (by kernel_rfl) (by kernel_rfl) rfl rfl ?_
      refine TA.y (listed' := #[true, true, true, false, false, false, false, false, false, false, false, false, false, false, false]) 2 [0] rfl (Y.nilCheck rfl) rfl rfl rfl (by kernel_rfl) (by kernel_rfl) (by kernel_rfl) rfl rfl ?_
      refine TA.y (listed' := #[true, true, true, true, false, false, false, false, false, false, false, false, false, false, false]) 3 [0] rfl (Y.field_box kf75_0 rfl rfl) rfl rfl rfl (by kernel_rfl) (by kernel_rfl) (by kernel_rfl) rfl rfl ?_
      refine TA.y (listed' := #[true, true, true, true, true, false, false, false, false, false, false, false, false, false, false]) 4 [0] rfl (Y.load_box (v := V_c0) 0 kk22 rfl rfl rfl) rfl rfl rfl (by kernel_rfl) (by kernel_rfl) (by kernel_rfl) rfl rfl ?_
      refine TA.y (listed' := #[true, true, true, true, true, true, false, false, false, false, false, false, false, false, false]) 5 [0] rfl (Y.move rfl) rfl rfl rfl (by kernel_rfl) (by kernel_rfl) (by kernel_rfl) rfl rfl ?_
      refine TA.y (listed' := #[true, true, true, true, true, true, true, false, false, false, false, false, false, false, false]) 6 [0] rfl (Y.nilCheck rfl) rfl rfl rfl (by kernel_rfl) (by kernel_rfl) (by kernel_rfl) rfl rfl ?_
      refine TA.y (listed' := #[true, true, true, true, true, true, true, true, false, false, false, false, false, false, false]) 7 [0] rfl (Y.field_box kf75_1 rfl rfl) rfl rfl rfl (by kernel_rfl) (by kernel_rfl) (by kernel_rfl) rfl rfl ?_
      refine TA.y (listed' := #[true, true, true, true, true, true, true, true, true, false, false, false, false, false, false]) 8 [0] rfl (Y.load_box (v := .int .i64 c.i) 0 kk3 rfl rfl rfl) rfl rfl rfl (by kernel_rfl) (by kernel_rfl) (by kernel_rfl) rfl rfl ?_
      refine TA.bind fun E4 H5 => ?_
      refine TA.y (listed' := #[true, true, true, true, true, true, true, true, true, true, false, false, false, false, false]) 9 [0] rfl (Y.index ke22 (Base.can HB_V_c0) H5 rfl rfl) rfl rfl rfl (by kernel_rfl) (by kernel_rfl) (by kernel_rfl) rfl rfl ?_
      refine TA.y (listed' := #[true, true, true, true, true, true, true, true, true, true, true, false, false, false, false]) 10 [0] rfl (Y.load_el (us := [.int .u8 ((E4.toNat : Nat) : Int)]) (u := .int .u8 ((E4.toNat : Nat) : Int)) kk5 rfl (Base.can HB_V_c0) (idx_get H5).2.2 rfl rfl rfl rfl rfl) rfl rfl rfl (by kernel_rfl) (by kernel_rfl) (by kernel_rfl) rfl rfl ?_
      refine TA.y (listed' := #[true, true, true, true, true, true, true, true, true, true, true, true, false, false, false]) 11 [0] rfl (Y.conv ki5 ki3 rfl) rfl rfl rfl (by kernel_rfl) (by kernel_rfl) (by kernel_rfl) rfl rfl ?_
      refine TA.y (listed' := #[true, true, true, true, true, true, true, true, true, true, true, true, true, false, false]) 12 [0] rfl (Y.add rfl rfl) rfl rfl rfl (by kernel_rfl) (by kernel_rfl) (by kernel_rfl) rfl rfl ?_
      refine TA.y (listed' := #[true, true, true, true, true, true, true, true, true, true, true, true, true, true, false]) 13 [0] rfl (Y.and rfl rfl) rfl rfl rfl (by kernel_rfl) (by kernel_rfl) (by kernel_rfl) rfl rfl ?_
      refine TA.y (listed' := #[true, true, true, true, true, true, true, true, true, true, true, true, true, true, true]) 14 [0] rfl (Y.assign rfl) rfl rfl rfl (by kernel_rfl) (by kernel_rfl) (by kernel_rfl) rfl rfl ?_
      refine TA.nil (by kernel_rfl) ?_
      refine TE.next ?_
      refine TW.region ?_
      refine TO.y (Y.move rfl) rfl rfl rfl ?_
      refine TO.y (Y.move rfl) rfl rfl rfl ?_
      refine TO.y (Y.nilCheck rfl) rfl rfl rfl ?_
      refine TO.y (Y.field_box kf75_1 rfl rfl) rfl rfl rfl ?_
      refine TO.y (Y.load_box (v := .int .i64 c.i) 0 kk3 rfl rfl rfl) rfl rfl rfl ?_
      refine TO.y (Y.add rfl rfl) rfl rfl rfl ?_
      refine TO.y (Y.nilCheck rfl) rfl rfl rfl ?_
      refine TO.y (Y.field_box kf75_1 rfl rfl) rfl rfl rfl ?_
      refine TO.ef0 (Ef.store_box (us := [.int .i64 (IntKind.i64.wrap (c.i + (1 : Int)))]) (vs' := [V_c0, .int .i64 (IntKind.i64.wrap (c.i + (1 : Int))), .int .i64 (IntKind.i64.wrap (IntKind.i64.wrap (c.h * (6364136223846793005 : Int)) + (1442695040888963407 : Int)))]) (is' := [.box B_c 75 [V_c0, .int .i64 (IntKind.i64.wrap (c.i + (1 : Int))), .int .i64 (IntKind.i64.wrap (IntKind.i64.wrap (c.h * (6364136223846793005 : Int)) + (1442695040888963407 : Int)))]]) 0 kk3 rfl rfl rfl (Cel.plain rfl rfl) rfl rfl rfl rfl) rfl rfl (fun _ => ?_)
      refine TO.nil ?_
      exact TE.jn_go () [0] ⟨rfl, trivial⟩ rfl
    · refine TW.skip ?_
      exact TE.jn_go () [0] ⟨rfl, trivial⟩ rfl
  · refine TE.next ?_
    refine TW.seq ?_
    refine TW.region ?_
    refine TO.y (Y.move rfl) rfl rfl rfl ?_
    refine TO.y (Y.assign rfl) rfl rfl rfl ?_
    refine TO.nil ?_
    refine TE.next ?_
    refine TW.ret ?_
    exact TE.leaf fun _ _ hf_ hs_ => ret_any (rs := [.tmp 2]) (vs := [.int .i64 T1.1]) (.inl rfl) rfl ⟨rfl, trivial⟩ hf_ hs_ ⟨(), rfl, hs_.pulls [0] rfl⟩

/-- loop.example/g00950/spec.l1Below -/
noncomputable def spec_l1Below (c : L1Cur) (n : Int) : Option (Int × L1Cur) :=
  if (decide (n ≤ (0 : Int))) = true then (some ((0 : Int), c))
  else (if (decide (n ≤ (256 : Int))) = true then ((spec_l1Byte c).bind fun R3 =>
  (nz n).bind fun E6 =>
  some (Int.tmod R3.1 n, { b := c.b, i := R3.2.i, h := R3.2.h : L1Cur }))
  else ((spec_l1Byte c).bind fun R8 =>
  (spec_l1Byte ({ b := c.b, i := R8.2.i, h := R8.2.h : L1Cur })).bind fun R11 =>
  (spec_l1Byte ({ b := c.b, i := R11.2.i, h := R11.2.h : L1Cur })).bind fun R14 =>
  (spec_l1Byte ({ b := c.b, i := R14.2.i, h := R14.2.h : L1Cur })).bind fun R17 =>
  (nz n).bind fun E20 =>
  some (Int.tmod (IntKind.i64.wrap (IntKind.i64.wrap (IntKind.i64.wrap (IntKind.i64.wrap (R8.1 * (16777216 : Int)) + (IntKind.i64.wrap (R11.1 * (65536 : Int)))) + (IntKind.i64.wrap (R14.1 * (256 : Int)))) + R17.1)) n, { b := c.b, i := R17.2.i, h := R17.2.h : L1Cur })))

theorem spec_l1Below_con (c : L1Cur) (n : Int) (V_c0 : Value) (B_c : Nat) (r : Int × L1Cur) (hm : spec_l1Below c n = some r) :
    Con Try.prog 25 [.pointer (some ⟨B_c, 0, none⟩), .int .i64 n] [.box B_c 75 [V_c0, .int .i64 c.i, .int .i64 c.h]] [(V_c0, lc c.b)] (fun _ : Unit => .int .i64 r.1) (fun _ => [.box B_c 75 [V_c0, .int .i64 r.2.i, .int .i64 r.2.h]]) := by
  refine Con.intro (args := [.pointer (some ⟨B_c, 0, none⟩), .int .i64 n]) (n := 37) (val := fun r (_ : Unit) => .int .i64 r.1) (post := fun r _ => [.box B_c 75 [V_c0, .int .i64 r.2.i, .int .i64 r.2.h]]) (m := spec_l1Below c n) Try.func25 rfl rfl rfl hm ?_
  intro w S hrd
  have HB_V_c0 := hrd _ (.head _)
  clear hrd
  unfold spec_l1Below
  refine TW.seq ?_
  refine TW.region ?_
  refine TO.y (Y.assign rfl) rfl rfl rfl ?_
  refine TO.nil ?_
  refine TE.next ?_
  refine TW.seq ?_
  refine TW.seq ?_
  refine TW.region ?_
  refine TO.y (Y.move rfl) rfl rfl rfl ?_
  refine TO.y (Y.leq rfl rfl) rfl rfl rfl ?_
  refine TO.nil ?_
  refine TE.next ?_
  refine TW.cond rfl (fun H1 => ?_) (fun H1 => ?_)
  · refine TW.seq ?_
    refine TW.region ?_
    refine TO.y (Y.assign rfl) rfl rfl rfl ?_
    refine TO.nil ?_
    refine TE.next ?_
    refine TW.ret ?_
    refine TE.then_ret ?_
    exact TE.leaf fun _ _ hf_ hs_ => ret_any (rs := [.tmp 4]) (vs := [.int .i64 (0 : Int)]) (.inl rfl) rfl ⟨rfl, trivial⟩ hf_ hs_ ⟨(), rfl, hs_.pulls [0] rfl⟩
  · refine TW.skip ?_
    refine TE.next ?_
    refine TW.seq ?_
    refine TW.seq ?_
    refine TW.region ?_
    refine TO.y (Y.move rfl) rfl rfl rfl ?_
    refine TO.y (Y.leq rfl rfl) rfl rfl rfl ?_
    refine TO.nil ?_
    refine TE.next ?_
    refine TW.cond rfl (fun H2 => ?_) (fun H2 => ?_)
    · refine TW.seq ?_
      refine TW.region ?_
      refine TO.y (Y.move rfl) rfl rfl rfl ?_
      refine TO.bind fun R3 H4 => ?_
      refine TO.ef (Ef.call (rest := []) [0] (spec_l1Byte_con c V_c0 B_c R3 H4) kc58 rfl rfl ⟨(Base.can HB_V_c0), trivial⟩) rfl rfl rfl (fun _ => ?_)
      refine TO.y (Y.move rfl) rfl rfl rfl ?_
      refine TO.bind fun E6 H7 => ?_
      refine TO.y (Y.rem (nz_ne H7) rfl rfl) rfl rfl rfl ?_
      refine TO.y (Y.assign rfl) rfl rfl rfl ?_
      refine TO.nil ?_
      refine TE.next ?_
      refine TW.ret ?_
      refine TE.then_ret ?_
      exact TE.leaf fun _ _ hf_ hs_ => ret_any (rs := [.tmp 4]) (vs := [.int .i64 (Int.tmod R3.1 n)]) (.inl rfl) rfl ⟨rfl, trivial⟩ hf_ hs_ ⟨(), rfl, hs_.pulls [0] rfl⟩
    · refine TW.skip ?_
      refine TE.next ?_
      refine TW.seq ?_
      refine TW.region ?_
      refine TO.y (Y.move rfl) rfl rfl rfl ?_
      refine TO.bind fun R8 H9 => ?_
      refine TO.ef (Ef.call (rest := []) [0] (spec_l1Byte_con c V_c0 B_c R8 H9) kc58 rfl rfl ⟨(Base.can HB_V_c0), trivial⟩) rfl rfl rfl (fun _ => ?_)
      refine TO.y (Y.assign rfl) rfl rfl rfl ?_
      refine TO.nil ?_
      refine TE.next ?_
      refine TW.seq ?_
      refine TW.region ?_
      refine TO.y (Y.move rfl) rfl rfl rfl ?_
      refine TO.bind fun R11 H12 => ?_
      refine TO.ef (Ef.call (rest := []) [0] (spec_l1Byte_con ({ b := c.b, i := R8.2.i, h := R8.2.h : L1Cur }) V_c0 B_c R11 H12) kc58 rfl rfl ⟨(Base.can HB_V_c0), trivial⟩) rfl rfl rfl (fun _ => ?_)
      refine TO.y (Y.assign rfl) rfl rfl rfl ?_
      refine TO.nil ?_
      refine TE.next ?_
      refine TW.seq ?_
      refine TW.region ?_
      refine TO.y (Y.move rfl) rfl rfl rfl ?_
      refine TO.bind fun R14 H15 => ?_
      refine TO.ef (Ef.call (rest := []) [0] (spec_l1Byte_con ({ b := c.b, i := R11.2.i, h := R11.2.h : L1Cur }) V_c0 B_c R14 H15) kc58 rfl rfl ⟨(Base.can HB_V_c0), trivial⟩) rfl rfl rfl (fun _ => ?_)
      refine TO.y (Y.assign rfl) rfl rfl rfl ?_
      refine TO.nil ?_
      refine TE.next ?_
      refine TW.seq ?_
      refine TW.region ?_
      refine TO.y (Y.move rfl) rfl rfl rfl ?_
      refine TO.bind fun R17 H18 => ?_
      refine TO.ef (Ef.call (rest := []) [0] (spec_l1Byte_con ({ b := c.b, i := R14.2.i, h := R14.2.h : L1Cur }) V_c0 B_c R17 H18) kc58 rfl rfl ⟨(Base.can HB_V_c0), trivial⟩) rfl rfl rfl (fun _ => ?_)
      refine TO.y (Y.assign rfl) rfl rfl rfl ?_
      refine TO.nil ?_
      refine TE.next ?_
      refine TW.seq ?_
      refine TW.region ?_
      refine TO.y (Y.move rfl) rfl rfl rfl ?_
      refine TO.y (Y.mul rfl rfl) rfl rfl rfl ?_
      refine TO.y (Y.move rfl) rfl rfl rfl ?_
      refine TO.y (Y.mul rfl rfl) rfl rfl rfl ?_
      refine TO.y (Y.add rfl rfl) rfl rfl rfl ?_
      refine TO.y (Y.move rfl) rfl rfl rfl ?_
      refine TO.y (Y.mul rfl rfl) rfl rfl rfl ?_
      refine TO.y (Y.add rfl rfl) rfl rfl rfl ?_
      refine TO.y (Y.move rfl) rfl rfl rfl ?_
      refine TO.y (Y.add rfl rfl) rfl rfl rfl ?_
      refine TO.y (Y.move rfl) rfl rfl rfl ?_
      refine TO.bind fun E20 H21 => ?_
      refine TO.y (Y.rem (nz_ne H21) rfl rfl) rfl rfl rfl ?_
      refine TO.y (Y.assign rfl) rfl rfl rfl ?_
      refine TO.nil ?_
      refine TE.next ?_
      refine TW.ret ?_
      exact TE.leaf fun _ _ hf_ hs_ => ret_any (rs := [.tmp 4]) (vs := [.int .i64 (Int.tmod (IntKind.i64.wrap (IntKind.i64.wrap (IntKind.i64.wrap (IntKind.i64.wrap (R8.1 * (16777216 : Int)) + (IntKind.i64.wrap (R11.1 * (65536 : Int)))) + (IntKind.i64.wrap (R14.1 * (256 : Int)))) + R17.1)) n)]) (.inl rfl) rfl ⟨rfl, trivial⟩ hf_ hs_ ⟨(), rfl, hs_.pulls [0] rfl⟩

/-- loop.example/g00950/spec.l1Text -/
noncomputable def spec_l1Text (c : L1Cur) (most : Int) : Option (List UInt8 × L1Cur) :=
  (spec_l1Below c (4 : Int)).bind fun R2 =>
  (spec_l1Below ({ b := c.b, i := R2.2.i, h := R2.2.h : L1Cur }) (IntKind.i64.wrap (most + (1 : Int)))).bind fun R5 =>
  bindC (loopO (fun (S8 : Int × Int × Int × List UInt8) => if (decide (S8.2.2.1 > (0 : Int))) = true then ((spec_l1Byte ({ b := c.b, i := S8.1, h := S8.2.1 : L1Cur })).bind fun R13 =>
  bindC (if (decide (R2.1 = (1 : Int))) = true then (some (.go (Int.tmod R13.1 (2 : Int))))
  else (some (.go R13.1)))
  (fun (T16 : Int) => bindC (if (decide (R2.1 = (2 : Int))) = true then (some (.go (IntKind.i64.wrap ((97 : Int) + (Int.tmod T16 (4 : Int))))))
  else (some (.go T16)))
  (fun (T19 : Int) => (app 1 S8.2.2.2 ([toU8 T19])).bind fun E24 =>
  some (.go (R13.2.i, R13.2.h, IntKind.i64.wrap (S8.2.2.1 - (1 : Int)), E24)))))
  else (some (.done (.go (S8.1, S8.2.1, S8.2.2.2)))))
  (R5.2.i, R5.2.h, R5.1, ([] : List UInt8)))
  (fun (T10 : Int × Int × List UInt8) => some (T10.2.2, { b := c.b, i := T10.1, h := T10.2.1 : L1Cur }))

theorem spec_l1Text_con (c : L1Cur) (most : Int) (V_c0 : Value) (B_c : Nat) (r : List UInt8 × L1Cur) (hm : spec_l1Text c most = some r) :
    Con Try.prog 29 [.pointer (some ⟨B_c, 0, none⟩), .int .i64 most] [.box B_c 75 [V_c0, .int .i64 c.i, .int .i64 c.h]] [(V_c0, lc c.b)] (fun _ : Unit => strV r.1) (fun _ => [.box B_c 75 [V_c0, .int .i64 r.2.i, .int .i64 r.2.h]]) := by
  refine Con.intro (args := [.pointer (some ⟨B_c, 0, none⟩), .int .i64 most]) (n := 38) (val := fun r (_ : Unit) => strV r.1) (post := fun r _ => [.box B_c 75 [V_c0, .int .i64 r.2.i, .int .i64 r.2.h]]) (m := spec_l1Text c most) Try.func29 rfl rfl rfl hm ?_
  intro w S hrd
  have HB_V_c0 := hrd _ (.head _)
  clear hrd
  unfold spec_l1Text
  refine TW.seq ?_
  refine TW.region ?_
  refine TO.y (Y.assign rfl) rfl rfl rfl ?_
  refine TO.nil ?_
  refine TE.next ?_
  refine TW.seq ?_
  refine TW.region ?_
  refine TO.ef (Ef.buildSlice (α := UInt8) (Vs := []) ([] : List UInt8) ke22 kz5 rfl rfl rfl rfl rfl) rfl rfl rfl (fun B1 => ?_)
  refine TO.y (Y.assign rfl) rfl rfl rfl ?_
  refine TO.nil ?_
  refine TE.next ?_
  refine TW.seq ?_
  refine TW.region ?_
  refine TO.y (Y.move rfl) rfl rfl rfl ?_
  refine TO.bind fun R2 H3 => ?_
  refine TO.ef (Ef.call (rest := [.own (.slice (some ⟨B1, 0, none⟩) 0 0) (lc ([] : List UInt8))]) [1, 0] (spec_l1Below_con c (4 : Int) V_c0 B_c R2 H3) kc25 rfl rfl ⟨(Base.can HB_V_c0), trivial⟩) rfl rfl rfl (fun _ => ?_)
  refine TO.y (Y.assign rfl) rfl rfl rfl ?_
  refine TO.nil ?_
  refine TE.next ?_
  refine TW.seq ?_
  refine TW.seq ?_
  refine TW.region ?_
  refine TO.y (Y.move rfl) rfl rfl rfl ?_
  refine TO.y (Y.move rfl) rfl rfl rfl ?_
  refine TO.y (Y.add rfl rfl) rfl rfl rfl ?_
  refine TO.bind fun R5 H6 => ?_
  refine TO.ef (Ef.call (rest := [.own (.slice (some ⟨B1, 0, none⟩) 0 0) (lc ([] : List UInt8))]) [0, 0] (spec_l1Below_con ({ b := c.b, i := R2.2.i, h := R2.2.h : L1Cur }) (IntKind.i64.wrap (most + (1 : Int))) V_c0 B_c R5 H6) kc25 rfl rfl ⟨(Base.can HB_V_c0), trivial⟩) rfl rfl rfl (fun _ => ?_)
  refine TO.y (Y.assign rfl) rfl rfl rfl ?_
  refine TO.nil ?_
  refine TE.next ?_
  refine TW.joinX (τ := Int × Int × List UInt8) (X := Value) (fun _ X => [(5, X)]) (fun T X => [.box B_c 75 [V_c0, .int .i64 T.1, .int .i64 T.2.1], .own X (lc T.2.2)]) ?_ (fun T10 X11 => ?_)
  · refine TW.block ?_
    refine TW.loopX (σ := Int × Int × Int × List UInt8) (X := Value) (fun T X => [(0, .pointer (some ⟨B_c, 0, none⟩)), (5, X), (6, .int .i64 R2.1), (7, .int .i64 T.2.2.1)]) (fun T X => [.box B_c 75 [V_c0, .int .i64 T.1, .int .i64 T.2.1], .own X (lc T.2.2.2)]) (.slice (some ⟨B1, 0, none⟩) 0 0) [0, 0] ⟨rfl, rfl, rfl, rfl, trivial⟩ rfl (fun S8 X9 => ?_)
    refine TW.seq ?_
    refine TW.seq ?_
    refine TW.region ?_
    refine TO.y (Y.move rfl) rfl rfl rfl ?_
    refine TO.y (Y.gtr rfl rfl) rfl rfl rfl ?_
    refine TO.nil ?_
    refine TE.next ?_
    refine TW.cond rfl (fun H12 => ?_) (fun H12 => ?_)
    · refine TW.skip ?_
      refine TE.next ?_
      refine TW.seq ?_
      refine TW.block ?_
      refine TW.seq ?_
      refine TW.region ?_
      refine TO.y (Y.move rfl) rfl rfl rfl ?_
      refine TO.bind fun R13 H14 => ?_
      refine TO.ef (Ef.call (rest := [.own X9 (lc S8.2.2.2)]) [0, 0] (spec_l1Byte_con ({ b := c.b, i := S8.1, h := S8.2.1 : L1Cur }) V_c0 B_c R13 H14) kc58 rfl rfl ⟨(Base.can HB_V_c0), trivial⟩) rfl rfl rfl (fun _ => ?_)
      refine TO.y (Y.assign rfl) rfl rfl rfl ?_
      refine TO.nil ?_
      refine TE.next ?_
      refine TW.seq ?_
      refine TW.seq ?_
      refine TW.region ?_
      refine TO.y (Y.move rfl) rfl rfl rfl ?_
      refine TO.y (Y.eql rfl rfl) rfl rfl rfl ?_
      refine TO.nil ?_
      refine TE.next ?_
      refine TW.joinX (τ := Int) (X := Unit) (fun T _ => [(0, .pointer (some ⟨B_c, 0, none⟩)), (5, X9), (6, .int .i64 R2.1), (7, .int .i64 S8.2.2.1), (8, .int .i64 T)]) (fun _ _ => [.box B_c 75 [V_c0, .int .i64 R13.2.i, .int .i64 R13.2.h], .own X9 (lc S8.2.2.2)]) ?_ (fun T16 X17 => ?_)
      · refine TW.cond rfl (fun H18 => ?_) (fun H18 => ?_)
        · refine TW.region ?_
          refine TO.y (Y.move rfl) rfl rfl rfl ?_
          refine TO.y (Y.rem (by decide) rfl rfl) rfl rfl rfl ?_
          refine TO.y (Y.assign rfl) rfl rfl rfl ?_
          refine TO.nil ?_
          exact TE.jn_go () [0, 0] ⟨rfl, rfl, rfl, rfl, rfl, trivial⟩ rfl
        · refine TW.skip ?_
          exact TE.jn_go () [0, 0] ⟨rfl, rfl, rfl, rfl, rfl, trivial⟩ rfl
      · refine TE.next ?_
        refine TW.seq ?_
        refine TW.seq ?_
        refine TW.region ?_
        refine TO.y (Y.move rfl) rfl rfl rfl ?_
        refine TO.y (Y.eql rfl rfl) rfl rfl rfl ?_
        refine TO.nil ?_
        refine TE.next ?_
        refine TW.joinX (τ := Int) (X := Unit) (fun T _ => [(0, .pointer (some ⟨B_c, 0, none⟩)), (5, X9), (6, .int .i64 R2.1), (7, .int .i64 S8.2.2.1), (8, .int .i64 T)]) (fun _ _ => [.box B_c 75 [V_c0, .int .i64 R13.2.i, .int .i64 R13.2.h], .own X9 (lc S8.2.2.2)]) ?_ (fun T19 X20 => ?_)
        · refine TW.cond rfl (fun H21 => ?_) (fun H21 => ?_)
          · refine TW.region ?_
            refine TO.y (Y.move rfl) rfl rfl rfl ?_
            refine TO.y (Y.rem (by decide) rfl rfl) rfl rfl rfl ?_
            refine TO.y (Y.add rfl rfl) rfl rfl rfl ?_
            refine TO.y (Y.assign rfl) rfl rfl rfl ?_
            refine TO.nil ?_
            exact TE.jn_go () [0, 0] ⟨rfl, rfl, rfl, rfl, rfl, trivial⟩ rfl
          · refine TW.skip ?_
            exact TE.jn_go () [0, 0] ⟨rfl, rfl, rfl, rfl, rfl, trivial⟩ rfl
        · refine TE.next ?_
          refine TW.region ?_
          refine TO.y (Y.move rfl) rfl rfl rfl ?_
          refine TO.y (Y.move rfl) rfl rfl rfl ?_
          refine TO.y (Y.conv8 ki3 ki5 rfl) rfl rfl rfl ?_
          refine TO.ef (Ef.buildSlice (α := UInt8) (Vs := [.int .u8 (((toU8 T19).toNat : Nat) : Int)]) [toU8 T19] ke22 kz5 rfl rfl rfl rfl rfl) rfl rfl rfl (fun B22 => ?_)
          refine TO.bind fun E24 H25 => ?_
          refine TO.ef (Ef.append (α := UInt8) (is' := [.own (.slice (some ⟨B22, 0, none⟩) 1 1) (lc ([toU8 T19])), .box B_c 75 [V_c0, .int .i64 R13.2.i, .int .i64 R13.2.h]]) [2, 0, 0] H25 ke22 kz5 rfl rfl rfl rfl rfl (Can.own 0 rfl)) rfl rfl rfl (fun V23 => ?_)
          refine TO.y (Y.assign rfl) rfl rfl rfl ?_
          refine TO.nil ?_
          refine TE.block_normal ?_
          refine TE.next ?_
          refine TW.region ?_
          refine TO.y (Y.move rfl) rfl rfl rfl ?_
          refine TO.y (Y.sub rfl rfl) rfl rfl rfl ?_
          refine TO.y (Y.assign rfl) rfl rfl rfl ?_
          refine TO.nil ?_
          exact TE.lp_go V23 [2, 0] ⟨rfl, rfl, rfl, rfl, trivial⟩ rfl
    · refine TW.exit ?_
      refine TE.then_exit ?_
      refine TE.lp_exit ?_
      refine TE.block_exit ?_
      exact TE.jn_go X9 [0, 0] ⟨rfl, trivial⟩ rfl
  · refine TE.next ?_
    refine TW.seq ?_
    refine TW.region ?_
    refine TO.y (Y.move rfl) rfl rfl rfl ?_
    refine TO.y (Y.toStr ke22 ki5 ks9 (Can.own 1 rfl) rfl) rfl rfl rfl ?_
    refine TO.y (Y.assign rfl) rfl rfl rfl ?_
    refine TO.nil ?_
    refine TE.next ?_
    refine TW.ret ?_
    exact TE.leaf fun _ _ hf_ hs_ => ret_any (rs := [.tmp 4]) (vs := [strV T10.2.2]) (.inl rfl) rfl ⟨rfl, trivial⟩ hf_ hs_ ⟨(), rfl, hs_.pulls [0] rfl⟩

/-- loop.example/g00950/spec.l1Once -/
noncomputable def spec_l1Once (c : L1Cur) (n : Int) : Option (Bool × L1Cur) :=
  (spec_l1Below c n).bind fun R1 =>
  some (decide (R1.1 = (0 : Int)), { b := c.b, i := R1.2.i, h := R1.2.h : L1Cur })

theorem spec_l1Once_con (c : L1Cur) (n : Int) (V_c0 : Value) (B_c : Nat) (r : Bool × L1Cur) (hm : spec_l1Once c n = some r) :
    Con Try.prog 62 [.pointer (some ⟨B_c, 0, none⟩), .int .i64 n] [.box B_c 75 [V_c0, .int .i64 c.i, .int .i64 c.h]] [(V_c0, lc c.b)] (fun _ : Unit => .bool r.1) (fun _ => [.box B_c 75 [V_c0, .int .i64 r.2.i, .int .i64 r.2.h]]) := by
  refine Con.intro (args := [.pointer (some ⟨B_c, 0, none⟩), .int .i64 n]) (n := 9) (val := fun r (_ : Unit) => .bool r.1) (post := fun r _ => [.box B_c 75 [V_c0, .int .i64 r.2.i, .int .i64 r.2.h]]) (m := spec_l1Once c n) Try.func62 rfl rfl rfl hm ?_
  intro w S hrd
  have HB_V_c0 := hrd _ (.head _)
  clear hrd
  unfold spec_l1Once
  refine TW.seq ?_
  refine TW.region ?_
  refine TO.y (Y.assign rfl) rfl rfl rfl ?_
  refine TO.nil ?_
  refine TE.next ?_
  refine TW.seq ?_
  refine TW.region ?_
  refine TO.y (Y.move rfl) rfl rfl rfl ?_
  refine TO.y (Y.move rfl) rfl rfl rfl ?_
  refine TO.bind fun R1 H2 => ?_
  refine TO.ef (Ef.call (rest := []) [0] (spec_l1Below_con c n V_c0 B_c R1 H2) kc25 rfl rfl ⟨(Base.can HB_V_c0), trivial⟩) rfl rfl rfl (fun _ => ?_)
  refine TO.y (Y.eql rfl rfl) rfl rfl rfl ?_
  refine TO.y (Y.assign rfl) rfl rfl rfl ?_
  refine TO.nil ?_
  refine TE.next ?_
  refine TW.ret ?_
  exact TE.leaf fun _ _ hf_ hs_ => ret_any (rs := [.tmp 4]) (vs := [.bool (decide (R1.1 = (0 : Int)))]) (.inl rfl) rfl ⟨rfl, trivial⟩ hf_ hs_ ⟨(), rfl, hs_.pulls [0] rfl⟩

/-- loop.example/g00950/spec.l1PickInt -/
noncomputable def spec_l1PickInt (c : L1Cur) (list : List Int) : Option (Int × L1Cur) :=
  (spec_l1Below c ((list.length : Nat) : Int)).bind fun R1 =>
  (idx list R1.1).bind fun E4 =>
  some (E4, { b := c.b, i := R1.2.i, h := R1.2.h : L1Cur })

theorem spec_l1PickInt_con (c : L1Cur) (list : List Int) (V_c0 : Value) (B_c : Nat) (V_list0 : Value) (r : Int × L1Cur) (hm : spec_l1PickInt c list = some r) :
    Con Try.prog 47 [.pointer (some ⟨B_c, 0, none⟩), V_list0] [.box B_c 75 [V_c0, .int .i64 c.i, .int .i64 c.h]] [(V_c0, lc c.b), (V_list0, lc list)] (fun _ : Unit => .int .i64 r.1) (fun _ => [.box B_c 75 [V_c0, .int .i64 r.2.i, .int .i64 r.2.h]]) := by
  refine Con.intro (args := [.pointer (some ⟨B_c, 0, none⟩), V_list0]) (n := 12) (val := fun r (_ : Unit) => .int .i64 r.1) (post := fun r _ => [.box B_c 75 [V_c0, .int .i64 r.2.i, .int .i64 r.2.h]]) (m := spec_l1PickInt c list) Try.func47 rfl rfl rfl hm ?_
  intro w S hrd
  have HB_V_c0 := hrd _ (.head _)
  have HB_V_list0 := hrd _ (.tail _ (.head _))
  clear hrd
  unfold spec_l1PickInt
  refine TW.seq ?_
  refine TW.region ?_
  refine TO.y (Y.assign rfl) rfl rfl rfl ?_
  refine TO.nil ?_
  refine TE.next ?_
  refine TW.seq ?_
  refine TW.region ?_
  refine TO.y (Y.move rfl) rfl rfl rfl ?_
  refine TO.y (Y.move rfl) rfl rfl rfl ?_
  refine TO.y (Y.move rfl) rfl rfl rfl ?_
  refine TO.y (Y.len (l := list) ke55 (Base.can HB_V_list0) rfl) rfl rfl rfl ?_
  refine TO.bind fun R1 H2 => ?_
  refine TO.ef (Ef.call (rest := []) [0] (spec_l1Below_con c ((list.length : Nat) : Int) V_c0 B_c R1 H2) kc25 rfl rfl ⟨(Base.can HB_V_c0), trivial⟩) rfl rfl rfl (fun _ => ?_)
  refine TO.bind fun E4 H5 => ?_
  refine TO.y (Y.index ke55 (Base.can HB_V_list0) H5 rfl rfl) rfl rfl rfl ?_
  refine TO.y (Y.load_el (us := [.int .i64 E4]) (u := .int .i64 E4) kk3 rfl (Base.can HB_V_list0) (idx_get H5).2.2 rfl rfl rfl rfl rfl) rfl rfl rfl ?_
  refine TO.y (Y.assign rfl) rfl rfl rfl ?_
  refine TO.nil ?_
  refine TE.next ?_
  refine TW.ret ?_
  exact TE.leaf fun _ _ hf_ hs_ => ret_any (rs := [.tmp 4]) (vs := [.int .i64 E4]) (.inl rfl) rfl ⟨rfl, trivial⟩ hf_ hs_ ⟨(), rfl, hs_.pulls [0] rfl⟩

/-- loop.example/g00950/spec.l8Row -/
noncomputable def spec_l8Row (c : L1Cur) : Option (LogRow × L1Cur) :=
  (spec_l1Below c (4 : Int)).bind fun R2 =>
  (spec_l1Below ({ b := c.b, i := R2.2.i, h := R2.2.h : L1Cur }) (3 : Int)).bind fun R5 =>
  (spec_l1Below ({ b := c.b, i := R5.2.i, h := R5.2.h : L1Cur }) (300 : Int)).bind fun R8 =>
  (spec_l1Text ({ b := c.b, i := R8.2.i, h := R8.2.h : L1Cur }) (9 : Int)).bind fun R11 =>
  (spec_l1Once ({ b := c.b, i := R11.2.i, h := R11.2.h : L1Cur }) (2 : Int)).bind fun R14 =>
  (spec_l1Once ({ b := c.b, i := R14.2.i, h := R14.2.h : L1Cur }) (10 : Int)).bind fun R18 =>
  bindC (if R18.1 = true then ((spec_l1Below ({ b := c.b, i := R18.2.i, h := R18.2.h : L1Cur }) (4 : Int)).bind fun R24 =>
  bindC (if (decide (R24.1 = (0 : Int))) = true then ((spec_l1PickInt ({ b := c.b, i := R24.2.i, h := R24.2.h : L1Cur }) ([(0 : Int), (99 : Int), (100 : Int)])).bind fun R31 =>
  some (.go (R31.1, R5.1, R8.1, R11.1, R31.2.i, R31.2.h)))
  else (bindC (if (decide (R24.1 = (1 : Int))) = true then ((spec_l1PickInt ({ b := c.b, i := R24.2.i, h := R24.2.h : L1Cur }) ([(-1 : Int), (1000 : Int), (1001 : Int)])).bind fun R38 =>
  some (.go (R38.1, R8.1, R11.1, R38.2.i, R38.2.h)))
  else (bindC (if (decide (R24.1 = (2 : Int))) = true then ((spec_l1PickInt ({ b := c.b, i := R24.2.i, h := R24.2.h : L1Cur }) ([(-1 : Int), (999999 : Int), (1000000 : Int)])).bind fun R45 =>
  some (.go (R45.1, R11.1, R45.2.i, R45.2.h)))
  else ((spec_l1Below ({ b := c.b, i := R24.2.i, h := R24.2.h : L1Cur }) (2 : Int)).bind fun R49 =>
  bindC (loopO (fun (S52 : List UInt8) => if (decide (((S52.length : Nat) : Int) < IntKind.i64.wrap ((300 : Int) + R49.1))) = true then ((app 1 S52 ([(65 : UInt8)])).bind fun E59 =>
  some (.go E59))
  else (some (.done (.go S52))))
  ([] : List UInt8))
  (fun (T54 : List UInt8) => some (.go (R8.1, T54, R49.2.i, R49.2.h)))))
  (fun (T41 : Int × List UInt8 × Int × Int) => some (.go (R5.1, T41.1, T41.2.1, T41.2.2.1, T41.2.2.2)))))
  (fun (T34 : Int × Int × List UInt8 × Int × Int) => some (.go (IntKind.i64.wrap ((1 : Int) + R2.1), T34.1, T34.2.1, T34.2.2.1, T34.2.2.2.1, T34.2.2.2.2)))))
  (fun (T27 : Int × Int × Int × List UInt8 × Int × Int) => some (.go (T27.1, T27.2.1, T27.2.2.1, T27.2.2.2.1, T27.2.2.2.2.1, T27.2.2.2.2.2))))
  else (some (.go (IntKind.i64.wrap ((1 : Int) + R2.1), R5.1, R8.1, R11.1, R18.2.i, R18.2.h))))
  (fun (T21 : Int × Int × Int × List UInt8 × Int × Int) => some ({ Tenant := T21.1, Boot := T21.2.1, Seq := T21.2.2.1, Text := T21.2.2.2.1, Synced := R14.1 : LogRow }, { b := c.b, i := T21.2.2.2.2.1, h := T21.2.2.2.2.2 : L1Cur }))

theorem spec_l8Row_con (c : L1Cur) (V_c0 : Value) (B_c : Nat) (r : LogRow × L1Cur) (hm : spec_l8Row c = some r) :
    Con Try.prog 27 [.pointer (some ⟨B_c, 0, none⟩)] [.box B_c 75 [V_c0, .int .i64 c.i, .int .i64 c.h]] [(V_c0, lc c.b)] (fun _ : Unit => .agg #[.int .i64 r.1.Tenant, .int .i64 r.1.Boot, .int .i64 r.1.Seq, strV r.1.Text, .bool r.1.Synced]) (fun _ => [.box B_c 75 [V_c0, .int .i64 r.2.i, .int .i64 r.2.h]]) := by
  refine Con.intro (args := [.pointer (some ⟨B_c, 0, none⟩)]) (n := 55) (val := fun r (_ : Unit) => .agg #[.int .i64 r.1.Tenant, .int .i64 r.1.Boot, .int .i64 r.1.Seq, strV r.1.Text, .bool r.1.Synced]) (post := fun r _ => [.box B_c 75 [V_c0, .int .i64 r.2.i, .int .i64 r.2.h]]) (m := spec_l8Row c) Try.func27 rfl rfl rfl hm ?_
  intro w S hrd
  have HB_V_c0 := hrd _ (.head _)
  clear hrd
  unfold spec_l8Row
  refine TW.seq ?_
  refine TW.region ?_
  refine TO.ef (Ef.alloc kz31 rfl) rfl rfl rfl (fun B1 => ?_)
  refine TO.nil ?_
  refine TE.next ?_
  refine TW.seq ?_
  refine TW.region ?_
  refine TO.y (Y.move rfl) rfl rfl rfl ?_
  refine TO.bind fun R2 H3 => ?_
  refine TO.ef (Ef.call (rest := [.box B1 31 [.int .i64 (0 : Int), .int .i64 (0 : Int), .int .i64 (0 : Int), strV ([]), .bool false]]) [1, 0] (spec_l1Below_con c (4 : Int) V_c0 B_c R2 H3) kc25 rfl rfl ⟨(Base.can HB_V_c0), trivial⟩) rfl rfl rfl (fun _ => ?_)
  refine TO.y (Y.add rfl rfl) rfl rfl rfl ?_
  refine TO.y (Y.move rfl) rfl rfl rfl ?_
  refine TO.bind fun R5 H6 => ?_
  refine TO.ef (Ef.call (rest := [.box B1 31 [.int .i64 (0 : Int), .int .i64 (0 : Int), .int .i64 (0 : Int), strV ([]), .bool false]]) [0, 0] (spec_l1Below_con ({ b := c.b, i := R2.2.i, h := R2.2.h : L1Cur }) (3 : Int) V_c0 B_c R5 H6) kc25 rfl rfl ⟨(Base.can HB_V_c0), trivial⟩) rfl rfl rfl (fun _ => ?_)
  refine TO.y (Y.move rfl) rfl rfl rfl ?_
  refine TO.bind fun R8 H9 => ?_
  refine TO.ef (Ef.call (rest := [.box B1 31 [.int .i64 (0 : Int), .int .i64 (0 : Int), .int .i64 (0 : Int), strV ([]), .bool false]]) [0, 0] (spec_l1Below_con ({ b := c.b, i := R5.2.i, h := R5.2.h : L1Cur }) (300 : Int) V_c0 B_c R8 H9) kc25 rfl rfl ⟨(Base.can HB_V_c0), trivial⟩) rfl rfl rfl (fun _ => ?_)
  refine TO.y (Y.move rfl) rfl rfl rfl ?_
  refine TO.bind fun R11 H12 => ?_
  refine TO.ef (Ef.call (rest := [.box B1 31 [.int .i64 (0 : Int), .int .i64 (0 : Int), .int .i64 (0 : Int), strV ([]), .bool false]]) [0, 0] (spec_l1Text_con ({ b := c.b, i := R8.2.i, h := R8.2.h : L1Cur }) (9 : Int) V_c0 B_c R11 H12) kc29 rfl rfl ⟨(Base.can HB_V_c0), trivial⟩) rfl rfl rfl (fun _ => ?_)
  refine TO.y (Y.move rfl) rfl rfl rfl ?_
  refine TO.bind fun R14 H15 => ?_
  refine TO.ef (Ef.call (rest := [.box B1 31 [.int .i64 (0 : Int), .int .i64 (0 : Int), .int .i64 (0 : Int), strV ([]), .bool false]]) [0, 0] (spec_l1Once_con ({ b := c.b, i := R11.2.i, h := R11.2.h : L1Cur }) (2 : Int) V_c0 B_c R14 H15) kc62 rfl rfl ⟨(Base.can HB_V_c0), trivial⟩) rfl rfl rfl (fun _ => ?_)
  refine TO.y (Y.build (cells := [.int .i64 (IntKind.i64.wrap ((1 : Int) + R2.1)), .int .i64 R5.1, .int .i64 R8.1, strV R11.1, .bool R14.1]) [(0, [.int .i64 (IntKind.i64.wrap ((1 : Int) + R2.1))]), (1, [.int .i64 R5.1]), (2, [.int .i64 R8.1]), (3, [strV R11.1]), (4, [.bool R14.1])] kp31 kz31 ⟨rfl, ⟨_, rfl, (Cel.plain rfl rfl)⟩, ⟨rfl, ⟨_, rfl, (Cel.plain rfl rfl)⟩, ⟨rfl, ⟨_, rfl, (Cel.plain rfl rfl)⟩, ⟨rfl, ⟨_, rfl, (Cel.plain rfl rfl)⟩, ⟨rfl, ⟨_, rfl, (Cel.plain rfl rfl)⟩, trivial⟩⟩⟩⟩⟩ rfl) rfl rfl rfl ?_
  refine TO.ef (Ef.alloc kz31 rfl) rfl rfl rfl (fun B17 => ?_)
  refine TO.ef0 (Ef.store_box (us := [.int .i64 (IntKind.i64.wrap ((1 : Int) + R2.1)), .int .i64 R5.1, .int .i64 R8.1, strV R11.1, .bool R14.1]) (vs' := [.int .i64 (IntKind.i64.wrap ((1 : Int) + R2.1)), .int .i64 R5.1, .int .i64 R8.1, strV R11.1, .bool R14.1]) (is' := [.box B17 31 [.int .i64 (IntKind.i64.wrap ((1 : Int) + R2.1)), .int .i64 R5.1, .int .i64 R8.1, strV R11.1, .bool R14.1], .box B_c 75 [V_c0, .int .i64 R14.2.i, .int .i64 R14.2.h], .box B1 31 [.int .i64 (0 : Int), .int .i64 (0 : Int), .int .i64 (0 : Int), strV ([]), .bool false]]) 0 kk31 rfl rfl rfl (Cel.plain rfl rfl) rfl rfl rfl rfl) rfl rfl (fun _ => ?_)
  refine TO.nil ?_
  refine TE.next ?_
  refine TW.seq ?_
  refine TW.seq ?_
  refine TW.region ?_
  refine TO.y (Y.move rfl) rfl rfl rfl ?_
  refine TO.bind fun R18 H19 => ?_
  refine TO.ef (Ef.call (rest := [.box B17 31 [.int .i64 (IntKind.i64.wrap ((1 : Int) + R2.1)), .int .i64 R5.1, .int .i64 R8.1, strV R11.1, .bool R14.1], .box B1 31 [.int .i64 (0 : Int), .int .i64 (0 : Int), .int .i64 (0 : Int), strV ([]), .bool false]]) [1, 0, 0] (spec_l1Once_con ({ b := c.b, i := R14.2.i, h := R14.2.h : L1Cur }) (10 : Int) V_c0 B_c R18 H19) kc62 rfl rfl ⟨(Base.can HB_V_c0), trivial⟩) rfl rfl rfl (fun _ => ?_)
  refine TO.nil ?_
  refine TE.next ?_
  refine TW.joinX (τ := Int × Int × Int × List UInt8 × Int × Int) (X := Unit) (fun _ _ => [(2, .pointer (some ⟨B1, 0, none⟩)), (3, .pointer (some ⟨B17, 0, none⟩))]) (fun T _ => [.box B1 31 [.int .i64 (0 : Int), .int .i64 (0 : Int), .int .i64 (0 : Int), strV ([]), .bool false], .box B17 31 [.int .i64 T.1, .int .i64 T.2.1, .int .i64 T.2.2.1, strV T.2.2.2.1, .bool R14.1], .box B_c 75 [V_c0, .int .i64 T.2.2.2.2.1, .int .i64 T.2.2.2.2.2]]) ?_ (fun T21 X22 => ?_)
  · refine TW.cond rfl (fun H23 => ?_) (fun H23 => ?_)
    · refine TW.seq ?_
      refine TW.region ?_
      refine TO.y (Y.move rfl) rfl rfl rfl ?_
      refine TO.bind fun R24 H25 => ?_
      refine TO.ef (Ef.call (rest := [.box B17 31 [.int .i64 (IntKind.i64.wrap ((1 : Int) + R2.1)), .int .i64 R5.1, .int .i64 R8.1, strV R11.1, .bool R14.1], .box B1 31 [.int .i64 (0 : Int), .int .i64 (0 : Int), .int .i64 (0 : Int), strV ([]), .bool false]]) [0, 0, 0] (spec_l1Below_con ({ b := c.b, i := R18.2.i, h := R18.2.h : L1Cur }) (4 : Int) V_c0 B_c R24 H25) kc25 rfl rfl ⟨(Base.can HB_V_c0), trivial⟩) rfl rfl rfl (fun _ => ?_)
      refine TO.nil ?_
      refine TE.next ?_
      refine TW.block ?_
      refine TW.seq ?_
      refine TW.region ?_
      refine TO.y (Y.eql rfl rfl) rfl rfl rfl ?_
      refine TO.y (Y.assign rfl) rfl rfl rfl ?_
      refine TO.nil ?_
      refine TE.next ?_
      refine TW.joinX (τ := Int × Int × Int × List UInt8 × Int × Int) (X := Unit) (fun _ _ => [(2, .pointer (some ⟨B1, 0, none⟩)), (3, .pointer (some ⟨B17, 0, none⟩))]) (fun T _ => [.box B1 31 [.int .i64 (0 : Int), .int .i64 (0 : Int), .int .i64 (0 : Int), strV ([]), .bool false], .box B17 31 [.int .i64 T.1, .int .i64 T.2.1, .int .i64 T.2.2.1, strV T.2.2.2.1, .bool R14.1], .box B_c 75 [V_c0, .int .i64 T.2.2.2.2.1, .int .i64 T.2.2.2.2.2]]) ?_ (fun T27 X28 => ?_)
      · refine TW.cond rfl (fun H29 => ?_) (fun H29 => ?_)
        · refine TW.region ?_
          refine TO.y (Y.move rfl) rfl rfl rfl ?_
          refine TO.ef (Ef.buildSlice (α := Int) (Vs := [.int .i64 (0 : Int), .int .i64 (99 : Int), .int .i64 (100 : Int)]) [(0 : Int), (99 : Int), (100 : Int)] ke55 kz3 rfl rfl rfl rfl rfl) rfl rfl rfl (fun B30 => ?_)
          refine TO.bind fun R31 H32 => ?_
          refine TO.ef (Ef.call (rest := [.own (.slice (some ⟨B30, 0, none⟩) 3 3) (lc ([(0 : Int), (99 : Int), (100 : Int)])), .box B17 31 [.int .i64 (IntKind.i64.wrap ((1 : Int) + R2.1)), .int .i64 R5.1, .int .i64 R8.1, strV R11.1, .bool R14.1], .box B1 31 [.int .i64 (0 : Int), .int .i64 (0 : Int), .int .i64 (0 : Int), strV ([]), .bool false]]) [1, 0, 0, 0] (spec_l1PickInt_con ({ b := c.b, i := R24.2.i, h := R24.2.h : L1Cur }) ([(0 : Int), (99 : Int), (100 : Int)]) V_c0 B_c (.slice (some ⟨B30, 0, none⟩) 3 3) R31 H32) kc47 rfl rfl ⟨(Base.can HB_V_c0), (Can.own 0 rfl), trivial⟩) rfl rfl rfl (fun _ => ?_)
          refine TO.y (Y.field_box kf31_0 rfl rfl) rfl rfl rfl ?_
          refine TO.ef0 (Ef.store_box (us := [.int .i64 R31.1]) (vs' := [.int .i64 R31.1, .int .i64 R5.1, .int .i64 R8.1, strV R11.1, .bool R14.1]) (is' := [.box B_c 75 [V_c0, .int .i64 R31.2.i, .int .i64 R31.2.h], .own (.slice (some ⟨B30, 0, none⟩) 3 3) (lc ([(0 : Int), (99 : Int), (100 : Int)])), .box B17 31 [.int .i64 R31.1, .int .i64 R5.1, .int .i64 R8.1, strV R11.1, .bool R14.1], .box B1 31 [.int .i64 (0 : Int), .int .i64 (0 : Int), .int .i64 (0 : Int), strV ([]), .bool false]]) 2 kk3 rfl rfl rfl (Cel.plain rfl rfl) rfl rfl rfl rfl) rfl rfl (fun _ => ?_)
          refine TO.nil ?_
          exact TE.jn_go () [3, 2, 0] ⟨rfl, rfl, trivial⟩ rfl
        · refine TW.seq ?_
          refine TW.region ?_
          refine TO.y (Y.eql rfl rfl) rfl rfl rfl ?_
          refine TO.y (Y.assign rfl) rfl rfl rfl ?_
          refine TO.nil ?_
          refine TE.next ?_
          refine TW.joinX (τ := Int × Int × List UInt8 × Int × Int) (X := Unit) (fun _ _ => [(2, .pointer (some ⟨B1, 0, none⟩)), (3, .pointer (some ⟨B17, 0, none⟩))]) (fun T _ => [.box B1 31 [.int .i64 (0 : Int), .int .i64 (0 : Int), .int .i64 (0 : Int), strV ([]), .bool false], .box B17 31 [.int .i64 (IntKind.i64.wrap ((1 : Int) + R2.1)), .int .i64 T.1, .int .i64 T.2.1, strV T.2.2.1, .bool R14.1], .box B_c 75 [V_c0, .int .i64 T.2.2.2.1, .int .i64 T.2.2.2.2]]) ?_ (fun T34 X35 => ?_)
          · refine TW.cond rfl (fun H36 => ?_) (fun H36 => ?_)
            · refine TW.region ?_
              refine TO.y (Y.move rfl) rfl rfl rfl ?_
              refine TO.ef (Ef.buildSlice (α := Int) (Vs := [.int .i64 (-1 : Int), .int .i64 (1000 : Int), .int .i64 (1001 : Int)]) [(-1 : Int), (1000 : Int), (1001 : Int)] ke55 kz3 rfl rfl rfl rfl rfl) rfl rfl rfl (fun B37 => ?_)
              refine TO.bind fun R38 H39 => ?_
              refine TO.ef (Ef.call (rest := [.own (.slice (some ⟨B37, 0, none⟩) 3 3) (lc ([(-1 : Int), (1000 : Int), (1001 : Int)])), .box B17 31 [.int .i64 (IntKind.i64.wrap ((1 : Int) + R2.1)), .int .i64 R5.1, .int .i64 R8.1, strV R11.1, .bool R14.1], .box B1 31 [.int .i64 (0 : Int), .int .i64 (0 : Int), .int .i64 (0 : Int), strV ([]), .bool false]]) [1, 0, 0, 0] (spec_l1PickInt_con ({ b := c.b, i := R24.2.i, h := R24.2.h : L1Cur }) ([(-1 : Int), (1000 : Int), (1001 : Int)]) V_c0 B_c (.slice (some ⟨B37, 0, none⟩) 3 3) R38 H39) kc47 rfl rfl ⟨(Base.can HB_V_c0), (Can.own 0 rfl), trivial⟩) rfl rfl rfl (fun _ => ?_)
              refine TO.y (Y.field_box kf31_1 rfl rfl) rfl rfl rfl ?_
              refine TO.ef0 (Ef.store_box (us := [.int .i64 R38.1]) (vs' := [.int .i64 (IntKind.i64.wrap ((1 : Int) + R2.1)), .int .i64 R38.1, .int .i64 R8.1, strV R11.1, .bool R14.1]) (is' := [.box B_c 75 [V_c0, .int .i64 R38.2.i, .int .i64 R38.2.h], .own (.slice (some ⟨B37, 0, none⟩) 3 3) (lc ([(-1 : Int), (1000 : Int), (1001 : Int)])), .box B17 31 [.int .i64 (IntKind.i64.wrap ((1 : Int) + R2.1)), .int .i64 R38.1, .int .i64 R8.1, strV R11.1, .bool R14.1], .box B1 31 [.int .i64 (0 : Int), .int .i64 (0 : Int), .int .i64 (0 : Int), strV ([]), .bool false]]) 2 kk3 rfl rfl rfl (Cel.plain rfl rfl) rfl rfl rfl rfl) rfl rfl (fun _ => ?_)
              refine TO.nil ?_
              exact TE.jn_go () [3, 2, 0] ⟨rfl, rfl, trivial⟩ rfl
            · refine TW.seq ?_
              refine TW.region ?_
              refine TO.y (Y.eql rfl rfl) rfl rfl rfl ?_
              refine TO.y (Y.assign rfl) rfl rfl rfl ?_
              refine TO.nil ?_
              refine TE.next ?_
              refine TW.joinX (τ := Int × List UInt8 × Int × Int) (X := Unit) (fun _ _ => [(2, .pointer (some ⟨B1, 0, none⟩)), (3, .pointer (some ⟨B17, 0, none⟩))]) (fun T _ => [.box B1 31 [.int .i64 (0 : Int), .int .i64 (0 : Int), .int .i64 (0 : Int), strV ([]), .bool false], .box B17 31 [.int .i64 (IntKind.i64.wrap ((1 : Int) + R2.1)), .int .i64 R5.1, .int .i64 T.1, strV T.2.1, .bool R14.1], .box B_c 75 [V_c0, .int .i64 T.2.2.1, .int .i64 T.2.2.2]]) ?_ (fun T41 X42 => ?_)
              · refine TW.cond rfl (fun H43 => ?_) (fun H43 => ?_)
                · refine TW.region ?_
                  refine TO.y (Y.move rfl) rfl rfl rfl ?_
                  refine TO.ef (Ef.buildSlice (α := Int) (Vs := [.int .i64 (-1 : Int), .int .i64 (999999 : Int), .int .i64 (1000000 : Int)]) [(-1 : Int), (999999 : Int), (1000000 : Int)] ke55 kz3 rfl rfl rfl rfl rfl) rfl rfl rfl (fun B44 => ?_)
                  refine TO.bind fun R45 H46 => ?_
                  refine TO.ef (Ef.call (rest := [.own (.slice (some ⟨B44, 0, none⟩) 3 3) (lc ([(-1 : Int), (999999 : Int), (1000000 : Int)])), .box B17 31 [.int .i64 (IntKind.i64.wrap ((1 : Int) + R2.1)), .int .i64 R5.1, .int .i64 R8.1, strV R11.1, .bool R14.1], .box B1 31 [.int .i64 (0 : Int), .int .i64 (0 : Int), .int .i64 (0 : Int), strV ([]), .bool false]]) [1, 0, 0, 0] (spec_l1PickInt_con ({ b := c.b, i := R24.2.i, h := R24.2.h : L1Cur }) ([(-1 : Int), (999999 : Int), (1000000 : Int)]) V_c0 B_c (.slice (some ⟨B44, 0, none⟩) 3 3) R45 H46) kc47 rfl rfl ⟨(Base.can HB_V_c0), (Can.own 0 rfl), trivial⟩) rfl rfl rfl (fun _ => ?_)
                  refine TO.y (Y.field_box kf31_2 rfl rfl) rfl rfl rfl ?_
                  refine TO.ef0 (Ef.store_box (us := [.int .i64 R45.1]) (vs' := [.int .i64 (IntKind.i64.wrap ((1 : Int) + R2.1)), .int .i64 R5.1, .int .i64 R45.1, strV R11.1, .bool R14.1]) (is' := [.box B_c 75 [V_c0, .int .i64 R45.2.i, .int .i64 R45.2.h], .own (.slice (some ⟨B44, 0, none⟩) 3 3) (lc ([(-1 : Int), (999999 : Int), (1000000 : Int)])), .box B17 31 [.int .i64 (IntKind.i64.wrap ((1 : Int) + R2.1)), .int .i64 R5.1, .int .i64 R45.1, strV R11.1, .bool R14.1], .box B1 31 [.int .i64 (0 : Int), .int .i64 (0 : Int), .int .i64 (0 : Int), strV ([]), .bool false]]) 2 kk3 rfl rfl rfl (Cel.plain rfl rfl) rfl rfl rfl rfl) rfl rfl (fun _ => ?_)
                  refine TO.nil ?_
                  exact TE.jn_go () [3, 2, 0] ⟨rfl, rfl, trivial⟩ rfl
                · refine TW.seq ?_
                  refine TW.region ?_
                  refine TO.ef (Ef.buildSlice (α := UInt8) (Vs := []) ([] : List UInt8) ke22 kz5 rfl rfl rfl rfl rfl) rfl rfl rfl (fun B48 => ?_)
                  refine TO.y (Y.assign rfl) rfl rfl rfl ?_
                  refine TO.nil ?_
                  refine TE.next ?_
                  refine TW.seq ?_
                  refine TW.seq ?_
                  refine TW.region ?_
                  refine TO.y (Y.move rfl) rfl rfl rfl ?_
                  refine TO.bind fun R49 H50 => ?_
                  refine TO.ef (Ef.call (rest := [.own (.slice (some ⟨B48, 0, none⟩) 0 0) (lc ([] : List UInt8)), .box B17 31 [.int .i64 (IntKind.i64.wrap ((1 : Int) + R2.1)), .int .i64 R5.1, .int .i64 R8.1, strV R11.1, .bool R14.1], .box B1 31 [.int .i64 (0 : Int), .int .i64 (0 : Int), .int .i64 (0 : Int), strV ([]), .bool false]]) [1, 0, 0, 0] (spec_l1Below_con ({ b := c.b, i := R24.2.i, h := R24.2.h : L1Cur }) (2 : Int) V_c0 B_c R49 H50) kc25 rfl rfl ⟨(Base.can HB_V_c0), trivial⟩) rfl rfl rfl (fun _ => ?_)
                  refine TO.y (Y.add rfl rfl) rfl rfl rfl ?_
                  refine TO.y (Y.assign rfl) rfl rfl rfl ?_
                  refine TO.nil ?_
                  refine TE.next ?_
                  refine TW.joinX (τ := List UInt8) (X := Value) (fun _ X => [(2, .pointer (some ⟨B1, 0, none⟩)), (3, .pointer (some ⟨B17, 0, none⟩)), (4, X)]) (fun T X => [.box B1 31 [.int .i64 (0 : Int), .int .i64 (0 : Int), .int .i64 (0 : Int), strV ([]), .bool false], .box B17 31 [.int .i64 (IntKind.i64.wrap ((1 : Int) + R2.1)), .int .i64 R5.1, .int .i64 R8.1, strV R11.1, .bool R14.1], .box B_c 75 [V_c0, .int .i64 R49.2.i, .int .i64 R49.2.h], .own X (lc T)]) ?_ (fun T54 X55 => ?_)
                  · refine TW.block ?_
                    refine TW.loopX (σ := List UInt8) (X := Value) (fun _ X => [(2, .pointer (some ⟨B1, 0, none⟩)), (3, .pointer (some ⟨B17, 0, none⟩)), (4, X), (5, .int .i64 (IntKind.i64.wrap ((300 : Int) + R49.1)))]) (fun T X => [.box B1 31 [.int .i64 (0 : Int), .int .i64 (0 : Int), .int .i64 (0 : Int), strV ([]), .bool false], .box B17 31 [.int .i64 (IntKind.i64.wrap ((1 : Int) + R2.1)), .int .i64 R5.1, .int .i64 R8.1, strV R11.1, .bool R14.1], .box B_c 75 [V_c0, .int .i64 R49.2.i, .int .i64 R49.2.h], .own X (lc T)]) (.slice (some ⟨B48, 0, none⟩) 0 0) [3, 2, 0, 0] ⟨rfl, rfl, rfl, rfl, trivial⟩ rfl (fun S52 X53 => ?_)
                    refine TW.seq ?_
                    refine TW.seq ?_
                    refine TW.region ?_
                    refine TO.y (Y.move rfl) rfl rfl rfl ?_
                    refine TO.y (Y.len (l := S52) ke22 (Can.own 3 rfl) rfl) rfl rfl rfl ?_
                    refine TO.y (Y.move rfl) rfl rfl rfl ?_
                    refine TO.y (Y.lss rfl rfl) rfl rfl rfl ?_
                    refine TO.nil ?_
                    refine TE.next ?_
                    refine TW.cond rfl (fun H56 => ?_) (fun H56 => ?_)
                    · refine TW.skip ?_
                      refine TE.next ?_
                      refine TW.block ?_
                      refine TW.region ?_
                      refine TO.y (Y.move rfl) rfl rfl rfl ?_
                      refine TO.ef (Ef.buildSlice (α := UInt8) (Vs := [.int .u8 (65 : Int)]) [(65 : UInt8)] ke22 kz5 rfl rfl rfl rfl rfl) rfl rfl rfl (fun B57 => ?_)
                      refine TO.bind fun E59 H60 => ?_
                      refine TO.ef (Ef.append (α := UInt8) (is' := [.own (.slice (some ⟨B57, 0, none⟩) 1 1) (lc ([(65 : UInt8)])), .box B1 31 [.int .i64 (0 : Int), .int .i64 (0 : Int), .int .i64 (0 : Int), strV ([]), .bool false], .box B17 31 [.int .i64 (IntKind.i64.wrap ((1 : Int) + R2.1)), .int .i64 R5.1, .int .i64 R8.1, strV R11.1, .bool R14.1], .box B_c 75 [V_c0, .int .i64 R49.2.i, .int .i64 R49.2.h]]) [4, 0, 0, 0, 0] H60 ke22 kz5 rfl rfl rfl rfl rfl (Can.own 0 rfl)) rfl rfl rfl (fun V58 => ?_)
                      refine TO.y (Y.assign rfl) rfl rfl rfl ?_
                      refine TO.nil ?_
                      refine TE.block_normal ?_
                      exact TE.lp_go V58 [2, 2, 2, 0] ⟨rfl, rfl, rfl, rfl, trivial⟩ rfl
                    · refine TW.exit ?_
                      refine TE.then_exit ?_
                      refine TE.lp_exit ?_
                      refine TE.block_exit ?_
                      exact TE.jn_go X53 [0, 0, 0, 0] ⟨rfl, rfl, rfl, trivial⟩ rfl
                  · refine TE.next ?_
                    refine TW.region ?_
                    refine TO.y (Y.move rfl) rfl rfl rfl ?_
                    refine TO.y (Y.toStr ke22 ki5 ks9 (Can.own 3 rfl) rfl) rfl rfl rfl ?_
                    refine TO.y (Y.field_box kf31_3 rfl rfl) rfl rfl rfl ?_
                    refine TO.ef0 (Ef.store_box (us := [strV T54]) (vs' := [.int .i64 (IntKind.i64.wrap ((1 : Int) + R2.1)), .int .i64 R5.1, .int .i64 R8.1, strV T54, .bool R14.1]) (is' := [.box B1 31 [.int .i64 (0 : Int), .int .i64 (0 : Int), .int .i64 (0 : Int), strV ([]), .bool false], .box B17 31 [.int .i64 (IntKind.i64.wrap ((1 : Int) + R2.1)), .int .i64 R5.1, .int .i64 R8.1, strV T54, .bool R14.1], .box B_c 75 [V_c0, .int .i64 R49.2.i, .int .i64 R49.2.h], .own X55 (lc T54)]) 1 kk9 rfl rfl rfl (Cel.plain rfl rfl) rfl rfl rfl rfl) rfl rfl (fun _ => ?_)
                    refine TO.nil ?_
                    exact TE.jn_go () [0, 0, 0] ⟨rfl, rfl, trivial⟩ rfl
              · exact TE.jn_go () [0, 0, 0] ⟨rfl, rfl, trivial⟩ rfl
          · exact TE.jn_go () [0, 0, 0] ⟨rfl, rfl, trivial⟩ rfl
      · refine TE.block_normal ?_
        exact TE.jn_go () [0, 0, 0] ⟨rfl, rfl, trivial⟩ rfl
    · refine TW.skip ?_
      exact TE.jn_go () [2, 1, 0] ⟨rfl, rfl, trivial⟩ rfl
  · refine TE.next ?_
    refine TW.seq ?_
    refine TW.region ?_
    refine TO.y (Y.load_box (v := .agg #[.int .i64 T21.1, .int .i64 T21.2.1, .int .i64 T21.2.2.1, strV T21.2.2.2.1, .bool R14.1]) 1 kk31 rfl rfl rfl) rfl rfl rfl ?_
    refine TO.ef0 (Ef.store_box (us := [.int .i64 T21.1, .int .i64 T21.2.1, .int .i64 T21.2.2.1, strV T21.2.2.2.1, .bool R14.1]) (vs' := [.int .i64 T21.1, .int .i64 T21.2.1, .int .i64 T21.2.2.1, strV T21.2.2.2.1, .bool R14.1]) (is' := [.box B1 31 [.int .i64 T21.1, .int .i64 T21.2.1, .int .i64 T21.2.2.1, strV T21.2.2.2.1, .bool R14.1], .box B17 31 [.int .i64 T21.1, .int .i64 T21.2.1, .int .i64 T21.2.2.1, strV T21.2.2.2.1, .bool R14.1], .box B_c 75 [V_c0, .int .i64 T21.2.2.2.2.1, .int .i64 T21.2.2.2.2.2]]) 0 kk31 rfl rfl rfl (Cel.plain rfl rfl) rfl rfl rfl rfl) rfl rfl (fun _ => ?_)
    refine TO.nil ?_
    refine TE.next ?_
    refine TW.ret ?_
    exact TE.leaf fun _ _ hf_ hs_ => ret_any (rs := [.cell 2 31]) (vs := [.agg #[.int .i64 T21.1, .int .i64 T21.2.1, .int .i64 T21.2.2.1, strV T21.2.2.2.1, .bool R14.1]]) (.inl rfl) rfl (RV.cell 0 rfl rfl kk31 rfl trivial) hf_ hs_ ⟨(), rfl, hs_.pulls [2] rfl⟩

/-- loop.example/g00950/spec.l1In -/
noncomputable def spec_l1In (x : Int) (low : Int) (high : Int) : Option Bool :=
  (if (decide (x ≥ low)) = true then (some (decide (x ≤ high)))
  else (some false)).bind (fun (T1 : Bool) =>
  some T1)

theorem spec_l1In_con (x : Int) (low : Int) (high : Int)  (r : Bool) (hm : spec_l1In x low high = some r) :
    Con Try.prog 59 [.int .i64 x, .int .i64 low, .int .i64 high] [] [] (fun _ : Unit => .bool r) (fun _ => []) := by
  refine Con.intro (args := [.int .i64 x, .int .i64 low, .int .i64 high]) (n := 15) (val := fun r (_ : Unit) => .bool r) (post := fun _ _ => []) (m := spec_l1In x low high) Try.func59 rfl rfl rfl hm ?_
  intro w S _
  unfold spec_l1In
  refine TW.seq ?_
  refine TW.region ?_
  refine TO.y (Y.assign rfl) rfl rfl rfl ?_
  refine TO.nil ?_
  refine TE.next ?_
  refine TW.seq ?_
  refine TW.joinBX (τ := Bool) (X := Unit) (fun T _ => [(6, .bool T)]) (fun _ _ => []) ?_ (fun T1 X2 => ?_)
  · refine TW.region ?_
    refine TO.y (Y.move rfl) rfl rfl rfl ?_
    refine TO.y (Y.move rfl) rfl rfl rfl ?_
    refine TO.y (Y.geq rfl rfl) rfl rfl rfl ?_
    refine TO.y (Y.move rfl) rfl rfl rfl ?_
    refine TO.ite (b := decide (x ≥ low)) (fun H3 => ?_) (fun H3 => ?_)
    · refine TO.y (Y.move rfl) (Gd.at 3 true 10 (decide (x ≥ low)) rfl rfl rfl (beq_tt H3)) rfl rfl ?_
      refine TO.y (Y.move rfl) (Gd.at 3 true 10 (decide (x ≥ low)) rfl rfl rfl (beq_tt H3)) rfl rfl ?_
      refine TO.y (Y.leq rfl rfl) (Gd.at 3 true 10 (decide (x ≥ low)) rfl rfl rfl (beq_tt H3)) rfl rfl ?_
      refine TO.y (Y.pick_t H3 rfl rfl) rfl rfl rfl ?_
      refine TO.y (Y.assign rfl) rfl rfl rfl ?_
      refine TO.nil ?_
      exact TE.jb_go () [] ⟨rfl, trivial⟩ rfl
    · refine TO.off (Gd.at 3 true 10 (decide (x ≥ low)) rfl rfl rfl (beq_ft H3)) rfl rfl ?_
      refine TO.off (Gd.at 3 true 10 (decide (x ≥ low)) rfl rfl rfl (beq_ft H3)) rfl rfl ?_
      refine TO.off (Gd.at 3 true 10 (decide (x ≥ low)) rfl rfl rfl (beq_ft H3)) rfl rfl ?_
      refine TO.y (Y.pick_f H3 rfl rfl) rfl rfl rfl ?_
      refine TO.y (Y.assign rfl) rfl rfl rfl ?_
      refine TO.nil ?_
      exact TE.jb_go () [] ⟨rfl, trivial⟩ rfl
  · refine TE.next ?_
    refine TW.ret ?_
    exact TE.leaf fun _ _ hf_ hs_ => ret_any (rs := [.tmp 6]) (vs := [.bool T1]) (.inl rfl) rfl ⟨rfl, trivial⟩ hf_ hs_ ⟨(), rfl, hs_.pulls [] rfl⟩

/-- loop.example/g00950/spec.l8At -/
noncomputable def spec_l8At (boot : Int) (seq : Int) : Option Bool :=
  ((spec_l1In boot (0 : Int) (1000 : Int)).bind fun R3 =>
  if R3 = true then ((spec_l1In seq (0 : Int) (999999 : Int)).bind fun R7 =>
  some R7)
  else (some false)).bind (fun (T1 : Bool) =>
  some T1)

theorem spec_l8At_con (boot : Int) (seq : Int)  (r : Bool) (hm : spec_l8At boot seq = some r) :
    Con Try.prog 53 [.int .i64 boot, .int .i64 seq] [] [] (fun _ : Unit => .bool r) (fun _ => []) := by
  refine Con.intro (args := [.int .i64 boot, .int .i64 seq]) (n := 11) (val := fun r (_ : Unit) => .bool r) (post := fun _ _ => []) (m := spec_l8At boot seq) Try.func53 rfl rfl rfl hm ?_
  intro w S _
  unfold spec_l8At
  refine TW.seq ?_
  refine TW.region ?_
  refine TO.y (Y.assign rfl) rfl rfl rfl ?_
  refine TO.nil ?_
  refine TE.next ?_
  refine TW.seq ?_
  refine TW.joinBX (τ := Bool) (X := Unit) (fun T _ => [(4, .bool T)]) (fun _ _ => []) ?_ (fun T1 X2 => ?_)
  · refine TW.region ?_
    refine TO.y (Y.move rfl) rfl rfl rfl ?_
    refine TO.bind fun R3 H4 => ?_
    refine TO.ef (Ef.call (rest := []) [] (spec_l1In_con boot (0 : Int) (1000 : Int)  R3 H4) kc59 rfl rfl trivial) rfl rfl rfl (fun _ => ?_)
    refine TO.y (Y.move rfl) rfl rfl rfl ?_
    refine TO.ite (b := R3) (fun H6 => ?_) (fun H6 => ?_)
    · refine TO.y (Y.move rfl) (Gd.at 2 true 7 R3 rfl rfl rfl (beq_tt H6)) rfl rfl ?_
      refine TO.bind fun R7 H8 => ?_
      refine TO.ef (Ef.call (rest := []) [] (spec_l1In_con seq (0 : Int) (999999 : Int)  R7 H8) kc59 rfl rfl trivial) (Gd.at 2 true 7 R3 rfl rfl rfl (beq_tt H6)) rfl rfl (fun _ => ?_)
      refine TO.y (Y.pick_t H6 rfl rfl) rfl rfl rfl ?_
      refine TO.y (Y.assign rfl) rfl rfl rfl ?_
      refine TO.nil ?_
      exact TE.jb_go () [] ⟨rfl, trivial⟩ rfl
    · refine TO.off (Gd.at 2 true 7 R3 rfl rfl rfl (beq_ft H6)) rfl rfl ?_
      refine TO.off (Gd.at 2 true 7 R3 rfl rfl rfl (beq_ft H6)) rfl rfl ?_
      refine TO.y (Y.pick_f H6 rfl rfl) rfl rfl rfl ?_
      refine TO.y (Y.assign rfl) rfl rfl rfl ?_
      refine TO.nil ?_
      exact TE.jb_go () [] ⟨rfl, trivial⟩ rfl
  · refine TE.next ?_
    refine TW.ret ?_
    exact TE.leaf fun _ _ hf_ hs_ => ret_any (rs := [.tmp 4]) (vs := [.bool T1]) (.inl rfl) rfl ⟨rfl, trivial⟩ hf_ hs_ ⟨(), rfl, hs_.pulls [] rfl⟩

/-- loop.example/g00950/spec.Var -/
noncomputable def spec_Var (n : Int) : Option (List UInt8) :=
  (spec_l1In n (0 : Int) (562949953421311 : Int)).bind fun R1 =>
  if (!R1) = true then (some ([]))
  else (bindC (loopO (fun (S6 : Int × List UInt8) => if (decide (S6.1 ≥ (128 : Int))) = true then ((app 1 S6.2 ([toU8 (IntKind.i64.wrap ((128 : Int) + (Int.tmod S6.1 (128 : Int))))])).bind fun E13 =>
  some (.go (IntKind.i64.wrap (Int.tdiv S6.1 (128 : Int)), E13)))
  else (some (.done (.go (S6.1, S6.2)))))
  (n, ([] : List UInt8)))
  (fun (T8 : Int × List UInt8) => (app 1 T8.2 ([toU8 T8.1])).bind fun E17 =>
  some E17))

theorem spec_Var_con (n : Int)  (r : List UInt8) (hm : spec_Var n = some r) :
    Con Try.prog 56 [.int .i64 n] [] [] (fun _ : Unit => strV r) (fun _ => []) := by
  refine Con.intro (args := [.int .i64 n]) (n := 25) (val := fun r (_ : Unit) => strV r) (post := fun _ _ => []) (m := spec_Var n) Try.func56 rfl rfl rfl hm ?_
  intro w S _
  unfold spec_Var
  refine TW.seq ?_
  refine TW.region ?_
  refine TO.y (Y.assign rfl) rfl rfl rfl ?_
  refine TO.nil ?_
  refine TE.next ?_
  refine TW.seq ?_
  refine TW.seq ?_
  refine TW.region ?_
  refine TO.y (Y.move rfl) rfl rfl rfl ?_
  refine TO.bind fun R1 H2 => ?_
  refine TO.ef (Ef.call (rest := []) [] (spec_l1In_con n (0 : Int) (562949953421311 : Int)  R1 H2) kc59 rfl rfl trivial) rfl rfl rfl (fun _ => ?_)
  refine TO.y (Y.not rfl) rfl rfl rfl ?_
  refine TO.nil ?_
  refine TE.next ?_
  refine TW.cond rfl (fun H4 => ?_) (fun H4 => ?_)
  · refine TW.seq ?_
    refine TW.region ?_
    refine TO.y (Y.assign rfl) rfl rfl rfl ?_
    refine TO.nil ?_
    refine TE.next ?_
    refine TW.ret ?_
    refine TE.then_ret ?_
    exact TE.leaf fun _ _ hf_ hs_ => ret_any (rs := [.tmp 2]) (vs := [strV ([])]) (.inl rfl) rfl ⟨rfl, trivial⟩ hf_ hs_ ⟨(), rfl, hs_.pulls [] rfl⟩
  · refine TW.skip ?_
    refine TE.next ?_
    refine TW.seq ?_
    refine TW.region ?_
    refine TO.ef (Ef.buildSlice (α := UInt8) (Vs := []) ([] : List UInt8) ke22 kz5 rfl rfl rfl rfl rfl) rfl rfl rfl (fun B5 => ?_)
    refine TO.y (Y.assign rfl) rfl rfl rfl ?_
    refine TO.nil ?_
    refine TE.next ?_
    refine TW.seq ?_
    refine TW.joinX (τ := Int × List UInt8) (X := Value) (fun T X => [(0, .int .i64 T.1), (3, X)]) (fun T X => [.own X (lc T.2)]) ?_ (fun T8 X9 => ?_)
    · refine TW.block ?_
      refine TW.loopX (σ := Int × List UInt8) (X := Value) (fun T X => [(0, .int .i64 T.1), (3, X)]) (fun T X => [.own X (lc T.2)]) (.slice (some ⟨B5, 0, none⟩) 0 0) [0] ⟨rfl, rfl, trivial⟩ rfl (fun S6 X7 => ?_)
      refine TW.seq ?_
      refine TW.seq ?_
      refine TW.region ?_
      refine TO.y (Y.move rfl) rfl rfl rfl ?_
      refine TO.y (Y.geq rfl rfl) rfl rfl rfl ?_
      refine TO.nil ?_
      refine TE.next ?_
      refine TW.cond rfl (fun H10 => ?_) (fun H10 => ?_)
      · refine TW.skip ?_
        refine TE.next ?_
        refine TW.block ?_
        refine TW.seq ?_
        refine TW.region ?_
        refine TO.y (Y.move rfl) rfl rfl rfl ?_
        refine TO.y (Y.move rfl) rfl rfl rfl ?_
        refine TO.y (Y.rem (by decide) rfl rfl) rfl rfl rfl ?_
        refine TO.y (Y.add rfl rfl) rfl rfl rfl ?_
        refine TO.y (Y.conv8 ki3 ki5 rfl) rfl rfl rfl ?_
        refine TO.ef (Ef.buildSlice (α := UInt8) (Vs := [.int .u8 (((toU8 (IntKind.i64.wrap ((128 : Int) + (Int.tmod S6.1 (128 : Int))))).toNat : Nat) : Int)]) [toU8 (IntKind.i64.wrap ((128 : Int) + (Int.tmod S6.1 (128 : Int))))] ke22 kz5 rfl rfl rfl rfl rfl) rfl rfl rfl (fun B11 => ?_)
        refine TO.bind fun E13 H14 => ?_
        refine TO.ef (Ef.append (α := UInt8) (is' := [.own (.slice (some ⟨B11, 0, none⟩) 1 1) (lc ([toU8 (IntKind.i64.wrap ((128 : Int) + (Int.tmod S6.1 (128 : Int))))]))]) [1, 0] H14 ke22 kz5 rfl rfl rfl rfl rfl (Can.own 0 rfl)) rfl rfl rfl (fun V12 => ?_)
        refine TO.y (Y.assign rfl) rfl rfl rfl ?_
        refine TO.nil ?_
        refine TE.next ?_
        refine TW.region ?_
        refine TO.y (Y.move rfl) rfl rfl rfl ?_
        refine TO.y (Y.quo (by decide) rfl rfl) rfl rfl rfl ?_
        refine TO.y (Y.assign rfl) rfl rfl rfl ?_
        refine TO.nil ?_
        refine TE.block_normal ?_
        exact TE.lp_go V12 [0] ⟨rfl, rfl, trivial⟩ rfl
      · refine TW.exit ?_
        refine TE.then_exit ?_
        refine TE.lp_exit ?_
        refine TE.block_exit ?_
        exact TE.jn_go X7 [0] ⟨rfl, rfl, trivial⟩ rfl
    · refine TE.next ?_
      refine TW.seq ?_
      refine TW.region ?_
      refine TO.y (Y.move rfl) rfl rfl rfl ?_
      refine TO.y (Y.move rfl) rfl rfl rfl ?_
      refine TO.y (Y.conv8 ki3 ki5 rfl) rfl rfl rfl ?_
      refine TO.ef (Ef.buildSlice (α := UInt8) (Vs := [.int .u8 (((toU8 T8.1).toNat : Nat) : Int)]) [toU8 T8.1] ke22 kz5 rfl rfl rfl rfl rfl) rfl rfl rfl (fun B15 => ?_)
      refine TO.bind fun E17 H18 => ?_
      refine TO.ef (Ef.append (α := UInt8) (is' := [.own (.slice (some ⟨B15, 0, none⟩) 1 1) (lc ([toU8 T8.1]))]) [1, 0] H18 ke22 kz5 rfl rfl rfl rfl rfl (Can.own 0 rfl)) rfl rfl rfl (fun V16 => ?_)
      refine TO.y (Y.toStr ke22 ki5 ks9 (Can.own 0 rfl) rfl) rfl rfl rfl ?_
      refine TO.y (Y.assign rfl) rfl rfl rfl ?_
      refine TO.nil ?_
      refine TE.next ?_
      refine TW.ret ?_
      exact TE.leaf fun _ _ hf_ hs_ => ret_any (rs := [.tmp 2]) (vs := [strV E17]) (.inl rfl) rfl ⟨rfl, trivial⟩ hf_ hs_ ⟨(), rfl, hs_.pulls [] rfl⟩

/-- loop.example/g00950/spec.l6Piece -/
noncomputable def spec_l6Piece (s : List UInt8) : Option (List UInt8) :=
  (spec_Var ((s.length : Nat) : Int)).bind fun R1 =>
  (cat R1 s).bind fun E4 =>
  some E4

theorem spec_l6Piece_con (s : List UInt8)  (r : List UInt8) (hm : spec_l6Piece s = some r) :
    Con Try.prog 57 [strV s] [] [] (fun _ : Unit => strV r) (fun _ => []) := by
  refine Con.intro (args := [strV s]) (n := 8) (val := fun r (_ : Unit) => strV r) (post := fun _ _ => []) (m := spec_l6Piece s) Try.func57 rfl rfl rfl hm ?_
  intro w S _
  unfold spec_l6Piece
  refine TW.seq ?_
  refine TW.region ?_
  refine TO.y (Y.assign rfl) rfl rfl rfl ?_
  refine TO.nil ?_
  refine TE.next ?_
  refine TW.seq ?_
  refine TW.region ?_
  refine TO.y (Y.move rfl) rfl rfl rfl ?_
  refine TO.y (Y.slen ks9 rfl) rfl rfl rfl ?_
  refine TO.bind fun R1 H2 => ?_
  refine TO.ef (Ef.call (rest := []) [] (spec_Var_con ((s.length : Nat) : Int)  R1 H2) kc56 rfl rfl trivial) rfl rfl rfl (fun _ => ?_)
  refine TO.y (Y.move rfl) rfl rfl rfl ?_
  refine TO.bind fun E4 H5 => ?_
  refine TO.y (Y.cat H5 rfl rfl) rfl rfl rfl ?_
  refine TO.y (Y.assign rfl) rfl rfl rfl ?_
  refine TO.nil ?_
  refine TE.next ?_
  refine TW.ret ?_
  exact TE.leaf fun _ _ hf_ hs_ => ret_any (rs := [.tmp 2]) (vs := [strV E4]) (.inl rfl) rfl ⟨rfl, trivial⟩ hf_ hs_ ⟨(), rfl, hs_.pulls [] rfl⟩

/-- loop.example/g00950/spec.Crc -/
noncomputable def spec_Crc (s : List UInt8) : Option Int :=
  bindC (loopO (fun (S1 : Int × Int) => if (decide (S1.2 < ((s.length : Nat) : Int))) = true then ((sidx s S1.2).bind fun E6 =>
  bindC (loopO (fun (S8 : Int × Int) => if (decide (S8.2 < (8 : Int))) = true then (bindC (if (decide (Int.tmod S8.1 (2 : Int) = (1 : Int))) = true then (some (.go (ixor .i64 (IntKind.i64.wrap (Int.tdiv S8.1 (2 : Int))) (2197175160 : Int))))
  else (some (.go (IntKind.i64.wrap (Int.tdiv S8.1 (2 : Int))))))
  (fun (T13 : Int) => some (.go (T13, IntKind.i64.wrap (S8.2 + (1 : Int))))))
  else (some (.done (.go S8.1))))
  (ixor .i64 S1.1 (IntKind.i64.wrap ((E6.toNat : Nat) : Int)), (0 : Int)))
  (fun (T10 : Int) => some (.go (T10, IntKind.i64.wrap (S1.2 + (1 : Int))))))
  else (some (.done (.go S1.1))))
  ((4294967295 : Int), (0 : Int)))
  (fun (T3 : Int) => some (IntKind.i64.wrap ((4294967295 : Int) - T3)))

theorem spec_Crc_con (s : List UInt8)  (r : Int) (hm : spec_Crc s = some r) :
    Con Try.prog 61 [strV s] [] [] (fun _ : Unit => .int .i64 r) (fun _ => []) := by
  refine Con.intro (args := [strV s]) (n := 33) (val := fun r (_ : Unit) => .int .i64 r) (post := fun _ _ => []) (m := spec_Crc s) Try.func61 rfl rfl rfl hm ?_
  intro w S _
  unfold spec_Crc
  refine TW.seq ?_
  refine TW.region ?_
  refine TO.y (Y.assign rfl) rfl rfl rfl ?_
  refine TO.nil ?_
  refine TE.next ?_
  refine TW.seq ?_
  refine TW.region ?_
  refine TO.y (Y.assign rfl) rfl rfl rfl ?_
  refine TO.nil ?_
  refine TE.next ?_
  refine TW.seq ?_
  refine TW.seq ?_
  refine TW.region ?_
  refine TO.y (Y.assign rfl) rfl rfl rfl ?_
  refine TO.nil ?_
  refine TE.next ?_
  refine TW.joinX (τ := Int) (X := Unit) (fun T _ => [(3, .int .i64 T)]) (fun _ _ => []) ?_ (fun T3 X4 => ?_)
  · refine TW.block ?_
    refine TW.loopX (σ := Int × Int) (X := Unit) (fun T _ => [(0, strV s), (3, .int .i64 T.1), (4, .int .i64 T.2)]) (fun _ _ => []) () [] ⟨rfl, rfl, rfl, trivial⟩ rfl (fun S1 X2 => ?_)
    refine TW.seq ?_
    refine TW.seq ?_
    refine TW.region ?_
    refine TO.y (Y.move rfl) rfl rfl rfl ?_
    refine TO.y (Y.move rfl) rfl rfl rfl ?_
    refine TO.y (Y.slen ks9 rfl) rfl rfl rfl ?_
    refine TO.y (Y.lss rfl rfl) rfl rfl rfl ?_
    refine TO.nil ?_
    refine TE.next ?_
    refine TW.cond rfl (fun H5 => ?_) (fun H5 => ?_)
    · refine TW.skip ?_
      refine TE.next ?_
      refine TW.seq ?_
      refine TW.block ?_
      refine TW.seq ?_
      refine TW.region ?_
      refine TO.y (Y.move rfl) rfl rfl rfl ?_
      refine TO.y (Y.move rfl) rfl rfl rfl ?_
      refine TO.y (Y.move rfl) rfl rfl rfl ?_
      refine TO.bind fun E6 H7 => ?_
      refine TO.y (Y.sidx H7 ks9 rfl rfl) rfl rfl rfl ?_
      refine TO.y (Y.conv ki5 ki3 rfl) rfl rfl rfl ?_
      refine TO.y (Y.xor rfl rfl) rfl rfl rfl ?_
      refine TO.y (Y.assign rfl) rfl rfl rfl ?_
      refine TO.nil ?_
      refine TE.next ?_
      refine TW.seq ?_
      refine TW.region ?_
      refine TO.y (Y.assign rfl) rfl rfl rfl ?_
      refine TO.nil ?_
      refine TE.next ?_
      refine TW.joinX (τ := Int) (X := Unit) (fun T _ => [(0, strV s), (3, .int .i64 T), (4, .int .i64 S1.2)]) (fun _ _ => []) ?_ (fun T10 X11 => ?_)
      · refine TW.block ?_
        refine TW.loopX (σ := Int × Int) (X := Unit) (fun T _ => [(0, strV s), (3, .int .i64 T.1), (4, .int .i64 S1.2), (5, .int .i64 T.2)]) (fun _ _ => []) () [] ⟨rfl, rfl, rfl, rfl, trivial⟩ rfl (fun S8 X9 => ?_)
        refine TW.seq ?_
        refine TW.seq ?_
        refine TW.region ?_
        refine TO.y (Y.move rfl) rfl rfl rfl ?_
        refine TO.y (Y.lss rfl rfl) rfl rfl rfl ?_
        refine TO.nil ?_
        refine TE.next ?_
        refine TW.cond rfl (fun H12 => ?_) (fun H12 => ?_)
        · refine TW.skip ?_
          refine TE.next ?_
          refine TW.seq ?_
          refine TW.block ?_
          refine TW.seq ?_
          refine TW.region ?_
          refine TO.y (Y.move rfl) rfl rfl rfl ?_
          refine TO.y (Y.rem (by decide) rfl rfl) rfl rfl rfl ?_
          refine TO.y (Y.assign rfl) rfl rfl rfl ?_
          refine TO.nil ?_
          refine TE.next ?_
          refine TW.seq ?_
          refine TW.region ?_
          refine TO.y (Y.move rfl) rfl rfl rfl ?_
          refine TO.y (Y.quo (by decide) rfl rfl) rfl rfl rfl ?_
          refine TO.y (Y.assign rfl) rfl rfl rfl ?_
          refine TO.nil ?_
          refine TE.next ?_
          refine TW.seq ?_
          refine TW.region ?_
          refine TO.y (Y.move rfl) rfl rfl rfl ?_
          refine TO.y (Y.eql rfl rfl) rfl rfl rfl ?_
          refine TO.nil ?_
          refine TE.next ?_
          refine TW.joinX (τ := Int) (X := Unit) (fun T _ => [(0, strV s), (3, .int .i64 T), (4, .int .i64 S1.2), (5, .int .i64 S8.2)]) (fun _ _ => []) ?_ (fun T13 X14 => ?_)
          · refine TW.cond rfl (fun H15 => ?_) (fun H15 => ?_)
            · refine TW.region ?_
              refine TO.y (Y.move rfl) rfl rfl rfl ?_
              refine TO.y (Y.xor rfl rfl) rfl rfl rfl ?_
              refine TO.y (Y.assign rfl) rfl rfl rfl ?_
              refine TO.nil ?_
              exact TE.jn_go () [] ⟨rfl, rfl, rfl, rfl, trivial⟩ rfl
            · refine TW.skip ?_
              exact TE.jn_go () [] ⟨rfl, rfl, rfl, rfl, trivial⟩ rfl
          · refine TE.block_normal ?_
            refine TE.next ?_
            refine TW.region ?_
            refine TO.y (Y.move rfl) rfl rfl rfl ?_
            refine TO.y (Y.add rfl rfl) rfl rfl rfl ?_
            refine TO.y (Y.assign rfl) rfl rfl rfl ?_
            refine TO.nil ?_
            exact TE.lp_go () [] ⟨rfl, rfl, rfl, rfl, trivial⟩ rfl
        · refine TW.exit ?_
          refine TE.then_exit ?_
          refine TE.lp_exit ?_
          refine TE.block_exit ?_
          exact TE.jn_go () [] ⟨rfl, rfl, rfl, trivial⟩ rfl
      · refine TE.block_normal ?_
        refine TE.next ?_
        refine TW.region ?_
        refine TO.y (Y.move rfl) rfl rfl rfl ?_
        refine TO.y (Y.add rfl rfl) rfl rfl rfl ?_
        refine TO.y (Y.assign rfl) rfl rfl rfl ?_
        refine TO.nil ?_
        exact TE.lp_go () [] ⟨rfl, rfl, rfl, trivial⟩ rfl
    · refine TW.exit ?_
      refine TE.then_exit ?_
      refine TE.lp_exit ?_
      refine TE.block_exit ?_
      exact TE.jn_go () [] ⟨rfl, trivial⟩ rfl
  · refine TE.next ?_
    refine TW.seq ?_
    refine TW.region ?_
    refine TO.y (Y.move rfl) rfl rfl rfl ?_
    refine TO.y (Y.sub rfl rfl) rfl rfl rfl ?_
    refine TO.y (Y.assign rfl) rfl rfl rfl ?_
    refine TO.nil ?_
    refine TE.next ?_
    refine TW.ret ?_
    exact TE.leaf fun _ _ hf_ hs_ => ret_any (rs := [.tmp 2]) (vs := [.int .i64 (IntKind.i64.wrap ((4294967295 : Int) - T3))]) (.inl rfl) rfl ⟨rfl, trivial⟩ hf_ hs_ ⟨(), rfl, hs_.pulls [] rfl⟩

/-- loop.example/g00950/spec.Fixed -/
noncomputable def spec_Fixed (n : Int) (width : Int) : Option (List UInt8) :=
  ((spec_l1In width (1 : Int) (7 : Int)).bind fun R3 =>
  if (!R3) = true then (some true)
  else (some (decide (n < (0 : Int))))).bind (fun (T1 : Bool) =>
  if T1 = true then (some ([]))
  else (bindC (loopO (fun (S8 : Int × List UInt8 × Int) => if (decide (S8.2.2 < width)) = true then ((cat ([toU8 (Int.tmod S8.1 (256 : Int))]) S8.2.1).bind fun E14 =>
  some (.go (IntKind.i64.wrap (Int.tdiv S8.1 (256 : Int)), E14, IntKind.i64.wrap (S8.2.2 + (1 : Int)))))
  else (some (.done (.go (S8.1, S8.2.1)))))
  (n, [], (0 : Int)))
  (fun (T10 : Int × List UInt8) => if (decide (T10.1 > (0 : Int))) = true then (some ([]))
  else (some T10.2))))

theorem spec_Fixed_con (n : Int) (width : Int)  (r : List UInt8) (hm : spec_Fixed n width = some r) :
    Con Try.prog 60 [.int .i64 n, .int .i64 width] [] [] (fun _ : Unit => strV r) (fun _ => []) := by
  refine Con.intro (args := [.int .i64 n, .int .i64 width]) (n := 31) (val := fun r (_ : Unit) => strV r) (post := fun _ _ => []) (m := spec_Fixed n width) Try.func60 rfl rfl rfl hm ?_
  intro w S _
  unfold spec_Fixed
  refine TW.seq ?_
  refine TW.region ?_
  refine TO.y (Y.assign rfl) rfl rfl rfl ?_
  refine TO.nil ?_
  refine TE.next ?_
  refine TW.seq ?_
  refine TW.seq ?_
  refine TW.joinBX (τ := Bool) (X := Unit) (fun T _ => [(0, .int .i64 n), (1, .int .i64 width), (13, .bool T)]) (fun _ _ => []) ?_ (fun T1 X2 => ?_)
  · refine TW.region ?_
    refine TO.y (Y.move rfl) rfl rfl rfl ?_
    refine TO.bind fun R3 H4 => ?_
    refine TO.ef (Ef.call (rest := []) [] (spec_l1In_con width (1 : Int) (7 : Int)  R3 H4) kc59 rfl rfl trivial) rfl rfl rfl (fun _ => ?_)
    refine TO.y (Y.not rfl) rfl rfl rfl ?_
    refine TO.y (Y.move rfl) rfl rfl rfl ?_
    refine TO.ite (b := !R3) (fun H6 => ?_) (fun H6 => ?_)
    · refine TO.off (Gd.at 3 false 10 (!R3) rfl rfl rfl (beq_tf H6)) rfl rfl ?_
      refine TO.off (Gd.at 3 false 10 (!R3) rfl rfl rfl (beq_tf H6)) rfl rfl ?_
      refine TO.y (Y.pick_t H6 rfl rfl) rfl rfl rfl ?_
      refine TO.nil ?_
      exact TE.jb_go () [] ⟨rfl, rfl, rfl, trivial⟩ rfl
    · refine TO.y (Y.move rfl) (Gd.at 3 false 10 (!R3) rfl rfl rfl (beq_ff H6)) rfl rfl ?_
      refine TO.y (Y.lss rfl rfl) (Gd.at 3 false 10 (!R3) rfl rfl rfl (beq_ff H6)) rfl rfl ?_
      refine TO.y (Y.pick_f H6 rfl rfl) rfl rfl rfl ?_
      refine TO.nil ?_
      exact TE.jb_go () [] ⟨rfl, rfl, rfl, trivial⟩ rfl
  · refine TE.next ?_
    refine TW.cond rfl (fun H7 => ?_) (fun H7 => ?_)
    · refine TW.seq ?_
      refine TW.region ?_
      refine TO.y (Y.assign rfl) rfl rfl rfl ?_
      refine TO.nil ?_
      refine TE.next ?_
      refine TW.ret ?_
      refine TE.then_ret ?_
      exact TE.leaf fun _ _ hf_ hs_ => ret_any (rs := [.tmp 4]) (vs := [strV ([])]) (.inl rfl) rfl ⟨rfl, trivial⟩ hf_ hs_ ⟨(), rfl, hs_.pulls [] rfl⟩
    · refine TW.skip ?_
      refine TE.next ?_
      refine TW.seq ?_
      refine TW.region ?_
      refine TO.y (Y.assign rfl) rfl rfl rfl ?_
      refine TO.nil ?_
      refine TE.next ?_
      refine TW.seq ?_
      refine TW.seq ?_
      refine TW.region ?_
      refine TO.y (Y.assign rfl) rfl rfl rfl ?_
      refine TO.nil ?_
      refine TE.next ?_
      refine TW.joinX (τ := Int × List UInt8) (X := Unit) (fun T _ => [(0, .int .i64 T.1), (5, strV T.2)]) (fun _ _ => []) ?_ (fun T10 X11 => ?_)
      · refine TW.block ?_
        refine TW.loopX (σ := Int × List UInt8 × Int) (X := Unit) (fun T _ => [(0, .int .i64 T.1), (1, .int .i64 width), (5, strV T.2.1), (6, .int .i64 T.2.2)]) (fun _ _ => []) () [] ⟨rfl, rfl, rfl, rfl, trivial⟩ rfl (fun S8 X9 => ?_)
        refine TW.seq ?_
        refine TW.seq ?_
        refine TW.region ?_
        refine TO.y (Y.move rfl) rfl rfl rfl ?_
        refine TO.y (Y.move rfl) rfl rfl rfl ?_
        refine TO.y (Y.lss rfl rfl) rfl rfl rfl ?_
        refine TO.nil ?_
        refine TE.next ?_
        refine TW.cond rfl (fun H12 => ?_) (fun H12 => ?_)
        · refine TW.skip ?_
          refine TE.next ?_
          refine TW.seq ?_
          refine TW.block ?_
          refine TW.seq ?_
          refine TW.region ?_
          refine TO.y (Y.move rfl) rfl rfl rfl ?_
          refine TO.y (Y.rem (by decide) rfl rfl) rfl rfl rfl ?_
          refine TO.y (Y.conv8 ki3 ki5 rfl) rfl rfl rfl ?_
          refine TO.ef (Ef.buildSlice (α := UInt8) (Vs := [.int .u8 (((toU8 (Int.tmod S8.1 (256 : Int))).toNat : Nat) : Int)]) [toU8 (Int.tmod S8.1 (256 : Int))] ke22 kz5 rfl rfl rfl rfl rfl) rfl rfl rfl (fun B13 => ?_)
          refine TO.y (Y.toStr ke22 ki5 ks9 (Can.own 0 rfl) rfl) rfl rfl rfl ?_
          refine TO.y (Y.move rfl) rfl rfl rfl ?_
          refine TO.bind fun E14 H15 => ?_
          refine TO.y (Y.cat H15 rfl rfl) rfl rfl rfl ?_
          refine TO.y (Y.assign rfl) rfl rfl rfl ?_
          refine TO.nil ?_
          refine TE.next ?_
          refine TW.region ?_
          refine TO.y (Y.move rfl) rfl rfl rfl ?_
          refine TO.y (Y.quo (by decide) rfl rfl) rfl rfl rfl ?_
          refine TO.y (Y.assign rfl) rfl rfl rfl ?_
          refine TO.nil ?_
          refine TE.block_normal ?_
          refine TE.next ?_
          refine TW.region ?_
          refine TO.y (Y.move rfl) rfl rfl rfl ?_
          refine TO.y (Y.add rfl rfl) rfl rfl rfl ?_
          refine TO.y (Y.assign rfl) rfl rfl rfl ?_
          refine TO.nil ?_
          exact TE.lp_go () [] ⟨rfl, rfl, rfl, rfl, trivial⟩ rfl
        · refine TW.exit ?_
          refine TE.then_exit ?_
          refine TE.lp_exit ?_
          refine TE.block_exit ?_
          exact TE.jn_go () [] ⟨rfl, rfl, trivial⟩ rfl
      · refine TE.next ?_
        refine TW.seq ?_
        refine TW.seq ?_
        refine TW.region ?_
        refine TO.y (Y.move rfl) rfl rfl rfl ?_
        refine TO.y (Y.gtr rfl rfl) rfl rfl rfl ?_
        refine TO.nil ?_
        refine TE.next ?_
        refine TW.cond rfl (fun H16 => ?_) (fun H16 => ?_)
        · refine TW.seq ?_
          refine TW.region ?_
          refine TO.y (Y.assign rfl) rfl rfl rfl ?_
          refine TO.nil ?_
          refine TE.next ?_
          refine TW.ret ?_
          refine TE.then_ret ?_
          exact TE.leaf fun _ _ hf_ hs_ => ret_any (rs := [.tmp 4]) (vs := [strV ([])]) (.inl rfl) rfl ⟨rfl, trivial⟩ hf_ hs_ ⟨(), rfl, hs_.pulls [] rfl⟩
        · refine TW.skip ?_
          refine TE.next ?_
          refine TW.seq ?_
          refine TW.region ?_
          refine TO.y (Y.move rfl) rfl rfl rfl ?_
          refine TO.y (Y.assign rfl) rfl rfl rfl ?_
          refine TO.nil ?_
          refine TE.next ?_
          refine TW.ret ?_
          exact TE.leaf fun _ _ hf_ hs_ => ret_any (rs := [.tmp 4]) (vs := [strV T10.2]) (.inl rfl) rfl ⟨rfl, trivial⟩ hf_ hs_ ⟨(), rfl, hs_.pulls [] rfl⟩

/-- loop.example/g00950/spec.ShowRow -/
noncomputable def spec_ShowRow (r_ : LogRow) : Option (List UInt8) :=
  ((spec_l1In r_.Tenant (1 : Int) (99 : Int)).bind fun R4 =>
  if (!R4) = true then (some true)
  else ((spec_l8At r_.Boot r_.Seq).bind fun R8 =>
  if (!R8) = true then (some true)
  else (some (decide (((r_.Text.length : Nat) : Int) > (300 : Int)))))).bind (fun (T2 : Bool) =>
  if T2 = true then (some ([]))
  else ((spec_Var r_.Tenant).bind fun R13 =>
  (spec_Var r_.Boot).bind fun R16 =>
  (cat R13 R16).bind fun E19 =>
  (spec_Var r_.Seq).bind fun R21 =>
  (cat E19 R21).bind fun E24 =>
  (spec_l6Piece r_.Text).bind fun R26 =>
  (cat E24 R26).bind fun E29 =>
  (spec_Crc E29).bind fun R31 =>
  (spec_Fixed R31 (4 : Int)).bind fun R34 =>
  (cat R34 E29).bind fun E37 =>
  some E37))

theorem spec_ShowRow_con (r_ : LogRow)  (r : List UInt8) (hm : spec_ShowRow r_ = some r) :
    Con Try.prog 26 [.agg #[.int .i64 r_.Tenant, .int .i64 r_.Boot, .int .i64 r_.Seq, strV r_.Text, .bool r_.Synced]] [] [] (fun _ : Unit => strV r) (fun _ => []) := by
  refine Con.intro (args := [.agg #[.int .i64 r_.Tenant, .int .i64 r_.Boot, .int .i64 r_.Seq, strV r_.Text, .bool r_.Synced]]) (n := 42) (val := fun r (_ : Unit) => strV r) (post := fun _ _ => []) (m := spec_ShowRow r_) Try.func26 rfl rfl rfl hm ?_
  intro w S _
  unfold spec_ShowRow
  refine TW.seq ?_
  refine TW.region ?_
  refine TO.ef (Ef.box rfl (Cel.plain rfl rfl)) rfl rfl rfl (fun B1 => ?_)
  refine TO.y (Y.assign rfl) rfl rfl rfl ?_
  refine TO.nil ?_
  refine TE.next ?_
  refine TW.seq ?_
  refine TW.seq ?_
  refine TW.joinBX (τ := Bool) (X := Unit) (fun T _ => [(1, .pointer (some ⟨B1, 0, none⟩)), (21, .bool T)]) (fun _ _ => [.box B1 31 [.int .i64 r_.Tenant, .int .i64 r_.Boot, .int .i64 r_.Seq, strV r_.Text, .bool r_.Synced]]) ?_ (fun T2 X3 => ?_)
  · refine TW.region ?_
    refine TO.y (Y.field_box kf31_0 rfl rfl) rfl rfl rfl ?_
    refine TO.y (Y.load_box (v := .int .i64 r_.Tenant) 0 kk3 rfl rfl rfl) rfl rfl rfl ?_
    refine TO.bind fun R4 H5 => ?_
    refine TO.ef (Ef.call (rest := [.box B1 31 [.int .i64 r_.Tenant, .int .i64 r_.Boot, .int .i64 r_.Seq, strV r_.Text, .bool r_.Synced]]) [0] (spec_l1In_con r_.Tenant (1 : Int) (99 : Int)  R4 H5) kc59 rfl rfl trivial) rfl rfl rfl (fun _ => ?_)
    refine TO.y (Y.not rfl) rfl rfl rfl ?_
    refine TO.y (Y.move rfl) rfl rfl rfl ?_
    refine TO.ite (b := !R4) (fun H7 => ?_) (fun H7 => ?_)
    · refine TO.off (Gd.at 4 false 8 (!R4) rfl rfl rfl (beq_tf H7)) rfl rfl ?_
      refine TO.off (Gd.at 4 false 8 (!R4) rfl rfl rfl (beq_tf H7)) rfl rfl ?_
      refine TO.off (Gd.at 4 false 8 (!R4) rfl rfl rfl (beq_tf H7)) rfl rfl ?_
      refine TO.off (Gd.at 4 false 8 (!R4) rfl rfl rfl (beq_tf H7)) rfl rfl ?_
      refine TO.off (Gd.at 4 false 8 (!R4) rfl rfl rfl (beq_tf H7)) rfl rfl ?_
      refine TO.off (Gd.at 4 false 8 (!R4) rfl rfl rfl (beq_tf H7)) rfl rfl ?_
      refine TO.y (Y.pick_t H7 rfl rfl) rfl rfl rfl ?_
      refine TO.y (Y.move rfl) rfl rfl rfl ?_
      refine TO.off (Gd.at 12 false 16 true rfl rfl rfl rfl) rfl rfl ?_
      refine TO.off (Gd.at 12 false 16 true rfl rfl rfl rfl) rfl rfl ?_
      refine TO.off (Gd.at 12 false 16 true rfl rfl rfl rfl) rfl rfl ?_
      refine TO.off (Gd.at 12 false 16 true rfl rfl rfl rfl) rfl rfl ?_
      refine TO.y (Y.pick_t rfl rfl rfl) rfl rfl rfl ?_
      refine TO.nil ?_
      exact TE.jb_go () [0] ⟨rfl, rfl, trivial⟩ rfl
    · refine TO.y (Y.field_box kf31_1 rfl rfl) (Gd.at 4 false 8 (!R4) rfl rfl rfl (beq_ff H7)) rfl rfl ?_
      refine TO.y (Y.load_box (v := .int .i64 r_.Boot) 0 kk3 rfl rfl rfl) (Gd.at 4 false 8 (!R4) rfl rfl rfl (beq_ff H7)) rfl rfl ?_
      refine TO.y (Y.field_box kf31_2 rfl rfl) (Gd.at 4 false 8 (!R4) rfl rfl rfl (beq_ff H7)) rfl rfl ?_
      refine TO.y (Y.load_box (v := .int .i64 r_.Seq) 0 kk3 rfl rfl rfl) (Gd.at 4 false 8 (!R4) rfl rfl rfl (beq_ff H7)) rfl rfl ?_
      refine TO.bind fun R8 H9 => ?_
      refine TO.ef (Ef.call (rest := [.box B1 31 [.int .i64 r_.Tenant, .int .i64 r_.Boot, .int .i64 r_.Seq, strV r_.Text, .bool r_.Synced]]) [0] (spec_l8At_con r_.Boot r_.Seq  R8 H9) kc53 rfl rfl trivial) (Gd.at 4 false 8 (!R4) rfl rfl rfl (beq_ff H7)) rfl rfl (fun _ => ?_)
      refine TO.y (Y.not rfl) (Gd.at 4 false 8 (!R4) rfl rfl rfl (beq_ff H7)) rfl rfl ?_
      refine TO.y (Y.pick_f H7 rfl rfl) rfl rfl rfl ?_
      refine TO.y (Y.move rfl) rfl rfl rfl ?_
      refine TO.ite (b := !R8) (fun H11 => ?_) (fun H11 => ?_)
      · refine TO.off (Gd.at 12 false 16 (!R8) rfl rfl rfl (beq_tf H11)) rfl rfl ?_
        refine TO.off (Gd.at 12 false 16 (!R8) rfl rfl rfl (beq_tf H11)) rfl rfl ?_
        refine TO.off (Gd.at 12 false 16 (!R8) rfl rfl rfl (beq_tf H11)) rfl rfl ?_
        refine TO.off (Gd.at 12 false 16 (!R8) rfl rfl rfl (beq_tf H11)) rfl rfl ?_
        refine TO.y (Y.pick_t H11 rfl rfl) rfl rfl rfl ?_
        refine TO.nil ?_
        exact TE.jb_go () [0] ⟨rfl, rfl, trivial⟩ rfl
      · refine TO.y (Y.field_box kf31_3 rfl rfl) (Gd.at 12 false 16 (!R8) rfl rfl rfl (beq_ff H11)) rfl rfl ?_
        refine TO.y (Y.load_box (v := strV r_.Text) 0 kk9 rfl rfl rfl) (Gd.at 12 false 16 (!R8) rfl rfl rfl (beq_ff H11)) rfl rfl ?_
        refine TO.y (Y.slen ks9 rfl) (Gd.at 12 false 16 (!R8) rfl rfl rfl (beq_ff H11)) rfl rfl ?_
        refine TO.y (Y.gtr rfl rfl) (Gd.at 12 false 16 (!R8) rfl rfl rfl (beq_ff H11)) rfl rfl ?_
        refine TO.y (Y.pick_f H11 rfl rfl) rfl rfl rfl ?_
        refine TO.nil ?_
        exact TE.jb_go () [0] ⟨rfl, rfl, trivial⟩ rfl
  · refine TE.next ?_
    refine TW.cond rfl (fun H12 => ?_) (fun H12 => ?_)
    · refine TW.seq ?_
      refine TW.region ?_
      refine TO.y (Y.assign rfl) rfl rfl rfl ?_
      refine TO.nil ?_
      refine TE.next ?_
      refine TW.ret ?_
      refine TE.then_ret ?_
      exact TE.leaf fun _ _ hf_ hs_ => ret_any (rs := [.tmp 2]) (vs := [strV ([])]) (.inl rfl) rfl ⟨rfl, trivial⟩ hf_ hs_ ⟨(), rfl, hs_.pulls [] rfl⟩
    · refine TW.skip ?_
      refine TE.next ?_
      refine TW.seq ?_
      refine TW.draw (isH := [.box B1 31 [.int .i64 r_.Tenant, .int .i64 r_.Boot, .int .i64 r_.Seq, strV r_.Text, .bool r_.Synced]]) hMix ?_
      refine TA.y (listed' := #[true, false, false, false, false, false, false, false, false, false, false, false, false, false, false, false]) 0 [0] rfl (Y.field_box kf31_0 rfl rfl) rfl rfl rfl (by kernel_rfl) (by kernel_rfl) (by kernel_rfl) rfl rfl ?_
      refine TA.y (listed' := #[true, true, false, false, false, false, false, false, false, false, false, false, false, false, false, false]) 1 [0] rfl (Y.load_box (v := .int .i64 r_.Tenant) 0 kk3 rfl rfl rfl) rfl rfl rfl (by kernel_rfl) (by kernel_rfl) (by kernel_rfl) rfl rfl ?_
      refine TA.y (listed' := #[true, true, false, true, false, false, false, false, false, false, false, false, false, false, false, false]) 3 [0] rfl (Y.field_box kf31_1 rfl rfl) rfl rfl rfl (by kernel_rfl) (by kernel_rfl) (by kernel_rfl) rfl rfl ?_
      refine TA.y (listed' := #[true, true, false, true, true, false, false, false, false, false, false, false, false, false, false, false]) 4 [0] rfl (Y.load_box (v := .int .i64 r_.Boot) 0 kk3 rfl rfl rfl) rfl rfl rfl (by kernel_rfl) (by kernel_rfl) (by kernel_rfl) rfl rfl ?_
      refine TA.y (listed' := #[true, true, false, true, true, false, false, true, false, false, false, false, false, false, false, false]) 7 [0] rfl (Y.field_box kf31_2 rfl rfl) rfl rfl rfl (by kernel_rfl) (by kernel_rfl) (by kernel_rfl) rfl rfl ?_
      refine TA.y (listed' := #[true, true, false, true, true, false, false, true, true, false, false, false, false, false, false, false]) 8 [0] rfl (Y.load_box (v := .int .i64 r_.Seq) 0 kk3 rfl rfl rfl) rfl rfl rfl (by kernel_rfl) (by kernel_rfl) (by kernel_rfl) rfl rfl ?_
      refine TA.y (listed' := #[true, true, false, true, true, false, false, true, true, false, false, true, false, false, false, false]) 11 [0] rfl (Y.field_box kf31_3 rfl rfl) rfl rfl rfl (by kernel_rfl) (by kernel_rfl) (by kernel_rfl) rfl rfl ?_
      refine TA.y (listed' := #[true, true, false, true, true, false, false, true, true, false, false, true, true, false, false, false]) 12 [0] rfl (Y.load_box (v := strV r_.Text) 0 kk9 rfl rfl rfl) rfl rfl rfl (by kernel_rfl) (by kernel_rfl) (by kernel_rfl) rfl rfl ?_
      refine TA.bind fun R13 H14 => ?_
      refine TA.one 2 (by kernel_rfl) ?_
      refine TX.ef (listed' := #[true, true, true, true, true, false, false, true, true, false, false, true, true, false, false, false]) [0] rfl (Ef.call (rest := [.box B1 31 [.int .i64 r_.Tenant, .int .i64 r_.Boot, .int .i64 r_.Seq, strV r_.Text, .bool r_.Synced]]) [0] (spec_Var_con r_.Tenant  R13 H14) kc56 rfl rfl trivial) rfl rfl rfl rfl (fun _ => rfl) (fun _ => ?_)
      refine TA.bind fun R16 H17 => ?_
      refine TA.one 5 (by kernel_rfl) ?_
      refine TX.ef (listed' := #[true, true, true, true, true, true, false, true, true, false, false, true, true, false, false, false]) [0] rfl (Ef.call (rest := [.box B1 31 [.int .i64 r_.Tenant, .int .i64 r_.Boot, .int .i64 r_.Seq, strV r_.Text, .bool r_.Synced]]) [0] (spec_Var_con r_.Boot  R16 H17) kc56 rfl rfl trivial) rfl rfl rfl rfl (fun _ => rfl) (fun _ => ?_)
      refine TA.bind fun E19 H20 => ?_
      refine TA.y (listed' := #[true, true, true, true, true, true, true, true, true, false, false, true, true, false, false, false]) 6 [0] rfl (Y.cat H20 rfl rfl) rfl rfl rfl (by kernel_rfl) (by kernel_rfl) (by kernel_rfl) rfl rfl ?_
      refine TA.bind fun R21 H22 => ?_
      refine TA.one 9 (by kernel_rfl) ?_
      refine TX.ef (listed' := #[true, true, true, true, true, true, true, true, true, true, false, true, true, false, false, false]) [0] rfl (Ef.call (rest := [.box B1 31 [.int .i64 r_.Tenant, .int .i64 r_.Boot, .int .i64 r_.Seq, strV r_.Text, .bool r_.Synced]]) [0] (spec_Var_con r_.Seq  R21 H22) kc56 rfl rfl trivial) rfl rfl rfl rfl (fun _ => rfl) (fun _ => ?_)
      refine TA.bind fun E24 H25 => ?_
      refine TA.y (listed' := #[true, true, true, true, true, true, true, true, true, true, true, true, true, false, false, false]) 10 [0] rfl (Y.cat H25 rfl rfl) rfl rfl rfl (by kernel_rfl) (by kernel_rfl) (by kernel_rfl) rfl rfl ?_
      refine TA.bind fun R26 H27 => ?_
      refine TA.one 13 (by kernel_rfl) ?_
      refine TX.ef (listed' := #[true, true, true, true, true, true, true, true, true, true, true, true, true, true, false, false]) [0] rfl (Ef.call (rest := [.box B1 31 [.int .i64 r_.Tenant, .int .i64 r_.Boot, .int .i64 r_.Seq, strV r_.Text, .bool r_.Synced]]) [0] (spec_l6Piece_con r_.Text  R26 H27) kc57 rfl rfl trivial) rfl rfl rfl rfl (fun _ => rfl) (fun _ => ?_)
      refine TA.bind fun E29 H30 => ?_
      refine TA.y (listed' := #[true, true, true, true, true, true, true, true, true, true, true, true, true, true, true, false]) 14 [0] rfl (Y.cat H30 rfl rfl) rfl rfl rfl (by kernel_rfl) (by kernel_rfl) (by kernel_rfl) rfl rfl ?_
      refine TA.y (listed' := #[true, true, true, true, true, true, true, true, true, true, true, true, true, true, true, true]) 15 [0] rfl (Y.assign rfl) rfl rfl rfl (by kernel_rfl) (by kernel_rfl) (by kernel_rfl) rfl rfl ?_
      refine TA.nil (by kernel_rfl) ?_
      refine TE.next ?_
      refine TW.seq ?_
      refine TW.region ?_
      refine TO.y (Y.move rfl) rfl rfl rfl ?_
      refine TO.bind fun R31 H32 => ?_
      refine TO.ef (Ef.call (rest := [.box B1 31 [.int .i64 r_.Tenant, .int .i64 r_.Boot, .int .i64 r_.Seq, strV r_.Text, .bool r_.Synced]]) [0] (spec_Crc_con E29  R31 H32) kc61 rfl rfl trivial) rfl rfl rfl (fun _ => ?_)
      refine TO.bind fun R34 H35 => ?_
      refine TO.ef (Ef.call (rest := [.box B1 31 [.int .i64 r_.Tenant, .int .i64 r_.Boot, .int .i64 r_.Seq, strV r_.Text, .bool r_.Synced]]) [0] (spec_Fixed_con R31 (4 : Int)  R34 H35) kc60 rfl rfl trivial) rfl rfl rfl (fun _ => ?_)
      refine TO.y (Y.move rfl) rfl rfl rfl ?_
      refine TO.bind fun E37 H38 => ?_
      refine TO.y (Y.cat H38 rfl rfl) rfl rfl rfl ?_
      refine TO.y (Y.assign rfl) rfl rfl rfl ?_
      refine TO.nil ?_
      refine TE.next ?_
      refine TW.ret ?_
      exact TE.leaf fun _ _ hf_ hs_ => ret_any (rs := [.tmp 2]) (vs := [strV E37]) (.inl rfl) rfl ⟨rfl, trivial⟩ hf_ hs_ ⟨(), rfl, hs_.pulls [] rfl⟩

/-- loop.example/g00950/spec.l1Spoil -/
noncomputable def spec_l1Spoil (c : L1Cur) (s : List UInt8) : Option (List UInt8 × L1Cur) :=
  if (decide (((s.length : Nat) : Int) = (0 : Int))) = true then ((spec_l1Text c (3 : Int)).bind fun R2 =>
  some (R2.1, { b := c.b, i := R2.2.i, h := R2.2.h : L1Cur }))
  else ((spec_l1Below c ((s.length : Nat) : Int)).bind fun R5 =>
  (spec_l1Below ({ b := c.b, i := R5.2.i, h := R5.2.h : L1Cur }) (4 : Int)).bind fun R8 =>
  if (decide (R8.1 = (0 : Int))) = true then ((ssub s 0 R5.1).bind fun E12 =>
  (ssub s (IntKind.i64.wrap (R5.1 + (1 : Int))) (s.length : Int)).bind fun E14 =>
  (cat E12 E14).bind fun E16 =>
  some (E16, { b := c.b, i := R8.2.i, h := R8.2.h : L1Cur }))
  else (if (decide (R8.1 = (1 : Int))) = true then ((ssub s 0 R5.1).bind fun E19 =>
  (ssub s R5.1 (s.length : Int)).bind fun E21 =>
  (spec_l1Byte ({ b := c.b, i := R8.2.i, h := R8.2.h : L1Cur })).bind fun R23 =>
  (cat E19 ([toU8 R23.1])).bind fun E27 =>
  (cat E27 E21).bind fun E29 =>
  some (E29, { b := c.b, i := R23.2.i, h := R23.2.h : L1Cur }))
  else (if (decide (R8.1 = (2 : Int))) = true then ((ssub s 0 R5.1).bind fun E32 =>
  some (E32, { b := c.b, i := R8.2.i, h := R8.2.h : L1Cur }))
  else ((ssub s 0 R5.1).bind fun E34 =>
  (sidx s R5.1).bind fun E36 =>
  (ssub s (IntKind.i64.wrap (R5.1 + (1 : Int))) (s.length : Int)).bind fun E38 =>
  (spec_l1Below ({ b := c.b, i := R8.2.i, h := R8.2.h : L1Cur }) (255 : Int)).bind fun R40 =>
  (cat E34 ([toU8 (ixor .i64 (IntKind.i64.wrap ((E36.toNat : Nat) : Int)) (IntKind.i64.wrap ((1 : Int) + R40.1)))])).bind fun E44 =>
  (cat E44 E38).bind fun E46 =>
  some (E46, { b := c.b, i := R40.2.i, h := R40.2.h : L1Cur })))))

theorem spec_l1Spoil_con (c : L1Cur) (s : List UInt8) (V_c0 : Value) (B_c : Nat) (r : List UInt8 × L1Cur) (hm : spec_l1Spoil c s = some r) :
    Con Try.prog 28 [.pointer (some ⟨B_c, 0, none⟩), strV s] [.box B_c 75 [V_c0, .int .i64 c.i, .int .i64 c.h]] [(V_c0, lc c.b)] (fun _ : Unit => strV r.1) (fun _ => [.box B_c 75 [V_c0, .int .i64 r.2.i, .int .i64 r.2.h]]) := by
  refine Con.intro (args := [.pointer (some ⟨B_c, 0, none⟩), strV s]) (n := 67) (val := fun r (_ : Unit) => strV r.1) (post := fun r _ => [.box B_c 75 [V_c0, .int .i64 r.2.i, .int .i64 r.2.h]]) (m := spec_l1Spoil c s) Try.func28 rfl rfl rfl hm ?_
  intro w S hrd
  have HB_V_c0 := hrd _ (.head _)
  clear hrd
  unfold spec_l1Spoil
  refine TW.seq ?_
  refine TW.region ?_
  refine TO.y (Y.assign rfl) rfl rfl rfl ?_
  refine TO.nil ?_
  refine TE.next ?_
  refine TW.seq ?_
  refine TW.seq ?_
  refine TW.region ?_
  refine TO.y (Y.move rfl) rfl rfl rfl ?_
  refine TO.y (Y.slen ks9 rfl) rfl rfl rfl ?_
  refine TO.y (Y.eql rfl rfl) rfl rfl rfl ?_
  refine TO.nil ?_
  refine TE.next ?_
  refine TW.cond rfl (fun H1 => ?_) (fun H1 => ?_)
  · refine TW.seq ?_
    refine TW.region ?_
    refine TO.y (Y.move rfl) rfl rfl rfl ?_
    refine TO.bind fun R2 H3 => ?_
    refine TO.ef (Ef.call (rest := []) [0] (spec_l1Text_con c (3 : Int) V_c0 B_c R2 H3) kc29 rfl rfl ⟨(Base.can HB_V_c0), trivial⟩) rfl rfl rfl (fun _ => ?_)
    refine TO.y (Y.assign rfl) rfl rfl rfl ?_
    refine TO.nil ?_
    refine TE.next ?_
    refine TW.ret ?_
    refine TE.then_ret ?_
    exact TE.leaf fun _ _ hf_ hs_ => ret_any (rs := [.tmp 4]) (vs := [strV R2.1]) (.inl rfl) rfl ⟨rfl, trivial⟩ hf_ hs_ ⟨(), rfl, hs_.pulls [0] rfl⟩
  · refine TW.skip ?_
    refine TE.next ?_
    refine TW.seq ?_
    refine TW.region ?_
    refine TO.y (Y.move rfl) rfl rfl rfl ?_
    refine TO.y (Y.move rfl) rfl rfl rfl ?_
    refine TO.y (Y.slen ks9 rfl) rfl rfl rfl ?_
    refine TO.bind fun R5 H6 => ?_
    refine TO.ef (Ef.call (rest := []) [0] (spec_l1Below_con c ((s.length : Nat) : Int) V_c0 B_c R5 H6) kc25 rfl rfl ⟨(Base.can HB_V_c0), trivial⟩) rfl rfl rfl (fun _ => ?_)
    refine TO.y (Y.assign rfl) rfl rfl rfl ?_
    refine TO.nil ?_
    refine TE.next ?_
    refine TW.seq ?_
    refine TW.seq ?_
    refine TW.region ?_
    refine TO.y (Y.move rfl) rfl rfl rfl ?_
    refine TO.bind fun R8 H9 => ?_
    refine TO.ef (Ef.call (rest := []) [0] (spec_l1Below_con ({ b := c.b, i := R5.2.i, h := R5.2.h : L1Cur }) (4 : Int) V_c0 B_c R8 H9) kc25 rfl rfl ⟨(Base.can HB_V_c0), trivial⟩) rfl rfl rfl (fun _ => ?_)
    refine TO.nil ?_
    refine TE.next ?_
    refine TW.block ?_
    refine TW.seq ?_
    refine TW.region ?_
    refine TO.y (Y.eql rfl rfl) rfl rfl rfl ?_
    refine TO.y (Y.assign rfl) rfl rfl rfl ?_
    refine TO.nil ?_
    refine TE.next ?_
    refine TW.cond rfl (fun H11 => ?_) (fun H11 => ?_)
    · refine TW.seq ?_
      refine TW.draw (isH := [.box B_c 75 [V_c0, .int .i64 R8.2.i, .int .i64 R8.2.h]]) hMix ?_
      refine TA.y (listed' := #[true, false, false, false, false, false, false, false, false]) 0 [0] rfl (Y.move rfl) rfl rfl rfl (by kernel_rfl) (by kernel_rfl) (by kernel_rfl) rfl rfl ?_
      refine TA.y (listed' := #[true, true, false, false, false, false, false, false, false]) 1 [0] rfl (Y.move rfl) rfl rfl rfl (by kernel_rfl) (by kernel_rfl) (by kernel_rfl) rfl rfl ?_
      refine TA.bind fun E12 H13 => ?_
      refine TA.y (listed' := #[true, true, true, false, false, false, false, false, false]) 2 [0] rfl (Y.ssub_to H13 ks9 rfl rfl) rfl rfl rfl (by kernel_rfl) (by kernel_rfl) (by kernel_rfl) rfl rfl ?_
      refine TA.y (listed' := #[true, true, true, true, false, false, false, false, false]) 3 [0] rfl (Y.move rfl) rfl rfl rfl (by kernel_rfl) (by kernel_rfl) (by kernel_rfl) rfl rfl ?_
      refine TA.y (listed' := #[true, true, true, true, true, false, false, false, false]) 4 [0] rfl (Y.move rfl) rfl rfl rfl (by kernel_rfl) (by kernel_rfl) (by kernel_rfl) rfl rfl ?_
      refine TA.y (listed' := #[true, true, true, true, true, true, false, false, false]) 5 [0] rfl (Y.add rfl rfl) rfl rfl rfl (by kernel_rfl) (by kernel_rfl) (by kernel_rfl) rfl rfl ?_
      refine TA.bind fun E14 H15 => ?_
      refine TA.y (listed' := #[true, true, true, true, true, true, true, false, false]) 6 [0] rfl (Y.ssub_from H15 ks9 rfl rfl) rfl rfl rfl (by kernel_rfl) (by kernel_rfl) (by kernel_rfl) rfl rfl ?_
      refine TA.bind fun E16 H17 => ?_
      refine TA.y (listed' := #[true, true, true, true, true, true, true, true, false]) 7 [0] rfl (Y.cat H17 rfl rfl) rfl rfl rfl (by kernel_rfl) (by kernel_rfl) (by kernel_rfl) rfl rfl ?_
      refine TA.y (listed' := #[true, true, true, true, true, true, true, true, true]) 8 [0] rfl (Y.assign rfl) rfl rfl rfl (by kernel_rfl) (by kernel_rfl) (by kernel_rfl) rfl rfl ?_
      refine TA.nil (by kernel_rfl) ?_
      refine TE.next ?_
      refine TW.ret ?_
      refine TE.block_ret ?_
      refine TE.then_ret ?_
      exact TE.leaf fun _ _ hf_ hs_ => ret_any (rs := [.tmp 4]) (vs := [strV E16]) (.inl rfl) rfl ⟨rfl, trivial⟩ hf_ hs_ ⟨(), rfl, hs_.pulls [0] rfl⟩
    · refine TW.seq ?_
      refine TW.region ?_
      refine TO.y (Y.eql rfl rfl) rfl rfl rfl ?_
      refine TO.y (Y.assign rfl) rfl rfl rfl ?_
      refine TO.nil ?_
      refine TE.next ?_
      refine TW.cond rfl (fun H18 => ?_) (fun H18 => ?_)
      · refine TW.seq ?_
        refine TW.draw (isH := []) hMix ?_
        refine TA.y (listed' := #[true, false, false, false, false, false, false, false, false, false, false, false, false, false]) 0 [] rfl (Y.move rfl) rfl rfl rfl (by kernel_rfl) (by kernel_rfl) (by kernel_rfl) rfl rfl ?_
        refine TA.y (listed' := #[true, true, false, false, false, false, false, false, false, false, false, false, false, false]) 1 [] rfl (Y.move rfl) rfl rfl rfl (by kernel_rfl) (by kernel_rfl) (by kernel_rfl) rfl rfl ?_
        refine TA.bind fun E19 H20 => ?_
        refine TA.y (listed' := #[true, true, true, false, false, false, false, false, false, false, false, false, false, false]) 2 [] rfl (Y.ssub_to H20 ks9 rfl rfl) rfl rfl rfl (by kernel_rfl) (by kernel_rfl) (by kernel_rfl) rfl rfl ?_
        refine TA.y (listed' := #[true, true, true, true, false, false, false, false, false, false, false, false, false, false]) 3 [] rfl (Y.move rfl) rfl rfl rfl (by kernel_rfl) (by kernel_rfl) (by kernel_rfl) rfl rfl ?_
        refine TA.y (listed' := #[true, true, true, true, false, false, false, false, false, true, false, false, false, false]) 9 [] rfl (Y.move rfl) rfl rfl rfl (by kernel_rfl) (by kernel_rfl) (by kernel_rfl) rfl rfl ?_
        refine TA.y (listed' := #[true, true, true, true, false, false, false, false, false, true, true, false, false, false]) 10 [] rfl (Y.move rfl) rfl rfl rfl (by kernel_rfl) (by kernel_rfl) (by kernel_rfl) rfl rfl ?_
        refine TA.bind fun E21 H22 => ?_
        refine TA.y (listed' := #[true, true, true, true, false, false, false, false, false, true, true, true, false, false]) 11 [] rfl (Y.ssub_from H22 ks9 rfl rfl) rfl rfl rfl (by kernel_rfl) (by kernel_rfl) (by kernel_rfl) rfl rfl ?_
        refine TA.bind fun R23 H24 => ?_
        refine TA.one 4 (by kernel_rfl) ?_
        refine TX.ef (listed' := #[true, true, true, true, true, false, false, false, false, true, true, true, false, false]) [] rfl (Ef.call (rest := []) [0] (spec_l1Byte_con ({ b := c.b, i := R8.2.i, h := R8.2.h : L1Cur }) V_c0 B_c R23 H24) kc58 rfl rfl ⟨(Base.can HB_V_c0), trivial⟩) rfl rfl rfl rfl (fun _ => rfl) (fun _ => ?_)
        refine TA.y (listed' := #[true, true, true, true, true, true, false, false, false, true, true, true, false, false]) 5 [] rfl (Y.conv8 ki3 ki5 rfl) rfl rfl rfl (by kernel_rfl) (by kernel_rfl) (by kernel_rfl) rfl rfl ?_
        refine TA.one 6 (by kernel_rfl) ?_
        refine TX.ef (listed' := #[true, true, true, true, true, true, true, false, false, true, true, true, false, false]) [] rfl (Ef.buildSlice (α := UInt8) (Vs := [.int .u8 (((toU8 R23.1).toNat : Nat) : Int)]) [toU8 R23.1] ke22 kz5 rfl rfl rfl rfl rfl) rfl rfl rfl rfl (fun _ => rfl) (fun B26 => ?_)
        refine TA.one 7 (by kernel_rfl) ?_
        refine TX.y (listed' := #[true, true, true, true, true, true, true, true, false, true, true, true, false, false]) [] rfl (Y.toStr ke22 ki5 ks9 (Can.own 0 rfl) rfl) rfl rfl rfl rfl rfl ?_
        refine TA.bind fun E27 H28 => ?_
        refine TA.y (listed' := #[true, true, true, true, true, true, true, true, true, true, true, true, false, false]) 8 [] rfl (Y.cat H28 rfl rfl) rfl rfl rfl (by kernel_rfl) (by kernel_rfl) (by kernel_rfl) rfl rfl ?_
        refine TA.bind fun E29 H30 => ?_
        refine TA.y (listed' := #[true, true, true, true, true, true, true, true, true, true, true, true, true, false]) 12 [] rfl (Y.cat H30 rfl rfl) rfl rfl rfl (by kernel_rfl) (by kernel_rfl) (by kernel_rfl) rfl rfl ?_
        refine TA.y (listed' := #[true, true, true, true, true, true, true, true, true, true, true, true, true, true]) 13 [] rfl (Y.assign rfl) rfl rfl rfl (by kernel_rfl) (by kernel_rfl) (by kernel_rfl) rfl rfl ?_
        refine TA.nil (by kernel_rfl) ?_
        refine TE.next ?_
        refine TW.ret ?_
        refine TE.block_ret ?_
        refine TE.then_ret ?_
        exact TE.leaf fun _ _ hf_ hs_ => ret_any (rs := [.tmp 4]) (vs := [strV E29]) (.inl rfl) rfl ⟨rfl, trivial⟩ hf_ hs_ ⟨(), rfl, hs_.pulls [1] rfl⟩
      · refine TW.seq ?_
        refine TW.region ?_
        refine TO.y (Y.eql rfl rfl) rfl rfl rfl ?_
        refine TO.y (Y.assign rfl) rfl rfl rfl ?_
        refine TO.nil ?_
        refine TE.next ?_
        refine TW.cond rfl (fun H31 => ?_) (fun H31 => ?_)
        · refine TW.seq ?_
          refine TW.region ?_
          refine TO.y (Y.move rfl) rfl rfl rfl ?_
          refine TO.y (Y.move rfl) rfl rfl rfl ?_
          refine TO.bind fun E32 H33 => ?_
          refine TO.y (Y.ssub_to H33 ks9 rfl rfl) rfl rfl rfl ?_
          refine TO.y (Y.assign rfl) rfl rfl rfl ?_
          refine TO.nil ?_
          refine TE.next ?_
          refine TW.ret ?_
          refine TE.block_ret ?_
          refine TE.then_ret ?_
          exact TE.leaf fun _ _ hf_ hs_ => ret_any (rs := [.tmp 4]) (vs := [strV E32]) (.inl rfl) rfl ⟨rfl, trivial⟩ hf_ hs_ ⟨(), rfl, hs_.pulls [0] rfl⟩
        · refine TW.skip ?_
          refine TE.block_normal ?_
          refine TE.next ?_
          refine TW.seq ?_
          refine TW.draw (isH := []) hMix ?_
          refine TA.y (listed' := #[true, false, false, false, false, false, false, false, false, false, false, false, false, false, false, false, false, false, false, false, false]) 0 [] rfl (Y.move rfl) rfl rfl rfl (by kernel_rfl) (by kernel_rfl) (by kernel_rfl) rfl rfl ?_
          refine TA.y (listed' := #[true, true, false, false, false, false, false, false, false, false, false, false, false, false, false, false, false, false, false, false, false]) 1 [] rfl (Y.move rfl) rfl rfl rfl (by kernel_rfl) (by kernel_rfl) (by kernel_rfl) rfl rfl ?_
          refine TA.bind fun E34 H35 => ?_
          refine TA.y (listed' := #[true, true, true, false, false, false, false, false, false, false, false, false, false, false, false, false, false, false, false, false, false]) 2 [] rfl (Y.ssub_to H35 ks9 rfl rfl) rfl rfl rfl (by kernel_rfl) (by kernel_rfl) (by kernel_rfl) rfl rfl ?_
          refine TA.y (listed' := #[true, true, true, true, false, false, false, false, false, false, false, false, false, false, false, false, false, false, false, false, false]) 3 [] rfl (Y.move rfl) rfl rfl rfl (by kernel_rfl) (by kernel_rfl) (by kernel_rfl) rfl rfl ?_
          refine TA.y (listed' := #[true, true, true, true, true, false, false, false, false, false, false, false, false, false, false, false, false, false, false, false, false]) 4 [] rfl (Y.move rfl) rfl rfl rfl (by kernel_rfl) (by kernel_rfl) (by kernel_rfl) rfl rfl ?_
          refine TA.bind fun E36 H37 => ?_
          refine TA.y (listed' := #[true, true, true, true, true, true, false, false, false, false, false, false, false, false, false, false, false, false, false, false, false]) 5 [] rfl (Y.sidx H37 ks9 rfl rfl) rfl rfl rfl (by kernel_rfl) (by kernel_rfl) (by kernel_rfl) rfl rfl ?_
          refine TA.y (listed' := #[true, true, true, true, true, true, true, false, false, false, false, false, false, false, false, false, false, false, false, false, false]) 6 [] rfl (Y.conv ki5 ki3 rfl) rfl rfl rfl (by kernel_rfl) (by kernel_rfl) (by kernel_rfl) rfl rfl ?_
          refine TA.y (listed' := #[true, true, true, true, true, true, true, true, false, false, false, false, false, false, false, false, false, false, false, false, false]) 7 [] rfl (Y.move rfl) rfl rfl rfl (by kernel_rfl) (by kernel_rfl) (by kernel_rfl) rfl rfl ?_
          refine TA.y (listed' := #[true, true, true, true, true, true, true, true, false, false, false, false, false, false, false, true, false, false, false, false, false]) 15 [] rfl (Y.move rfl) rfl rfl rfl (by kernel_rfl) (by kernel_rfl) (by kernel_rfl) rfl rfl ?_
          refine TA.y (listed' := #[true, true, true, true, true, true, true, true, false, false, false, false, false, false, false, true, true, false, false, false, false]) 16 [] rfl (Y.move rfl) rfl rfl rfl (by kernel_rfl) (by kernel_rfl) (by kernel_rfl) rfl rfl ?_
          refine TA.y (listed' := #[true, true, true, true, true, true, true, true, false, false, false, false, false, false, false, true, true, true, false, false, false]) 17 [] rfl (Y.add rfl rfl) rfl rfl rfl (by kernel_rfl) (by kernel_rfl) (by kernel_rfl) rfl rfl ?_
          refine TA.bind fun E38 H39 => ?_
          refine TA.y (listed' := #[true, true, true, true, true, true, true, true, false, false, false, false, false, false, false, true, true, true, true, false, false]) 18 [] rfl (Y.ssub_from H39 ks9 rfl rfl) rfl rfl rfl (by kernel_rfl) (by kernel_rfl) (by kernel_rfl) rfl rfl ?_
          refine TA.bind fun R40 H41 => ?_
          refine TA.one 8 (by kernel_rfl) ?_
          refine TX.ef (listed' := #[true, true, true, true, true, true, true, true, true, false, false, false, false, false, false, true, true, true, true, false, false]) [] rfl (Ef.call (rest := []) [0] (spec_l1Below_con ({ b := c.b, i := R8.2.i, h := R8.2.h : L1Cur }) (255 : Int) V_c0 B_c R40 H41) kc25 rfl rfl ⟨(Base.can HB_V_c0), trivial⟩) rfl rfl rfl rfl (fun _ => rfl) (fun _ => ?_)
          refine TA.y (listed' := #[true, true, true, true, true, true, true, true, true, true, false, false, false, false, false, true, true, true, true, false, false]) 9 [] rfl (Y.add rfl rfl) rfl rfl rfl (by kernel_rfl) (by kernel_rfl) (by kernel_rfl) rfl rfl ?_
          refine TA.y (listed' := #[true, true, true, true, true, true, true, true, true, true, true, false, false, false, false, true, true, true, true, false, false]) 10 [] rfl (Y.xor rfl rfl) rfl rfl rfl (by kernel_rfl) (by kernel_rfl) (by kernel_rfl) rfl rfl ?_
          refine TA.y (listed' := #[true, true, true, true, true, true, true, true, true, true, true, true, false, false, false, true, true, true, true, false, false]) 11 [] rfl (Y.conv8 ki3 ki5 rfl) rfl rfl rfl (by kernel_rfl) (by kernel_rfl) (by kernel_rfl) rfl rfl ?_
          refine TA.one 12 (by kernel_rfl) ?_
          refine TX.ef (listed' := #[true, true, true, true, true, true, true, true, true, true, true, true, true, false, false, true, true, true, true, false, false]) [] rfl (Ef.buildSlice (α := UInt8) (Vs := [.int .u8 (((toU8 (ixor .i64 (IntKind.i64.wrap ((E36.toNat : Nat) : Int)) (IntKind.i64.wrap ((1 : Int) + R40.1)))).toNat : Nat) : Int)]) [toU8 (ixor .i64 (IntKind.i64.wrap ((E36.toNat : Nat) : Int)) (IntKind.i64.wrap ((1 : Int) + R40.1)))] ke22 kz5 rfl rfl rfl rfl rfl) rfl rfl rfl rfl (fun _ => rfl) (fun B43 => ?_)
          refine TA.one 13 (by kernel_rfl) ?_
          refine TX.y (listed' := #[true, true, true, true, true, true, true, true, true, true, true, true, true, true, false, true, true, true, true, false, false]) [] rfl (Y.toStr ke22 ki5 ks9 (Can.own 0 rfl) rfl) rfl rfl rfl rfl rfl ?_
          refine TA.bind fun E44 H45 => ?_
          refine TA.y (listed' := #[true, true, true, true, true, true, true, true, true, true, true, true, true, true, true, true, true, true, true, false, false]) 14 [] rfl (Y.cat H45 rfl rfl) rfl rfl rfl (by kernel_rfl) (by kernel_rfl) (by kernel_rfl) rfl rfl ?_
          refine TA.bind fun E46 H47 => ?_
          refine TA.y (listed' := #[true, true, true, true, true, true, true, true, true, true, true, true, true, true, true, true, true, true, true, true, false]) 19 [] rfl (Y.cat H47 rfl rfl) rfl rfl rfl (by kernel_rfl) (by kernel_rfl) (by kernel_rfl) rfl rfl ?_
          refine TA.y (listed' := #[true, true, true, true, true, true, true, true, true, true, true, true, true, true, true, true, true, true, true, true, true]) 20 [] rfl (Y.assign rfl) rfl rfl rfl (by kernel_rfl) (by kernel_rfl) (by kernel_rfl) rfl rfl ?_
          refine TA.nil (by kernel_rfl) ?_
          refine TE.next ?_
          refine TW.ret ?_
          exact TE.leaf fun _ _ hf_ hs_ => ret_any (rs := [.tmp 4]) (vs := [strV E46]) (.inl rfl) rfl ⟨rfl, trivial⟩ hf_ hs_ ⟨(), rfl, hs_.pulls [1] rfl⟩

/-- loop.example/g00950/spec.DrawScanRows -/
noncomputable def spec_DrawScanRows (code : List UInt8) : Option (List UInt8) :=
  (spec_l1New code).bind fun R1 =>
  (spec_l1Below ({ b := code, i := R1.i, h := R1.h : L1Cur }) (6 : Int)).bind fun R4 =>
  bindC (loopO (fun (S7 : Int × Int × List UInt8 × Int) => if (decide (S7.2.2.2 > (0 : Int))) = true then ((spec_l8Row ({ b := code, i := S7.1, h := S7.2.1 : L1Cur })).bind fun R12 =>
  (spec_ShowRow R12.1).bind fun R15 =>
  (cat S7.2.2.1 R15).bind fun E18 =>
  some (.go (R12.2.i, R12.2.h, E18, IntKind.i64.wrap (S7.2.2.2 - (1 : Int)))))
  else (some (.done (.go (S7.1, S7.2.1, S7.2.2.1)))))
  (R4.2.i, R4.2.h, [], R4.1))
  (fun (T9 : Int × Int × List UInt8) => (spec_l1Below ({ b := code, i := T9.1, h := T9.2.1 : L1Cur }) (5 : Int)).bind fun R20 =>
  if (decide (R20.1 = (0 : Int))) = true then ((spec_l1Spoil ({ b := code, i := R20.2.i, h := R20.2.h : L1Cur }) T9.2.2).bind fun R24 =>
  some R24.1)
  else (if (decide (R20.1 = (1 : Int))) = true then ((spec_l1Text ({ b := code, i := R20.2.i, h := R20.2.h : L1Cur }) (9 : Int)).bind fun R28 =>
  (cat T9.2.2 R28.1).bind fun E31 =>
  some E31)
  else (if (decide (R20.1 = (2 : Int))) = true then ((spec_l1Below ({ b := code, i := R20.2.i, h := R20.2.h : L1Cur }) (IntKind.i64.wrap (((T9.2.2.length : Nat) : Int) + (1 : Int)))).bind fun R34 =>
  (ssub T9.2.2 0 R34.1).bind fun E37 =>
  some E37)
  else (some T9.2.2))))

theorem spec_DrawScanRows_con (code : List UInt8) (V_code0 : Value) (r : List UInt8) (hm : spec_DrawScanRows code = some r) :
    Con Try.prog 7 [V_code0] [] [(V_code0, lc code)] (fun _ : Unit => strV r) (fun _ => []) := by
  refine Con.intro (args := [V_code0]) (n := 42) (val := fun r (_ : Unit) => strV r) (post := fun _ _ => []) (m := spec_DrawScanRows code) Try.func7 rfl rfl rfl hm ?_
  intro w S hrd
  have HB_V_code0 := hrd _ (.head _)
  clear hrd
  unfold spec_DrawScanRows
  refine TW.seq ?_
  refine TW.region ?_
  refine TO.y (Y.assign rfl) rfl rfl rfl ?_
  refine TO.nil ?_
  refine TE.next ?_
  refine TW.seq ?_
  refine TW.region ?_
  refine TO.y (Y.move rfl) rfl rfl rfl ?_
  refine TO.bind fun R1 H2 => ?_
  refine TO.ef (Ef.call (rest := []) [] (spec_l1New_con code V_code0 R1 H2) kc24 rfl rfl ⟨(Base.can HB_V_code0), trivial⟩) rfl rfl rfl (fun Y3 => ?_)
  refine TO.y (Y.assign rfl) rfl rfl rfl ?_
  refine TO.nil ?_
  refine TE.next ?_
  refine TW.seq ?_
  refine TW.region ?_
  refine TO.y (Y.assign rfl) rfl rfl rfl ?_
  refine TO.nil ?_
  refine TE.next ?_
  refine TW.seq ?_
  refine TW.seq ?_
  refine TW.region ?_
  refine TO.y (Y.move rfl) rfl rfl rfl ?_
  refine TO.bind fun R4 H5 => ?_
  refine TO.ef (Ef.call (rest := []) [0] (spec_l1Below_con ({ b := code, i := R1.i, h := R1.h : L1Cur }) (6 : Int) V_code0 Y3 R4 H5) kc25 rfl rfl ⟨(Base.can HB_V_code0), trivial⟩) rfl rfl rfl (fun _ => ?_)
  refine TO.y (Y.assign rfl) rfl rfl rfl ?_
  refine TO.nil ?_
  refine TE.next ?_
  refine TW.joinX (τ := Int × Int × List UInt8) (X := Unit) (fun T _ => [(3, .pointer (some ⟨Y3, 0, none⟩)), (4, strV T.2.2)]) (fun T _ => [.box Y3 75 [V_code0, .int .i64 T.1, .int .i64 T.2.1]]) ?_ (fun T9 X10 => ?_)
  · refine TW.block ?_
    refine TW.loopX (σ := Int × Int × List UInt8 × Int) (X := Unit) (fun T _ => [(3, .pointer (some ⟨Y3, 0, none⟩)), (4, strV T.2.2.1), (5, .int .i64 T.2.2.2)]) (fun T _ => [.box Y3 75 [V_code0, .int .i64 T.1, .int .i64 T.2.1]]) () [0] ⟨rfl, rfl, rfl, trivial⟩ rfl (fun S7 X8 => ?_)
    refine TW.seq ?_
    refine TW.seq ?_
    refine TW.region ?_
    refine TO.y (Y.move rfl) rfl rfl rfl ?_
    refine TO.y (Y.gtr rfl rfl) rfl rfl rfl ?_
    refine TO.nil ?_
    refine TE.next ?_
    refine TW.cond rfl (fun H11 => ?_) (fun H11 => ?_)
    · refine TW.skip ?_
      refine TE.next ?_
      refine TW.seq ?_
      refine TW.block ?_
      refine TW.region ?_
      refine TO.y (Y.move rfl) rfl rfl rfl ?_
      refine TO.y (Y.move rfl) rfl rfl rfl ?_
      refine TO.bind fun R12 H13 => ?_
      refine TO.ef (Ef.call (rest := []) [0] (spec_l8Row_con ({ b := code, i := S7.1, h := S7.2.1 : L1Cur }) V_code0 Y3 R12 H13) kc27 rfl rfl ⟨(Base.can HB_V_code0), trivial⟩) rfl rfl rfl (fun _ => ?_)
      refine TO.bind fun R15 H16 => ?_
      refine TO.ef (Ef.call (rest := [.box Y3 75 [V_code0, .int .i64 R12.2.i, .int .i64 R12.2.h]]) [0] (spec_ShowRow_con R12.1  R15 H16) kc26 rfl rfl trivial) rfl rfl rfl (fun _ => ?_)
      refine TO.bind fun E18 H19 => ?_
      refine TO.y (Y.cat H19 rfl rfl) rfl rfl rfl ?_
      refine TO.y (Y.assign rfl) rfl rfl rfl ?_
      refine TO.nil ?_
      refine TE.block_normal ?_
      refine TE.next ?_
      refine TW.region ?_
      refine TO.y (Y.move rfl) rfl rfl rfl ?_
      refine TO.y (Y.sub rfl rfl) rfl rfl rfl ?_
      refine TO.y (Y.assign rfl) rfl rfl rfl ?_
      refine TO.nil ?_
      exact TE.lp_go () [0] ⟨rfl, rfl, rfl, trivial⟩ rfl
    · refine TW.exit ?_
      refine TE.then_exit ?_
      refine TE.lp_exit ?_
      refine TE.block_exit ?_
      exact TE.jn_go () [0] ⟨rfl, rfl, trivial⟩ rfl
  · refine TE.next ?_
    refine TW.seq ?_
    refine TW.seq ?_
    refine TW.region ?_
    refine TO.y (Y.move rfl) rfl rfl rfl ?_
    refine TO.bind fun R20 H21 => ?_
    refine TO.ef (Ef.call (rest := []) [0] (spec_l1Below_con ({ b := code, i := T9.1, h := T9.2.1 : L1Cur }) (5 : Int) V_code0 Y3 R20 H21) kc25 rfl rfl ⟨(Base.can HB_V_code0), trivial⟩) rfl rfl rfl (fun _ => ?_)
    refine TO.nil ?_
    refine TE.next ?_
    refine TW.block ?_
    refine TW.seq ?_
    refine TW.region ?_
    refine TO.y (Y.eql rfl rfl) rfl rfl rfl ?_
    refine TO.y (Y.assign rfl) rfl rfl rfl ?_
    refine TO.nil ?_
    refine TE.next ?_
    refine TW.cond rfl (fun H23 => ?_) (fun H23 => ?_)
    · refine TW.seq ?_
      refine TW.region ?_
      refine TO.y (Y.move rfl) rfl rfl rfl ?_
      refine TO.y (Y.move rfl) rfl rfl rfl ?_
      refine TO.bind fun R24 H25 => ?_
      refine TO.ef (Ef.call (rest := []) [0] (spec_l1Spoil_con ({ b := code, i := R20.2.i, h := R20.2.h : L1Cur }) T9.2.2 V_code0 Y3 R24 H25) kc28 rfl rfl ⟨(Base.can HB_V_code0), trivial⟩) rfl rfl rfl (fun _ => ?_)
      refine TO.y (Y.assign rfl) rfl rfl rfl ?_
      refine TO.nil ?_
      refine TE.next ?_
      refine TW.ret ?_
      refine TE.block_ret ?_
      refine TE.then_ret ?_
      exact TE.leaf fun _ _ hf_ hs_ => ret_any (rs := [.tmp 2]) (vs := [strV R24.1]) (.inl rfl) rfl ⟨rfl, trivial⟩ hf_ hs_ ⟨(), rfl, hs_.pulls [] rfl⟩
    · refine TW.seq ?_
      refine TW.region ?_
      refine TO.y (Y.eql rfl rfl) rfl rfl rfl ?_
      refine TO.y (Y.assign rfl) rfl rfl rfl ?_
      refine TO.nil ?_
      refine TE.next ?_
      refine TW.cond rfl (fun H27 => ?_) (fun H27 => ?_)
      · refine TW.seq ?_
        refine TW.region ?_
        refine TO.y (Y.move rfl) rfl rfl rfl ?_
        refine TO.y (Y.move rfl) rfl rfl rfl ?_
        refine TO.bind fun R28 H29 => ?_
        refine TO.ef (Ef.call (rest := []) [0] (spec_l1Text_con ({ b := code, i := R20.2.i, h := R20.2.h : L1Cur }) (9 : Int) V_code0 Y3 R28 H29) kc29 rfl rfl ⟨(Base.can HB_V_code0), trivial⟩) rfl rfl rfl (fun _ => ?_)
        refine TO.bind fun E31 H32 => ?_
        refine TO.y (Y.cat H32 rfl rfl) rfl rfl rfl ?_
        refine TO.y (Y.assign rfl) rfl rfl rfl ?_
        refine TO.nil ?_
        refine TE.next ?_
        refine TW.ret ?_
        refine TE.block_ret ?_
        refine TE.then_ret ?_
        exact TE.leaf fun _ _ hf_ hs_ => ret_any (rs := [.tmp 2]) (vs := [strV E31]) (.inl rfl) rfl ⟨rfl, trivial⟩ hf_ hs_ ⟨(), rfl, hs_.pulls [] rfl⟩
      · refine TW.seq ?_
        refine TW.region ?_
        refine TO.y (Y.eql rfl rfl) rfl rfl rfl ?_
        refine TO.y (Y.assign rfl) rfl rfl rfl ?_
        refine TO.nil ?_
        refine TE.next ?_
        refine TW.cond rfl (fun H33 => ?_) (fun H33 => ?_)
        · refine TW.seq ?_
          refine TW.region ?_
          refine TO.y (Y.move rfl) rfl rfl rfl ?_
          refine TO.y (Y.move rfl) rfl rfl rfl ?_
          refine TO.y (Y.move rfl) rfl rfl rfl ?_
          refine TO.y (Y.slen ks9 rfl) rfl rfl rfl ?_
          refine TO.y (Y.add rfl rfl) rfl rfl rfl ?_
          refine TO.bind fun R34 H35 => ?_
          refine TO.ef (Ef.call (rest := []) [0] (spec_l1Below_con ({ b := code, i := R20.2.i, h := R20.2.h : L1Cur }) (IntKind.i64.wrap (((T9.2.2.length : Nat) : Int) + (1 : Int))) V_code0 Y3 R34 H35) kc25 rfl rfl ⟨(Base.can HB_V_code0), trivial⟩) rfl rfl rfl (fun _ => ?_)
          refine TO.bind fun E37 H38 => ?_
          refine TO.y (Y.ssub_to H38 ks9 rfl rfl) rfl rfl rfl ?_
          refine TO.y (Y.assign rfl) rfl rfl rfl ?_
          refine TO.nil ?_
          refine TE.next ?_
          refine TW.ret ?_
          refine TE.block_ret ?_
          refine TE.then_ret ?_
          exact TE.leaf fun _ _ hf_ hs_ => ret_any (rs := [.tmp 2]) (vs := [strV E37]) (.inl rfl) rfl ⟨rfl, trivial⟩ hf_ hs_ ⟨(), rfl, hs_.pulls [] rfl⟩
        · refine TW.skip ?_
          refine TE.block_normal ?_
          refine TE.next ?_
          refine TW.seq ?_
          refine TW.region ?_
          refine TO.y (Y.move rfl) rfl rfl rfl ?_
          refine TO.y (Y.assign rfl) rfl rfl rfl ?_
          refine TO.nil ?_
          refine TE.next ?_
          refine TW.ret ?_
          exact TE.leaf fun _ _ hf_ hs_ => ret_any (rs := [.tmp 2]) (vs := [strV T9.2.2]) (.inl rfl) rfl ⟨rfl, trivial⟩ hf_ hs_ ⟨(), rfl, hs_.pulls [] rfl⟩

/-- (*loop.example/g00950/impl.reader).bytes -/
noncomputable def impl_reader_bytes (r_ : Reader) (n : Int) : Option (List UInt8 × Reader) :=
  (if r_.bad = true then (some true)
  else (some (decide (n > IntKind.i64.wrap (((r_.text.length : Nat) : Int) - r_.at_))))).bind (fun (T1 : Bool) =>
  if T1 = true then (some ([], { text := r_.text, at_ := r_.at_, bad := true : Reader }))
  else ((ssub r_.text (IntKind.i64.wrap (IntKind.i64.wrap (r_.at_ + n) - n)) (IntKind.i64.wrap (r_.at_ + n))).bind fun E5 =>
  some (E5, { text := r_.text, at_ := IntKind.i64.wrap (r_.at_ + n), bad := r_.bad : Reader })))

theorem impl_reader_bytes_con (r_ : Reader) (n : Int) (B_r_ : Nat) (r : List UInt8 × Reader) (hm : impl_reader_bytes r_ n = some r) :
    Con Try.prog 63 [.pointer (some ⟨B_r_, 0, none⟩), .int .i64 n] [.box B_r_ 81 [strV r_.text, .int .i64 r_.at_, .bool r_.bad]] [] (fun _ : Unit => strV r.1) (fun _ => [.box B_r_ 81 [strV r.2.text, .int .i64 r.2.at_, .bool r.2.bad]]) := by
  refine Con.intro (args := [.pointer (some ⟨B_r_, 0, none⟩), .int .i64 n]) (n := 49) (val := fun r (_ : Unit) => strV r.1) (post := fun r _ => [.box B_r_ 81 [strV r.2.text, .int .i64 r.2.at_, .bool r.2.bad]]) (m := impl_reader_bytes r_ n) Try.func63 rfl rfl rfl hm ?_
  intro w S _
  unfold impl_reader_bytes
  refine TW.seq ?_
  refine TW.region ?_
  refine TO.y (Y.assign rfl) rfl rfl rfl ?_
  refine TO.nil ?_
  refine TE.next ?_
  refine TW.seq ?_
  refine TW.seq ?_
  refine TW.joinBX (τ := Bool) (X := Unit) (fun T _ => [(0, .pointer (some ⟨B_r_, 0, none⟩)), (1, .int .i64 n), (22, .bool T)]) (fun _ _ => [.box B_r_ 81 [strV r_.text, .int .i64 r_.at_, .bool r_.bad]]) ?_ (fun T1 X2 => ?_)
  · refine TW.draw (isH := [.box B_r_ 81 [strV r_.text, .int .i64 r_.at_, .bool r_.bad]]) hMix ?_
    refine TA.y (listed' := #[true, false, false, false, false, false, false, false, false, false, false, false, false, false, false, false, false, false]) 0 [0] rfl (Y.move rfl) rfl rfl rfl (by kernel_rfl) (by kernel_rfl) (by kernel_rfl) rfl rfl ?_
    refine TA.y (listed' := #[true, true, false, false, false, false, false, false, false, false, false, false, false, false, false, false, false, false]) 1 [0] rfl (Y.nilCheck rfl) rfl rfl rfl (by kernel_rfl) (by kernel_rfl) (by kernel_rfl) rfl rfl ?_
    refine TA.y (listed' := #[true, true, true, false, false, false, false, false, false, false, false, false, false, false, false, false, false, false]) 2 [0] rfl (Y.field_box kf81_2 rfl rfl) rfl rfl rfl (by kernel_rfl) (by kernel_rfl) (by kernel_rfl) rfl rfl ?_
    refine TA.y (listed' := #[true, true, true, true, false, false, false, false, false, false, false, false, false, false, false, false, false, false]) 3 [0] rfl (Y.load_box (v := .bool r_.bad) 0 kk4 rfl rfl rfl) rfl rfl rfl (by kernel_rfl) (by kernel_rfl) (by kernel_rfl) rfl rfl ?_
    refine TA.y (listed' := #[true, true, true, true, true, false, false, false, false, false, false, false, false, false, false, false, false, false]) 4 [0] rfl (Y.move rfl) rfl rfl rfl (by kernel_rfl) (by kernel_rfl) (by kernel_rfl) rfl rfl ?_
    refine TA.ite (b := r_.bad) (fun H3 => ?_) (fun H3 => ?_)
    · refine TA.off (listed' := #[true, true, true, true, true, true, false, false, false, false, false, false, false, false, false, false, false, false]) 5 [0] rfl (Gd.at 4 false 9 r_.bad rfl rfl rfl (beq_tf H3)) rfl rfl (by kernel_rfl) (by kernel_rfl) (by kernel_rfl) rfl rfl ?_
      refine TA.off (listed' := #[true, true, true, true, true, true, true, false, false, false, false, false, false, false, false, false, false, false]) 6 [0] rfl (Gd.at 4 false 9 r_.bad rfl rfl rfl (beq_tf H3)) rfl rfl (by kernel_rfl) (by kernel_rfl) (by kernel_rfl) rfl rfl ?_
      refine TA.off (listed' := #[true, true, true, true, true, true, true, true, false, false, false, false, false, false, false, false, false, false]) 7 [0] rfl (Gd.at 4 false 9 r_.bad rfl rfl rfl (beq_tf H3)) rfl rfl (by kernel_rfl) (by kernel_rfl) (by kernel_rfl) rfl rfl ?_
      refine TA.off (listed' := #[true, true, true, true, true, true, true, true, true, false, false, false, false, false, false, false, false, false]) 8 [0] rfl (Gd.at 4 false 9 r_.bad rfl rfl rfl (beq_tf H3)) rfl rfl (by kernel_rfl) (by kernel_rfl) (by kernel_rfl) rfl rfl ?_
      refine TA.off (listed' := #[true, true, true, true, true, true, true, true, true, true, false, false, false, false, false, false, false, false]) 9 [0] rfl (Gd.at 4 false 9 r_.bad rfl rfl rfl (beq_tf H3)) rfl rfl (by kernel_rfl) (by kernel_rfl) (by kernel_rfl) rfl rfl ?_
      refine TA.off (listed' := #[true, true, true, true, true, true, true, true, true, true, true, false, false, false, false, false, false, false]) 10 [0] rfl (Gd.at 4 false 9 r_.bad rfl rfl rfl (beq_tf H3)) rfl rfl (by kernel_rfl) (by kernel_rfl) (by kernel_rfl) rfl rfl ?_
      refine TA.off (listed' := #[true, true, true, true, true, true, true, true, true, true, true, true, false, false, false, false, false, false]) 11 [0] rfl (Gd.at 4 false 9 r_.bad rfl rfl rfl (beq_tf H3)) rfl rfl (by kernel_rfl) (by kernel_rfl) (by kernel_rfl) rfl rfl ?_
      refine TA.off (listed' := #[true, true, true, true, true, true, true, true, true, true, true, true, true, false, false, false, false, false]) 12 [0] rfl (Gd.at 4 false 9 r_.bad rfl rfl rfl (beq_tf H3)) rfl rfl (by kernel_rfl) (by kernel_rfl) (by kernel_rfl) rfl rfl ?_
      refine TA.off (listed' := #[true, true, true, true, true, true, true, true, true, true, true, true, true, true, false, false, false, false]) 13 [0] rfl (Gd.at 4 false 9 r_.bad rfl rfl rfl (beq_tf H3)) rfl rfl (by kernel_rfl) (by kernel_rfl) (by kernel_rfl) rfl rfl ?_
      refine TA.off (listed' := #[true, true, true, true, true, true, true, true, true, true, true, true, true, true, true, false, false, false]) 14 [0] rfl (Gd.at 4 false 9 r_.bad rfl rfl rfl (beq_tf H3)) rfl rfl (by kernel_rfl) (by kernel_rfl) (by kernel_rfl) rfl rfl ?_
      refine TA.off (listed' := #[true, true, true, true, true, true, true, true, true, true, true, true, true, true, true, true, false, false]) 15 [0] rfl (Gd.at 4 false 9 r_.bad rfl rfl rfl (beq_tf H3)) rfl rfl (by kernel_rfl) (by kernel_rfl) (by kernel_rfl) rfl rfl ?_
      refine TA.off (listed' := #[true, true, true, true, true, true, true, true, true, true, true, true, true, true, true, true, true, false]) 16 [0] rfl (Gd.at 4 false 9 r_.bad rfl rfl rfl (beq_tf H3)) rfl rfl (by kernel_rfl) (by kernel_rfl) (by kernel_rfl) rfl rfl ?_
      refine TA.y (listed' := #[true, true, true, true, true, true, true, true, true, true, true, true, true, true, true, true, true, true]) 17 [0] rfl (Y.pick_t H3 rfl rfl) rfl rfl rfl (by kernel_rfl) (by kernel_rfl) (by kernel_rfl) rfl rfl ?_
      refine TA.nil (by kernel_rfl) ?_
      exact TE.jb_go () [0] ⟨rfl, rfl, rfl, trivial⟩ rfl
    · refine TA.y (listed' := #[true, true, true, true, true, true, false, false, false, false, false, false, false, false, false, false, false, false]) 5 [0] rfl (Y.move rfl) (Gd.at 4 false 9 r_.bad rfl rfl rfl (beq_ff H3)) rfl rfl (by kernel_rfl) (by kernel_rfl) (by kernel_rfl) rfl rfl ?_
      refine TA.y (listed' := #[true, true, true, true, true, true, true, false, false, false, false, false, false, false, false, false, false, false]) 6 [0] rfl (Y.move rfl) (Gd.at 4 false 9 r_.bad rfl rfl rfl (beq_ff H3)) rfl rfl (by kernel_rfl) (by kernel_rfl) (by kernel_rfl) rfl rfl ?_
      refine TA.y (listed' := #[true, true, true, true, true, true, true, true, false, false, false, false, false, false, false, false, false, false]) 7 [0] rfl (Y.nilCheck rfl) (Gd.at 4 false 9 r_.bad rfl rfl rfl (beq_ff H3)) rfl rfl (by kernel_rfl) (by kernel_rfl) (by kernel_rfl) rfl rfl ?_
      refine TA.y (listed' := #[true, true, true, true, true, true, true, true, true, false, false, false, false, false, false, false, false, false]) 8 [0] rfl (Y.field_box kf81_0 rfl rfl) (Gd.at 4 false 9 r_.bad rfl rfl rfl (beq_ff H3)) rfl rfl (by kernel_rfl) (by kernel_rfl) (by kernel_rfl) rfl rfl ?_
      refine TA.y (listed' := #[true, true, true, true, true, true, true, true, true, true, false, false, false, false, false, false, false, false]) 9 [0] rfl (Y.load_box (v := strV r_.text) 0 kk9 rfl rfl rfl) (Gd.at 4 false 9 r_.bad rfl rfl rfl (beq_ff H3)) rfl rfl (by kernel_rfl) (by kernel_rfl) (by kernel_rfl) rfl rfl ?_
      refine TA.y (listed' := #[true, true, true, true, true, true, true, true, true, true, true, false, false, false, false, false, false, false]) 10 [0] rfl (Y.slen ks9 rfl) (Gd.at 4 false 9 r_.bad rfl rfl rfl (beq_ff H3)) rfl rfl (by kernel_rfl) (by kernel_rfl) (by kernel_rfl) rfl rfl ?_
      refine TA.y (listed' := #[true, true, true, true, true, true, true, true, true, true, true, true, false, false, false, false, false, false]) 11 [0] rfl (Y.move rfl) (Gd.at 4 false 9 r_.bad rfl rfl rfl (beq_ff H3)) rfl rfl (by kernel_rfl) (by kernel_rfl) (by kernel_rfl) rfl rfl ?_
      refine TA.y (listed' := #[true, true, true, true, true, true, true, true, true, true, true, true, true, false, false, false, false, false]) 12 [0] rfl (Y.nilCheck rfl) (Gd.at 4 false 9 r_.bad rfl rfl rfl (beq_ff H3)) rfl rfl (by kernel_rfl) (by kernel_rfl) (by kernel_rfl) rfl rfl ?_
      refine TA.y (listed' := #[true, true, true, true, true, true, true, true, true, true, true, true, true, true, false, false, false, false]) 13 [0] rfl (Y.field_box kf81_1 rfl rfl) (Gd.at 4 false 9 r_.bad rfl rfl rfl (beq_ff H3)) rfl rfl (by kernel_rfl) (by kernel_rfl) (by kernel_rfl) rfl rfl ?_
      refine TA.y (listed' := #[true, true, true, true, true, true, true, true, true, true, true, true, true, true, true, false, false, false]) 14 [0] rfl (Y.load_box (v := .int .i64 r_.at_) 0 kk3 rfl rfl rfl) (Gd.at 4 false 9 r_.bad rfl rfl rfl (beq_ff H3)) rfl rfl (by kernel_rfl) (by kernel_rfl) (by kernel_rfl) rfl rfl ?_
      refine TA.y (listed' := #[true, true, true, true, true, true, true, true, true, true, true, true, true, true, true, true, false, false]) 15 [0] rfl (Y.sub rfl rfl) (Gd.at 4 false 9 r_.bad rfl rfl rfl (beq_ff H3)) rfl rfl (by kernel_rfl) (by kernel_rfl) (by kernel_rfl) rfl rfl ?_
      refine TA.y (listed' := #[true, true, true, true, true, true, true, true, true, true, true, true, true, true, true, true, true, false]) 16 [0] rfl (Y.gtr rfl rfl) (Gd.at 4 false 9 r_.bad rfl rfl rfl (beq_ff H3)) rfl rfl (by kernel_rfl) (by kernel_rfl) (by kernel_rfl) rfl rfl ?_
      refine TA.y (listed' := #[true, true, true, true, true, true, true, true, true, true, true, true, true, true, true, true, true, true]) 17 [0] rfl (Y.pick_f H3 rfl rfl) rfl rfl rfl (by kernel_rfl) (by kernel_rfl) (by kernel_rfl) rfl rfl ?_
      refine TA.nil (by kernel_rfl) ?_
      exact TE.jb_go () [0] ⟨rfl, rfl, rfl, trivial⟩ rfl
  · refine TE.next ?_
    refine TW.cond rfl (fun H4 => ?_) (fun H4 => ?_)
    · refine TW.seq ?_
      refine TW.region ?_
      refine TO.y (Y.move rfl) rfl rfl rfl ?_
      refine TO.y (Y.nilCheck rfl) rfl rfl rfl ?_
      refine TO.y (Y.field_box kf81_2 rfl rfl) rfl rfl rfl ?_
      refine TO.ef0 (Ef.store_box (us := [.bool true]) (vs' := [strV r_.text, .int .i64 r_.at_, .bool true]) (is' := [.box B_r_ 81 [strV r_.text, .int .i64 r_.at_, .bool true]]) 0 kk4 rfl rfl rfl (Cel.plain rfl rfl) rfl rfl rfl rfl) rfl rfl (fun _ => ?_)
      refine TO.nil ?_
      refine TE.next ?_
      refine TW.seq ?_
      refine TW.region ?_
      refine TO.y (Y.assign rfl) rfl rfl rfl ?_
      refine TO.nil ?_
      refine TE.next ?_
      refine TW.ret ?_
      refine TE.then_ret ?_
      exact TE.leaf fun _ _ hf_ hs_ => ret_any (rs := [.tmp 4]) (vs := [strV ([])]) (.inl rfl) rfl ⟨rfl, trivial⟩ hf_ hs_ ⟨(), rfl, hs_.pulls [0] rfl⟩
    · refine TW.skip ?_
      refine TE.next ?_
      refine TW.seq ?_
      refine TW.region ?_
      refine TO.y (Y.move rfl) rfl rfl rfl ?_
      refine TO.y (Y.nilCheck rfl) rfl rfl rfl ?_
      refine TO.y (Y.field_box kf81_1 rfl rfl) rfl rfl rfl ?_
      refine TO.y (Y.load_box (v := .int .i64 r_.at_) 0 kk3 rfl rfl rfl) rfl rfl rfl ?_
      refine TO.y (Y.move rfl) rfl rfl rfl ?_
      refine TO.y (Y.add rfl rfl) rfl rfl rfl ?_
      refine TO.y (Y.nilCheck rfl) rfl rfl rfl ?_
      refine TO.y (Y.field_box kf81_1 rfl rfl) rfl rfl rfl ?_
      refine TO.ef0 (Ef.store_box (us := [.int .i64 (IntKind.i64.wrap (r_.at_ + n))]) (vs' := [strV r_.text, .int .i64 (IntKind.i64.wrap (r_.at_ + n)), .bool r_.bad]) (is' := [.box B_r_ 81 [strV r_.text, .int .i64 (IntKind.i64.wrap (r_.at_ + n)), .bool r_.bad]]) 0 kk3 rfl rfl rfl (Cel.plain rfl rfl) rfl rfl rfl rfl) rfl rfl (fun _ => ?_)
      refine TO.nil ?_
      refine TE.next ?_
      refine TW.seq ?_
      refine TW.draw (isH := [.box B_r_ 81 [strV r_.text, .int .i64 (IntKind.i64.wrap (r_.at_ + n)), .bool r_.bad]]) hMix ?_
      refine TA.y (listed' := #[true, false, false, false, false, false, false, false, false, false, false, false, false, false, false, false]) 0 [0] rfl (Y.move rfl) rfl rfl rfl (by kernel_rfl) (by kernel_rfl) (by kernel_rfl) rfl rfl ?_
      refine TA.y (listed' := #[true, true, false, false, false, false, false, false, false, false, false, false, false, false, false, false]) 1 [0] rfl (Y.nilCheck rfl) rfl rfl rfl (by kernel_rfl) (by kernel_rfl) (by kernel_rfl) rfl rfl ?_
      refine TA.y (listed' := #[true, true, true, false, false, false, false, false, false, false, false, false, false, false, false, false]) 2 [0] rfl (Y.field_box kf81_0 rfl rfl) rfl rfl rfl (by kernel_rfl) (by kernel_rfl) (by kernel_rfl) rfl rfl ?_
      refine TA.y (listed' := #[true, true, true, true, false, false, false, false, false, false, false, false, false, false, false, false]) 3 [0] rfl (Y.load_box (v := strV r_.text) 0 kk9 rfl rfl rfl) rfl rfl rfl (by kernel_rfl) (by kernel_rfl) (by kernel_rfl) rfl rfl ?_
      refine TA.y (listed' := #[true, true, true, true, true, false, false, false, false, false, false, false, false, false, false, false]) 4 [0] rfl (Y.move rfl) rfl rfl rfl (by kernel_rfl) (by kernel_rfl) (by kernel_rfl) rfl rfl ?_
      refine TA.y (listed' := #[true, true, true, true, true, true, false, false, false, false, false, false, false, false, false, false]) 5 [0] rfl (Y.nilCheck rfl) rfl rfl rfl (by kernel_rfl) (by kernel_rfl) (by kernel_rfl) rfl rfl ?_
      refine TA.y (listed' := #[true, true, true, true, true, true, true, false, false, false, false, false, false, false, false, false]) 6 [0] rfl (Y.field_box kf81_1 rfl rfl) rfl rfl rfl (by kernel_rfl) (by kernel_rfl) (by kernel_rfl) rfl rfl ?_
      refine TA.y (listed' := #[true, true, true, true, true, true, true, true, false, false, false, false, false, false, false, false]) 7 [0] rfl (Y.load_box (v := .int .i64 (IntKind.i64.wrap (r_.at_ + n))) 0 kk3 rfl rfl rfl) rfl rfl rfl (by kernel_rfl) (by kernel_rfl) (by kernel_rfl) rfl rfl ?_
      refine TA.y (listed' := #[true, true, true, true, true, true, true, true, true, false, false, false, false, false, false, false]) 8 [0] rfl (Y.move rfl) rfl rfl rfl (by kernel_rfl) (by kernel_rfl) (by kernel_rfl) rfl rfl ?_
      refine TA.y (listed' := #[true, true, true, true, true, true, true, true, true, true, false, false, false, false, false, false]) 9 [0] rfl (Y.sub rfl rfl) rfl rfl rfl (by kernel_rfl) (by kernel_rfl) (by kernel_rfl) rfl rfl ?_
      refine TA.y (listed' := #[true, true, true, true, true, true, true, true, true, true, true, false, false, false, false, false]) 10 [0] rfl (Y.move rfl) rfl rfl rfl (by kernel_rfl) (by kernel_rfl) (by kernel_rfl) rfl rfl ?_
      refine TA.y (listed' := #[true, true, true, true, true, true, true, true, true, true, true, true, false, false, false, false]) 11 [0] rfl (Y.nilCheck rfl) rfl rfl rfl (by kernel_rfl) (by kernel_rfl) (by kernel_rfl) rfl rfl ?_
      refine TA.y (listed' := #[true, true, true, true, true, true, true, true, true, true, true, true, true, false, false, false]) 12 [0] rfl (Y.field_box kf81_1 rfl rfl) rfl rfl rfl (by kernel_rfl) (by kernel_rfl) (by kernel_rfl) rfl rfl ?_
      refine TA.y (listed' := #[true, true, true, true, true, true, true, true, true, true, true, true, true, true, false, false]) 13 [0] rfl (Y.load_box (v := .int .i64 (IntKind.i64.wrap (r_.at_ + n))) 0 kk3 rfl rfl rfl) rfl rfl rfl (by kernel_rfl) (by kernel_rfl) (by kernel_rfl) rfl rfl ?_
      refine TA.bind fun E5 H6 => ?_
      refine TA.y (listed' := #[true, true, true, true, true, true, true, true, true, true, true, true, true, true, true, false]) 14 [0] rfl (Y.ssub_both H6 ks9 rfl rfl rfl) rfl rfl rfl (by kernel_rfl) (by kernel_rfl) (by kernel_rfl) rfl rfl ?_
      refine TA.y (listed' := #[true, true, true, true, true, true, true, true, true, true, true, true, true, true, true, true]) 15 [0] rfl (Y.assign rfl) rfl rfl rfl (by kernel_rfl) (by kernel_rfl) (by kernel_rfl) rfl rfl ?_
      refine TA.nil (by kernel_rfl) ?_
      refine TE.next ?_
      refine TW.ret ?_
      exact TE.leaf fun _ _ hf_ hs_ => ret_any (rs := [.tmp 4]) (vs := [strV E5]) (.inl rfl) rfl ⟨rfl, trivial⟩ hf_ hs_ ⟨(), rfl, hs_.pulls [0] rfl⟩

/-- loop.example/g00950/impl.ReadVar -/
noncomputable def impl_ReadVar (s : List UInt8) : Option (Int × Int) :=
  bindC (loopO (fun (S1 : Int × Int) => (if (decide (S1.2 < (7 : Int))) = true then (some (decide (S1.2 < ((s.length : Nat) : Int))))
  else (some false)).bind (fun (T5 : Bool) =>
  if T5 = true then ((sidx s S1.2).bind fun E9 =>
  if (decide (((E9.toNat : Nat) : Int) ≥ (128 : Int))) = true then (some (.go (ior .i64 S1.1 (ishl .i64 (IntKind.i64.wrap (iand .u8 ((E9.toNat : Nat) : Int) (127 : Int))) (IntKind.u64.wrap (IntKind.i64.wrap ((7 : Int) * S1.2)))), IntKind.i64.wrap (S1.2 + (1 : Int)))))
  else ((if (decide (((E9.toNat : Nat) : Int) = (0 : Int))) = true then (some (decide (S1.2 > (0 : Int))))
  else (some false)).bind (fun (T12 : Bool) =>
  if T12 = true then (some (.done (.done ((0 : Int), (0 : Int)))))
  else (some (.done (.done (ior .i64 S1.1 (ishl .i64 (IntKind.i64.wrap (iand .u8 ((E9.toNat : Nat) : Int) (127 : Int))) (IntKind.u64.wrap (IntKind.i64.wrap ((7 : Int) * S1.2)))), IntKind.i64.wrap (S1.2 + (1 : Int)))))))))
  else (some (.done (.go ())))))
  ((0 : Int), (0 : Int)))
  (fun (T3 : Unit) => some ((0 : Int), (0 : Int)))

theorem impl_ReadVar_con (s : List UInt8)  (r : Int × Int) (hm : impl_ReadVar s = some r) :
    Con Try.prog 88 [strV s] [] [] (fun _ : Unit => .tuple #[.int .i64 r.1, .int .i64 r.2]) (fun _ => []) := by
  refine Con.intro (args := [strV s]) (n := 42) (val := fun r (_ : Unit) => .tuple #[.int .i64 r.1, .int .i64 r.2]) (post := fun _ _ => []) (m := impl_ReadVar s) Try.func88 rfl rfl rfl hm ?_
  intro w S _
  unfold impl_ReadVar
  refine TW.seq ?_
  refine TW.region ?_
  refine TO.y (Y.assign rfl) rfl rfl rfl ?_
  refine TO.y (Y.assign rfl) rfl rfl rfl ?_
  refine TO.nil ?_
  refine TE.next ?_
  refine TW.seq ?_
  refine TW.region ?_
  refine TO.y (Y.assign rfl) rfl rfl rfl ?_
  refine TO.nil ?_
  refine TE.next ?_
  refine TW.seq ?_
  refine TW.seq ?_
  refine TW.region ?_
  refine TO.y (Y.assign rfl) rfl rfl rfl ?_
  refine TO.nil ?_
  refine TE.next ?_
  refine TW.joinX (τ := Unit) (X := Unit) (fun _ _ => []) (fun _ _ => []) ?_ (fun T3 X4 => ?_)
  · refine TW.block ?_
    refine TW.loopX (σ := Int × Int) (X := Unit) (fun T _ => [(0, strV s), (4, .int .i64 T.1), (5, .int .i64 T.2)]) (fun _ _ => []) () [] ⟨rfl, rfl, rfl, trivial⟩ rfl (fun S1 X2 => ?_)
    refine TW.seq ?_
    refine TW.seq ?_
    refine TW.joinBX (τ := Bool) (X := Unit) (fun T _ => [(0, strV s), (4, .int .i64 S1.1), (5, .int .i64 S1.2), (13, .bool T)]) (fun _ _ => []) ?_ (fun T5 X6 => ?_)
    · refine TW.region ?_
      refine TO.y (Y.move rfl) rfl rfl rfl ?_
      refine TO.y (Y.lss rfl rfl) rfl rfl rfl ?_
      refine TO.y (Y.move rfl) rfl rfl rfl ?_
      refine TO.ite (b := decide (S1.2 < (7 : Int))) (fun H7 => ?_) (fun H7 => ?_)
      · refine TO.y (Y.move rfl) (Gd.at 2 true 8 (decide (S1.2 < (7 : Int))) rfl rfl rfl (beq_tt H7)) rfl rfl ?_
        refine TO.y (Y.move rfl) (Gd.at 2 true 8 (decide (S1.2 < (7 : Int))) rfl rfl rfl (beq_tt H7)) rfl rfl ?_
        refine TO.y (Y.slen ks9 rfl) (Gd.at 2 true 8 (decide (S1.2 < (7 : Int))) rfl rfl rfl (beq_tt H7)) rfl rfl ?_
        refine TO.y (Y.lss rfl rfl) (Gd.at 2 true 8 (decide (S1.2 < (7 : Int))) rfl rfl rfl (beq_tt H7)) rfl rfl ?_
        refine TO.y (Y.pick_t H7 rfl rfl) rfl rfl rfl ?_
        refine TO.nil ?_
        exact TE.jb_go () [] ⟨rfl, rfl, rfl, rfl, trivial⟩ rfl
      · refine TO.off (Gd.at 2 true 8 (decide (S1.2 < (7 : Int))) rfl rfl rfl (beq_ft H7)) rfl rfl ?_
        refine TO.off (Gd.at 2 true 8 (decide (S1.2 < (7 : Int))) rfl rfl rfl (beq_ft H7)) rfl rfl ?_
        refine TO.off (Gd.at 2 true 8 (decide (S1.2 < (7 : Int))) rfl rfl rfl (beq_ft H7)) rfl rfl ?_
        refine TO.off (Gd.at 2 true 8 (decide (S1.2 < (7 : Int))) rfl rfl rfl (beq_ft H7)) rfl rfl ?_
        refine TO.y (Y.pick_f H7 rfl rfl) rfl rfl rfl ?_
        refine TO.nil ?_
        exact TE.jb_go () [] ⟨rfl, rfl, rfl, rfl, trivial⟩ rfl
    · refine TE.next ?_
      refine TW.cond rfl (fun H8 => ?_) (fun H8 => ?_)
      · refine TW.skip ?_
        refine TE.next ?_
        refine TW.seq ?_
        refine TW.block ?_
        refine TW.seq ?_
        refine TW.region ?_
        refine TO.y (Y.move rfl) rfl rfl rfl ?_
        refine TO.y (Y.move rfl) rfl rfl rfl ?_
        refine TO.y (Y.move rfl) rfl rfl rfl ?_
        refine TO.bind fun E9 H10 => ?_
        refine TO.y (Y.sidx H10 ks9 rfl rfl) rfl rfl rfl ?_
        refine TO.y (Y.and rfl rfl) rfl rfl rfl ?_
        refine TO.y (Y.conv ki5 ki3 rfl) rfl rfl rfl ?_
        refine TO.y (Y.move rfl) rfl rfl rfl ?_
        refine TO.y (Y.mul rfl rfl) rfl rfl rfl ?_
        refine TO.y (Y.conv ki3 ki86 rfl) rfl rfl rfl ?_
        refine TO.y (Y.shl (wrap_u_nonneg rfl _) rfl rfl) rfl rfl rfl ?_
        refine TO.y (Y.or rfl rfl) rfl rfl rfl ?_
        refine TO.y (Y.assign rfl) rfl rfl rfl ?_
        refine TO.nil ?_
        refine TE.next ?_
        refine TW.seq ?_
        refine TW.seq ?_
        refine TW.region ?_
        refine TO.y (Y.move rfl) rfl rfl rfl ?_
        refine TO.y (Y.move rfl) rfl rfl rfl ?_
        refine TO.y (Y.sidx H10 ks9 rfl rfl) rfl rfl rfl ?_
        refine TO.y (Y.geq rfl rfl) rfl rfl rfl ?_
        refine TO.nil ?_
        refine TE.next ?_
        refine TW.cond rfl (fun H11 => ?_) (fun H11 => ?_)
        · refine TW.exit ?_
          refine TE.then_exit ?_
          refine TE.block_exit ?_
          refine TE.next ?_
          refine TW.region ?_
          refine TO.y (Y.move rfl) rfl rfl rfl ?_
          refine TO.y (Y.add rfl rfl) rfl rfl rfl ?_
          refine TO.y (Y.assign rfl) rfl rfl rfl ?_
          refine TO.nil ?_
          exact TE.lp_go () [] ⟨rfl, rfl, rfl, trivial⟩ rfl
        · refine TW.skip ?_
          refine TE.next ?_
          refine TW.seq ?_
          refine TW.seq ?_
          refine TW.joinBX (τ := Bool) (X := Unit) (fun T _ => [(4, .int .i64 (ior .i64 S1.1 (ishl .i64 (IntKind.i64.wrap (iand .u8 ((E9.toNat : Nat) : Int) (127 : Int))) (IntKind.u64.wrap (IntKind.i64.wrap ((7 : Int) * S1.2)))))), (5, .int .i64 S1.2), (38, .bool T)]) (fun _ _ => []) ?_ (fun T12 X13 => ?_)
          · refine TW.region ?_
            refine TO.y (Y.move rfl) rfl rfl rfl ?_
            refine TO.y (Y.move rfl) rfl rfl rfl ?_
            refine TO.y (Y.sidx H10 ks9 rfl rfl) rfl rfl rfl ?_
            refine TO.y (Y.eql rfl rfl) rfl rfl rfl ?_
            refine TO.y (Y.move rfl) rfl rfl rfl ?_
            refine TO.ite (b := decide (((E9.toNat : Nat) : Int) = (0 : Int))) (fun H14 => ?_) (fun H14 => ?_)
            · refine TO.y (Y.move rfl) (Gd.at 4 true 35 (decide (((E9.toNat : Nat) : Int) = (0 : Int))) rfl rfl rfl (beq_tt H14)) rfl rfl ?_
              refine TO.y (Y.gtr rfl rfl) (Gd.at 4 true 35 (decide (((E9.toNat : Nat) : Int) = (0 : Int))) rfl rfl rfl (beq_tt H14)) rfl rfl ?_
              refine TO.y (Y.pick_t H14 rfl rfl) rfl rfl rfl ?_
              refine TO.nil ?_
              exact TE.jb_go () [] ⟨rfl, rfl, rfl, trivial⟩ rfl
            · refine TO.off (Gd.at 4 true 35 (decide (((E9.toNat : Nat) : Int) = (0 : Int))) rfl rfl rfl (beq_ft H14)) rfl rfl ?_
              refine TO.off (Gd.at 4 true 35 (decide (((E9.toNat : Nat) : Int) = (0 : Int))) rfl rfl rfl (beq_ft H14)) rfl rfl ?_
              refine TO.y (Y.pick_f H14 rfl rfl) rfl rfl rfl ?_
              refine TO.nil ?_
              exact TE.jb_go () [] ⟨rfl, rfl, rfl, trivial⟩ rfl
          · refine TE.next ?_
            refine TW.cond rfl (fun H15 => ?_) (fun H15 => ?_)
            · refine TW.seq ?_
              refine TW.region ?_
              refine TO.y (Y.assign rfl) rfl rfl rfl ?_
              refine TO.y (Y.assign rfl) rfl rfl rfl ?_
              refine TO.nil ?_
              refine TE.next ?_
              refine TW.ret ?_
              refine TE.then_ret ?_
              refine TE.block_ret ?_
              refine TE.then_ret ?_
              refine TE.lp_ret ?_
              refine TE.block_ret ?_
              refine TE.jn_done ?_
              refine TE.then_ret ?_
              exact TE.leaf fun _ _ hf_ hs_ => ret_any (rs := [.tmp 2, .tmp 3]) (vs := [.int .i64 (0 : Int), .int .i64 (0 : Int)]) (.inl rfl) rfl ⟨rfl, ⟨rfl, trivial⟩⟩ hf_ hs_ ⟨(), rfl, hs_.pulls [] rfl⟩
            · refine TW.skip ?_
              refine TE.next ?_
              refine TW.seq ?_
              refine TW.region ?_
              refine TO.y (Y.move rfl) rfl rfl rfl ?_
              refine TO.y (Y.move rfl) rfl rfl rfl ?_
              refine TO.y (Y.add rfl rfl) rfl rfl rfl ?_
              refine TO.y (Y.assign rfl) rfl rfl rfl ?_
              refine TO.y (Y.assign rfl) rfl rfl rfl ?_
              refine TO.nil ?_
              refine TE.next ?_
              refine TW.ret ?_
              refine TE.block_ret ?_
              refine TE.then_ret ?_
              refine TE.lp_ret ?_
              refine TE.block_ret ?_
              refine TE.jn_done ?_
              refine TE.then_ret ?_
              exact TE.leaf fun _ _ hf_ hs_ => ret_any (rs := [.tmp 2, .tmp 3]) (vs := [.int .i64 (ior .i64 S1.1 (ishl .i64 (IntKind.i64.wrap (iand .u8 ((E9.toNat : Nat) : Int) (127 : Int))) (IntKind.u64.wrap (IntKind.i64.wrap ((7 : Int) * S1.2))))), .int .i64 (IntKind.i64.wrap (S1.2 + (1 : Int)))]) (.inl rfl) rfl ⟨rfl, ⟨rfl, trivial⟩⟩ hf_ hs_ ⟨(), rfl, hs_.pulls [] rfl⟩
      · refine TW.exit ?_
        refine TE.then_exit ?_
        refine TE.lp_exit ?_
        refine TE.block_exit ?_
        exact TE.jn_go () [] trivial rfl
  · refine TE.next ?_
    refine TW.seq ?_
    refine TW.region ?_
    refine TO.y (Y.assign rfl) rfl rfl rfl ?_
    refine TO.y (Y.assign rfl) rfl rfl rfl ?_
    refine TO.nil ?_
    refine TE.next ?_
    refine TW.ret ?_
    exact TE.leaf fun _ _ hf_ hs_ => ret_any (rs := [.tmp 2, .tmp 3]) (vs := [.int .i64 (0 : Int), .int .i64 (0 : Int)]) (.inl rfl) rfl ⟨rfl, ⟨rfl, trivial⟩⟩ hf_ hs_ ⟨(), rfl, hs_.pulls [] rfl⟩

/-- (*loop.example/g00950/impl.reader).number -/
noncomputable def impl_reader_number (r_ : Reader) : Option (Int × Reader) :=
  if r_.bad = true then (some ((0 : Int), r_))
  else ((ssub r_.text r_.at_ (r_.text.length : Int)).bind fun E2 =>
  (impl_ReadVar E2).bind fun R4 =>
  if (decide (R4.2 = (0 : Int))) = true then (some ((0 : Int), { text := r_.text, at_ := r_.at_, bad := true : Reader }))
  else (some (R4.1, { text := r_.text, at_ := IntKind.i64.wrap (r_.at_ + R4.2), bad := r_.bad : Reader })))

theorem impl_reader_number_con (r_ : Reader) (B_r_ : Nat) (r : Int × Reader) (hm : impl_reader_number r_ = some r) :
    Con Try.prog 64 [.pointer (some ⟨B_r_, 0, none⟩)] [.box B_r_ 81 [strV r_.text, .int .i64 r_.at_, .bool r_.bad]] [] (fun _ : Unit => .int .i64 r.1) (fun _ => [.box B_r_ 81 [strV r.2.text, .int .i64 r.2.at_, .bool r.2.bad]]) := by
  refine Con.intro (args := [.pointer (some ⟨B_r_, 0, none⟩)]) (n := 36) (val := fun r (_ : Unit) => .int .i64 r.1) (post := fun r _ => [.box B_r_ 81 [strV r.2.text, .int .i64 r.2.at_, .bool r.2.bad]]) (m := impl_reader_number r_) Try.func64 rfl rfl rfl hm ?_
  intro w S _
  unfold impl_reader_number
  refine TW.seq ?_
  refine TW.region ?_
  refine TO.y (Y.assign rfl) rfl rfl rfl ?_
  refine TO.nil ?_
  refine TE.next ?_
  refine TW.seq ?_
  refine TW.seq ?_
  refine TW.region ?_
  refine TO.y (Y.move rfl) rfl rfl rfl ?_
  refine TO.y (Y.nilCheck rfl) rfl rfl rfl ?_
  refine TO.y (Y.field_box kf81_2 rfl rfl) rfl rfl rfl ?_
  refine TO.y (Y.load_box (v := .bool r_.bad) 0 kk4 rfl rfl rfl) rfl rfl rfl ?_
  refine TO.nil ?_
  refine TE.next ?_
  refine TW.cond rfl (fun H1 => ?_) (fun H1 => ?_)
  · refine TW.seq ?_
    refine TW.region ?_
    refine TO.y (Y.assign rfl) rfl rfl rfl ?_
    refine TO.nil ?_
    refine TE.next ?_
    refine TW.ret ?_
    refine TE.then_ret ?_
    exact TE.leaf fun _ _ hf_ hs_ => ret_any (rs := [.tmp 2]) (vs := [.int .i64 (0 : Int)]) (.inl rfl) rfl ⟨rfl, trivial⟩ hf_ hs_ ⟨(), rfl, hs_.pulls [0] rfl⟩
  · refine TW.skip ?_
    refine TE.next ?_
    refine TW.seq ?_
    refine TW.draw (isH := [.box B_r_ 81 [strV r_.text, .int .i64 r_.at_, .bool r_.bad]]) hMix ?_
    refine TA.y (listed' := #[true, false, false, false, false, false, false, false, false, false, false, false, false, false, false]) 0 [0] rfl (Y.move rfl) rfl rfl rfl (by kernel_rfl) (by kernel_rfl) (by kernel_rfl) rfl rfl ?_
    refine TA.y (listed' := #[true, true, false, false, false, false, false, false, false, false, false, false, false, false, false]) 1 [0] rfl (Y.nilCheck rfl) rfl rfl rfl (by kernel_rfl) (by kernel_rfl) (by kernel_rfl) rfl rfl ?_
    refine TA.y (listed' := #[true, true, true, false, false, false, false, false, false, false, false, false, false, false, false]) 2 [0] rfl (Y.field_box kf81_0 rfl rfl) rfl rfl rfl (by kernel_rfl) (by kernel_rfl) (by kernel_rfl) rfl rfl ?_
    refine TA.y (listed' := #[true, true, true, true, false, false, false, false, false, false, false, false, false, false, false]) 3 [0] rfl (Y.load_box (v := strV r_.text) 0 kk9 rfl rfl rfl) rfl rfl rfl (by kernel_rfl) (by kernel_rfl) (by kernel_rfl) rfl rfl ?_
    refine TA.y (listed' := #[true, true, true, true, true, false, false, false, false, false, false, false, false, false, false]) 4 [0] rfl (Y.move rfl) rfl rfl rfl (by kernel_rfl) (by kernel_rfl) (by kernel_rfl) rfl rfl ?_
    refine TA.y (listed' := #[true, true, true, true, true, true, false, false, false, false, false, false, false, false, false]) 5 [0] rfl (Y.nilCheck rfl) rfl rfl rfl (by kernel_rfl) (by kernel_rfl) (by kernel_rfl) rfl rfl ?_
    refine TA.y (listed' := #[true, true, true, true, true, true, true, false, false, false, false, false, false, false, false]) 6 [0] rfl (Y.field_box kf81_1 rfl rfl) rfl rfl rfl (by kernel_rfl) (by kernel_rfl) (by kernel_rfl) rfl rfl ?_
    refine TA.y (listed' := #[true, true, true, true, true, true, true, true, false, false, false, false, false, false, false]) 7 [0] rfl (Y.load_box (v := .int .i64 r_.at_) 0 kk3 rfl rfl rfl) rfl rfl rfl (by kernel_rfl) (by kernel_rfl) (by kernel_rfl) rfl rfl ?_
    refine TA.bind fun E2 H3 => ?_
    refine TA.y (listed' := #[true, true, true, true, true, true, true, true, true, false, false, false, false, false, false]) 8 [0] rfl (Y.ssub_from H3 ks9 rfl rfl) rfl rfl rfl (by kernel_rfl) (by kernel_rfl) (by kernel_rfl) rfl rfl ?_
    refine TA.bind fun R4 H5 => ?_
    refine TA.one 9 (by kernel_rfl) ?_
    refine TX.ef (listed' := #[true, true, true, true, true, true, true, true, true, true, false, false, false, false, false]) [0] rfl (Ef.call (rest := [.box B_r_ 81 [strV r_.text, .int .i64 r_.at_, .bool r_.bad]]) [0] (impl_ReadVar_con E2  R4 H5) kc88 rfl rfl trivial) rfl rfl rfl rfl (fun _ => rfl) (fun _ => ?_)
    refine TA.y (listed' := #[true, true, true, true, true, true, true, true, true, true, true, false, false, false, false]) 10 [0] rfl (Y.move rfl) rfl rfl rfl (by kernel_rfl) (by kernel_rfl) (by kernel_rfl) rfl rfl ?_
    refine TA.y (listed' := #[true, true, true, true, true, true, true, true, true, true, true, true, false, false, false]) 11 [0] rfl (Y.extract rfl rfl) rfl rfl rfl (by kernel_rfl) (by kernel_rfl) (by kernel_rfl) rfl rfl ?_
    refine TA.y (listed' := #[true, true, true, true, true, true, true, true, true, true, true, true, true, false, false]) 12 [0] rfl (Y.extract rfl rfl) rfl rfl rfl (by kernel_rfl) (by kernel_rfl) (by kernel_rfl) rfl rfl ?_
    refine TA.y (listed' := #[true, true, true, true, true, true, true, true, true, true, true, true, true, true, false]) 13 [0] rfl (Y.assign rfl) rfl rfl rfl (by kernel_rfl) (by kernel_rfl) (by kernel_rfl) rfl rfl ?_
    refine TA.y (listed' := #[true, true, true, true, true, true, true, true, true, true, true, true, true, true, true]) 14 [0] rfl (Y.assign rfl) rfl rfl rfl (by kernel_rfl) (by kernel_rfl) (by kernel_rfl) rfl rfl ?_
    refine TA.nil (by kernel_rfl) ?_
    refine TE.next ?_
    refine TW.seq ?_
    refine TW.seq ?_
    refine TW.region ?_
    refine TO.y (Y.move rfl) rfl rfl rfl ?_
    refine TO.y (Y.eql rfl rfl) rfl rfl rfl ?_
    refine TO.nil ?_
    refine TE.next ?_
    refine TW.cond rfl (fun H7 => ?_) (fun H7 => ?_)
    · refine TW.seq ?_
      refine TW.region ?_
      refine TO.y (Y.move rfl) rfl rfl rfl ?_
      refine TO.y (Y.nilCheck rfl) rfl rfl rfl ?_
      refine TO.y (Y.field_box kf81_2 rfl rfl) rfl rfl rfl ?_
      refine TO.ef0 (Ef.store_box (us := [.bool true]) (vs' := [strV r_.text, .int .i64 r_.at_, .bool true]) (is' := [.box B_r_ 81 [strV r_.text, .int .i64 r_.at_, .bool true]]) 0 kk4 rfl rfl rfl (Cel.plain rfl rfl) rfl rfl rfl rfl) rfl rfl (fun _ => ?_)
      refine TO.nil ?_
      refine TE.next ?_
      refine TW.seq ?_
      refine TW.region ?_
      refine TO.y (Y.assign rfl) rfl rfl rfl ?_
      refine TO.nil ?_
      refine TE.next ?_
      refine TW.ret ?_
      refine TE.then_ret ?_
      exact TE.leaf fun _ _ hf_ hs_ => ret_any (rs := [.tmp 2]) (vs := [.int .i64 (0 : Int)]) (.inl rfl) rfl ⟨rfl, trivial⟩ hf_ hs_ ⟨(), rfl, hs_.pulls [0] rfl⟩
    · refine TW.skip ?_
      refine TE.next ?_
      refine TW.seq ?_
      refine TW.region ?_
      refine TO.y (Y.move rfl) rfl rfl rfl ?_
      refine TO.y (Y.nilCheck rfl) rfl rfl rfl ?_
      refine TO.y (Y.field_box kf81_1 rfl rfl) rfl rfl rfl ?_
      refine TO.y (Y.load_box (v := .int .i64 r_.at_) 0 kk3 rfl rfl rfl) rfl rfl rfl ?_
      refine TO.y (Y.move rfl) rfl rfl rfl ?_
      refine TO.y (Y.add rfl rfl) rfl rfl rfl ?_
      refine TO.y (Y.nilCheck rfl) rfl rfl rfl ?_
      refine TO.y (Y.field_box kf81_1 rfl rfl) rfl rfl rfl ?_
      refine TO.ef0 (Ef.store_box (us := [.int .i64 (IntKind.i64.wrap (r_.at_ + R4.2))]) (vs' := [strV r_.text, .int .i64 (IntKind.i64.wrap (r_.at_ + R4.2)), .bool r_.bad]) (is' := [.box B_r_ 81 [strV r_.text, .int .i64 (IntKind.i64.wrap (r_.at_ + R4.2)), .bool r_.bad]]) 0 kk3 rfl rfl rfl (Cel.plain rfl rfl) rfl rfl rfl rfl) rfl rfl (fun _ => ?_)
      refine TO.nil ?_
      refine TE.next ?_
      refine TW.seq ?_
      refine TW.region ?_
      refine TO.y (Y.move rfl) rfl rfl rfl ?_
      refine TO.y (Y.assign rfl) rfl rfl rfl ?_
      refine TO.nil ?_
      refine TE.next ?_
      refine TW.ret ?_
      exact TE.leaf fun _ _ hf_ hs_ => ret_any (rs := [.tmp 2]) (vs := [.int .i64 R4.1]) (.inl rfl) rfl ⟨rfl, trivial⟩ hf_ hs_ ⟨(), rfl, hs_.pulls [0] rfl⟩

/-- (*loop.example/g00950/impl.reader).short -/
noncomputable def impl_reader_short (r_ : Reader) : Option (List UInt8 × Reader) :=
  (impl_reader_number r_).bind fun R1 =>
  (impl_reader_bytes R1.2 R1.1).bind fun R4 =>
  some (R4.1, R4.2)

theorem impl_reader_short_con (r_ : Reader) (B_r_ : Nat) (r : List UInt8 × Reader) (hm : impl_reader_short r_ = some r) :
    Con Try.prog 65 [.pointer (some ⟨B_r_, 0, none⟩)] [.box B_r_ 81 [strV r_.text, .int .i64 r_.at_, .bool r_.bad]] [] (fun _ : Unit => strV r.1) (fun _ => [.box B_r_ 81 [strV r.2.text, .int .i64 r.2.at_, .bool r.2.bad]]) := by
  refine Con.intro (args := [.pointer (some ⟨B_r_, 0, none⟩)]) (n := 9) (val := fun r (_ : Unit) => strV r.1) (post := fun r _ => [.box B_r_ 81 [strV r.2.text, .int .i64 r.2.at_, .bool r.2.bad]]) (m := impl_reader_short r_) Try.func65 rfl rfl rfl hm ?_
  intro w S _
  unfold impl_reader_short
  refine TW.seq ?_
  refine TW.region ?_
  refine TO.y (Y.assign rfl) rfl rfl rfl ?_
  refine TO.nil ?_
  refine TE.next ?_
  refine TW.seq ?_
  refine TW.region ?_
  refine TO.y (Y.move rfl) rfl rfl rfl ?_
  refine TO.bind fun R1 H2 => ?_
  refine TO.ef (Ef.call (rest := []) [0] (impl_reader_number_con r_ B_r_ R1 H2) kc64 rfl rfl trivial) rfl rfl rfl (fun _ => ?_)
  refine TO.y (Y.assign rfl) rfl rfl rfl ?_
  refine TO.nil ?_
  refine TE.next ?_
  refine TW.seq ?_
  refine TW.region ?_
  refine TO.y (Y.move rfl) rfl rfl rfl ?_
  refine TO.y (Y.move rfl) rfl rfl rfl ?_
  refine TO.bind fun R4 H5 => ?_
  refine TO.ef (Ef.call (rest := []) [0] (impl_reader_bytes_con R1.2 R1.1 B_r_ R4 H5) kc63 rfl rfl trivial) rfl rfl rfl (fun _ => ?_)
  refine TO.y (Y.assign rfl) rfl rfl rfl ?_
  refine TO.nil ?_
  refine TE.next ?_
  refine TW.ret ?_
  exact TE.leaf fun _ _ hf_ hs_ => ret_any (rs := [.tmp 2]) (vs := [strV R4.1]) (.inl rfl) rfl ⟨rfl, trivial⟩ hf_ hs_ ⟨(), rfl, hs_.pulls [0] rfl⟩

/-- loop.example/g00950/impl.inRange -/
noncomputable def impl_inRange (n : Int) (least : Int) (most : Int) : Option Bool :=
  (if (decide (n ≥ least)) = true then (some (decide (n ≤ most)))
  else (some false)).bind (fun (T1 : Bool) =>
  some T1)

theorem impl_inRange_con (n : Int) (least : Int) (most : Int)  (r : Bool) (hm : impl_inRange n least most = some r) :
    Con Try.prog 67 [.int .i64 n, .int .i64 least, .int .i64 most] [] [] (fun _ : Unit => .bool r) (fun _ => []) := by
  refine Con.intro (args := [.int .i64 n, .int .i64 least, .int .i64 most]) (n := 15) (val := fun r (_ : Unit) => .bool r) (post := fun _ _ => []) (m := impl_inRange n least most) Try.func67 rfl rfl rfl hm ?_
  intro w S _
  unfold impl_inRange
  refine TW.seq ?_
  refine TW.region ?_
  refine TO.y (Y.assign rfl) rfl rfl rfl ?_
  refine TO.nil ?_
  refine TE.next ?_
  refine TW.seq ?_
  refine TW.joinBX (τ := Bool) (X := Unit) (fun T _ => [(6, .bool T)]) (fun _ _ => []) ?_ (fun T1 X2 => ?_)
  · refine TW.region ?_
    refine TO.y (Y.move rfl) rfl rfl rfl ?_
    refine TO.y (Y.move rfl) rfl rfl rfl ?_
    refine TO.y (Y.geq rfl rfl) rfl rfl rfl ?_
    refine TO.y (Y.move rfl) rfl rfl rfl ?_
    refine TO.ite (b := decide (n ≥ least)) (fun H3 => ?_) (fun H3 => ?_)
    · refine TO.y (Y.move rfl) (Gd.at 3 true 10 (decide (n ≥ least)) rfl rfl rfl (beq_tt H3)) rfl rfl ?_
      refine TO.y (Y.move rfl) (Gd.at 3 true 10 (decide (n ≥ least)) rfl rfl rfl (beq_tt H3)) rfl rfl ?_
      refine TO.y (Y.leq rfl rfl) (Gd.at 3 true 10 (decide (n ≥ least)) rfl rfl rfl (beq_tt H3)) rfl rfl ?_
      refine TO.y (Y.pick_t H3 rfl rfl) rfl rfl rfl ?_
      refine TO.y (Y.assign rfl) rfl rfl rfl ?_
      refine TO.nil ?_
      exact TE.jb_go () [] ⟨rfl, trivial⟩ rfl
    · refine TO.off (Gd.at 3 true 10 (decide (n ≥ least)) rfl rfl rfl (beq_ft H3)) rfl rfl ?_
      refine TO.off (Gd.at 3 true 10 (decide (n ≥ least)) rfl rfl rfl (beq_ft H3)) rfl rfl ?_
      refine TO.off (Gd.at 3 true 10 (decide (n ≥ least)) rfl rfl rfl (beq_ft H3)) rfl rfl ?_
      refine TO.y (Y.pick_f H3 rfl rfl) rfl rfl rfl ?_
      refine TO.y (Y.assign rfl) rfl rfl rfl ?_
      refine TO.nil ?_
      exact TE.jb_go () [] ⟨rfl, trivial⟩ rfl
  · refine TE.next ?_
    refine TW.ret ?_
    exact TE.leaf fun _ _ hf_ hs_ => ret_any (rs := [.tmp 6]) (vs := [.bool T1]) (.inl rfl) rfl ⟨rfl, trivial⟩ hf_ hs_ ⟨(), rfl, hs_.pulls [] rfl⟩

/-- loop.example/g00950/impl.isTenant -/
noncomputable def impl_isTenant (n : Int) : Option Bool :=
  (impl_inRange n (1 : Int) (99 : Int)).bind fun R1 =>
  some R1

theorem impl_isTenant_con (n : Int)  (r : Bool) (hm : impl_isTenant n = some r) :
    Con Try.prog 33 [.int .i64 n] [] [] (fun _ : Unit => .bool r) (fun _ => []) := by
  refine Con.intro (args := [.int .i64 n]) (n := 5) (val := fun r (_ : Unit) => .bool r) (post := fun _ _ => []) (m := impl_isTenant n) Try.func33 rfl rfl rfl hm ?_
  intro w S _
  unfold impl_isTenant
  refine TW.seq ?_
  refine TW.region ?_
  refine TO.y (Y.assign rfl) rfl rfl rfl ?_
  refine TO.nil ?_
  refine TE.next ?_
  refine TW.seq ?_
  refine TW.region ?_
  refine TO.y (Y.move rfl) rfl rfl rfl ?_
  refine TO.bind fun R1 H2 => ?_
  refine TO.ef (Ef.call (rest := []) [] (impl_inRange_con n (1 : Int) (99 : Int)  R1 H2) kc67 rfl rfl trivial) rfl rfl rfl (fun _ => ?_)
  refine TO.y (Y.assign rfl) rfl rfl rfl ?_
  refine TO.nil ?_
  refine TE.next ?_
  refine TW.ret ?_
  exact TE.leaf fun _ _ hf_ hs_ => ret_any (rs := [.tmp 2]) (vs := [.bool R1]) (.inl rfl) rfl ⟨rfl, trivial⟩ hf_ hs_ ⟨(), rfl, hs_.pulls [] rfl⟩

/-- loop.example/g00950/impl.isPlace -/
noncomputable def impl_isPlace (boot : Int) (seq : Int) : Option Bool :=
  ((impl_inRange boot (0 : Int) (1000 : Int)).bind fun R3 =>
  if R3 = true then ((impl_inRange seq (0 : Int) (999999 : Int)).bind fun R7 =>
  some R7)
  else (some false)).bind (fun (T1 : Bool) =>
  some T1)

theorem impl_isPlace_con (boot : Int) (seq : Int)  (r : Bool) (hm : impl_isPlace boot seq = some r) :
    Con Try.prog 34 [.int .i64 boot, .int .i64 seq] [] [] (fun _ : Unit => .bool r) (fun _ => []) := by
  refine Con.intro (args := [.int .i64 boot, .int .i64 seq]) (n := 11) (val := fun r (_ : Unit) => .bool r) (post := fun _ _ => []) (m := impl_isPlace boot seq) Try.func34 rfl rfl rfl hm ?_
  intro w S _
  unfold impl_isPlace
  refine TW.seq ?_
  refine TW.region ?_
  refine TO.y (Y.assign rfl) rfl rfl rfl ?_
  refine TO.nil ?_
  refine TE.next ?_
  refine TW.seq ?_
  refine TW.joinBX (τ := Bool) (X := Unit) (fun T _ => [(4, .bool T)]) (fun _ _ => []) ?_ (fun T1 X2 => ?_)
  · refine TW.region ?_
    refine TO.y (Y.move rfl) rfl rfl rfl ?_
    refine TO.bind fun R3 H4 => ?_
    refine TO.ef (Ef.call (rest := []) [] (impl_inRange_con boot (0 : Int) (1000 : Int)  R3 H4) kc67 rfl rfl trivial) rfl rfl rfl (fun _ => ?_)
    refine TO.y (Y.move rfl) rfl rfl rfl ?_
    refine TO.ite (b := R3) (fun H6 => ?_) (fun H6 => ?_)
    · refine TO.y (Y.move rfl) (Gd.at 2 true 7 R3 rfl rfl rfl (beq_tt H6)) rfl rfl ?_
      refine TO.bind fun R7 H8 => ?_
      refine TO.ef (Ef.call (rest := []) [] (impl_inRange_con seq (0 : Int) (999999 : Int)  R7 H8) kc67 rfl rfl trivial) (Gd.at 2 true 7 R3 rfl rfl rfl (beq_tt H6)) rfl rfl (fun _ => ?_)
      refine TO.y (Y.pick_t H6 rfl rfl) rfl rfl rfl ?_
      refine TO.y (Y.assign rfl) rfl rfl rfl ?_
      refine TO.nil ?_
      exact TE.jb_go () [] ⟨rfl, trivial⟩ rfl
    · refine TO.off (Gd.at 2 true 7 R3 rfl rfl rfl (beq_ft H6)) rfl rfl ?_
      refine TO.off (Gd.at 2 true 7 R3 rfl rfl rfl (beq_ft H6)) rfl rfl ?_
      refine TO.y (Y.pick_f H6 rfl rfl) rfl rfl rfl ?_
      refine TO.y (Y.assign rfl) rfl rfl rfl ?_
      refine TO.nil ?_
      exact TE.jb_go () [] ⟨rfl, trivial⟩ rfl
  · refine TE.next ?_
    refine TW.ret ?_
    exact TE.leaf fun _ _ hf_ hs_ => ret_any (rs := [.tmp 4]) (vs := [.bool T1]) (.inl rfl) rfl ⟨rfl, trivial⟩ hf_ hs_ ⟨(), rfl, hs_.pulls [] rfl⟩

/-- loop.example/g00950/impl.Var -/
noncomputable def impl_Var (n : Int) : Option (List UInt8) :=
  (impl_inRange n (0 : Int) (562949953421311 : Int)).bind fun R1 =>
  if (!R1) = true then (some ([]))
  else (bindC (loopO (fun (S5 : Int × List UInt8) => if (decide (S5.1 > (127 : Int))) = true then ((app 1 S5.2 ([toU8 (ior .i64 (128 : Int) (iand .i64 S5.1 (127 : Int)))])).bind fun E12 =>
  some (.go (ishr .i64 S5.1 (7 : Int), E12)))
  else (some (.done (.go (S5.1, S5.2)))))
  (n, ([] : List UInt8)))
  (fun (T7 : Int × List UInt8) => (app 1 T7.2 ([toU8 T7.1])).bind fun E16 =>
  some E16))

theorem impl_Var_con (n : Int)  (r : List UInt8) (hm : impl_Var n = some r) :
    Con Try.prog 36 [.int .i64 n] [] [] (fun _ : Unit => strV r) (fun _ => []) := by
  refine Con.intro (args := [.int .i64 n]) (n := 24) (val := fun r (_ : Unit) => strV r) (post := fun _ _ => []) (m := impl_Var n) Try.func36 rfl rfl rfl hm ?_
  intro w S _
  unfold impl_Var
  refine TW.seq ?_
  refine TW.region ?_
  refine TO.y (Y.assign rfl) rfl rfl rfl ?_
  refine TO.nil ?_
  refine TE.next ?_
  refine TW.seq ?_
  refine TW.seq ?_
  refine TW.region ?_
  refine TO.y (Y.move rfl) rfl rfl rfl ?_
  refine TO.bind fun R1 H2 => ?_
  refine TO.ef (Ef.call (rest := []) [] (impl_inRange_con n (0 : Int) (562949953421311 : Int)  R1 H2) kc67 rfl rfl trivial) rfl rfl rfl (fun _ => ?_)
  refine TO.y (Y.not rfl) rfl rfl rfl ?_
  refine TO.nil ?_
  refine TE.next ?_
  refine TW.cond rfl (fun H4 => ?_) (fun H4 => ?_)
  · refine TW.seq ?_
    refine TW.region ?_
    refine TO.y (Y.assign rfl) rfl rfl rfl ?_
    refine TO.nil ?_
    refine TE.next ?_
    refine TW.ret ?_
    refine TE.then_ret ?_
    exact TE.leaf fun _ _ hf_ hs_ => ret_any (rs := [.tmp 2]) (vs := [strV ([])]) (.inl rfl) rfl ⟨rfl, trivial⟩ hf_ hs_ ⟨(), rfl, hs_.pulls [] rfl⟩
  · refine TW.skip ?_
    refine TE.next ?_
    refine TW.seq ?_
    refine TW.region ?_
    refine TO.y (Y.assign rfl) rfl rfl rfl ?_
    refine TO.nil ?_
    refine TE.next ?_
    refine TW.seq ?_
    refine TW.joinX (τ := Int × List UInt8) (X := Value) (fun T X => [(0, .int .i64 T.1), (3, X)]) (fun T X => [.own X (lc T.2)]) ?_ (fun T7 X8 => ?_)
    · refine TW.block ?_
      refine TW.nilItem 1 ?_
      refine TW.loopX (σ := Int × List UInt8) (X := Value) (fun T X => [(0, .int .i64 T.1), (3, X)]) (fun T X => [.own X (lc T.2)]) (.slice none 0 0) [0] ⟨rfl, rfl, trivial⟩ rfl (fun S5 X6 => ?_)
      refine TW.seq ?_
      refine TW.seq ?_
      refine TW.region ?_
      refine TO.y (Y.move rfl) rfl rfl rfl ?_
      refine TO.y (Y.gtr rfl rfl) rfl rfl rfl ?_
      refine TO.nil ?_
      refine TE.next ?_
      refine TW.cond rfl (fun H9 => ?_) (fun H9 => ?_)
      · refine TW.skip ?_
        refine TE.next ?_
        refine TW.block ?_
        refine TW.seq ?_
        refine TW.region ?_
        refine TO.y (Y.move rfl) rfl rfl rfl ?_
        refine TO.y (Y.move rfl) rfl rfl rfl ?_
        refine TO.y (Y.and rfl rfl) rfl rfl rfl ?_
        refine TO.y (Y.or rfl rfl) rfl rfl rfl ?_
        refine TO.y (Y.conv8 ki3 ki5 rfl) rfl rfl rfl ?_
        refine TO.ef (Ef.buildSlice (α := UInt8) (Vs := [.int .u8 (((toU8 (ior .i64 (128 : Int) (iand .i64 S5.1 (127 : Int)))).toNat : Nat) : Int)]) [toU8 (ior .i64 (128 : Int) (iand .i64 S5.1 (127 : Int)))] ke22 kz5 rfl rfl rfl rfl rfl) rfl rfl rfl (fun B10 => ?_)
        refine TO.bind fun E12 H13 => ?_
        refine TO.ef (Ef.append (α := UInt8) (is' := [.own (.slice (some ⟨B10, 0, none⟩) 1 1) (lc ([toU8 (ior .i64 (128 : Int) (iand .i64 S5.1 (127 : Int)))]))]) [1, 0] H13 ke22 kz5 rfl rfl rfl rfl rfl (Can.own 0 rfl)) rfl rfl rfl (fun V11 => ?_)
        refine TO.y (Y.assign rfl) rfl rfl rfl ?_
        refine TO.nil ?_
        refine TE.next ?_
        refine TW.region ?_
        refine TO.y (Y.move rfl) rfl rfl rfl ?_
        refine TO.y (Y.shr (by decide) rfl rfl) rfl rfl rfl ?_
        refine TO.y (Y.assign rfl) rfl rfl rfl ?_
        refine TO.nil ?_
        refine TE.block_normal ?_
        exact TE.lp_go V11 [0] ⟨rfl, rfl, trivial⟩ rfl
      · refine TW.exit ?_
        refine TE.then_exit ?_
        refine TE.lp_exit ?_
        refine TE.block_exit ?_
        exact TE.jn_go X6 [0] ⟨rfl, rfl, trivial⟩ rfl
    · refine TE.next ?_
      refine TW.seq ?_
      refine TW.region ?_
      refine TO.y (Y.move rfl) rfl rfl rfl ?_
      refine TO.y (Y.move rfl) rfl rfl rfl ?_
      refine TO.y (Y.conv8 ki3 ki5 rfl) rfl rfl rfl ?_
      refine TO.ef (Ef.buildSlice (α := UInt8) (Vs := [.int .u8 (((toU8 T7.1).toNat : Nat) : Int)]) [toU8 T7.1] ke22 kz5 rfl rfl rfl rfl rfl) rfl rfl rfl (fun B14 => ?_)
      refine TO.bind fun E16 H17 => ?_
      refine TO.ef (Ef.append (α := UInt8) (is' := [.own (.slice (some ⟨B14, 0, none⟩) 1 1) (lc ([toU8 T7.1]))]) [1, 0] H17 ke22 kz5 rfl rfl rfl rfl rfl (Can.own 0 rfl)) rfl rfl rfl (fun V15 => ?_)
      refine TO.y (Y.toStr ke22 ki5 ks9 (Can.own 0 rfl) rfl) rfl rfl rfl ?_
      refine TO.y (Y.assign rfl) rfl rfl rfl ?_
      refine TO.nil ?_
      refine TE.next ?_
      refine TW.ret ?_
      exact TE.leaf fun _ _ hf_ hs_ => ret_any (rs := [.tmp 2]) (vs := [strV E16]) (.inl rfl) rfl ⟨rfl, trivial⟩ hf_ hs_ ⟨(), rfl, hs_.pulls [] rfl⟩

/-- loop.example/g00950/impl.short -/
noncomputable def impl_short (s : List UInt8) : Option (List UInt8) :=
  (impl_Var ((s.length : Nat) : Int)).bind fun R1 =>
  (cat R1 s).bind fun E4 =>
  some E4

theorem impl_short_con (s : List UInt8)  (r : List UInt8) (hm : impl_short s = some r) :
    Con Try.prog 37 [strV s] [] [] (fun _ : Unit => strV r) (fun _ => []) := by
  refine Con.intro (args := [strV s]) (n := 8) (val := fun r (_ : Unit) => strV r) (post := fun _ _ => []) (m := impl_short s) Try.func37 rfl rfl rfl hm ?_
  intro w S _
  unfold impl_short
  refine TW.seq ?_
  refine TW.region ?_
  refine TO.y (Y.assign rfl) rfl rfl rfl ?_
  refine TO.nil ?_
  refine TE.next ?_
  refine TW.seq ?_
  refine TW.region ?_
  refine TO.y (Y.move rfl) rfl rfl rfl ?_
  refine TO.y (Y.slen ks9 rfl) rfl rfl rfl ?_
  refine TO.bind fun R1 H2 => ?_
  refine TO.ef (Ef.call (rest := []) [] (impl_Var_con ((s.length : Nat) : Int)  R1 H2) kc36 rfl rfl trivial) rfl rfl rfl (fun _ => ?_)
  refine TO.y (Y.move rfl) rfl rfl rfl ?_
  refine TO.bind fun E4 H5 => ?_
  refine TO.y (Y.cat H5 rfl rfl) rfl rfl rfl ?_
  refine TO.y (Y.assign rfl) rfl rfl rfl ?_
  refine TO.nil ?_
  refine TE.next ?_
  refine TW.ret ?_
  exact TE.leaf fun _ _ hf_ hs_ => ret_any (rs := [.tmp 2]) (vs := [strV E4]) (.inl rfl) rfl ⟨rfl, trivial⟩ hf_ hs_ ⟨(), rfl, hs_.pulls [] rfl⟩

/-- loop.example/g00950/impl.Crc -/
noncomputable def impl_Crc (s : List UInt8) : Option Int :=
  bindC (loopO (fun (S1 : Int × Int) => if (decide (S1.2 < ((s.length : Nat) : Int))) = true then ((sidx s S1.2).bind fun E6 =>
  bindC (loopO (fun (S8 : Int × Int) => if (decide (S8.2 < (8 : Int))) = true then (bindC (if (decide (iand .u32 S8.1 (1 : Int) = (1 : Int))) = true then (some (.go (ixor .u32 (ishr .u32 S8.1 (1 : Int)) (2197175160 : Int))))
  else (some (.go (ishr .u32 S8.1 (1 : Int)))))
  (fun (T13 : Int) => some (.go (T13, IntKind.i64.wrap (S8.2 + (1 : Int))))))
  else (some (.done (.go S8.1))))
  (ixor .u32 S1.1 (IntKind.u32.wrap ((E6.toNat : Nat) : Int)), (0 : Int)))
  (fun (T10 : Int) => some (.go (T10, IntKind.i64.wrap (S1.2 + (1 : Int))))))
  else (some (.done (.go S1.1))))
  ((4294967295 : Int), (0 : Int)))
  (fun (T3 : Int) => some (IntKind.i64.wrap ((4294967295 : Int) - (IntKind.i64.wrap T3))))

theorem impl_Crc_con (s : List UInt8)  (r : Int) (hm : impl_Crc s = some r) :
    Con Try.prog 69 [strV s] [] [] (fun _ : Unit => .int .i64 r) (fun _ => []) := by
  refine Con.intro (args := [strV s]) (n := 32) (val := fun r (_ : Unit) => .int .i64 r) (post := fun _ _ => []) (m := impl_Crc s) Try.func69 rfl rfl rfl hm ?_
  intro w S _
  unfold impl_Crc
  refine TW.seq ?_
  refine TW.region ?_
  refine TO.y (Y.assign rfl) rfl rfl rfl ?_
  refine TO.nil ?_
  refine TE.next ?_
  refine TW.seq ?_
  refine TW.region ?_
  refine TO.y (Y.assign rfl) rfl rfl rfl ?_
  refine TO.nil ?_
  refine TE.next ?_
  refine TW.seq ?_
  refine TW.seq ?_
  refine TW.region ?_
  refine TO.y (Y.assign rfl) rfl rfl rfl ?_
  refine TO.nil ?_
  refine TE.next ?_
  refine TW.joinX (τ := Int) (X := Unit) (fun T _ => [(3, .int .u32 T)]) (fun _ _ => []) ?_ (fun T3 X4 => ?_)
  · refine TW.block ?_
    refine TW.loopX (σ := Int × Int) (X := Unit) (fun T _ => [(0, strV s), (3, .int .u32 T.1), (4, .int .i64 T.2)]) (fun _ _ => []) () [] ⟨rfl, rfl, rfl, trivial⟩ rfl (fun S1 X2 => ?_)
    refine TW.seq ?_
    refine TW.seq ?_
    refine TW.region ?_
    refine TO.y (Y.move rfl) rfl rfl rfl ?_
    refine TO.y (Y.move rfl) rfl rfl rfl ?_
    refine TO.y (Y.slen ks9 rfl) rfl rfl rfl ?_
    refine TO.y (Y.lss rfl rfl) rfl rfl rfl ?_
    refine TO.nil ?_
    refine TE.next ?_
    refine TW.cond rfl (fun H5 => ?_) (fun H5 => ?_)
    · refine TW.skip ?_
      refine TE.next ?_
      refine TW.seq ?_
      refine TW.block ?_
      refine TW.seq ?_
      refine TW.region ?_
      refine TO.y (Y.move rfl) rfl rfl rfl ?_
      refine TO.y (Y.move rfl) rfl rfl rfl ?_
      refine TO.y (Y.move rfl) rfl rfl rfl ?_
      refine TO.bind fun E6 H7 => ?_
      refine TO.y (Y.sidx H7 ks9 rfl rfl) rfl rfl rfl ?_
      refine TO.y (Y.conv ki5 ki88 rfl) rfl rfl rfl ?_
      refine TO.y (Y.xor rfl rfl) rfl rfl rfl ?_
      refine TO.y (Y.assign rfl) rfl rfl rfl ?_
      refine TO.nil ?_
      refine TE.next ?_
      refine TW.seq ?_
      refine TW.region ?_
      refine TO.y (Y.move rfl) rfl rfl rfl ?_
      refine TO.nil ?_
      refine TE.next ?_
      refine TW.joinX (τ := Int) (X := Unit) (fun T _ => [(0, strV s), (3, .int .u32 T), (4, .int .i64 S1.2)]) (fun _ _ => []) ?_ (fun T10 X11 => ?_)
      · refine TW.block ?_
        refine TW.loopX (σ := Int × Int) (X := Unit) (fun T _ => [(0, strV s), (3, .int .u32 T.1), (4, .int .i64 S1.2), (18, .int .i64 T.2)]) (fun _ _ => []) () [] ⟨rfl, rfl, rfl, rfl, trivial⟩ rfl (fun S8 X9 => ?_)
        refine TW.seq ?_
        refine TW.region ?_
        refine TO.y (Y.lss rfl rfl) rfl rfl rfl ?_
        refine TO.nil ?_
        refine TE.next ?_
        refine TW.seq ?_
        refine TW.cond rfl (fun H12 => ?_) (fun H12 => ?_)
        · refine TW.skip ?_
          refine TE.next ?_
          refine TW.seq ?_
          refine TW.block ?_
          refine TW.seq ?_
          refine TW.region ?_
          refine TO.y (Y.move rfl) rfl rfl rfl ?_
          refine TO.y (Y.and rfl rfl) rfl rfl rfl ?_
          refine TO.y (Y.assign rfl) rfl rfl rfl ?_
          refine TO.nil ?_
          refine TE.next ?_
          refine TW.seq ?_
          refine TW.region ?_
          refine TO.y (Y.move rfl) rfl rfl rfl ?_
          refine TO.y (Y.shr (by decide) rfl rfl) rfl rfl rfl ?_
          refine TO.y (Y.assign rfl) rfl rfl rfl ?_
          refine TO.nil ?_
          refine TE.next ?_
          refine TW.seq ?_
          refine TW.region ?_
          refine TO.y (Y.move rfl) rfl rfl rfl ?_
          refine TO.y (Y.eql rfl rfl) rfl rfl rfl ?_
          refine TO.nil ?_
          refine TE.next ?_
          refine TW.joinX (τ := Int) (X := Unit) (fun T _ => [(0, strV s), (3, .int .u32 T), (4, .int .i64 S1.2), (18, .int .i64 S8.2)]) (fun _ _ => []) ?_ (fun T13 X14 => ?_)
          · refine TW.cond rfl (fun H15 => ?_) (fun H15 => ?_)
            · refine TW.region ?_
              refine TO.y (Y.move rfl) rfl rfl rfl ?_
              refine TO.y (Y.xor rfl rfl) rfl rfl rfl ?_
              refine TO.y (Y.assign rfl) rfl rfl rfl ?_
              refine TO.nil ?_
              exact TE.jn_go () [] ⟨rfl, rfl, rfl, rfl, trivial⟩ rfl
            · refine TW.skip ?_
              exact TE.jn_go () [] ⟨rfl, rfl, rfl, rfl, trivial⟩ rfl
          · refine TE.block_normal ?_
            refine TE.next ?_
            refine TW.region ?_
            refine TO.y (Y.add rfl rfl) rfl rfl rfl ?_
            refine TO.y (Y.move rfl) rfl rfl rfl ?_
            refine TO.nil ?_
            exact TE.lp_go () [] ⟨rfl, rfl, rfl, rfl, trivial⟩ rfl
        · refine TW.exit ?_
          refine TE.then_exit ?_
          refine TE.lp_exit ?_
          refine TE.block_exit ?_
          exact TE.jn_go () [] ⟨rfl, rfl, rfl, trivial⟩ rfl
      · refine TE.block_normal ?_
        refine TE.next ?_
        refine TW.region ?_
        refine TO.y (Y.move rfl) rfl rfl rfl ?_
        refine TO.y (Y.add rfl rfl) rfl rfl rfl ?_
        refine TO.y (Y.assign rfl) rfl rfl rfl ?_
        refine TO.nil ?_
        exact TE.lp_go () [] ⟨rfl, rfl, rfl, trivial⟩ rfl
    · refine TW.exit ?_
      refine TE.then_exit ?_
      refine TE.lp_exit ?_
      refine TE.block_exit ?_
      exact TE.jn_go () [] ⟨rfl, trivial⟩ rfl
  · refine TE.next ?_
    refine TW.seq ?_
    refine TW.region ?_
    refine TO.y (Y.move rfl) rfl rfl rfl ?_
    refine TO.y (Y.conv ki88 ki3 rfl) rfl rfl rfl ?_
    refine TO.y (Y.sub rfl rfl) rfl rfl rfl ?_
    refine TO.y (Y.assign rfl) rfl rfl rfl ?_
    refine TO.nil ?_
    refine TE.next ?_
    refine TW.ret ?_
    exact TE.leaf fun _ _ hf_ hs_ => ret_any (rs := [.tmp 2]) (vs := [.int .i64 (IntKind.i64.wrap ((4294967295 : Int) - (IntKind.i64.wrap T3)))]) (.inl rfl) rfl ⟨rfl, trivial⟩ hf_ hs_ ⟨(), rfl, hs_.pulls [] rfl⟩

end Go.Proofs.Ytldbnjgpcilgiaa
