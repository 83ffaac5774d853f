/-
  The functions that a law reaches, each as a pure function, with the proof that the program computes it, and the step from a pure law to the given statement. Conditions: none.
-/
import Derived.Test.YtfnhaaafggdllaaSw
import Derived.Test.YtfnhaaafggdllaaRows
set_option linter.unusedVariables false
set_option maxRecDepth 100000
set_option maxHeartbeats 4000000
namespace Go.Proofs.Ytfnhaaafggdllaa
open Go Sl

structure L1Cur where
  b : List UInt8
  i : Int
  h : Int
  deriving DecidableEq
instance : Enc L1Cur := ⟨3, fun x => [lc x.b, .int .i64 x.i, .int .i64 x.h], fun _ => rfl, by decide⟩
instance : Dec L1Cur where
  sh := [.sl 1 (Dec.sh UInt8), .int .i64, .int .i64]
  ok x := okl x.b ∧ okI x.i ∧ okI x.h
  dec cs h := by
    obtain ⟨c0, r0, rfl, h0, h⟩ := h.cons_inv
    obtain ⟨c1, r1, rfl, h1, h⟩ := h.cons_inv
    obtain ⟨c2, r2, rfl, h2, h⟩ := h.cons_inv
    obtain rfl := h.nil_inv
    obtain ⟨y0, rfl, w0⟩ := h0.sl_inv (α := UInt8) rfl
    obtain ⟨y1, rfl, w1_⟩ := h1.int_inv
    have w1 := okI_of w1_
    obtain ⟨y2, rfl, w2_⟩ := h2.int_inv
    have w2 := okI_of w2_
    exact ⟨{ b := y0, i := y1, h := y2 : L1Cur }, rfl, w0, w1, w2⟩
structure Op where
  Key : List UInt8
  Del : Bool
  Val : List UInt8
  deriving DecidableEq
instance : Enc Op := ⟨3, fun x => [.str x.Key, .bool x.Del, .str x.Val], fun _ => rfl, by decide⟩
instance : Dec Op where
  sh := [.str, .bool, .str]
  ok x := x.Key.length ≤ 9223372036854775807 ∧ True ∧ x.Val.length ≤ 9223372036854775807
  dec cs h := by
    obtain ⟨c0, r0, rfl, h0, h⟩ := h.cons_inv
    obtain ⟨c1, r1, rfl, h1, h⟩ := h.cons_inv
    obtain ⟨c2, r2, rfl, h2, h⟩ := h.cons_inv
    obtain rfl := h.nil_inv
    obtain ⟨y0, rfl, w0⟩ := h0.str_inv
    obtain ⟨y1, rfl⟩ := h1.bool_inv
    have w1 := True.intro
    obtain ⟨y2, rfl, w2⟩ := h2.str_inv
    exact ⟨{ Key := y0, Del := y1, Val := y2 : Op }, rfl, w0, w1, w2⟩
instance : Flat Op := { vals := fun x => [strV x.Key, .bool x.Del, strV x.Val], flat := fun _ => rfl }
structure Ent where
  Key : List UInt8
  Seq : Int
  Del : Bool
  Val : List UInt8
  deriving DecidableEq
instance : Enc Ent := ⟨4, fun x => [.str x.Key, .int .i64 x.Seq, .bool x.Del, .str x.Val], fun _ => rfl, by decide⟩
instance : Dec Ent where
  sh := [.str, .int .i64, .bool, .str]
  ok x := x.Key.length ≤ 9223372036854775807 ∧ okI x.Seq ∧ True ∧ x.Val.length ≤ 9223372036854775807
  dec cs h := by
    obtain ⟨c0, r0, rfl, h0, h⟩ := h.cons_inv
    obtain ⟨c1, r1, rfl, h1, h⟩ := h.cons_inv
    obtain ⟨c2, r2, rfl, h2, h⟩ := h.cons_inv
    obtain ⟨c3, r3, rfl, h3, h⟩ := h.cons_inv
    obtain rfl := h.nil_inv
    obtain ⟨y0, rfl, w0⟩ := h0.str_inv
    obtain ⟨y1, rfl, w1_⟩ := h1.int_inv
    have w1 := okI_of w1_
    obtain ⟨y2, rfl⟩ := h2.bool_inv
    have w2 := True.intro
    obtain ⟨y3, rfl, w3⟩ := h3.str_inv
    exact ⟨{ Key := y0, Seq := y1, Del := y2, Val := y3 : Ent }, rfl, w0, w1, w2, w3⟩
instance : Flat Ent := { vals := fun x => [strV x.Key, .int .i64 x.Seq, .bool x.Del, strV x.Val], flat := fun _ => rfl }
instance : Enc (List Ent) := ⟨1, fun l => [lc l], fun _ => rfl, Nat.one_pos⟩
instance : Dec (List Ent) where
  sh := [.sl 4 (Dec.sh Ent)]
  ok l := okl l
  dec cs h := by
    obtain ⟨c0, r0, rfl, h0, h⟩ := h.cons_inv
    obtain rfl := h.nil_inv
    obtain ⟨y0, rfl, w0⟩ := h0.sl_inv (α := Ent) rfl
    exact ⟨y0, rfl, w0⟩

theorem hMix : Try.prog.follows .mixedOrders = true := by kernel_rfl
theorem ke22 : elemB Try.prog 22 = some (5, 1, 1) := by kernel_rfl
theorem kk5 : kindB Try.prog 5 = some (false, 1) := by kernel_rfl
theorem ki5 : intB Try.prog 5 = some .u8 := by kernel_rfl
theorem ki3 : intB Try.prog 3 = some .i64 := by kernel_rfl
theorem kz70 : zeroB Try.prog 70 = some (.agg #[.slice none 0 0, .int .i64 (0 : Int), .int .i64 (0 : Int)]) := by kernel_rfl
theorem kp70 : placesB Try.prog 70 = some [(0, 1), (1, 1), (2, 1)] := by kernel_rfl
theorem kf70_2 : fieldB Try.prog 70 2 = some 2 := by kernel_rfl
theorem kk3 : kindB Try.prog 3 = some (false, 1) := by kernel_rfl
theorem kf70_1 : fieldB Try.prog 70 1 = some 1 := by kernel_rfl
theorem kf70_0 : fieldB Try.prog 70 0 = some 0 := by kernel_rfl
theorem kk22 : kindB Try.prog 22 = some (false, 1) := by kernel_rfl
theorem kc55 : callB Try.prog 55 = true := by kernel_rfl
theorem ke74 : elemB Try.prog 74 = some (9, 1, 16) := by kernel_rfl
theorem kc30 : callB Try.prog 30 = true := by kernel_rfl
theorem kk9 : kindB Try.prog 9 = some (false, 1) := by kernel_rfl
theorem kz9 : zeroB Try.prog 9 = some (strV ([])) := by kernel_rfl
theorem kc58 : callB Try.prog 58 = true := by kernel_rfl
theorem kz5 : zeroB Try.prog 5 = some (.int .u8 (0 : Int)) := by kernel_rfl
theorem ks9 : isStrB Try.prog 9 = true := by kernel_rfl
theorem kf103_0 : fieldB Try.prog 103 0 = some 0 := by kernel_rfl
theorem kc70 : callB Try.prog 70 = true := by kernel_rfl
theorem kf103_2 : fieldB Try.prog 103 2 = some 2 := by kernel_rfl
theorem kf103_1 : fieldB Try.prog 103 1 = some 1 := by kernel_rfl
theorem kk4 : kindB Try.prog 4 = some (false, 1) := by kernel_rfl
theorem kf31_0 : fieldB Try.prog 31 0 = some 0 := by kernel_rfl
theorem kf31_2 : fieldB Try.prog 31 2 = some 2 := by kernel_rfl
theorem kf31_3 : fieldB Try.prog 31 3 = some 3 := by kernel_rfl
theorem kz103 : zeroB Try.prog 103 = some (.agg #[strV ([]), .bool false, strV ([])]) := by kernel_rfl
theorem kp103 : placesB Try.prog 103 = some [(0, 1), (1, 1), (2, 1)] := by kernel_rfl
theorem kc90 : callB Try.prog 90 = true := by kernel_rfl
theorem kf31_1 : fieldB Try.prog 31 1 = some 1 := by kernel_rfl
theorem ke26 : elemB Try.prog 26 = some (31, 4, 48) := by kernel_rfl
theorem kk31 : kindB Try.prog 31 = some (true, 4) := by kernel_rfl
theorem kc67 : callB Try.prog 67 = true := by kernel_rfl
theorem kc36 : callB Try.prog 36 = true := by kernel_rfl
theorem kc35 : callB Try.prog 35 = true := by kernel_rfl
theorem kz31 : zeroB Try.prog 31 = some (.agg #[strV ([]), .int .i64 (0 : Int), .bool false, strV ([])]) := by kernel_rfl
theorem kc12 : callB Try.prog 12 = true := by kernel_rfl
theorem kc98 : callB Try.prog 98 = true := by kernel_rfl
theorem kc81 : callB Try.prog 81 = true := by kernel_rfl
theorem kp31 : placesB Try.prog 31 = some [(0, 1), (1, 1), (2, 1), (3, 1)] := by kernel_rfl
theorem kc57 : callB Try.prog 57 = true := by kernel_rfl
theorem kc82 : callB Try.prog 82 = true := by kernel_rfl
theorem kc83 : callB Try.prog 83 = true := by kernel_rfl
theorem ke40 : elemB Try.prog 40 = some (3, 1, 8) := by kernel_rfl
theorem kc56 : callB Try.prog 56 = true := by kernel_rfl
theorem kz3 : zeroB Try.prog 3 = some (.int .i64 (0 : Int)) := by kernel_rfl
theorem kc59 : callB Try.prog 59 = true := by kernel_rfl
theorem kc29 : callB Try.prog 29 = true := by kernel_rfl
theorem kz26 : zeroB Try.prog 26 = some (.slice none 0 0) := by kernel_rfl
theorem ke24 : elemB Try.prog 24 = some (26, 1, 24) := by kernel_rfl
theorem kc31 : callB Try.prog 31 = true := by kernel_rfl
theorem kk26 : kindB Try.prog 26 = some (false, 1) := by kernel_rfl
theorem kc76 : callB Try.prog 76 = true := by kernel_rfl
theorem kc99 : callB Try.prog 99 = true := by kernel_rfl
theorem kc74 : callB Try.prog 74 = true := by kernel_rfl
theorem kc100 : callB Try.prog 100 = true := by kernel_rfl
theorem kc103 : callB Try.prog 103 = true := by kernel_rfl
theorem kc104 : callB Try.prog 104 = true := by kernel_rfl
theorem kc88 : callB Try.prog 88 = true := by kernel_rfl
theorem kc89 : callB Try.prog 89 = true := by kernel_rfl
theorem kc87 : callB Try.prog 87 = true := by kernel_rfl
theorem kc84 : callB Try.prog 84 = true := by kernel_rfl
theorem kc63 : callB Try.prog 63 = true := by kernel_rfl
theorem kc60 : callB Try.prog 60 = true := by kernel_rfl
theorem kc85 : callB Try.prog 85 = true := by kernel_rfl
theorem kc61 : callB Try.prog 61 = true := by kernel_rfl
theorem kc101 : callB Try.prog 101 = true := by kernel_rfl
theorem ki91 : intB Try.prog 91 = some .u64 := by kernel_rfl
theorem kc108 : callB Try.prog 108 = true := by kernel_rfl
theorem kc106 : callB Try.prog 106 = true := by kernel_rfl
theorem kc102 : callB Try.prog 102 = true := by kernel_rfl
theorem kc86 : callB Try.prog 86 = true := by kernel_rfl
theorem kc62 : callB Try.prog 62 = true := by kernel_rfl
theorem kc66 : callB Try.prog 66 = true := by kernel_rfl
theorem kc65 : callB Try.prog 65 = true := by kernel_rfl
theorem kc64 : callB Try.prog 64 = true := by kernel_rfl
theorem kc32 : callB Try.prog 32 = true := by kernel_rfl
theorem kc33 : callB Try.prog 33 = true := by kernel_rfl
theorem kc34 : callB Try.prog 34 = true := by kernel_rfl
theorem keq31 : eqTB Try.prog 31 = some [2, 0, 1, 2] := by kernel_rfl
theorem kc7 : callB Try.prog 7 = true := by kernel_rfl
theorem kc8 : callB Try.prog 8 = true := by kernel_rfl
theorem kc9 : callB Try.prog 9 = true := by kernel_rfl
theorem kc11 : callB Try.prog 11 = true := by kernel_rfl
theorem kc10 : callB Try.prog 10 = true := by kernel_rfl
theorem kf83_0 : fieldB Try.prog 83 0 = some 0 := by kernel_rfl
theorem kf83_3 : fieldB Try.prog 83 3 = some 3 := by kernel_rfl
theorem ke39 : elemB Try.prog 39 = some (83, 4, 48) := by kernel_rfl
theorem kk83 : kindB Try.prog 83 = some (true, 4) := by kernel_rfl
theorem kc68 : callB Try.prog 68 = true := by kernel_rfl
theorem ke32 : elemB Try.prog 32 = some (39, 1, 24) := by kernel_rfl
theorem kk39 : kindB Try.prog 39 = some (false, 1) := by kernel_rfl
theorem kc37 : callB Try.prog 37 = true := by kernel_rfl
theorem kf83_1 : fieldB Try.prog 83 1 = some 1 := by kernel_rfl
theorem kf83_2 : fieldB Try.prog 83 2 = some 2 := by kernel_rfl
theorem kc69 : callB Try.prog 69 = true := by kernel_rfl
theorem kc38 : callB Try.prog 38 = true := by kernel_rfl
theorem kb4 : Try.prog.underlying 4 = some .bool := by kernel_rfl
theorem kc39 : callB Try.prog 39 = true := by kernel_rfl
theorem kc15 : callB Try.prog 15 = true := by kernel_rfl
theorem kc40 : callB Try.prog 40 = true := by kernel_rfl
theorem kc18 : callB Try.prog 18 = true := by kernel_rfl
theorem kc13 : callB Try.prog 13 = true := by kernel_rfl
theorem kc14 : callB Try.prog 14 = true := by kernel_rfl
theorem kc16 : callB Try.prog 16 = true := by kernel_rfl
theorem kc17 : callB Try.prog 17 = true := by kernel_rfl
theorem kc19 : callB Try.prog 19 = true := by kernel_rfl
theorem hu22 : Try.prog.underlying 22 = some (.slice 5) := by kernel_rfl
theorem hs22 : shB Try.prog 20 22 = some ([.sl 1 (Dec.sh UInt8)]) := by kernel_rfl
theorem hu32 : Try.prog.underlying 32 = some (.slice 39) := by kernel_rfl
theorem hs32 : shB Try.prog 20 32 = some ([.sl 1 (Dec.sh (List Ent))]) := by kernel_rfl

/-- loop.example/g00950/laws.big -/
noncomputable def laws_big (code : List UInt8) : Option Bool :=
  some (decide (((code.length : Nat) : Int) > (1048576 : Int)))

theorem laws_big_con (code : List UInt8) (V_code0 : Value) (r : Bool) (hm : laws_big code = some r) :
    Con Try.prog 7 [V_code0] [] [(V_code0, lc code)] (fun _ : Unit => .bool r) (fun _ => []) := by
  refine Con.intro (args := [V_code0]) (n := 6) (val := fun r (_ : Unit) => .bool r) (post := fun _ _ => []) (m := laws_big code) Try.func7 rfl rfl rfl hm ?_
  intro w S hrd
  have HB_V_code0 := hrd _ (.head _)
  clear hrd
  unfold laws_big
  refine TW.seq ?_
  refine TW.region ?_
  refine TO.y (Y.assign rfl) rfl rfl rfl ?_
  refine TO.nil ?_
  refine TE.next ?_
  refine TW.seq ?_
  refine TW.region ?_
  refine TO.y (Y.move rfl) rfl rfl rfl ?_
  refine TO.y (Y.len (l := code) ke22 (Base.can HB_V_code0) rfl) rfl rfl rfl ?_
  refine TO.y (Y.gtr rfl rfl) rfl rfl rfl ?_
  refine TO.y (Y.assign rfl) rfl rfl rfl ?_
  refine TO.nil ?_
  refine TE.next ?_
  refine TW.ret ?_
  exact TE.leaf fun _ _ hf_ hs_ => ret_any (rs := [.tmp 2]) (vs := [.bool (decide (((code.length : Nat) : Int) > (1048576 : Int)))]) (.inl rfl) rfl ⟨rfl, trivial⟩ hf_ hs_ ⟨(), rfl, hs_.pulls [] rfl⟩

/-- loop.example/g00950/spec.l1New -/
noncomputable def spec_l1New (code : List UInt8) : Option L1Cur :=
  bindC (loopO (fun (S1 : Int × Int) => (if (decide (S1.2 < ((code.length : Nat) : Int))) = true then (some (decide (S1.2 < (4000 : Int))))
  else (some false)).bind (fun (T5 : Bool) =>
  if T5 = true then ((idx code S1.2).bind fun E9 =>
  some (.go (iand .i64 (IntKind.i64.wrap (IntKind.i64.wrap (IntKind.i64.wrap (S1.1 * (131 : Int)) + (IntKind.i64.wrap ((E9.toNat : Nat) : Int))) + (7 : Int))) (1073741823 : Int), IntKind.i64.wrap (S1.2 + (1 : Int)))))
  else (some (.done (.go S1.1)))))
  (IntKind.i64.wrap ((10101 : Int) + ((code.length : Nat) : Int)), (0 : Int)))
  (fun (T3 : Int) => some ({ b := code, i := (0 : Int), h := T3 : L1Cur }))

theorem spec_l1New_con (code : List UInt8) (V_code0 : Value) (r : L1Cur) (hm : spec_l1New code = some r) :
    Con Try.prog 29 [V_code0] [] [(V_code0, lc code)] (fun X : Nat => .pointer (some ⟨X, 0, none⟩)) (fun X => [.box X 70 [V_code0, .int .i64 r.i, .int .i64 r.h]]) := by
  refine Con.intro (args := [V_code0]) (n := 32) (val := fun _ (X : Nat) => .pointer (some ⟨X, 0, none⟩)) (post := fun r X => [.box X 70 [V_code0, .int .i64 r.i, .int .i64 r.h]]) (m := spec_l1New code) Try.func29 rfl rfl rfl hm ?_
  intro w S hrd
  have HB_V_code0 := hrd _ (.head _)
  clear hrd
  unfold spec_l1New
  refine TW.seq ?_
  refine TW.region ?_
  refine TO.y (Y.assign rfl) rfl rfl rfl ?_
  refine TO.nil ?_
  refine TE.next ?_
  refine TW.seq ?_
  refine TW.region ?_
  refine TO.y (Y.move rfl) rfl rfl rfl ?_
  refine TO.y (Y.len (l := code) ke22 (Base.can HB_V_code0) rfl) rfl rfl rfl ?_
  refine TO.y (Y.add rfl rfl) rfl rfl rfl ?_
  refine TO.y (Y.assign rfl) rfl rfl rfl ?_
  refine TO.nil ?_
  refine TE.next ?_
  refine TW.seq ?_
  refine TW.seq ?_
  refine TW.region ?_
  refine TO.y (Y.assign rfl) rfl rfl rfl ?_
  refine TO.nil ?_
  refine TE.next ?_
  refine TW.joinX (τ := Int) (X := Unit) (fun T _ => [(0, V_code0), (3, .int .i64 T)]) (fun _ _ => []) ?_ (fun T3 X4 => ?_)
  · refine TW.block ?_
    refine TW.loopX (σ := Int × Int) (X := Unit) (fun T _ => [(0, V_code0), (3, .int .i64 T.1), (4, .int .i64 T.2)]) (fun _ _ => []) () [] ⟨rfl, rfl, rfl, trivial⟩ rfl (fun S1 X2 => ?_)
    refine TW.seq ?_
    refine TW.seq ?_
    refine TW.joinBX (τ := Bool) (X := Unit) (fun T _ => [(0, V_code0), (3, .int .i64 S1.1), (4, .int .i64 S1.2), (15, .bool T)]) (fun _ _ => []) ?_ (fun T5 X6 => ?_)
    · refine TW.region ?_
      refine TO.y (Y.move rfl) rfl rfl rfl ?_
      refine TO.y (Y.move rfl) rfl rfl rfl ?_
      refine TO.y (Y.len (l := code) ke22 (Base.can HB_V_code0) rfl) rfl rfl rfl ?_
      refine TO.y (Y.lss rfl rfl) rfl rfl rfl ?_
      refine TO.y (Y.move rfl) rfl rfl rfl ?_
      refine TO.ite (b := decide (S1.2 < ((code.length : Nat) : Int))) (fun H7 => ?_) (fun H7 => ?_)
      · refine TO.y (Y.move rfl) (Gd.at 4 true 12 (decide (S1.2 < ((code.length : Nat) : Int))) rfl rfl rfl (beq_tt H7)) rfl rfl ?_
        refine TO.y (Y.lss rfl rfl) (Gd.at 4 true 12 (decide (S1.2 < ((code.length : Nat) : Int))) rfl rfl rfl (beq_tt H7)) rfl rfl ?_
        refine TO.y (Y.pick_t H7 rfl rfl) rfl rfl rfl ?_
        refine TO.nil ?_
        exact TE.jb_go () [] ⟨rfl, rfl, rfl, rfl, trivial⟩ rfl
      · refine TO.off (Gd.at 4 true 12 (decide (S1.2 < ((code.length : Nat) : Int))) rfl rfl rfl (beq_ft H7)) rfl rfl ?_
        refine TO.off (Gd.at 4 true 12 (decide (S1.2 < ((code.length : Nat) : Int))) rfl rfl rfl (beq_ft H7)) rfl rfl ?_
        refine TO.y (Y.pick_f H7 rfl rfl) rfl rfl rfl ?_
        refine TO.nil ?_
        exact TE.jb_go () [] ⟨rfl, rfl, rfl, rfl, trivial⟩ rfl
    · refine TE.next ?_
      refine TW.cond rfl (fun H8 => ?_) (fun H8 => ?_)
      · refine TW.skip ?_
        refine TE.next ?_
        refine TW.seq ?_
        refine TW.block ?_
        refine TW.region ?_
        refine TO.y (Y.move rfl) rfl rfl rfl ?_
        refine TO.y (Y.mul rfl rfl) rfl rfl rfl ?_
        refine TO.y (Y.move rfl) rfl rfl rfl ?_
        refine TO.y (Y.move rfl) rfl rfl rfl ?_
        refine TO.bind fun E9 H10 => ?_
        refine TO.y (Y.index ke22 (Base.can HB_V_code0) H10 rfl rfl) rfl rfl rfl ?_
        refine TO.y (Y.load_el (us := [.int .u8 ((E9.toNat : Nat) : Int)]) (u := .int .u8 ((E9.toNat : Nat) : Int)) kk5 rfl (Base.can HB_V_code0) (idx_get H10).2.2 rfl rfl rfl rfl rfl) rfl rfl rfl ?_
        refine TO.y (Y.conv ki5 ki3 rfl) rfl rfl rfl ?_
        refine TO.y (Y.add rfl rfl) rfl rfl rfl ?_
        refine TO.y (Y.add rfl rfl) rfl rfl rfl ?_
        refine TO.y (Y.and rfl rfl) rfl rfl rfl ?_
        refine TO.y (Y.assign rfl) rfl rfl rfl ?_
        refine TO.nil ?_
        refine TE.block_normal ?_
        refine TE.next ?_
        refine TW.region ?_
        refine TO.y (Y.move rfl) rfl rfl rfl ?_
        refine TO.y (Y.add rfl rfl) rfl rfl rfl ?_
        refine TO.y (Y.assign rfl) rfl rfl rfl ?_
        refine TO.nil ?_
        exact TE.lp_go () [] ⟨rfl, rfl, rfl, trivial⟩ rfl
      · refine TW.exit ?_
        refine TE.then_exit ?_
        refine TE.lp_exit ?_
        refine TE.block_exit ?_
        exact TE.jn_go () [] ⟨rfl, rfl, trivial⟩ rfl
  · refine TE.next ?_
    refine TW.seq ?_
    refine TW.region ?_
    refine TO.y (Y.move rfl) rfl rfl rfl ?_
    refine TO.y (Y.move rfl) rfl rfl rfl ?_
    refine TO.y (Y.build (cells := [V_code0, .int .i64 (0 : Int), .int .i64 T3]) [(0, [V_code0]), (2, [.int .i64 T3])] kp70 kz70 ⟨rfl, ⟨_, rfl, (Cel.one (One.can (Base.can HB_V_code0)))⟩, ⟨rfl, ⟨_, rfl, (Cel.plain rfl rfl)⟩, trivial⟩⟩ rfl) rfl rfl rfl ?_
    refine TO.ef (Ef.box rfl (Cel.agg ⟨(One.can (Base.can HB_V_code0)), (One.plain rfl), (One.plain rfl), trivial⟩)) rfl rfl rfl (fun B11 => ?_)
    refine TO.y (Y.assign rfl) rfl rfl rfl ?_
    refine TO.nil ?_
    refine TE.next ?_
    refine TW.ret ?_
    exact TE.leaf fun _ _ hf_ hs_ => ret_any (rs := [.tmp 2]) (vs := [.pointer (some ⟨B11, 0, none⟩)]) (.inl rfl) rfl ⟨rfl, trivial⟩ hf_ hs_ ⟨B11, rfl, hs_.pulls [0] rfl⟩

/-- loop.example/g00950/spec.l1Byte -/
noncomputable def spec_l1Byte (c : L1Cur) : Option (Int × L1Cur) :=
  bindC (if (decide (c.i < ((c.b.length : Nat) : Int))) = true then ((idx c.b c.i).bind fun E4 =>
  some (.go (iand .i64 (IntKind.i64.wrap (iand .i64 (ixor .i64 (ishr .i64 (IntKind.i64.wrap (IntKind.i64.wrap (c.h * (6364136223846793005 : Int)) + (1442695040888963407 : Int))) (33 : Int)) (ishr .i64 (IntKind.i64.wrap (IntKind.i64.wrap (c.h * (6364136223846793005 : Int)) + (1442695040888963407 : Int))) (45 : Int))) (255 : Int) + (IntKind.i64.wrap ((E4.toNat : Nat) : Int)))) (255 : Int), IntKind.i64.wrap (c.i + (1 : Int)))))
  else (some (.go (iand .i64 (ixor .i64 (ishr .i64 (IntKind.i64.wrap (IntKind.i64.wrap (c.h * (6364136223846793005 : Int)) + (1442695040888963407 : Int))) (33 : Int)) (ishr .i64 (IntKind.i64.wrap (IntKind.i64.wrap (c.h * (6364136223846793005 : Int)) + (1442695040888963407 : Int))) (45 : Int))) (255 : Int), c.i))))
  (fun (T1 : Int × Int) => some (T1.1, { b := c.b, i := T1.2, h := IntKind.i64.wrap (IntKind.i64.wrap (c.h * (6364136223846793005 : Int)) + (1442695040888963407 : Int)) : L1Cur }))

theorem spec_l1Byte_con (c : L1Cur) (V_c0 : Value) (B_c : Nat) (r : Int × L1Cur) (hm : spec_l1Byte c = some r) :
    Con Try.prog 55 [.pointer (some ⟨B_c, 0, none⟩)] [.box B_c 70 [V_c0, .int .i64 c.i, .int .i64 c.h]] [(V_c0, lc c.b)] (fun _ : Unit => .int .i64 r.1) (fun _ => [.box B_c 70 [V_c0, .int .i64 r.2.i, .int .i64 r.2.h]]) := by
  refine Con.intro (args := [.pointer (some ⟨B_c, 0, none⟩)]) (n := 58) (val := fun r (_ : Unit) => .int .i64 r.1) (post := fun r _ => [.box B_c 70 [V_c0, .int .i64 r.2.i, .int .i64 r.2.h]]) (m := spec_l1Byte c) Try.func55 rfl rfl rfl hm ?_
  intro w S hrd
  have HB_V_c0 := hrd _ (.head _)
  clear hrd
  unfold spec_l1Byte
  refine TW.seq ?_
  refine TW.region ?_
  refine TO.y (Y.assign rfl) rfl rfl rfl ?_
  refine TO.nil ?_
  refine TE.next ?_
  refine TW.seq ?_
  refine TW.region ?_
  refine TO.y (Y.move rfl) rfl rfl rfl ?_
  refine TO.y (Y.move rfl) rfl rfl rfl ?_
  refine TO.y (Y.nilCheck rfl) rfl rfl rfl ?_
  refine TO.y (Y.field_box kf70_2 rfl rfl) rfl rfl rfl ?_
  refine TO.y (Y.load_box (v := .int .i64 c.h) 0 kk3 rfl rfl rfl) rfl rfl rfl ?_
  refine TO.y (Y.mul rfl rfl) rfl rfl rfl ?_
  refine TO.y (Y.add rfl rfl) rfl rfl rfl ?_
  refine TO.y (Y.nilCheck rfl) rfl rfl rfl ?_
  refine TO.y (Y.field_box kf70_2 rfl rfl) rfl rfl rfl ?_
  refine TO.ef0 (Ef.store_box (us := [.int .i64 (IntKind.i64.wrap (IntKind.i64.wrap (c.h * (6364136223846793005 : Int)) + (1442695040888963407 : Int)))]) (vs' := [V_c0, .int .i64 c.i, .int .i64 (IntKind.i64.wrap (IntKind.i64.wrap (c.h * (6364136223846793005 : Int)) + (1442695040888963407 : Int)))]) (is' := [.box B_c 70 [V_c0, .int .i64 c.i, .int .i64 (IntKind.i64.wrap (IntKind.i64.wrap (c.h * (6364136223846793005 : Int)) + (1442695040888963407 : Int)))]]) 0 kk3 rfl rfl rfl (Cel.plain rfl rfl) rfl rfl rfl rfl) rfl rfl (fun _ => ?_)
  refine TO.nil ?_
  refine TE.next ?_
  refine TW.seq ?_
  refine TW.draw (isH := [.box B_c 70 [V_c0, .int .i64 c.i, .int .i64 (IntKind.i64.wrap (IntKind.i64.wrap (c.h * (6364136223846793005 : Int)) + (1442695040888963407 : Int)))]]) hMix ?_
  refine TA.y (listed' := #[true, false, false, false, false, false, false, false, false, false, false, false, false]) 0 [0] rfl (Y.move rfl) rfl rfl rfl (by kernel_rfl) (by kernel_rfl) (by kernel_rfl) rfl rfl ?_
  refine TA.y (listed' := #[true, true, false, false, false, false, false, false, false, false, false, false, false]) 1 [0] rfl (Y.nilCheck rfl) rfl rfl rfl (by kernel_rfl) (by kernel_rfl) (by kernel_rfl) rfl rfl ?_
  refine TA.y (listed' := #[true, true, true, false, false, false, false, false, false, false, false, false, false]) 2 [0] rfl (Y.field_box kf70_2 rfl rfl) rfl rfl rfl (by kernel_rfl) (by kernel_rfl) (by kernel_rfl) rfl rfl ?_
  refine TA.y (listed' := #[true, true, true, true, false, false, false, false, false, false, false, false, false]) 3 [0] rfl (Y.load_box (v := .int .i64 (IntKind.i64.wrap (IntKind.i64.wrap (c.h * (6364136223846793005 : Int)) + (1442695040888963407 : Int)))) 0 kk3 rfl rfl rfl) rfl rfl rfl (by kernel_rfl) (by kernel_rfl) (by kernel_rfl) rfl rfl ?_
  refine TA.y (listed' := #[true, true, true, true, true, false, false, false, false, false, false, false, false]) 4 [0] rfl (Y.shr (by decide) rfl rfl) rfl rfl rfl (by kernel_rfl) (by kernel_rfl) (by kernel_rfl) rfl rfl ?_
  refine TA.y (listed' := #[true, true, true, true, true, true, false, false, false, false, false, false, false]) 5 [0] rfl (Y.move rfl) rfl rfl rfl (by kernel_rfl) (by kernel_rfl) (by kernel_rfl) rfl rfl ?_
  refine TA.y (listed' := #[true, true, true, true, true, true, true, false, false, false, false, false, false]) 6 [0] rfl (Y.nilCheck rfl) rfl rfl rfl (by kernel_rfl) (by kernel_rfl) (by kernel_rfl) rfl rfl ?_
  refine TA.y (listed' := #[true, true, true, true, true, true, true, true, false, false, false, false, false]) 7 [0] rfl (Y.field_box kf70_2 rfl rfl) rfl rfl rfl (by kernel_rfl) (by kernel_rfl) (by kernel_rfl) rfl rfl ?_
  refine TA.y (listed' := #[true, true, true, true, true, true, true, true, true, false, false, false, false]) 8 [0] rfl (Y.load_box (v := .int .i64 (IntKind.i64.wrap (IntKind.i64.wrap (c.h * (6364136223846793005 : Int)) + (1442695040888963407 : Int)))) 0 kk3 rfl rfl rfl) rfl rfl rfl (by kernel_rfl) (by kernel_rfl) (by kernel_rfl) rfl rfl ?_
  refine TA.y (listed' := #[true, true, true, true, true, true, true, true, true, true, false, false, false]) 9 [0] rfl (Y.shr (by decide) rfl rfl) rfl rfl rfl (by kernel_rfl) (by kernel_rfl) (by kernel_rfl) rfl rfl ?_
  refine TA.y (listed' := #[true, true, true, true, true, true, true, true, true, true, true, false, false]) 10 [0] rfl (Y.xor rfl rfl) rfl rfl rfl (by kernel_rfl) (by kernel_rfl) (by kernel_rfl) rfl rfl ?_
  refine TA.y (listed' := #[true, true, true, true, true, true, true, true, true, true, true, true, false]) 11 [0] rfl (Y.and rfl rfl) rfl rfl rfl (by kernel_rfl) (by kernel_rfl) (by kernel_rfl) rfl rfl ?_
  refine TA.y (listed' := #[true, true, true, true, true, true, true, true, true, true, true, true, true]) 12 [0] rfl (Y.assign rfl) rfl rfl rfl (by kernel_rfl) (by kernel_rfl) (by kernel_rfl) rfl rfl ?_
  refine TA.nil (by kernel_rfl) ?_
  refine TE.next ?_
  refine TW.seq ?_
  refine TW.seq ?_
  refine TW.draw (isH := [.box B_c 70 [V_c0, .int .i64 c.i, .int .i64 (IntKind.i64.wrap (IntKind.i64.wrap (c.h * (6364136223846793005 : Int)) + (1442695040888963407 : Int)))]]) hMix ?_
  refine TA.y (listed' := #[true, false, false, false, false, false, false, false, false, false]) 0 [0] rfl (Y.move rfl) rfl rfl rfl (by kernel_rfl) (by kernel_rfl) (by kernel_rfl) rfl rfl ?_
  refine TA.y (listed' := #[true, true, false, false, false, false, false, false, false, false]) 1 [0] rfl (Y.nilCheck rfl) rfl rfl rfl (by kernel_rfl) (by kernel_rfl) (by kernel_rfl) rfl rfl ?_
  refine TA.y (listed' := #[true, true, true, false, false, false, false, false, false, false]) 2 [0] rfl (Y.field_box kf70_1 rfl rfl) rfl rfl rfl (by kernel_rfl) (by kernel_rfl) (by kernel_rfl) rfl rfl ?_
  refine TA.y (listed' := #[true, true, true, true, false, false, false, false, false, false]) 3 [0] rfl (Y.load_box (v := .int .i64 c.i) 0 kk3 rfl rfl rfl) rfl rfl rfl (by kernel_rfl) (by kernel_rfl) (by kernel_rfl) rfl rfl ?_
  refine TA.y (listed' := #[true, true, true, true, true, false, false, false, false, false]) 4 [0] rfl (Y.move rfl) rfl rfl rfl (by kernel_rfl) (by kernel_rfl) (by kernel_rfl) rfl rfl ?_
  refine TA.y (listed' := #[true, true, true, true, true, true, false, false, false, false]) 5 [0] rfl (Y.nilCheck rfl) rfl rfl rfl (by kernel_rfl) (by kernel_rfl) (by kernel_rfl) rfl rfl ?_
  refine TA.y (listed' := #[true, true, true, true, true, true, true, false, false, false]) 6 [0] rfl (Y.field_box kf70_0 rfl rfl) rfl rfl rfl (by kernel_rfl) (by kernel_rfl) (by kernel_rfl) rfl rfl ?_
  refine TA.y (listed' := #[true, true, true, true, true, true, true, true, false, false]) 7 [0] rfl (Y.load_box (v := V_c0) 0 kk22 rfl rfl rfl) rfl rfl rfl (by kernel_rfl) (by kernel_rfl) (by kernel_rfl) rfl rfl ?_
  refine TA.y (listed' := #[true, true, true, true, true, true, true, true, true, false]) 8 [0] rfl (Y.len (l := c.b) ke22 (Base.can HB_V_c0) rfl) rfl rfl rfl (by kernel_rfl) (by kernel_rfl) (by kernel_rfl) rfl rfl ?_
  refine TA.y (listed' := #[true, true, true, true, true, true, true, true, true, true]) 9 [0] rfl (Y.lss rfl rfl) rfl rfl rfl (by kernel_rfl) (by kernel_rfl) (by kernel_rfl) rfl rfl ?_
  refine TA.nil (by kernel_rfl) ?_
  refine TE.next ?_
  refine TW.joinX (τ := Int × Int) (X := Unit) (fun T _ => [(3, .int .i64 T.1)]) (fun T _ => [.box B_c 70 [V_c0, .int .i64 T.2, .int .i64 (IntKind.i64.wrap (IntKind.i64.wrap (c.h * (6364136223846793005 : Int)) + (1442695040888963407 : Int)))]]) ?_ (fun T1 X2 => ?_)
  · refine TW.cond rfl (fun H3 => ?_) (fun H3 => ?_)
    · refine TW.seq ?_
      refine TW.draw (isH := [.box B_c 70 [V_c0, .int .i64 c.i, .int .i64 (IntKind.i64.wrap (IntKind.i64.wrap (c.h * (6364136223846793005 : Int)) + (1442695040888963407 : Int)))]]) hMix ?_
      refine TA.y (listed' := #[true, false, false, false, false, false, false, false, false, false, false, false, false, false, false]) 0 [0] rfl (Y.move rfl) rfl rfl rfl (by kernel_rfl) (by kernel_rfl) (by kernel_rfl) rfl rfl ?_
      refine TA.y (listed' := #[true, true, false, false, false, false, false, false, false, false, false, false, false, false, false]) 1 [0] rfl (Y.move rfl) rfl rfl rfl (by kernel_rfl) (by kernel_rfl) (by kernel_rfl) rfl rfl ?_
      refine TA.y (listed' := #[true, true, true, false, false, false, false, false, false, false, false, false, false, false, false]) 2 [0] rfl (Y.nilCheck rfl) rfl rfl rfl (by kernel_rfl) (by kernel_rfl) (by kernel_rfl) rfl rfl ?_
      refine TA.y (listed' := #[true, true, true, true, false, false, false, false, false, false, false, false, false, false, false]) 3 [0] rfl (Y.field_box kf70_0 rfl rfl) rfl rfl rfl (by kernel_rfl) (by kernel_rfl) (by kernel_rfl) rfl rfl ?_
      refine TA.y (listed' := #[true, true, true, true, true, false, false, false, false, false, false, false, false, false, false]) 4 [0] rfl (Y.load_box (v := V_c0) 0 kk22 rfl rfl rfl) rfl rfl rfl (by kernel_rfl) (by kernel_rfl) (by kernel_rfl) rfl rfl ?_
      refine TA.y (listed' := #[true, true, true, true, true, true, false, false, false, false, false, false, false, false, false]) 5 [0] rfl (Y.move rfl) rfl rfl rfl (by kernel_rfl) (by kernel_rfl) (by kernel_rfl) rfl rfl ?_
      refine TA.y (listed' := #[true, true, true, true, true, true, true, false, false, false, false, false, false, false, false]) 6 [0] rfl (Y.nilCheck rfl) rfl rfl rfl (by kernel_rfl) (by kernel_rfl) (by kernel_rfl) rfl rfl ?_
      refine TA.y (listed' := #[true, true, true, true, true, true, true, true, false, false, false, false, false, false, false]) 7 [0] rfl (Y.field_box kf70_1 rfl rfl) rfl rfl rfl (by kernel_rfl) (by kernel_rfl) (by kernel_rfl) rfl rfl ?_
      refine TA.y (listed' := #[true, true, true, true, true, true, true, true, true, false, false, false, false, false, false]) 8 [0] rfl (Y.load_box (v := .int .i64 c.i) 0 kk3 rfl rfl rfl) rfl rfl rfl (by kernel_rfl) (by kernel_rfl) (by kernel_rfl) rfl rfl ?_
      refine TA.bind fun E4 H5 => ?_
      refine TA.y (listed' := #[true, true, true, true, true, true, true, true, true, true, false, false, false, false, false]) 9 [0] rfl (Y.index ke22 (Base.can HB_V_c0) H5 rfl rfl) rfl rfl rfl (by kernel_rfl) (by kernel_rfl) (by kernel_rfl) rfl rfl ?_
      refine TA.y (listed' := #[true, true, true, true, true, true, true, true, true, true, true, false, false, false, false]) 10 [0] rfl (Y.load_el (us := [.int .u8 ((E4.toNat : Nat) : Int)]) (u := .int .u8 ((E4.toNat : Nat) : Int)) kk5 rfl (Base.can HB_V_c0) (idx_get H5).2.2 rfl rfl rfl rfl rfl) rfl rfl rfl (by kernel_rfl) (by kernel_rfl) (by kernel_rfl) rfl rfl ?_
      refine TA.y (listed' := #[true, true, true, true, true, true, true, true, true, true, true, true, false, false, false]) 11 [0] rfl (Y.conv ki5 ki3 rfl) rfl rfl rfl (by kernel_rfl) (by kernel_rfl) (by kernel_rfl) rfl rfl ?_
      refine TA.y (listed' := #[true, true, true, true, true, true, true, true, true, true, true, true, true, false, false]) 12 [0] rfl (Y.add rfl rfl) rfl rfl rfl (by kernel_rfl) (by kernel_rfl) (by kernel_rfl) rfl rfl ?_
      refine TA.y (listed' := #[true, true, true, true, true, true, true, true, true, true, true, true, true, true, false]) 13 [0] rfl (Y.and rfl rfl) rfl rfl rfl (by kernel_rfl) (by kernel_rfl) (by kernel_rfl) rfl rfl ?_
      refine TA.y (listed' := #[true, true, true, true, true, true, true, true, true, true, true, true, true, true, true]) 14 [0] rfl (Y.assign rfl) rfl rfl rfl (by kernel_rfl) (by kernel_rfl) (by kernel_rfl) rfl rfl ?_
      refine TA.nil (by kernel_rfl) ?_
      refine TE.next ?_
      refine TW.region ?_
      refine TO.y (Y.move rfl) rfl rfl rfl ?_
      refine TO.y (Y.move rfl) rfl rfl rfl ?_
      refine TO.y (Y.nilCheck rfl) rfl rfl rfl ?_
      refine TO.y (Y.field_box kf70_1 rfl rfl) rfl rfl rfl ?_
      refine TO.y (Y.load_box (v := .int .i64 c.i) 0 kk3 rfl rfl rfl) rfl rfl rfl ?_
      refine TO.y (Y.add rfl rfl) rfl rfl rfl ?_
      refine TO.y (Y.nilCheck rfl) rfl rfl rfl ?_
      refine TO.y (Y.field_box kf70_1 rfl rfl) rfl rfl rfl ?_
      refine TO.ef0 (Ef.store_box (us := [.int .i64 (IntKind.i64.wrap (c.i + (1 : Int)))]) (vs' := [V_c0, .int .i64 (IntKind.i64.wrap (c.i + (1 : Int))), .int .i64 (IntKind.i64.wrap (IntKind.i64.wrap (c.h * (6364136223846793005 : Int)) + (1442695040888963407 : Int)))]) (is' := [.box B_c 70 [V_c0, .int .i64 (IntKind.i64.wrap (c.i + (1 : Int))), .int .i64 (IntKind.i64.wrap (IntKind.i64.wrap (c.h * (6364136223846793005 : Int)) + (1442695040888963407 : Int)))]]) 0 kk3 rfl rfl rfl (Cel.plain rfl rfl) rfl rfl rfl rfl) rfl rfl (fun _ => ?_)
      refine TO.nil ?_
      exact TE.jn_go () [0] ⟨rfl, trivial⟩ rfl
    · refine TW.skip ?_
      exact TE.jn_go () [0] ⟨rfl, trivial⟩ rfl
  · refine TE.next ?_
    refine TW.seq ?_
    refine TW.region ?_
    refine TO.y (Y.move rfl) rfl rfl rfl ?_
    refine TO.y (Y.assign rfl) rfl rfl rfl ?_
    refine TO.nil ?_
    refine TE.next ?_
    refine TW.ret ?_
    exact TE.leaf fun _ _ hf_ hs_ => ret_any (rs := [.tmp 2]) (vs := [.int .i64 T1.1]) (.inl rfl) rfl ⟨rfl, trivial⟩ hf_ hs_ ⟨(), rfl, hs_.pulls [0] rfl⟩

/-- loop.example/g00950/spec.l1Below -/
noncomputable def spec_l1Below (c : L1Cur) (n : Int) : Option (Int × L1Cur) :=
  if (decide (n ≤ (0 : Int))) = true then (some ((0 : Int), c))
  else (if (decide (n ≤ (256 : Int))) = true then ((spec_l1Byte c).bind fun R3 =>
  (nz n).bind fun E6 =>
  some (Int.tmod R3.1 n, { b := c.b, i := R3.2.i, h := R3.2.h : L1Cur }))
  else ((spec_l1Byte c).bind fun R8 =>
  (spec_l1Byte ({ b := c.b, i := R8.2.i, h := R8.2.h : L1Cur })).bind fun R11 =>
  (spec_l1Byte ({ b := c.b, i := R11.2.i, h := R11.2.h : L1Cur })).bind fun R14 =>
  (spec_l1Byte ({ b := c.b, i := R14.2.i, h := R14.2.h : L1Cur })).bind fun R17 =>
  (nz n).bind fun E20 =>
  some (Int.tmod (IntKind.i64.wrap (IntKind.i64.wrap (IntKind.i64.wrap (IntKind.i64.wrap (R8.1 * (16777216 : Int)) + (IntKind.i64.wrap (R11.1 * (65536 : Int)))) + (IntKind.i64.wrap (R14.1 * (256 : Int)))) + R17.1)) n, { b := c.b, i := R17.2.i, h := R17.2.h : L1Cur })))

theorem spec_l1Below_con (c : L1Cur) (n : Int) (V_c0 : Value) (B_c : Nat) (r : Int × L1Cur) (hm : spec_l1Below c n = some r) :
    Con Try.prog 30 [.pointer (some ⟨B_c, 0, none⟩), .int .i64 n] [.box B_c 70 [V_c0, .int .i64 c.i, .int .i64 c.h]] [(V_c0, lc c.b)] (fun _ : Unit => .int .i64 r.1) (fun _ => [.box B_c 70 [V_c0, .int .i64 r.2.i, .int .i64 r.2.h]]) := by
  refine Con.intro (args := [.pointer (some ⟨B_c, 0, none⟩), .int .i64 n]) (n := 37) (val := fun r (_ : Unit) => .int .i64 r.1) (post := fun r _ => [.box B_c 70 [V_c0, .int .i64 r.2.i, .int .i64 r.2.h]]) (m := spec_l1Below c n) Try.func30 rfl rfl rfl hm ?_
  intro w S hrd
  have HB_V_c0 := hrd _ (.head _)
  clear hrd
  unfold spec_l1Below
  refine TW.seq ?_
  refine TW.region ?_
  refine TO.y (Y.assign rfl) rfl rfl rfl ?_
  refine TO.nil ?_
  refine TE.next ?_
  refine TW.seq ?_
  refine TW.seq ?_
  refine TW.region ?_
  refine TO.y (Y.move rfl) rfl rfl rfl ?_
  refine TO.y (Y.leq rfl rfl) rfl rfl rfl ?_
  refine TO.nil ?_
  refine TE.next ?_
  refine TW.cond rfl (fun H1 => ?_) (fun H1 => ?_)
  · refine TW.seq ?_
    refine TW.region ?_
    refine TO.y (Y.assign rfl) rfl rfl rfl ?_
    refine TO.nil ?_
    refine TE.next ?_
    refine TW.ret ?_
    refine TE.then_ret ?_
    exact TE.leaf fun _ _ hf_ hs_ => ret_any (rs := [.tmp 4]) (vs := [.int .i64 (0 : Int)]) (.inl rfl) rfl ⟨rfl, trivial⟩ hf_ hs_ ⟨(), rfl, hs_.pulls [0] rfl⟩
  · refine TW.skip ?_
    refine TE.next ?_
    refine TW.seq ?_
    refine TW.seq ?_
    refine TW.region ?_
    refine TO.y (Y.move rfl) rfl rfl rfl ?_
    refine TO.y (Y.leq rfl rfl) rfl rfl rfl ?_
    refine TO.nil ?_
    refine TE.next ?_
    refine TW.cond rfl (fun H2 => ?_) (fun H2 => ?_)
    · refine TW.seq ?_
      refine TW.region ?_
      refine TO.y (Y.move rfl) rfl rfl rfl ?_
      refine TO.bind fun R3 H4 => ?_
      refine TO.ef (Ef.call (rest := []) [0] (spec_l1Byte_con c V_c0 B_c R3 H4) kc55 rfl rfl ⟨(Base.can HB_V_c0), trivial⟩) rfl rfl rfl (fun _ => ?_)
      refine TO.y (Y.move rfl) rfl rfl rfl ?_
      refine TO.bind fun E6 H7 => ?_
      refine TO.y (Y.rem (nz_ne H7) rfl rfl) rfl rfl rfl ?_
      refine TO.y (Y.assign rfl) rfl rfl rfl ?_
      refine TO.nil ?_
      refine TE.next ?_
      refine TW.ret ?_
      refine TE.then_ret ?_
      exact TE.leaf fun _ _ hf_ hs_ => ret_any (rs := [.tmp 4]) (vs := [.int .i64 (Int.tmod R3.1 n)]) (.inl rfl) rfl ⟨rfl, trivial⟩ hf_ hs_ ⟨(), rfl, hs_.pulls [0] rfl⟩
    · refine TW.skip ?_
      refine TE.next ?_
      refine TW.seq ?_
      refine TW.region ?_
      refine TO.y (Y.move rfl) rfl rfl rfl ?_
      refine TO.bind fun R8 H9 => ?_
      refine TO.ef (Ef.call (rest := []) [0] (spec_l1Byte_con c V_c0 B_c R8 H9) kc55 rfl rfl ⟨(Base.can HB_V_c0), trivial⟩) rfl rfl rfl (fun _ => ?_)
      refine TO.y (Y.assign rfl) rfl rfl rfl ?_
      refine TO.nil ?_
      refine TE.next ?_
      refine TW.seq ?_
      refine TW.region ?_
      refine TO.y (Y.move rfl) rfl rfl rfl ?_
      refine TO.bind fun R11 H12 => ?_
      refine TO.ef (Ef.call (rest := []) [0] (spec_l1Byte_con ({ b := c.b, i := R8.2.i, h := R8.2.h : L1Cur }) V_c0 B_c R11 H12) kc55 rfl rfl ⟨(Base.can HB_V_c0), trivial⟩) rfl rfl rfl (fun _ => ?_)
      refine TO.y (Y.assign rfl) rfl rfl rfl ?_
      refine TO.nil ?_
      refine TE.next ?_
      refine TW.seq ?_
      refine TW.region ?_
      refine TO.y (Y.move rfl) rfl rfl rfl ?_
      refine TO.bind fun R14 H15 => ?_
      refine TO.ef (Ef.call (rest := []) [0] (spec_l1Byte_con ({ b := c.b, i := R11.2.i, h := R11.2.h : L1Cur }) V_c0 B_c R14 H15) kc55 rfl rfl ⟨(Base.can HB_V_c0), trivial⟩) rfl rfl rfl (fun _ => ?_)
      refine TO.y (Y.assign rfl) rfl rfl rfl ?_
      refine TO.nil ?_
      refine TE.next ?_
      refine TW.seq ?_
      refine TW.region ?_
      refine TO.y (Y.move rfl) rfl rfl rfl ?_
      refine TO.bind fun R17 H18 => ?_
      refine TO.ef (Ef.call (rest := []) [0] (spec_l1Byte_con ({ b := c.b, i := R14.2.i, h := R14.2.h : L1Cur }) V_c0 B_c R17 H18) kc55 rfl rfl ⟨(Base.can HB_V_c0), trivial⟩) rfl rfl rfl (fun _ => ?_)
      refine TO.y (Y.assign rfl) rfl rfl rfl ?_
      refine TO.nil ?_
      refine TE.next ?_
      refine TW.seq ?_
      refine TW.region ?_
      refine TO.y (Y.move rfl) rfl rfl rfl ?_
      refine TO.y (Y.mul rfl rfl) rfl rfl rfl ?_
      refine TO.y (Y.move rfl) rfl rfl rfl ?_
      refine TO.y (Y.mul rfl rfl) rfl rfl rfl ?_
      refine TO.y (Y.add rfl rfl) rfl rfl rfl ?_
      refine TO.y (Y.move rfl) rfl rfl rfl ?_
      refine TO.y (Y.mul rfl rfl) rfl rfl rfl ?_
      refine TO.y (Y.add rfl rfl) rfl rfl rfl ?_
      refine TO.y (Y.move rfl) rfl rfl rfl ?_
      refine TO.y (Y.add rfl rfl) rfl rfl rfl ?_
      refine TO.y (Y.move rfl) rfl rfl rfl ?_
      refine TO.bind fun E20 H21 => ?_
      refine TO.y (Y.rem (nz_ne H21) rfl rfl) rfl rfl rfl ?_
      refine TO.y (Y.assign rfl) rfl rfl rfl ?_
      refine TO.nil ?_
      refine TE.next ?_
      refine TW.ret ?_
      exact TE.leaf fun _ _ hf_ hs_ => ret_any (rs := [.tmp 4]) (vs := [.int .i64 (Int.tmod (IntKind.i64.wrap (IntKind.i64.wrap (IntKind.i64.wrap (IntKind.i64.wrap (R8.1 * (16777216 : Int)) + (IntKind.i64.wrap (R11.1 * (65536 : Int)))) + (IntKind.i64.wrap (R14.1 * (256 : Int)))) + R17.1)) n)]) (.inl rfl) rfl ⟨rfl, trivial⟩ hf_ hs_ ⟨(), rfl, hs_.pulls [0] rfl⟩

/-- loop.example/g00950/spec.l1Pick -/
noncomputable def spec_l1Pick (c : L1Cur) (list : List (List UInt8)) : Option (List UInt8 × L1Cur) :=
  (spec_l1Below c ((list.length : Nat) : Int)).bind fun R1 =>
  (idx list R1.1).bind fun E4 =>
  some (E4, { b := c.b, i := R1.2.i, h := R1.2.h : L1Cur })

theorem spec_l1Pick_con (c : L1Cur) (list : List (List UInt8)) (V_c0 : Value) (B_c : Nat) (V_list0 : Value) (r : List UInt8 × L1Cur) (hm : spec_l1Pick c list = some r) :
    Con Try.prog 58 [.pointer (some ⟨B_c, 0, none⟩), V_list0] [.box B_c 70 [V_c0, .int .i64 c.i, .int .i64 c.h]] [(V_c0, lc c.b), (V_list0, lc list)] (fun _ : Unit => strV r.1) (fun _ => [.box B_c 70 [V_c0, .int .i64 r.2.i, .int .i64 r.2.h]]) := by
  refine Con.intro (args := [.pointer (some ⟨B_c, 0, none⟩), V_list0]) (n := 12) (val := fun r (_ : Unit) => strV r.1) (post := fun r _ => [.box B_c 70 [V_c0, .int .i64 r.2.i, .int .i64 r.2.h]]) (m := spec_l1Pick c list) Try.func58 rfl rfl rfl hm ?_
  intro w S hrd
  have HB_V_c0 := hrd _ (.head _)
  have HB_V_list0 := hrd _ (.tail _ (.head _))
  clear hrd
  unfold spec_l1Pick
  refine TW.seq ?_
  refine TW.region ?_
  refine TO.y (Y.assign rfl) rfl rfl rfl ?_
  refine TO.nil ?_
  refine TE.next ?_
  refine TW.seq ?_
  refine TW.region ?_
  refine TO.y (Y.move rfl) rfl rfl rfl ?_
  refine TO.y (Y.move rfl) rfl rfl rfl ?_
  refine TO.y (Y.move rfl) rfl rfl rfl ?_
  refine TO.y (Y.len (l := list) ke74 (Base.can HB_V_list0) rfl) rfl rfl rfl ?_
  refine TO.bind fun R1 H2 => ?_
  refine TO.ef (Ef.call (rest := []) [0] (spec_l1Below_con c ((list.length : Nat) : Int) V_c0 B_c R1 H2) kc30 rfl rfl ⟨(Base.can HB_V_c0), trivial⟩) rfl rfl rfl (fun _ => ?_)
  refine TO.bind fun E4 H5 => ?_
  refine TO.y (Y.index ke74 (Base.can HB_V_list0) H5 rfl rfl) rfl rfl rfl ?_
  refine TO.y (Y.load_el (us := [strV E4]) (u := strV E4) kk9 rfl (Base.can HB_V_list0) (idx_get H5).2.2 rfl rfl rfl rfl rfl) rfl rfl rfl ?_
  refine TO.y (Y.assign rfl) rfl rfl rfl ?_
  refine TO.nil ?_
  refine TE.next ?_
  refine TW.ret ?_
  exact TE.leaf fun _ _ hf_ hs_ => ret_any (rs := [.tmp 4]) (vs := [strV E4]) (.inl rfl) rfl ⟨rfl, trivial⟩ hf_ hs_ ⟨(), rfl, hs_.pulls [0] rfl⟩

/-- loop.example/g00950/spec.l7Key -/
noncomputable def spec_l7Key (c : L1Cur) : Option (List UInt8 × L1Cur) :=
  (spec_l1Pick c ([[97], [98], [97, 98], [97, 98, 99], [98, 48], [99], [0], [122, 122]])).bind fun R2 =>
  some (R2.1, { b := c.b, i := R2.2.i, h := R2.2.h : L1Cur })

theorem spec_l7Key_con (c : L1Cur) (V_c0 : Value) (B_c : Nat) (r : List UInt8 × L1Cur) (hm : spec_l7Key c = some r) :
    Con Try.prog 81 [.pointer (some ⟨B_c, 0, none⟩)] [.box B_c 70 [V_c0, .int .i64 c.i, .int .i64 c.h]] [(V_c0, lc c.b)] (fun _ : Unit => strV r.1) (fun _ => [.box B_c 70 [V_c0, .int .i64 r.2.i, .int .i64 r.2.h]]) := by
  refine Con.intro (args := [.pointer (some ⟨B_c, 0, none⟩)]) (n := 6) (val := fun r (_ : Unit) => strV r.1) (post := fun r _ => [.box B_c 70 [V_c0, .int .i64 r.2.i, .int .i64 r.2.h]]) (m := spec_l7Key c) Try.func81 rfl rfl rfl hm ?_
  intro w S hrd
  have HB_V_c0 := hrd _ (.head _)
  clear hrd
  unfold spec_l7Key
  refine TW.seq ?_
  refine TW.region ?_
  refine TO.y (Y.assign rfl) rfl rfl rfl ?_
  refine TO.nil ?_
  refine TE.next ?_
  refine TW.seq ?_
  refine TW.region ?_
  refine TO.y (Y.move rfl) rfl rfl rfl ?_
  refine TO.ef (Ef.buildSlice (α := List UInt8) (Vs := [strV ([97]), strV ([98]), strV ([97, 98]), strV ([97, 98, 99]), strV ([98, 48]), strV ([99]), strV ([0]), strV ([122, 122])]) [[97], [98], [97, 98], [97, 98, 99], [98, 48], [99], [0], [122, 122]] ke74 kz9 rfl rfl rfl rfl rfl) rfl rfl rfl (fun B1 => ?_)
  refine TO.bind fun R2 H3 => ?_
  refine TO.ef (Ef.call (rest := [.own (.slice (some ⟨B1, 0, none⟩) 8 8) (lc ([[97], [98], [97, 98], [97, 98, 99], [98, 48], [99], [0], [122, 122]]))]) [1, 0] (spec_l1Pick_con c ([[97], [98], [97, 98], [97, 98, 99], [98, 48], [99], [0], [122, 122]]) V_c0 B_c (.slice (some ⟨B1, 0, none⟩) 8 8) R2 H3) kc58 rfl rfl ⟨(Base.can HB_V_c0), (Can.own 0 rfl), trivial⟩) rfl rfl rfl (fun _ => ?_)
  refine TO.y (Y.assign rfl) rfl rfl rfl ?_
  refine TO.nil ?_
  refine TE.next ?_
  refine TW.ret ?_
  exact TE.leaf fun _ _ hf_ hs_ => ret_any (rs := [.tmp 2]) (vs := [strV R2.1]) (.inl rfl) rfl ⟨rfl, trivial⟩ hf_ hs_ ⟨(), rfl, hs_.pulls [0] rfl⟩

/-- loop.example/g00950/spec.l1Once -/
noncomputable def spec_l1Once (c : L1Cur) (n : Int) : Option (Bool × L1Cur) :=
  (spec_l1Below c n).bind fun R1 =>
  some (decide (R1.1 = (0 : Int)), { b := c.b, i := R1.2.i, h := R1.2.h : L1Cur })

theorem spec_l1Once_con (c : L1Cur) (n : Int) (V_c0 : Value) (B_c : Nat) (r : Bool × L1Cur) (hm : spec_l1Once c n = some r) :
    Con Try.prog 57 [.pointer (some ⟨B_c, 0, none⟩), .int .i64 n] [.box B_c 70 [V_c0, .int .i64 c.i, .int .i64 c.h]] [(V_c0, lc c.b)] (fun _ : Unit => .bool r.1) (fun _ => [.box B_c 70 [V_c0, .int .i64 r.2.i, .int .i64 r.2.h]]) := by
  refine Con.intro (args := [.pointer (some ⟨B_c, 0, none⟩), .int .i64 n]) (n := 9) (val := fun r (_ : Unit) => .bool r.1) (post := fun r _ => [.box B_c 70 [V_c0, .int .i64 r.2.i, .int .i64 r.2.h]]) (m := spec_l1Once c n) Try.func57 rfl rfl rfl hm ?_
  intro w S hrd
  have HB_V_c0 := hrd _ (.head _)
  clear hrd
  unfold spec_l1Once
  refine TW.seq ?_
  refine TW.region ?_
  refine TO.y (Y.assign rfl) rfl rfl rfl ?_
  refine TO.nil ?_
  refine TE.next ?_
  refine TW.seq ?_
  refine TW.region ?_
  refine TO.y (Y.move rfl) rfl rfl rfl ?_
  refine TO.y (Y.move rfl) rfl rfl rfl ?_
  refine TO.bind fun R1 H2 => ?_
  refine TO.ef (Ef.call (rest := []) [0] (spec_l1Below_con c n V_c0 B_c R1 H2) kc30 rfl rfl ⟨(Base.can HB_V_c0), trivial⟩) rfl rfl rfl (fun _ => ?_)
  refine TO.y (Y.eql rfl rfl) rfl rfl rfl ?_
  refine TO.y (Y.assign rfl) rfl rfl rfl ?_
  refine TO.nil ?_
  refine TE.next ?_
  refine TW.ret ?_
  exact TE.leaf fun _ _ hf_ hs_ => ret_any (rs := [.tmp 4]) (vs := [.bool (decide (R1.1 = (0 : Int)))]) (.inl rfl) rfl ⟨rfl, trivial⟩ hf_ hs_ ⟨(), rfl, hs_.pulls [0] rfl⟩

/-- loop.example/g00950/spec.l1Text -/
noncomputable def spec_l1Text (c : L1Cur) (most : Int) : Option (List UInt8 × L1Cur) :=
  (spec_l1Below c (4 : Int)).bind fun R2 =>
  (spec_l1Below ({ b := c.b, i := R2.2.i, h := R2.2.h : L1Cur }) (IntKind.i64.wrap (most + (1 : Int)))).bind fun R5 =>
  bindC (loopO (fun (S8 : Int × Int × Int × List UInt8) => if (decide (S8.2.2.1 > (0 : Int))) = true then ((spec_l1Byte ({ b := c.b, i := S8.1, h := S8.2.1 : L1Cur })).bind fun R13 =>
  bindC (if (decide (R2.1 = (1 : Int))) = true then (some (.go (Int.tmod R13.1 (2 : Int))))
  else (some (.go R13.1)))
  (fun (T16 : Int) => bindC (if (decide (R2.1 = (2 : Int))) = true then (some (.go (IntKind.i64.wrap ((97 : Int) + (Int.tmod T16 (4 : Int))))))
  else (some (.go T16)))
  (fun (T19 : Int) => (app 1 S8.2.2.2 ([toU8 T19])).bind fun E24 =>
  some (.go (R13.2.i, R13.2.h, IntKind.i64.wrap (S8.2.2.1 - (1 : Int)), E24)))))
  else (some (.done (.go (S8.1, S8.2.1, S8.2.2.2)))))
  (R5.2.i, R5.2.h, R5.1, ([] : List UInt8)))
  (fun (T10 : Int × Int × List UInt8) => some (T10.2.2, { b := c.b, i := T10.1, h := T10.2.1 : L1Cur }))

theorem spec_l1Text_con (c : L1Cur) (most : Int) (V_c0 : Value) (B_c : Nat) (r : List UInt8 × L1Cur) (hm : spec_l1Text c most = some r) :
    Con Try.prog 82 [.pointer (some ⟨B_c, 0, none⟩), .int .i64 most] [.box B_c 70 [V_c0, .int .i64 c.i, .int .i64 c.h]] [(V_c0, lc c.b)] (fun _ : Unit => strV r.1) (fun _ => [.box B_c 70 [V_c0, .int .i64 r.2.i, .int .i64 r.2.h]]) := by
  refine Con.intro (args := [.pointer (some ⟨B_c, 0, none⟩), .int .i64 most]) (n := 38) (val := fun r (_ : Unit) => strV r.1) (post := fun r _ => [.box B_c 70 [V_c0, .int .i64 r.2.i, .int .i64 r.2.h]]) (m := spec_l1Text c most) Try.func82 rfl rfl rfl hm ?_
  intro w S hrd
  have HB_V_c0 := hrd _ (.head _)
  clear hrd
  unfold spec_l1Text
  refine TW.seq ?_
  refine TW.region ?_
  refine TO.y (Y.assign rfl) rfl rfl rfl ?_
  refine TO.nil ?_
  refine TE.next ?_
  refine TW.seq ?_
  refine TW.region ?_
  refine TO.ef (Ef.buildSlice (α := UInt8) (Vs := []) ([] : List UInt8) ke22 kz5 rfl rfl rfl rfl rfl) rfl rfl rfl (fun B1 => ?_)
  refine TO.y (Y.assign rfl) rfl rfl rfl ?_
  refine TO.nil ?_
  refine TE.next ?_
  refine TW.seq ?_
  refine TW.region ?_
  refine TO.y (Y.move rfl) rfl rfl rfl ?_
  refine TO.bind fun R2 H3 => ?_
  refine TO.ef (Ef.call (rest := [.own (.slice (some ⟨B1, 0, none⟩) 0 0) (lc ([] : List UInt8))]) [1, 0] (spec_l1Below_con c (4 : Int) V_c0 B_c R2 H3) kc30 rfl rfl ⟨(Base.can HB_V_c0), trivial⟩) rfl rfl rfl (fun _ => ?_)
  refine TO.y (Y.assign rfl) rfl rfl rfl ?_
  refine TO.nil ?_
  refine TE.next ?_
  refine TW.seq ?_
  refine TW.seq ?_
  refine TW.region ?_
  refine TO.y (Y.move rfl) rfl rfl rfl ?_
  refine TO.y (Y.move rfl) rfl rfl rfl ?_
  refine TO.y (Y.add rfl rfl) rfl rfl rfl ?_
  refine TO.bind fun R5 H6 => ?_
  refine TO.ef (Ef.call (rest := [.own (.slice (some ⟨B1, 0, none⟩) 0 0) (lc ([] : List UInt8))]) [0, 0] (spec_l1Below_con ({ b := c.b, i := R2.2.i, h := R2.2.h : L1Cur }) (IntKind.i64.wrap (most + (1 : Int))) V_c0 B_c R5 H6) kc30 rfl rfl ⟨(Base.can HB_V_c0), trivial⟩) rfl rfl rfl (fun _ => ?_)
  refine TO.y (Y.assign rfl) rfl rfl rfl ?_
  refine TO.nil ?_
  refine TE.next ?_
  refine TW.joinX (τ := Int × Int × List UInt8) (X := Value) (fun _ X => [(5, X)]) (fun T X => [.box B_c 70 [V_c0, .int .i64 T.1, .int .i64 T.2.1], .own X (lc T.2.2)]) ?_ (fun T10 X11 => ?_)
  · refine TW.block ?_
    refine TW.loopX (σ := Int × Int × Int × List UInt8) (X := Value) (fun T X => [(0, .pointer (some ⟨B_c, 0, none⟩)), (5, X), (6, .int .i64 R2.1), (7, .int .i64 T.2.2.1)]) (fun T X => [.box B_c 70 [V_c0, .int .i64 T.1, .int .i64 T.2.1], .own X (lc T.2.2.2)]) (.slice (some ⟨B1, 0, none⟩) 0 0) [0, 0] ⟨rfl, rfl, rfl, rfl, trivial⟩ rfl (fun S8 X9 => ?_)
    refine TW.seq ?_
    refine TW.seq ?_
    refine TW.region ?_
    refine TO.y (Y.move rfl) rfl rfl rfl ?_
    refine TO.y (Y.gtr rfl rfl) rfl rfl rfl ?_
    refine TO.nil ?_
    refine TE.next ?_
    refine TW.cond rfl (fun H12 => ?_) (fun H12 => ?_)
    · refine TW.skip ?_
      refine TE.next ?_
      refine TW.seq ?_
      refine TW.block ?_
      refine TW.seq ?_
      refine TW.region ?_
      refine TO.y (Y.move rfl) rfl rfl rfl ?_
      refine TO.bind fun R13 H14 => ?_
      refine TO.ef (Ef.call (rest := [.own X9 (lc S8.2.2.2)]) [0, 0] (spec_l1Byte_con ({ b := c.b, i := S8.1, h := S8.2.1 : L1Cur }) V_c0 B_c R13 H14) kc55 rfl rfl ⟨(Base.can HB_V_c0), trivial⟩) rfl rfl rfl (fun _ => ?_)
      refine TO.y (Y.assign rfl) rfl rfl rfl ?_
      refine TO.nil ?_
      refine TE.next ?_
      refine TW.seq ?_
      refine TW.seq ?_
      refine TW.region ?_
      refine TO.y (Y.move rfl) rfl rfl rfl ?_
      refine TO.y (Y.eql rfl rfl) rfl rfl rfl ?_
      refine TO.nil ?_
      refine TE.next ?_
      refine TW.joinX (τ := Int) (X := Unit) (fun T _ => [(0, .pointer (some ⟨B_c, 0, none⟩)), (5, X9), (6, .int .i64 R2.1), (7, .int .i64 S8.2.2.1), (8, .int .i64 T)]) (fun _ _ => [.box B_c 70 [V_c0, .int .i64 R13.2.i, .int .i64 R13.2.h], .own X9 (lc S8.2.2.2)]) ?_ (fun T16 X17 => ?_)
      · refine TW.cond rfl (fun H18 => ?_) (fun H18 => ?_)
        · refine TW.region ?_
          refine TO.y (Y.move rfl) rfl rfl rfl ?_
          refine TO.y (Y.rem (by decide) rfl rfl) rfl rfl rfl ?_
          refine TO.y (Y.assign rfl) rfl rfl rfl ?_
          refine TO.nil ?_
          exact TE.jn_go () [0, 0] ⟨rfl, rfl, rfl, rfl, rfl, trivial⟩ rfl
        · refine TW.skip ?_
          exact TE.jn_go () [0, 0] ⟨rfl, rfl, rfl, rfl, rfl, trivial⟩ rfl
      · refine TE.next ?_
        refine TW.seq ?_
        refine TW.seq ?_
        refine TW.region ?_
        refine TO.y (Y.move rfl) rfl rfl rfl ?_
        refine TO.y (Y.eql rfl rfl) rfl rfl rfl ?_
        refine TO.nil ?_
        refine TE.next ?_
        refine TW.joinX (τ := Int) (X := Unit) (fun T _ => [(0, .pointer (some ⟨B_c, 0, none⟩)), (5, X9), (6, .int .i64 R2.1), (7, .int .i64 S8.2.2.1), (8, .int .i64 T)]) (fun _ _ => [.box B_c 70 [V_c0, .int .i64 R13.2.i, .int .i64 R13.2.h], .own X9 (lc S8.2.2.2)]) ?_ (fun T19 X20 => ?_)
        · refine TW.cond rfl (fun H21 => ?_) (fun H21 => ?_)
          · refine TW.region ?_
            refine TO.y (Y.move rfl) rfl rfl rfl ?_
            refine TO.y (Y.rem (by decide) rfl rfl) rfl rfl rfl ?_
            refine TO.y (Y.add rfl rfl) rfl rfl rfl ?_
            refine TO.y (Y.assign rfl) rfl rfl rfl ?_
            refine TO.nil ?_
            exact TE.jn_go () [0, 0] ⟨rfl, rfl, rfl, rfl, rfl, trivial⟩ rfl
          · refine TW.skip ?_
            exact TE.jn_go () [0, 0] ⟨rfl, rfl, rfl, rfl, rfl, trivial⟩ rfl
        · refine TE.next ?_
          refine TW.region ?_
          refine TO.y (Y.move rfl) rfl rfl rfl ?_
          refine TO.y (Y.move rfl) rfl rfl rfl ?_
          refine TO.y (Y.conv8 ki3 ki5 rfl) rfl rfl rfl ?_
          refine TO.ef (Ef.buildSlice (α := UInt8) (Vs := [.int .u8 (((toU8 T19).toNat : Nat) : Int)]) [toU8 T19] ke22 kz5 rfl rfl rfl rfl rfl) rfl rfl rfl (fun B22 => ?_)
          refine TO.bind fun E24 H25 => ?_
          refine TO.ef (Ef.append (α := UInt8) (is' := [.own (.slice (some ⟨B22, 0, none⟩) 1 1) (lc ([toU8 T19])), .box B_c 70 [V_c0, .int .i64 R13.2.i, .int .i64 R13.2.h]]) [2, 0, 0] H25 ke22 kz5 rfl rfl rfl rfl rfl (Can.own 0 rfl)) rfl rfl rfl (fun V23 => ?_)
          refine TO.y (Y.assign rfl) rfl rfl rfl ?_
          refine TO.nil ?_
          refine TE.block_normal ?_
          refine TE.next ?_
          refine TW.region ?_
          refine TO.y (Y.move rfl) rfl rfl rfl ?_
          refine TO.y (Y.sub rfl rfl) rfl rfl rfl ?_
          refine TO.y (Y.assign rfl) rfl rfl rfl ?_
          refine TO.nil ?_
          exact TE.lp_go V23 [2, 0] ⟨rfl, rfl, rfl, rfl, trivial⟩ rfl
    · refine TW.exit ?_
      refine TE.then_exit ?_
      refine TE.lp_exit ?_
      refine TE.block_exit ?_
      exact TE.jn_go X9 [0, 0] ⟨rfl, trivial⟩ rfl
  · refine TE.next ?_
    refine TW.seq ?_
    refine TW.region ?_
    refine TO.y (Y.move rfl) rfl rfl rfl ?_
    refine TO.y (Y.toStr ke22 ki5 ks9 (Can.own 1 rfl) rfl) rfl rfl rfl ?_
    refine TO.y (Y.assign rfl) rfl rfl rfl ?_
    refine TO.nil ?_
    refine TE.next ?_
    refine TW.ret ?_
    exact TE.leaf fun _ _ hf_ hs_ => ret_any (rs := [.tmp 4]) (vs := [strV T10.2.2]) (.inl rfl) rfl ⟨rfl, trivial⟩ hf_ hs_ ⟨(), rfl, hs_.pulls [0] rfl⟩

/-- loop.example/g00950/spec.l1In -/
noncomputable def spec_l1In (x : Int) (low : Int) (high : Int) : Option Bool :=
  (if (decide (x ≥ low)) = true then (some (decide (x ≤ high)))
  else (some false)).bind (fun (T1 : Bool) =>
  some T1)

theorem spec_l1In_con (x : Int) (low : Int) (high : Int)  (r : Bool) (hm : spec_l1In x low high = some r) :
    Con Try.prog 70 [.int .i64 x, .int .i64 low, .int .i64 high] [] [] (fun _ : Unit => .bool r) (fun _ => []) := by
  refine Con.intro (args := [.int .i64 x, .int .i64 low, .int .i64 high]) (n := 15) (val := fun r (_ : Unit) => .bool r) (post := fun _ _ => []) (m := spec_l1In x low high) Try.func70 rfl rfl rfl hm ?_
  intro w S _
  unfold spec_l1In
  refine TW.seq ?_
  refine TW.region ?_
  refine TO.y (Y.assign rfl) rfl rfl rfl ?_
  refine TO.nil ?_
  refine TE.next ?_
  refine TW.seq ?_
  refine TW.joinBX (τ := Bool) (X := Unit) (fun T _ => [(6, .bool T)]) (fun _ _ => []) ?_ (fun T1 X2 => ?_)
  · refine TW.region ?_
    refine TO.y (Y.move rfl) rfl rfl rfl ?_
    refine TO.y (Y.move rfl) rfl rfl rfl ?_
    refine TO.y (Y.geq rfl rfl) rfl rfl rfl ?_
    refine TO.y (Y.move rfl) rfl rfl rfl ?_
    refine TO.ite (b := decide (x ≥ low)) (fun H3 => ?_) (fun H3 => ?_)
    · refine TO.y (Y.move rfl) (Gd.at 3 true 10 (decide (x ≥ low)) rfl rfl rfl (beq_tt H3)) rfl rfl ?_
      refine TO.y (Y.move rfl) (Gd.at 3 true 10 (decide (x ≥ low)) rfl rfl rfl (beq_tt H3)) rfl rfl ?_
      refine TO.y (Y.leq rfl rfl) (Gd.at 3 true 10 (decide (x ≥ low)) rfl rfl rfl (beq_tt H3)) rfl rfl ?_
      refine TO.y (Y.pick_t H3 rfl rfl) rfl rfl rfl ?_
      refine TO.y (Y.assign rfl) rfl rfl rfl ?_
      refine TO.nil ?_
      exact TE.jb_go () [] ⟨rfl, trivial⟩ rfl
    · refine TO.off (Gd.at 3 true 10 (decide (x ≥ low)) rfl rfl rfl (beq_ft H3)) rfl rfl ?_
      refine TO.off (Gd.at 3 true 10 (decide (x ≥ low)) rfl rfl rfl (beq_ft H3)) rfl rfl ?_
      refine TO.off (Gd.at 3 true 10 (decide (x ≥ low)) rfl rfl rfl (beq_ft H3)) rfl rfl ?_
      refine TO.y (Y.pick_f H3 rfl rfl) rfl rfl rfl ?_
      refine TO.y (Y.assign rfl) rfl rfl rfl ?_
      refine TO.nil ?_
      exact TE.jb_go () [] ⟨rfl, trivial⟩ rfl
  · refine TE.next ?_
    refine TW.ret ?_
    exact TE.leaf fun _ _ hf_ hs_ => ret_any (rs := [.tmp 6]) (vs := [.bool T1]) (.inl rfl) rfl ⟨rfl, trivial⟩ hf_ hs_ ⟨(), rfl, hs_.pulls [] rfl⟩

/-- loop.example/g00950/spec.l7Op -/
noncomputable def spec_l7Op (o : Op) : Option Bool :=
  ((spec_l1In ((o.Key.length : Nat) : Int) (1 : Int) (10 : Int)).bind fun R4 =>
  if R4 = true then (if (decide (((o.Val.length : Nat) : Int) ≤ (16 : Int))) = true then (if (!o.Del) = true then (some true)
  else (some (decide (o.Val = ([])))))
  else (some false))
  else (some false)).bind (fun (T2 : Bool) =>
  some T2)

theorem spec_l7Op_con (o : Op)  (r : Bool) (hm : spec_l7Op o = some r) :
    Con Try.prog 90 [.agg #[strV o.Key, .bool o.Del, strV o.Val]] [] [] (fun _ : Unit => .bool r) (fun _ => []) := by
  refine Con.intro (args := [.agg #[strV o.Key, .bool o.Del, strV o.Val]]) (n := 23) (val := fun r (_ : Unit) => .bool r) (post := fun _ _ => []) (m := spec_l7Op o) Try.func90 rfl rfl rfl hm ?_
  intro w S _
  unfold spec_l7Op
  refine TW.seq ?_
  refine TW.region ?_
  refine TO.ef (Ef.box rfl (Cel.plain rfl rfl)) rfl rfl rfl (fun B1 => ?_)
  refine TO.y (Y.assign rfl) rfl rfl rfl ?_
  refine TO.nil ?_
  refine TE.next ?_
  refine TW.seq ?_
  refine TW.joinBX (τ := Bool) (X := Unit) (fun T _ => [(2, .bool T)]) (fun _ _ => []) ?_ (fun T2 X3 => ?_)
  · refine TW.region ?_
    refine TO.y (Y.field_box kf103_0 rfl rfl) rfl rfl rfl ?_
    refine TO.y (Y.load_box (v := strV o.Key) 0 kk9 rfl rfl rfl) rfl rfl rfl ?_
    refine TO.y (Y.slen ks9 rfl) rfl rfl rfl ?_
    refine TO.bind fun R4 H5 => ?_
    refine TO.ef (Ef.call (rest := [.box B1 103 [strV o.Key, .bool o.Del, strV o.Val]]) [0] (spec_l1In_con ((o.Key.length : Nat) : Int) (1 : Int) (10 : Int)  R4 H5) kc70 rfl rfl trivial) rfl rfl rfl (fun _ => ?_)
    refine TO.y (Y.move rfl) rfl rfl rfl ?_
    refine TO.ite (b := R4) (fun H7 => ?_) (fun H7 => ?_)
    · refine TO.y (Y.field_box kf103_2 rfl rfl) (Gd.at 4 true 7 R4 rfl rfl rfl (beq_tt H7)) rfl rfl ?_
      refine TO.y (Y.load_box (v := strV o.Val) 0 kk9 rfl rfl rfl) (Gd.at 4 true 7 R4 rfl rfl rfl (beq_tt H7)) rfl rfl ?_
      refine TO.y (Y.slen ks9 rfl) (Gd.at 4 true 7 R4 rfl rfl rfl (beq_tt H7)) rfl rfl ?_
      refine TO.y (Y.leq rfl rfl) (Gd.at 4 true 7 R4 rfl rfl rfl (beq_tt H7)) rfl rfl ?_
      refine TO.y (Y.pick_t H7 rfl rfl) rfl rfl rfl ?_
      refine TO.y (Y.move rfl) rfl rfl rfl ?_
      refine TO.ite (b := decide (((o.Val.length : Nat) : Int) ≤ (16 : Int))) (fun H8 => ?_) (fun H8 => ?_)
      · refine TO.y (Y.field_box kf103_1 rfl rfl) (Gd.at 10 true 13 (decide (((o.Val.length : Nat) : Int) ≤ (16 : Int))) rfl rfl rfl (beq_tt H8)) rfl rfl ?_
        refine TO.y (Y.load_box (v := .bool o.Del) 0 kk4 rfl rfl rfl) (Gd.at 10 true 13 (decide (((o.Val.length : Nat) : Int) ≤ (16 : Int))) rfl rfl rfl (beq_tt H8)) rfl rfl ?_
        refine TO.y (Y.not rfl) (Gd.at 10 true 13 (decide (((o.Val.length : Nat) : Int) ≤ (16 : Int))) rfl rfl rfl (beq_tt H8)) rfl rfl ?_
        refine TO.y (Y.move rfl) (Gd.at 10 true 13 (decide (((o.Val.length : Nat) : Int) ≤ (16 : Int))) rfl rfl rfl (beq_tt H8)) rfl rfl ?_
        refine TO.ite (b := !o.Del) (fun H9 => ?_) (fun H9 => ?_)
        · refine TO.off (Gd.at 14 false 17 (!o.Del) rfl rfl rfl (beq_tf H9)) rfl rfl ?_
          refine TO.off (Gd.at 14 false 17 (!o.Del) rfl rfl rfl (beq_tf H9)) rfl rfl ?_
          refine TO.off (Gd.at 14 false 17 (!o.Del) rfl rfl rfl (beq_tf H9)) rfl rfl ?_
          refine TO.y (Y.pick_t H9 rfl rfl) (Gd.at 10 true 13 (decide (((o.Val.length : Nat) : Int) ≤ (16 : Int))) rfl rfl rfl (beq_tt H8)) rfl rfl ?_
          refine TO.y (Y.pick_t H8 rfl rfl) rfl rfl rfl ?_
          refine TO.y (Y.assign rfl) rfl rfl rfl ?_
          refine TO.nil ?_
          exact TE.jb_go () [] ⟨rfl, trivial⟩ rfl
        · refine TO.y (Y.field_box kf103_2 rfl rfl) (Gd.at 14 false 17 (!o.Del) rfl rfl rfl (beq_ff H9)) rfl rfl ?_
          refine TO.y (Y.load_box (v := strV o.Val) 0 kk9 rfl rfl rfl) (Gd.at 14 false 17 (!o.Del) rfl rfl rfl (beq_ff H9)) rfl rfl ?_
          refine TO.y (Y.seql rfl rfl) (Gd.at 14 false 17 (!o.Del) rfl rfl rfl (beq_ff H9)) rfl rfl ?_
          refine TO.y (Y.pick_f H9 rfl rfl) (Gd.at 10 true 13 (decide (((o.Val.length : Nat) : Int) ≤ (16 : Int))) rfl rfl rfl (beq_tt H8)) rfl rfl ?_
          refine TO.y (Y.pick_t H8 rfl rfl) rfl rfl rfl ?_
          refine TO.y (Y.assign rfl) rfl rfl rfl ?_
          refine TO.nil ?_
          exact TE.jb_go () [] ⟨rfl, trivial⟩ rfl
      · refine TO.off (Gd.at 10 true 13 (decide (((o.Val.length : Nat) : Int) ≤ (16 : Int))) rfl rfl rfl (beq_ft H8)) rfl rfl ?_
        refine TO.off (Gd.at 10 true 13 (decide (((o.Val.length : Nat) : Int) ≤ (16 : Int))) rfl rfl rfl (beq_ft H8)) rfl rfl ?_
        refine TO.off (Gd.at 10 true 13 (decide (((o.Val.length : Nat) : Int) ≤ (16 : Int))) rfl rfl rfl (beq_ft H8)) rfl rfl ?_
        refine TO.off (Gd.at 10 true 13 (decide (((o.Val.length : Nat) : Int) ≤ (16 : Int))) rfl rfl rfl (beq_ft H8)) rfl rfl ?_
        refine TO.off (Gd.un 14 false 17 rfl rfl rfl) rfl rfl ?_
        refine TO.off (Gd.un 14 false 17 rfl rfl rfl) rfl rfl ?_
        refine TO.off (Gd.un 14 false 17 rfl rfl rfl) rfl rfl ?_
        refine TO.off (Gd.at 10 true 13 (decide (((o.Val.length : Nat) : Int) ≤ (16 : Int))) rfl rfl rfl (beq_ft H8)) rfl rfl ?_
        refine TO.y (Y.pick_f H8 rfl rfl) rfl rfl rfl ?_
        refine TO.y (Y.assign rfl) rfl rfl rfl ?_
        refine TO.nil ?_
        exact TE.jb_go () [] ⟨rfl, trivial⟩ rfl
    · refine TO.off (Gd.at 4 true 7 R4 rfl rfl rfl (beq_ft H7)) rfl rfl ?_
      refine TO.off (Gd.at 4 true 7 R4 rfl rfl rfl (beq_ft H7)) rfl rfl ?_
      refine TO.off (Gd.at 4 true 7 R4 rfl rfl rfl (beq_ft H7)) rfl rfl ?_
      refine TO.off (Gd.at 4 true 7 R4 rfl rfl rfl (beq_ft H7)) rfl rfl ?_
      refine TO.y (Y.pick_f H7 rfl rfl) rfl rfl rfl ?_
      refine TO.y (Y.move rfl) rfl rfl rfl ?_
      refine TO.off (Gd.at 10 true 13 false rfl rfl rfl rfl) rfl rfl ?_
      refine TO.off (Gd.at 10 true 13 false rfl rfl rfl rfl) rfl rfl ?_
      refine TO.off (Gd.at 10 true 13 false rfl rfl rfl rfl) rfl rfl ?_
      refine TO.off (Gd.at 10 true 13 false rfl rfl rfl rfl) rfl rfl ?_
      refine TO.off (Gd.un 14 false 17 rfl rfl rfl) rfl rfl ?_
      refine TO.off (Gd.un 14 false 17 rfl rfl rfl) rfl rfl ?_
      refine TO.off (Gd.un 14 false 17 rfl rfl rfl) rfl rfl ?_
      refine TO.off (Gd.at 10 true 13 false rfl rfl rfl rfl) rfl rfl ?_
      refine TO.y (Y.pick_f rfl rfl rfl) rfl rfl rfl ?_
      refine TO.y (Y.assign rfl) rfl rfl rfl ?_
      refine TO.nil ?_
      exact TE.jb_go () [] ⟨rfl, trivial⟩ rfl
  · refine TE.next ?_
    refine TW.ret ?_
    exact TE.leaf fun _ _ hf_ hs_ => ret_any (rs := [.tmp 2]) (vs := [.bool T2]) (.inl rfl) rfl ⟨rfl, trivial⟩ hf_ hs_ ⟨(), rfl, hs_.pulls [] rfl⟩

/-- loop.example/g00950/spec.l9Ent -/
noncomputable def spec_l9Ent (e : Ent) : Option Bool :=
  ((spec_l7Op ({ Key := e.Key, Del := e.Del, Val := e.Val : Op })).bind fun R4 =>
  if R4 = true then ((spec_l1In e.Seq (0 : Int) (1000000 : Int)).bind fun R8 =>
  some R8)
  else (some false)).bind (fun (T2 : Bool) =>
  some T2)

theorem spec_l9Ent_con (e : Ent)  (r : Bool) (hm : spec_l9Ent e = some r) :
    Con Try.prog 67 [.agg #[strV e.Key, .int .i64 e.Seq, .bool e.Del, strV e.Val]] [] [] (fun _ : Unit => .bool r) (fun _ => []) := by
  refine Con.intro (args := [.agg #[strV e.Key, .int .i64 e.Seq, .bool e.Del, strV e.Val]]) (n := 16) (val := fun r (_ : Unit) => .bool r) (post := fun _ _ => []) (m := spec_l9Ent e) Try.func67 rfl rfl rfl hm ?_
  intro w S _
  unfold spec_l9Ent
  refine TW.seq ?_
  refine TW.region ?_
  refine TO.ef (Ef.box rfl (Cel.plain rfl rfl)) rfl rfl rfl (fun B1 => ?_)
  refine TO.y (Y.assign rfl) rfl rfl rfl ?_
  refine TO.nil ?_
  refine TE.next ?_
  refine TW.seq ?_
  refine TW.joinBX (τ := Bool) (X := Unit) (fun T _ => [(2, .bool T)]) (fun _ _ => []) ?_ (fun T2 X3 => ?_)
  · refine TW.region ?_
    refine TO.y (Y.field_box kf31_0 rfl rfl) rfl rfl rfl ?_
    refine TO.y (Y.load_box (v := strV e.Key) 0 kk9 rfl rfl rfl) rfl rfl rfl ?_
    refine TO.y (Y.field_box kf31_2 rfl rfl) rfl rfl rfl ?_
    refine TO.y (Y.load_box (v := .bool e.Del) 0 kk4 rfl rfl rfl) rfl rfl rfl ?_
    refine TO.y (Y.field_box kf31_3 rfl rfl) rfl rfl rfl ?_
    refine TO.y (Y.load_box (v := strV e.Val) 0 kk9 rfl rfl rfl) rfl rfl rfl ?_
    refine TO.y (Y.build (cells := [strV e.Key, .bool e.Del, strV e.Val]) [(0, [strV e.Key]), (1, [.bool e.Del]), (2, [strV e.Val])] kp103 kz103 ⟨rfl, ⟨_, rfl, (Cel.plain rfl rfl)⟩, ⟨rfl, ⟨_, rfl, (Cel.plain rfl rfl)⟩, ⟨rfl, ⟨_, rfl, (Cel.plain rfl rfl)⟩, trivial⟩⟩⟩ rfl) rfl rfl rfl ?_
    refine TO.bind fun R4 H5 => ?_
    refine TO.ef (Ef.call (rest := [.box B1 31 [strV e.Key, .int .i64 e.Seq, .bool e.Del, strV e.Val]]) [0] (spec_l7Op_con ({ Key := e.Key, Del := e.Del, Val := e.Val : Op })  R4 H5) kc90 rfl rfl trivial) rfl rfl rfl (fun _ => ?_)
    refine TO.y (Y.move rfl) rfl rfl rfl ?_
    refine TO.ite (b := R4) (fun H7 => ?_) (fun H7 => ?_)
    · refine TO.y (Y.field_box kf31_1 rfl rfl) (Gd.at 8 true 11 R4 rfl rfl rfl (beq_tt H7)) rfl rfl ?_
      refine TO.y (Y.load_box (v := .int .i64 e.Seq) 0 kk3 rfl rfl rfl) (Gd.at 8 true 11 R4 rfl rfl rfl (beq_tt H7)) rfl rfl ?_
      refine TO.bind fun R8 H9 => ?_
      refine TO.ef (Ef.call (rest := [.box B1 31 [strV e.Key, .int .i64 e.Seq, .bool e.Del, strV e.Val]]) [0] (spec_l1In_con e.Seq (0 : Int) (1000000 : Int)  R8 H9) kc70 rfl rfl trivial) (Gd.at 8 true 11 R4 rfl rfl rfl (beq_tt H7)) rfl rfl (fun _ => ?_)
      refine TO.y (Y.pick_t H7 rfl rfl) rfl rfl rfl ?_
      refine TO.y (Y.assign rfl) rfl rfl rfl ?_
      refine TO.nil ?_
      exact TE.jb_go () [] ⟨rfl, trivial⟩ rfl
    · refine TO.off (Gd.at 8 true 11 R4 rfl rfl rfl (beq_ft H7)) rfl rfl ?_
      refine TO.off (Gd.at 8 true 11 R4 rfl rfl rfl (beq_ft H7)) rfl rfl ?_
      refine TO.off (Gd.at 8 true 11 R4 rfl rfl rfl (beq_ft H7)) rfl rfl ?_
      refine TO.y (Y.pick_f H7 rfl rfl) rfl rfl rfl ?_
      refine TO.y (Y.assign rfl) rfl rfl rfl ?_
      refine TO.nil ?_
      exact TE.jb_go () [] ⟨rfl, trivial⟩ rfl
  · refine TE.next ?_
    refine TW.ret ?_
    exact TE.leaf fun _ _ hf_ hs_ => ret_any (rs := [.tmp 2]) (vs := [.bool T2]) (.inl rfl) rfl ⟨rfl, trivial⟩ hf_ hs_ ⟨(), rfl, hs_.pulls [] rfl⟩

/-- loop.example/g00950/spec.l9Ahead -/
noncomputable def spec_l9Ahead (a : Ent) (b : Ent) : Option Bool :=
  (if (sLt a.Key b.Key) = true then (some true)
  else (if (decide (a.Key = b.Key)) = true then (some (decide (a.Seq > b.Seq)))
  else (some false))).bind (fun (T3 : Bool) =>
  some T3)

theorem spec_l9Ahead_con (a : Ent) (b : Ent)  (r : Bool) (hm : spec_l9Ahead a b = some r) :
    Con Try.prog 36 [.agg #[strV a.Key, .int .i64 a.Seq, .bool a.Del, strV a.Val], .agg #[strV b.Key, .int .i64 b.Seq, .bool b.Del, strV b.Val]] [] [] (fun _ : Unit => .bool r) (fun _ => []) := by
  refine Con.intro (args := [.agg #[strV a.Key, .int .i64 a.Seq, .bool a.Del, strV a.Val], .agg #[strV b.Key, .int .i64 b.Seq, .bool b.Del, strV b.Val]]) (n := 24) (val := fun r (_ : Unit) => .bool r) (post := fun _ _ => []) (m := spec_l9Ahead a b) Try.func36 rfl rfl rfl hm ?_
  intro w S _
  unfold spec_l9Ahead
  refine TW.seq ?_
  refine TW.region ?_
  refine TO.ef (Ef.box rfl (Cel.plain rfl rfl)) rfl rfl rfl (fun B1 => ?_)
  refine TO.ef (Ef.box rfl (Cel.plain rfl rfl)) rfl rfl rfl (fun B2 => ?_)
  refine TO.y (Y.assign rfl) rfl rfl rfl ?_
  refine TO.nil ?_
  refine TE.next ?_
  refine TW.seq ?_
  refine TW.joinBX (τ := Bool) (X := Unit) (fun T _ => [(4, .bool T)]) (fun _ _ => []) ?_ (fun T3 X4 => ?_)
  · refine TW.region ?_
    refine TO.y (Y.field_box kf31_0 rfl rfl) rfl rfl rfl ?_
    refine TO.y (Y.load_box (v := strV a.Key) 1 kk9 rfl rfl rfl) rfl rfl rfl ?_
    refine TO.y (Y.field_box kf31_0 rfl rfl) rfl rfl rfl ?_
    refine TO.y (Y.load_box (v := strV b.Key) 0 kk9 rfl rfl rfl) rfl rfl rfl ?_
    refine TO.y (Y.slss rfl rfl) rfl rfl rfl ?_
    refine TO.y (Y.move rfl) rfl rfl rfl ?_
    refine TO.ite (b := sLt a.Key b.Key) (fun H5 => ?_) (fun H5 => ?_)
    · refine TO.off (Gd.at 5 false 10 (sLt a.Key b.Key) rfl rfl rfl (beq_tf H5)) rfl rfl ?_
      refine TO.off (Gd.at 5 false 10 (sLt a.Key b.Key) rfl rfl rfl (beq_tf H5)) rfl rfl ?_
      refine TO.off (Gd.at 5 false 10 (sLt a.Key b.Key) rfl rfl rfl (beq_tf H5)) rfl rfl ?_
      refine TO.off (Gd.at 5 false 10 (sLt a.Key b.Key) rfl rfl rfl (beq_tf H5)) rfl rfl ?_
      refine TO.off (Gd.at 5 false 10 (sLt a.Key b.Key) rfl rfl rfl (beq_tf H5)) rfl rfl ?_
      refine TO.off (Gd.at 5 false 10 (sLt a.Key b.Key) rfl rfl rfl (beq_tf H5)) rfl rfl ?_
      refine TO.off (Gd.un 11 true 16 rfl rfl rfl) rfl rfl ?_
      refine TO.off (Gd.un 11 true 16 rfl rfl rfl) rfl rfl ?_
      refine TO.off (Gd.un 11 true 16 rfl rfl rfl) rfl rfl ?_
      refine TO.off (Gd.un 11 true 16 rfl rfl rfl) rfl rfl ?_
      refine TO.off (Gd.un 11 true 16 rfl rfl rfl) rfl rfl ?_
      refine TO.off (Gd.at 5 false 10 (sLt a.Key b.Key) rfl rfl rfl (beq_tf H5)) rfl rfl ?_
      refine TO.y (Y.pick_t H5 rfl rfl) rfl rfl rfl ?_
      refine TO.y (Y.assign rfl) rfl rfl rfl ?_
      refine TO.nil ?_
      exact TE.jb_go () [] ⟨rfl, trivial⟩ rfl
    · refine TO.y (Y.field_box kf31_0 rfl rfl) (Gd.at 5 false 10 (sLt a.Key b.Key) rfl rfl rfl (beq_ff H5)) rfl rfl ?_
      refine TO.y (Y.load_box (v := strV a.Key) 1 kk9 rfl rfl rfl) (Gd.at 5 false 10 (sLt a.Key b.Key) rfl rfl rfl (beq_ff H5)) rfl rfl ?_
      refine TO.y (Y.field_box kf31_0 rfl rfl) (Gd.at 5 false 10 (sLt a.Key b.Key) rfl rfl rfl (beq_ff H5)) rfl rfl ?_
      refine TO.y (Y.load_box (v := strV b.Key) 0 kk9 rfl rfl rfl) (Gd.at 5 false 10 (sLt a.Key b.Key) rfl rfl rfl (beq_ff H5)) rfl rfl ?_
      refine TO.y (Y.seql rfl rfl) (Gd.at 5 false 10 (sLt a.Key b.Key) rfl rfl rfl (beq_ff H5)) rfl rfl ?_
      refine TO.y (Y.move rfl) (Gd.at 5 false 10 (sLt a.Key b.Key) rfl rfl rfl (beq_ff H5)) rfl rfl ?_
      refine TO.ite (b := decide (a.Key = b.Key)) (fun H6 => ?_) (fun H6 => ?_)
      · refine TO.y (Y.field_box kf31_1 rfl rfl) (Gd.at 11 true 16 (decide (a.Key = b.Key)) rfl rfl rfl (beq_tt H6)) rfl rfl ?_
        refine TO.y (Y.load_box (v := .int .i64 a.Seq) 1 kk3 rfl rfl rfl) (Gd.at 11 true 16 (decide (a.Key = b.Key)) rfl rfl rfl (beq_tt H6)) rfl rfl ?_
        refine TO.y (Y.field_box kf31_1 rfl rfl) (Gd.at 11 true 16 (decide (a.Key = b.Key)) rfl rfl rfl (beq_tt H6)) rfl rfl ?_
        refine TO.y (Y.load_box (v := .int .i64 b.Seq) 0 kk3 rfl rfl rfl) (Gd.at 11 true 16 (decide (a.Key = b.Key)) rfl rfl rfl (beq_tt H6)) rfl rfl ?_
        refine TO.y (Y.gtr rfl rfl) (Gd.at 11 true 16 (decide (a.Key = b.Key)) rfl rfl rfl (beq_tt H6)) rfl rfl ?_
        refine TO.y (Y.pick_t H6 rfl rfl) (Gd.at 5 false 10 (sLt a.Key b.Key) rfl rfl rfl (beq_ff H5)) rfl rfl ?_
        refine TO.y (Y.pick_f H5 rfl rfl) rfl rfl rfl ?_
        refine TO.y (Y.assign rfl) rfl rfl rfl ?_
        refine TO.nil ?_
        exact TE.jb_go () [] ⟨rfl, trivial⟩ rfl
      · refine TO.off (Gd.at 11 true 16 (decide (a.Key = b.Key)) rfl rfl rfl (beq_ft H6)) rfl rfl ?_
        refine TO.off (Gd.at 11 true 16 (decide (a.Key = b.Key)) rfl rfl rfl (beq_ft H6)) rfl rfl ?_
        refine TO.off (Gd.at 11 true 16 (decide (a.Key = b.Key)) rfl rfl rfl (beq_ft H6)) rfl rfl ?_
        refine TO.off (Gd.at 11 true 16 (decide (a.Key = b.Key)) rfl rfl rfl (beq_ft H6)) rfl rfl ?_
        refine TO.off (Gd.at 11 true 16 (decide (a.Key = b.Key)) rfl rfl rfl (beq_ft H6)) rfl rfl ?_
        refine TO.y (Y.pick_f H6 rfl rfl) (Gd.at 5 false 10 (sLt a.Key b.Key) rfl rfl rfl (beq_ff H5)) rfl rfl ?_
        refine TO.y (Y.pick_f H5 rfl rfl) rfl rfl rfl ?_
        refine TO.y (Y.assign rfl) rfl rfl rfl ?_
        refine TO.nil ?_
        exact TE.jb_go () [] ⟨rfl, trivial⟩ rfl
  · refine TE.next ?_
    refine TW.ret ?_
    exact TE.leaf fun _ _ hf_ hs_ => ret_any (rs := [.tmp 4]) (vs := [.bool T3]) (.inl rfl) rfl ⟨rfl, trivial⟩ hf_ hs_ ⟨(), rfl, hs_.pulls [] rfl⟩

/-- loop.example/g00950/spec.l9Ents -/
noncomputable def spec_l9Ents (l : List Ent) : Option Bool :=
  bindC (loopO (fun (S1 : Int) => if (decide (S1 < ((l.length : Nat) : Int))) = true then (((idx l S1).bind fun E8 =>
  (spec_l9Ent E8).bind fun R10 =>
  if (!R10) = true then (some true)
  else (if (decide (S1 > (0 : Int))) = true then ((idx l (IntKind.i64.wrap (S1 - (1 : Int)))).bind fun E15 =>
  (spec_l9Ahead E15 E8).bind fun R17 =>
  some (!R17))
  else (some false))).bind (fun (T6 : Bool) =>
  if T6 = true then (some (.done (.done false)))
  else (some (.go (IntKind.i64.wrap (S1 + (1 : Int)))))))
  else (some (.done (.go ()))))
  (0 : Int))
  (fun (T3 : Unit) => some true)

theorem spec_l9Ents_con (l : List Ent) (V_l0 : Value) (r : Bool) (hm : spec_l9Ents l = some r) :
    Con Try.prog 35 [V_l0] [] [(V_l0, lc l)] (fun _ : Unit => .bool r) (fun _ => []) := by
  refine Con.intro (args := [V_l0]) (n := 33) (val := fun r (_ : Unit) => .bool r) (post := fun _ _ => []) (m := spec_l9Ents l) Try.func35 rfl rfl rfl hm ?_
  intro w S hrd
  have HB_V_l0 := hrd _ (.head _)
  clear hrd
  unfold spec_l9Ents
  refine TW.seq ?_
  refine TW.region ?_
  refine TO.y (Y.assign rfl) rfl rfl rfl ?_
  refine TO.nil ?_
  refine TE.next ?_
  refine TW.seq ?_
  refine TW.seq ?_
  refine TW.region ?_
  refine TO.y (Y.assign rfl) rfl rfl rfl ?_
  refine TO.nil ?_
  refine TE.next ?_
  refine TW.joinX (τ := Unit) (X := Unit) (fun _ _ => []) (fun _ _ => []) ?_ (fun T3 X4 => ?_)
  · refine TW.block ?_
    refine TW.loopX (σ := Int) (X := Unit) (fun T _ => [(0, V_l0), (3, .int .i64 T)]) (fun _ _ => []) () [] ⟨rfl, rfl, trivial⟩ rfl (fun S1 X2 => ?_)
    refine TW.seq ?_
    refine TW.seq ?_
    refine TW.region ?_
    refine TO.y (Y.move rfl) rfl rfl rfl ?_
    refine TO.y (Y.move rfl) rfl rfl rfl ?_
    refine TO.y (Y.len (l := l) ke26 (Base.can HB_V_l0) rfl) rfl rfl rfl ?_
    refine TO.y (Y.lss rfl rfl) rfl rfl rfl ?_
    refine TO.nil ?_
    refine TE.next ?_
    refine TW.cond rfl (fun H5 => ?_) (fun H5 => ?_)
    · refine TW.skip ?_
      refine TE.next ?_
      refine TW.seq ?_
      refine TW.block ?_
      refine TW.seq ?_
      refine TW.joinBX (τ := Bool) (X := Unit) (fun T _ => [(0, V_l0), (3, .int .i64 S1), (32, .bool T)]) (fun _ _ => []) ?_ (fun T6 X7 => ?_)
      · refine TW.draw (isH := []) hMix ?_
        refine TA.y (listed' := #[true, false, false, false, false, false, false, false, false, false, false, false, false, false, false, false, false, false, false, false, false, false, false]) 0 [] rfl (Y.move rfl) rfl rfl rfl (by kernel_rfl) (by kernel_rfl) (by kernel_rfl) rfl rfl ?_
        refine TA.y (listed' := #[true, true, false, false, false, false, false, false, false, false, false, false, false, false, false, false, false, false, false, false, false, false, false]) 1 [] rfl (Y.move rfl) rfl rfl rfl (by kernel_rfl) (by kernel_rfl) (by kernel_rfl) rfl rfl ?_
        refine TA.bind fun E8 H9 => ?_
        refine TA.y (listed' := #[true, true, true, false, false, false, false, false, false, false, false, false, false, false, false, false, false, false, false, false, false, false, false]) 2 [] rfl (Y.index ke26 (Base.can HB_V_l0) H9 rfl rfl) rfl rfl rfl (by kernel_rfl) (by kernel_rfl) (by kernel_rfl) rfl rfl ?_
        refine TA.y (listed' := #[true, true, true, true, false, false, false, false, false, false, false, false, false, false, false, false, false, false, false, false, false, false, false]) 3 [] rfl (Y.load_el (us := [strV E8.Key, .int .i64 E8.Seq, .bool E8.Del, strV E8.Val]) (u := .agg #[strV E8.Key, .int .i64 E8.Seq, .bool E8.Del, strV E8.Val]) kk31 rfl (Base.can HB_V_l0) (idx_get H9).2.2 rfl rfl rfl rfl rfl) rfl rfl rfl (by kernel_rfl) (by kernel_rfl) (by kernel_rfl) rfl rfl ?_
        refine TA.bind fun R10 H11 => ?_
        refine TA.one 4 (by kernel_rfl) ?_
        refine TX.ef (listed' := #[true, true, true, true, true, false, false, false, false, false, false, false, false, false, false, false, false, false, false, false, false, false, false]) [] rfl (Ef.call (rest := []) [] (spec_l9Ent_con E8  R10 H11) kc67 rfl rfl trivial) rfl rfl rfl rfl (fun _ => rfl) (fun _ => ?_)
        refine TA.y (listed' := #[true, true, true, true, true, true, false, false, false, false, false, false, false, false, false, false, false, false, false, false, false, false, false]) 5 [] rfl (Y.not rfl) rfl rfl rfl (by kernel_rfl) (by kernel_rfl) (by kernel_rfl) rfl rfl ?_
        refine TA.y (listed' := #[true, true, true, true, true, true, true, false, false, false, false, false, false, false, false, false, false, false, false, false, false, false, false]) 6 [] rfl (Y.move rfl) rfl rfl rfl (by kernel_rfl) (by kernel_rfl) (by kernel_rfl) rfl rfl ?_
        refine TA.ite (b := !R10) (fun H13 => ?_) (fun H13 => ?_)
        · refine TA.off (listed' := #[true, true, true, true, true, true, true, true, false, false, false, false, false, false, false, false, false, false, false, false, false, false, false]) 7 [] rfl (Gd.at 6 false 16 (!R10) rfl rfl rfl (beq_tf H13)) rfl rfl (by kernel_rfl) (by kernel_rfl) (by kernel_rfl) rfl rfl ?_
          refine TA.off (listed' := #[true, true, true, true, true, true, true, true, true, false, false, false, false, false, false, false, false, false, false, false, false, false, false]) 8 [] rfl (Gd.at 6 false 16 (!R10) rfl rfl rfl (beq_tf H13)) rfl rfl (by kernel_rfl) (by kernel_rfl) (by kernel_rfl) rfl rfl ?_
          refine TA.off (listed' := #[true, true, true, true, true, true, true, true, true, true, false, false, false, false, false, false, false, false, false, false, false, false, false]) 9 [] rfl (Gd.at 6 false 16 (!R10) rfl rfl rfl (beq_tf H13)) rfl rfl (by kernel_rfl) (by kernel_rfl) (by kernel_rfl) rfl rfl ?_
          refine TA.off (listed' := #[true, true, true, true, true, true, true, true, true, true, true, false, false, false, false, false, false, false, false, false, false, false, false]) 10 [] rfl (Gd.un 9 true 19 rfl rfl rfl) rfl rfl (by kernel_rfl) (by kernel_rfl) (by kernel_rfl) rfl rfl ?_
          refine TA.off (listed' := #[true, true, true, true, true, true, true, true, true, true, true, true, false, false, false, false, false, false, false, false, false, false, false]) 11 [] rfl (Gd.un 9 true 19 rfl rfl rfl) rfl rfl (by kernel_rfl) (by kernel_rfl) (by kernel_rfl) rfl rfl ?_
          refine TA.off (listed' := #[true, true, true, true, true, true, true, true, true, true, true, true, true, false, false, false, false, false, false, false, false, false, false]) 12 [] rfl (Gd.un 9 true 19 rfl rfl rfl) rfl rfl (by kernel_rfl) (by kernel_rfl) (by kernel_rfl) rfl rfl ?_
          refine TA.off (listed' := #[true, true, true, true, true, true, true, true, true, true, true, true, true, true, false, false, false, false, false, false, false, false, false]) 13 [] rfl (Gd.un 9 true 19 rfl rfl rfl) rfl rfl (by kernel_rfl) (by kernel_rfl) (by kernel_rfl) rfl rfl ?_
          refine TA.off (listed' := #[true, true, true, true, true, true, true, true, true, true, true, true, true, true, true, false, false, false, false, false, false, false, false]) 14 [] rfl (Gd.un 9 true 19 rfl rfl rfl) rfl rfl (by kernel_rfl) (by kernel_rfl) (by kernel_rfl) rfl rfl ?_
          refine TA.off (listed' := #[true, true, true, true, true, true, true, true, true, true, true, true, true, true, true, true, false, false, false, false, false, false, false]) 15 [] rfl (Gd.un 9 true 19 rfl rfl rfl) rfl rfl (by kernel_rfl) (by kernel_rfl) (by kernel_rfl) rfl rfl ?_
          refine TA.off (listed' := #[true, true, true, true, true, true, true, true, true, true, true, true, true, true, true, true, true, false, false, false, false, false, false]) 16 [] rfl (Gd.un 9 true 19 rfl rfl rfl) rfl rfl (by kernel_rfl) (by kernel_rfl) (by kernel_rfl) rfl rfl ?_
          refine TA.off (listed' := #[true, true, true, true, true, true, true, true, true, true, true, true, true, true, true, true, true, true, false, false, false, false, false]) 17 [] rfl (Gd.un 9 true 19 rfl rfl rfl) rfl rfl (by kernel_rfl) (by kernel_rfl) (by kernel_rfl) rfl rfl ?_
          refine TA.off (listed' := #[true, true, true, true, true, true, true, true, true, true, true, true, true, true, true, true, true, true, true, false, false, false, false]) 18 [] rfl (Gd.un 9 true 19 rfl rfl rfl) rfl rfl (by kernel_rfl) (by kernel_rfl) (by kernel_rfl) rfl rfl ?_
          refine TA.off (listed' := #[true, true, true, true, true, true, true, true, true, true, true, true, true, true, true, true, true, true, true, true, false, false, false]) 19 [] rfl (Gd.un 9 true 19 rfl rfl rfl) rfl rfl (by kernel_rfl) (by kernel_rfl) (by kernel_rfl) rfl rfl ?_
          refine TA.off (listed' := #[true, true, true, true, true, true, true, true, true, true, true, true, true, true, true, true, true, true, true, true, true, false, false]) 20 [] rfl (Gd.un 9 true 19 rfl rfl rfl) rfl rfl (by kernel_rfl) (by kernel_rfl) (by kernel_rfl) rfl rfl ?_
          refine TA.off (listed' := #[true, true, true, true, true, true, true, true, true, true, true, true, true, true, true, true, true, true, true, true, true, true, false]) 21 [] rfl (Gd.at 6 false 16 (!R10) rfl rfl rfl (beq_tf H13)) rfl rfl (by kernel_rfl) (by kernel_rfl) (by kernel_rfl) rfl rfl ?_
          refine TA.y (listed' := #[true, true, true, true, true, true, true, true, true, true, true, true, true, true, true, true, true, true, true, true, true, true, true]) 22 [] rfl (Y.pick_t H13 rfl rfl) rfl rfl rfl (by kernel_rfl) (by kernel_rfl) (by kernel_rfl) rfl rfl ?_
          refine TA.nil (by kernel_rfl) ?_
          exact TE.jb_go () [] ⟨rfl, rfl, rfl, trivial⟩ rfl
        · refine TA.y (listed' := #[true, true, true, true, true, true, true, true, false, false, false, false, false, false, false, false, false, false, false, false, false, false, false]) 7 [] rfl (Y.move rfl) (Gd.at 6 false 16 (!R10) rfl rfl rfl (beq_ff H13)) rfl rfl (by kernel_rfl) (by kernel_rfl) (by kernel_rfl) rfl rfl ?_
          refine TA.y (listed' := #[true, true, true, true, true, true, true, true, true, false, false, false, false, false, false, false, false, false, false, false, false, false, false]) 8 [] rfl (Y.gtr rfl rfl) (Gd.at 6 false 16 (!R10) rfl rfl rfl (beq_ff H13)) rfl rfl (by kernel_rfl) (by kernel_rfl) (by kernel_rfl) rfl rfl ?_
          refine TA.y (listed' := #[true, true, true, true, true, true, true, true, true, true, false, false, false, false, false, false, false, false, false, false, false, false, false]) 9 [] rfl (Y.move rfl) (Gd.at 6 false 16 (!R10) rfl rfl rfl (beq_ff H13)) rfl rfl (by kernel_rfl) (by kernel_rfl) (by kernel_rfl) rfl rfl ?_
          refine TA.ite (b := decide (S1 > (0 : Int))) (fun H14 => ?_) (fun H14 => ?_)
          · refine TA.y (listed' := #[true, true, true, true, true, true, true, true, true, true, true, false, false, false, false, false, false, false, false, false, false, false, false]) 10 [] rfl (Y.move rfl) (Gd.at 9 true 19 (decide (S1 > (0 : Int))) rfl rfl rfl (beq_tt H14)) rfl rfl (by kernel_rfl) (by kernel_rfl) (by kernel_rfl) rfl rfl ?_
            refine TA.y (listed' := #[true, true, true, true, true, true, true, true, true, true, true, true, false, false, false, false, false, false, false, false, false, false, false]) 11 [] rfl (Y.move rfl) (Gd.at 9 true 19 (decide (S1 > (0 : Int))) rfl rfl rfl (beq_tt H14)) rfl rfl (by kernel_rfl) (by kernel_rfl) (by kernel_rfl) rfl rfl ?_
            refine TA.y (listed' := #[true, true, true, true, true, true, true, true, true, true, true, true, true, false, false, false, false, false, false, false, false, false, false]) 12 [] rfl (Y.sub rfl rfl) (Gd.at 9 true 19 (decide (S1 > (0 : Int))) rfl rfl rfl (beq_tt H14)) rfl rfl (by kernel_rfl) (by kernel_rfl) (by kernel_rfl) rfl rfl ?_
            refine TA.bind fun E15 H16 => ?_
            refine TA.y (listed' := #[true, true, true, true, true, true, true, true, true, true, true, true, true, true, false, false, false, false, false, false, false, false, false]) 13 [] rfl (Y.index ke26 (Base.can HB_V_l0) H16 rfl rfl) (Gd.at 9 true 19 (decide (S1 > (0 : Int))) rfl rfl rfl (beq_tt H14)) rfl rfl (by kernel_rfl) (by kernel_rfl) (by kernel_rfl) rfl rfl ?_
            refine TA.y (listed' := #[true, true, true, true, true, true, true, true, true, true, true, true, true, true, true, false, false, false, false, false, false, false, false]) 14 [] rfl (Y.load_el (us := [strV E15.Key, .int .i64 E15.Seq, .bool E15.Del, strV E15.Val]) (u := .agg #[strV E15.Key, .int .i64 E15.Seq, .bool E15.Del, strV E15.Val]) kk31 rfl (Base.can HB_V_l0) (idx_get H16).2.2 rfl rfl rfl rfl rfl) (Gd.at 9 true 19 (decide (S1 > (0 : Int))) rfl rfl rfl (beq_tt H14)) rfl rfl (by kernel_rfl) (by kernel_rfl) (by kernel_rfl) rfl rfl ?_
            refine TA.y (listed' := #[true, true, true, true, true, true, true, true, true, true, true, true, true, true, true, true, false, false, false, false, false, false, false]) 15 [] rfl (Y.move rfl) (Gd.at 9 true 19 (decide (S1 > (0 : Int))) rfl rfl rfl (beq_tt H14)) rfl rfl (by kernel_rfl) (by kernel_rfl) (by kernel_rfl) rfl rfl ?_
            refine TA.y (listed' := #[true, true, true, true, true, true, true, true, true, true, true, true, true, true, true, true, true, false, false, false, false, false, false]) 16 [] rfl (Y.move rfl) (Gd.at 9 true 19 (decide (S1 > (0 : Int))) rfl rfl rfl (beq_tt H14)) rfl rfl (by kernel_rfl) (by kernel_rfl) (by kernel_rfl) rfl rfl ?_
            refine TA.y (listed' := #[true, true, true, true, true, true, true, true, true, true, true, true, true, true, true, true, true, true, false, false, false, false, false]) 17 [] rfl (Y.index ke26 (Base.can HB_V_l0) H9 rfl rfl) (Gd.at 9 true 19 (decide (S1 > (0 : Int))) rfl rfl rfl (beq_tt H14)) rfl rfl (by kernel_rfl) (by kernel_rfl) (by kernel_rfl) rfl rfl ?_
            refine TA.y (listed' := #[true, true, true, true, true, true, true, true, true, true, true, true, true, true, true, true, true, true, true, false, false, false, false]) 18 [] rfl (Y.load_el (us := [strV E8.Key, .int .i64 E8.Seq, .bool E8.Del, strV E8.Val]) (u := .agg #[strV E8.Key, .int .i64 E8.Seq, .bool E8.Del, strV E8.Val]) kk31 rfl (Base.can HB_V_l0) (idx_get H9).2.2 rfl rfl rfl rfl rfl) (Gd.at 9 true 19 (decide (S1 > (0 : Int))) rfl rfl rfl (beq_tt H14)) rfl rfl (by kernel_rfl) (by kernel_rfl) (by kernel_rfl) rfl rfl ?_
            refine TA.bind fun R17 H18 => ?_
            refine TA.one 19 (by kernel_rfl) ?_
            refine TX.ef (listed' := #[true, true, true, true, true, true, true, true, true, true, true, true, true, true, true, true, true, true, true, true, false, false, false]) [] rfl (Ef.call (rest := []) [] (spec_l9Ahead_con E15 E8  R17 H18) kc36 rfl rfl trivial) (Gd.at 9 true 19 (decide (S1 > (0 : Int))) rfl rfl rfl (beq_tt H14)) rfl rfl rfl (fun _ => rfl) (fun _ => ?_)
            refine TA.y (listed' := #[true, true, true, true, true, true, true, true, true, true, true, true, true, true, true, true, true, true, true, true, true, false, false]) 20 [] rfl (Y.not rfl) (Gd.at 9 true 19 (decide (S1 > (0 : Int))) rfl rfl rfl (beq_tt H14)) rfl rfl (by kernel_rfl) (by kernel_rfl) (by kernel_rfl) rfl rfl ?_
            refine TA.y (listed' := #[true, true, true, true, true, true, true, true, true, true, true, true, true, true, true, true, true, true, true, true, true, true, false]) 21 [] rfl (Y.pick_t H14 rfl rfl) (Gd.at 6 false 16 (!R10) rfl rfl rfl (beq_ff H13)) rfl rfl (by kernel_rfl) (by kernel_rfl) (by kernel_rfl) rfl rfl ?_
            refine TA.y (listed' := #[true, true, true, true, true, true, true, true, true, true, true, true, true, true, true, true, true, true, true, true, true, true, true]) 22 [] rfl (Y.pick_f H13 rfl rfl) rfl rfl rfl (by kernel_rfl) (by kernel_rfl) (by kernel_rfl) rfl rfl ?_
            refine TA.nil (by kernel_rfl) ?_
            exact TE.jb_go () [] ⟨rfl, rfl, rfl, trivial⟩ rfl
          · refine TA.off (listed' := #[true, true, true, true, true, true, true, true, true, true, true, false, false, false, false, false, false, false, false, false, false, false, false]) 10 [] rfl (Gd.at 9 true 19 (decide (S1 > (0 : Int))) rfl rfl rfl (beq_ft H14)) rfl rfl (by kernel_rfl) (by kernel_rfl) (by kernel_rfl) rfl rfl ?_
            refine TA.off (listed' := #[true, true, true, true, true, true, true, true, true, true, true, true, false, false, false, false, false, false, false, false, false, false, false]) 11 [] rfl (Gd.at 9 true 19 (decide (S1 > (0 : Int))) rfl rfl rfl (beq_ft H14)) rfl rfl (by kernel_rfl) (by kernel_rfl) (by kernel_rfl) rfl rfl ?_
            refine TA.off (listed' := #[true, true, true, true, true, true, true, true, true, true, true, true, true, false, false, false, false, false, false, false, false, false, false]) 12 [] rfl (Gd.at 9 true 19 (decide (S1 > (0 : Int))) rfl rfl rfl (beq_ft H14)) rfl rfl (by kernel_rfl) (by kernel_rfl) (by kernel_rfl) rfl rfl ?_
            refine TA.off (listed' := #[true, true, true, true, true, true, true, true, true, true, true, true, true, true, false, false, false, false, false, false, false, false, false]) 13 [] rfl (Gd.at 9 true 19 (decide (S1 > (0 : Int))) rfl rfl rfl (beq_ft H14)) rfl rfl (by kernel_rfl) (by kernel_rfl) (by kernel_rfl) rfl rfl ?_
            refine TA.off (listed' := #[true, true, true, true, true, true, true, true, true, true, true, true, true, true, true, false, false, false, false, false, false, false, false]) 14 [] rfl (Gd.at 9 true 19 (decide (S1 > (0 : Int))) rfl rfl rfl (beq_ft H14)) rfl rfl (by kernel_rfl) (by kernel_rfl) (by kernel_rfl) rfl rfl ?_
            refine TA.off (listed' := #[true, true, true, true, true, true, true, true, true, true, true, true, true, true, true, true, false, false, false, false, false, false, false]) 15 [] rfl (Gd.at 9 true 19 (decide (S1 > (0 : Int))) rfl rfl rfl (beq_ft H14)) rfl rfl (by kernel_rfl) (by kernel_rfl) (by kernel_rfl) rfl rfl ?_
            refine TA.off (listed' := #[true, true, true, true, true, true, true, true, true, true, true, true, true, true, true, true, true, false, false, false, false, false, false]) 16 [] rfl (Gd.at 9 true 19 (decide (S1 > (0 : Int))) rfl rfl rfl (beq_ft H14)) rfl rfl (by kernel_rfl) (by kernel_rfl) (by kernel_rfl) rfl rfl ?_
            refine TA.off (listed' := #[true, true, true, true, true, true, true, true, true, true, true, true, true, true, true, true, true, true, false, false, false, false, false]) 17 [] rfl (Gd.at 9 true 19 (decide (S1 > (0 : Int))) rfl rfl rfl (beq_ft H14)) rfl rfl (by kernel_rfl) (by kernel_rfl) (by kernel_rfl) rfl rfl ?_
            refine TA.off (listed' := #[true, true, true, true, true, true, true, true, true, true, true, true, true, true, true, true, true, true, true, false, false, false, false]) 18 [] rfl (Gd.at 9 true 19 (decide (S1 > (0 : Int))) rfl rfl rfl (beq_ft H14)) rfl rfl (by kernel_rfl) (by kernel_rfl) (by kernel_rfl) rfl rfl ?_
            refine TA.off (listed' := #[true, true, true, true, true, true, true, true, true, true, true, true, true, true, true, true, true, true, true, true, false, false, false]) 19 [] rfl (Gd.at 9 true 19 (decide (S1 > (0 : Int))) rfl rfl rfl (beq_ft H14)) rfl rfl (by kernel_rfl) (by kernel_rfl) (by kernel_rfl) rfl rfl ?_
            refine TA.off (listed' := #[true, true, true, true, true, true, true, true, true, true, true, true, true, true, true, true, true, true, true, true, true, false, false]) 20 [] rfl (Gd.at 9 true 19 (decide (S1 > (0 : Int))) rfl rfl rfl (beq_ft H14)) rfl rfl (by kernel_rfl) (by kernel_rfl) (by kernel_rfl) rfl rfl ?_
            refine TA.y (listed' := #[true, true, true, true, true, true, true, true, true, true, true, true, true, true, true, true, true, true, true, true, true, true, false]) 21 [] rfl (Y.pick_f H14 rfl rfl) (Gd.at 6 false 16 (!R10) rfl rfl rfl (beq_ff H13)) rfl rfl (by kernel_rfl) (by kernel_rfl) (by kernel_rfl) rfl rfl ?_
            refine TA.y (listed' := #[true, true, true, true, true, true, true, true, true, true, true, true, true, true, true, true, true, true, true, true, true, true, true]) 22 [] rfl (Y.pick_f H13 rfl rfl) rfl rfl rfl (by kernel_rfl) (by kernel_rfl) (by kernel_rfl) rfl rfl ?_
            refine TA.nil (by kernel_rfl) ?_
            exact TE.jb_go () [] ⟨rfl, rfl, rfl, trivial⟩ rfl
      · refine TE.next ?_
        refine TW.cond rfl (fun H20 => ?_) (fun H20 => ?_)
        · refine TW.seq ?_
          refine TW.region ?_
          refine TO.y (Y.assign rfl) rfl rfl rfl ?_
          refine TO.nil ?_
          refine TE.next ?_
          refine TW.ret ?_
          refine TE.block_ret ?_
          refine TE.then_ret ?_
          refine TE.lp_ret ?_
          refine TE.block_ret ?_
          refine TE.jn_done ?_
          refine TE.then_ret ?_
          exact TE.leaf fun _ _ hf_ hs_ => ret_any (rs := [.tmp 2]) (vs := [.bool false]) (.inl rfl) rfl ⟨rfl, trivial⟩ hf_ hs_ ⟨(), rfl, hs_.pulls [] rfl⟩
        · refine TW.skip ?_
          refine TE.block_normal ?_
          refine TE.next ?_
          refine TW.region ?_
          refine TO.y (Y.move rfl) rfl rfl rfl ?_
          refine TO.y (Y.add rfl rfl) rfl rfl rfl ?_
          refine TO.y (Y.assign rfl) rfl rfl rfl ?_
          refine TO.nil ?_
          exact TE.lp_go () [] ⟨rfl, rfl, trivial⟩ rfl
    · refine TW.exit ?_
      refine TE.then_exit ?_
      refine TE.lp_exit ?_
      refine TE.block_exit ?_
      exact TE.jn_go () [] trivial rfl
  · refine TE.next ?_
    refine TW.seq ?_
    refine TW.region ?_
    refine TO.y (Y.assign rfl) rfl rfl rfl ?_
    refine TO.nil ?_
    refine TE.next ?_
    refine TW.ret ?_
    exact TE.leaf fun _ _ hf_ hs_ => ret_any (rs := [.tmp 2]) (vs := [.bool true]) (.inl rfl) rfl ⟨rfl, trivial⟩ hf_ hs_ ⟨(), rfl, hs_.pulls [] rfl⟩

/-- loop.example/g00950/spec.MemOk -/
noncomputable def spec_MemOk (l : List Ent) : Option Bool :=
  (if (decide (((l.length : Nat) : Int) ≤ (60 : Int))) = true then ((spec_l9Ents l).bind fun R4 =>
  some R4)
  else (some false)).bind (fun (T1 : Bool) =>
  some T1)

theorem spec_MemOk_con (l : List Ent) (V_l0 : Value) (r : Bool) (hm : spec_MemOk l = some r) :
    Con Try.prog 12 [V_l0] [] [(V_l0, lc l)] (fun _ : Unit => .bool r) (fun _ => []) := by
  refine Con.intro (args := [V_l0]) (n := 10) (val := fun r (_ : Unit) => .bool r) (post := fun _ _ => []) (m := spec_MemOk l) Try.func12 rfl rfl rfl hm ?_
  intro w S hrd
  have HB_V_l0 := hrd _ (.head _)
  clear hrd
  unfold spec_MemOk
  refine TW.seq ?_
  refine TW.region ?_
  refine TO.y (Y.assign rfl) rfl rfl rfl ?_
  refine TO.nil ?_
  refine TE.next ?_
  refine TW.seq ?_
  refine TW.joinBX (τ := Bool) (X := Unit) (fun T _ => [(2, .bool T)]) (fun _ _ => []) ?_ (fun T1 X2 => ?_)
  · refine TW.region ?_
    refine TO.y (Y.move rfl) rfl rfl rfl ?_
    refine TO.y (Y.len (l := l) ke26 (Base.can HB_V_l0) rfl) rfl rfl rfl ?_
    refine TO.y (Y.leq rfl rfl) rfl rfl rfl ?_
    refine TO.y (Y.move rfl) rfl rfl rfl ?_
    refine TO.ite (b := decide (((l.length : Nat) : Int) ≤ (60 : Int))) (fun H3 => ?_) (fun H3 => ?_)
    · refine TO.y (Y.move rfl) (Gd.at 3 true 6 (decide (((l.length : Nat) : Int) ≤ (60 : Int))) rfl rfl rfl (beq_tt H3)) rfl rfl ?_
      refine TO.bind fun R4 H5 => ?_
      refine TO.ef (Ef.call (rest := []) [] (spec_l9Ents_con l V_l0 R4 H5) kc35 rfl rfl ⟨(Base.can HB_V_l0), trivial⟩) (Gd.at 3 true 6 (decide (((l.length : Nat) : Int) ≤ (60 : Int))) rfl rfl rfl (beq_tt H3)) rfl rfl (fun _ => ?_)
      refine TO.y (Y.pick_t H3 rfl rfl) rfl rfl rfl ?_
      refine TO.y (Y.assign rfl) rfl rfl rfl ?_
      refine TO.nil ?_
      exact TE.jb_go () [] ⟨rfl, trivial⟩ rfl
    · refine TO.off (Gd.at 3 true 6 (decide (((l.length : Nat) : Int) ≤ (60 : Int))) rfl rfl rfl (beq_ft H3)) rfl rfl ?_
      refine TO.off (Gd.at 3 true 6 (decide (((l.length : Nat) : Int) ≤ (60 : Int))) rfl rfl rfl (beq_ft H3)) rfl rfl ?_
      refine TO.y (Y.pick_f H3 rfl rfl) rfl rfl rfl ?_
      refine TO.y (Y.assign rfl) rfl rfl rfl ?_
      refine TO.nil ?_
      exact TE.jb_go () [] ⟨rfl, trivial⟩ rfl
  · refine TE.next ?_
    refine TW.ret ?_
    exact TE.leaf fun _ _ hf_ hs_ => ret_any (rs := [.tmp 2]) (vs := [.bool T1]) (.inl rfl) rfl ⟨rfl, trivial⟩ hf_ hs_ ⟨(), rfl, hs_.pulls [] rfl⟩

/-- loop.example/g00950/spec.l9Put -/
noncomputable def spec_l9Put (l : List Ent) (e : Ent) : Option (List Ent) :=
  bindC (loopO (fun (S3 : Bool × Int × List Ent) => if (decide (S3.2.1 < ((l.length : Nat) : Int))) = true then ((if (!S3.1) = true then ((idx l S3.2.1).bind fun E11 =>
  (spec_l9Ahead e E11).bind fun R13 =>
  some R13)
  else (some false)).bind (fun (T8 : Bool) =>
  bindC (if T8 = true then ((app 48 S3.2.2 ([e])).bind fun E21 =>
  some (.go (true, E21)))
  else (some (.go (S3.1, S3.2.2))))
  (fun (T16 : Bool × List Ent) => (idx l S3.2.1).bind fun E23 =>
  (app 48 T16.2 ([E23])).bind fun E27 =>
  some (.go (T16.1, IntKind.i64.wrap (S3.2.1 + (1 : Int)), E27)))))
  else (some (.done (.go (S3.1, S3.2.2)))))
  (false, (0 : Int), ([] : List Ent)))
  (fun (T5 : Bool × List Ent) => bindC (if (!T5.1) = true then ((app 48 T5.2 ([e])).bind fun E34 =>
  some (.go E34))
  else (some (.go T5.2)))
  (fun (T29 : List Ent) => some T29))

theorem spec_l9Put_con (l : List Ent) (e : Ent) (V_l0 : Value) (r : List Ent) (hm : spec_l9Put l e = some r) :
    Con Try.prog 98 [V_l0, .agg #[strV e.Key, .int .i64 e.Seq, .bool e.Del, strV e.Val]] [] [(V_l0, lc l)] (fun X : Value => X) (fun X => [.own X (lc r)]) := by
  refine Con.intro (args := [V_l0, .agg #[strV e.Key, .int .i64 e.Seq, .bool e.Del, strV e.Val]]) (n := 43) (val := fun _ (X : Value) => X) (post := fun r X => [.own X (lc r)]) (m := spec_l9Put l e) Try.func98 rfl rfl rfl hm ?_
  intro w S hrd
  have HB_V_l0 := hrd _ (.head _)
  clear hrd
  unfold spec_l9Put
  refine TW.seq ?_
  refine TW.region ?_
  refine TO.ef (Ef.box rfl (Cel.plain rfl rfl)) rfl rfl rfl (fun B1 => ?_)
  refine TO.y (Y.assign rfl) rfl rfl rfl ?_
  refine TO.nil ?_
  refine TE.next ?_
  refine TW.seq ?_
  refine TW.region ?_
  refine TO.ef (Ef.buildSlice (α := Ent) (Vs := []) ([] : List Ent) ke26 kz31 rfl rfl rfl rfl rfl) rfl rfl rfl (fun B2 => ?_)
  refine TO.y (Y.assign rfl) rfl rfl rfl ?_
  refine TO.nil ?_
  refine TE.next ?_
  refine TW.seq ?_
  refine TW.region ?_
  refine TO.y (Y.assign rfl) rfl rfl rfl ?_
  refine TO.nil ?_
  refine TE.next ?_
  refine TW.seq ?_
  refine TW.seq ?_
  refine TW.region ?_
  refine TO.y (Y.assign rfl) rfl rfl rfl ?_
  refine TO.nil ?_
  refine TE.next ?_
  refine TW.joinX (τ := Bool × List Ent) (X := Value) (fun T X => [(3, .pointer (some ⟨B1, 0, none⟩)), (5, X), (6, .bool T.1)]) (fun T X => [.box B1 31 [strV e.Key, .int .i64 e.Seq, .bool e.Del, strV e.Val], .own X (lc T.2)]) ?_ (fun T5 X6 => ?_)
  · refine TW.block ?_
    refine TW.loopX (σ := Bool × Int × List Ent) (X := Value) (fun T X => [(0, V_l0), (3, .pointer (some ⟨B1, 0, none⟩)), (5, X), (6, .bool T.1), (7, .int .i64 T.2.1)]) (fun T X => [.box B1 31 [strV e.Key, .int .i64 e.Seq, .bool e.Del, strV e.Val], .own X (lc T.2.2)]) (.slice (some ⟨B2, 0, none⟩) 0 0) [1, 0] ⟨rfl, rfl, rfl, rfl, rfl, trivial⟩ rfl (fun S3 X4 => ?_)
    refine TW.seq ?_
    refine TW.seq ?_
    refine TW.region ?_
    refine TO.y (Y.move rfl) rfl rfl rfl ?_
    refine TO.y (Y.move rfl) rfl rfl rfl ?_
    refine TO.y (Y.len (l := l) ke26 (Base.can HB_V_l0) rfl) rfl rfl rfl ?_
    refine TO.y (Y.lss rfl rfl) rfl rfl rfl ?_
    refine TO.nil ?_
    refine TE.next ?_
    refine TW.cond rfl (fun H7 => ?_) (fun H7 => ?_)
    · refine TW.skip ?_
      refine TE.next ?_
      refine TW.seq ?_
      refine TW.block ?_
      refine TW.seq ?_
      refine TW.seq ?_
      refine TW.joinBX (τ := Bool) (X := Unit) (fun T _ => [(0, V_l0), (3, .pointer (some ⟨B1, 0, none⟩)), (5, X4), (6, .bool S3.1), (7, .int .i64 S3.2.1), (24, .bool T)]) (fun _ _ => [.box B1 31 [strV e.Key, .int .i64 e.Seq, .bool e.Del, strV e.Val], .own X4 (lc S3.2.2)]) ?_ (fun T8 X9 => ?_)
      · refine TW.draw (isH := [.box B1 31 [strV e.Key, .int .i64 e.Seq, .bool e.Del, strV e.Val], .own X4 (lc S3.2.2)]) hMix ?_
        refine TA.y (listed' := #[true, false, false, false, false, false, false, false, false, false]) 0 [0, 0] rfl (Y.move rfl) rfl rfl rfl (by kernel_rfl) (by kernel_rfl) (by kernel_rfl) rfl rfl ?_
        refine TA.y (listed' := #[true, true, false, false, false, false, false, false, false, false]) 1 [0, 0] rfl (Y.not rfl) rfl rfl rfl (by kernel_rfl) (by kernel_rfl) (by kernel_rfl) rfl rfl ?_
        refine TA.y (listed' := #[true, true, true, false, false, false, false, false, false, false]) 2 [0, 0] rfl (Y.move rfl) rfl rfl rfl (by kernel_rfl) (by kernel_rfl) (by kernel_rfl) rfl rfl ?_
        refine TA.ite (b := !S3.1) (fun H10 => ?_) (fun H10 => ?_)
        · refine TA.y (listed' := #[true, true, true, true, false, false, false, false, false, false]) 3 [0, 0] rfl (Y.load_box (v := .agg #[strV e.Key, .int .i64 e.Seq, .bool e.Del, strV e.Val]) 0 kk31 rfl rfl rfl) (Gd.at 2 true 17 (!S3.1) rfl rfl rfl (beq_tt H10)) rfl rfl (by kernel_rfl) (by kernel_rfl) (by kernel_rfl) rfl rfl ?_
          refine TA.y (listed' := #[true, true, true, true, true, false, false, false, false, false]) 4 [0, 0] rfl (Y.move rfl) (Gd.at 2 true 17 (!S3.1) rfl rfl rfl (beq_tt H10)) rfl rfl (by kernel_rfl) (by kernel_rfl) (by kernel_rfl) rfl rfl ?_
          refine TA.y (listed' := #[true, true, true, true, true, true, false, false, false, false]) 5 [0, 0] rfl (Y.move rfl) (Gd.at 2 true 17 (!S3.1) rfl rfl rfl (beq_tt H10)) rfl rfl (by kernel_rfl) (by kernel_rfl) (by kernel_rfl) rfl rfl ?_
          refine TA.bind fun E11 H12 => ?_
          refine TA.y (listed' := #[true, true, true, true, true, true, true, false, false, false]) 6 [0, 0] rfl (Y.index ke26 (Base.can HB_V_l0) H12 rfl rfl) (Gd.at 2 true 17 (!S3.1) rfl rfl rfl (beq_tt H10)) rfl rfl (by kernel_rfl) (by kernel_rfl) (by kernel_rfl) rfl rfl ?_
          refine TA.y (listed' := #[true, true, true, true, true, true, true, true, false, false]) 7 [0, 0] rfl (Y.load_el (us := [strV E11.Key, .int .i64 E11.Seq, .bool E11.Del, strV E11.Val]) (u := .agg #[strV E11.Key, .int .i64 E11.Seq, .bool E11.Del, strV E11.Val]) kk31 rfl (Base.can HB_V_l0) (idx_get H12).2.2 rfl rfl rfl rfl rfl) (Gd.at 2 true 17 (!S3.1) rfl rfl rfl (beq_tt H10)) rfl rfl (by kernel_rfl) (by kernel_rfl) (by kernel_rfl) rfl rfl ?_
          refine TA.bind fun R13 H14 => ?_
          refine TA.one 8 (by kernel_rfl) ?_
          refine TX.ef (listed' := #[true, true, true, true, true, true, true, true, true, false]) [0, 0] rfl (Ef.call (rest := [.box B1 31 [strV e.Key, .int .i64 e.Seq, .bool e.Del, strV e.Val], .own X4 (lc S3.2.2)]) [0, 0] (spec_l9Ahead_con e E11  R13 H14) kc36 rfl rfl trivial) (Gd.at 2 true 17 (!S3.1) rfl rfl rfl (beq_tt H10)) rfl rfl rfl (fun _ => rfl) (fun _ => ?_)
          refine TA.y (listed' := #[true, true, true, true, true, true, true, true, true, true]) 9 [0, 0] rfl (Y.pick_t H10 rfl rfl) rfl rfl rfl (by kernel_rfl) (by kernel_rfl) (by kernel_rfl) rfl rfl ?_
          refine TA.nil (by kernel_rfl) ?_
          exact TE.jb_go () [0, 0] ⟨rfl, rfl, rfl, rfl, rfl, rfl, trivial⟩ rfl
        · refine TA.off (listed' := #[true, true, true, true, false, false, false, false, false, false]) 3 [0, 0] rfl (Gd.at 2 true 17 (!S3.1) rfl rfl rfl (beq_ft H10)) rfl rfl (by kernel_rfl) (by kernel_rfl) (by kernel_rfl) rfl rfl ?_
          refine TA.off (listed' := #[true, true, true, true, true, false, false, false, false, false]) 4 [0, 0] rfl (Gd.at 2 true 17 (!S3.1) rfl rfl rfl (beq_ft H10)) rfl rfl (by kernel_rfl) (by kernel_rfl) (by kernel_rfl) rfl rfl ?_
          refine TA.off (listed' := #[true, true, true, true, true, true, false, false, false, false]) 5 [0, 0] rfl (Gd.at 2 true 17 (!S3.1) rfl rfl rfl (beq_ft H10)) rfl rfl (by kernel_rfl) (by kernel_rfl) (by kernel_rfl) rfl rfl ?_
          refine TA.off (listed' := #[true, true, true, true, true, true, true, false, false, false]) 6 [0, 0] rfl (Gd.at 2 true 17 (!S3.1) rfl rfl rfl (beq_ft H10)) rfl rfl (by kernel_rfl) (by kernel_rfl) (by kernel_rfl) rfl rfl ?_
          refine TA.off (listed' := #[true, true, true, true, true, true, true, true, false, false]) 7 [0, 0] rfl (Gd.at 2 true 17 (!S3.1) rfl rfl rfl (beq_ft H10)) rfl rfl (by kernel_rfl) (by kernel_rfl) (by kernel_rfl) rfl rfl ?_
          refine TA.off (listed' := #[true, true, true, true, true, true, true, true, true, false]) 8 [0, 0] rfl (Gd.at 2 true 17 (!S3.1) rfl rfl rfl (beq_ft H10)) rfl rfl (by kernel_rfl) (by kernel_rfl) (by kernel_rfl) rfl rfl ?_
          refine TA.y (listed' := #[true, true, true, true, true, true, true, true, true, true]) 9 [0, 0] rfl (Y.pick_f H10 rfl rfl) rfl rfl rfl (by kernel_rfl) (by kernel_rfl) (by kernel_rfl) rfl rfl ?_
          refine TA.nil (by kernel_rfl) ?_
          exact TE.jb_go () [0, 0] ⟨rfl, rfl, rfl, rfl, rfl, rfl, trivial⟩ rfl
      · refine TE.next ?_
        refine TW.joinX (τ := Bool × List Ent) (X := Value) (fun T X => [(0, V_l0), (3, .pointer (some ⟨B1, 0, none⟩)), (5, X), (6, .bool T.1), (7, .int .i64 S3.2.1)]) (fun T X => [.box B1 31 [strV e.Key, .int .i64 e.Seq, .bool e.Del, strV e.Val], .own X (lc T.2)]) ?_ (fun T16 X17 => ?_)
        · refine TW.cond rfl (fun H18 => ?_) (fun H18 => ?_)
          · refine TW.seq ?_
            refine TW.region ?_
            refine TO.y (Y.move rfl) rfl rfl rfl ?_
            refine TO.y (Y.load_box (v := .agg #[strV e.Key, .int .i64 e.Seq, .bool e.Del, strV e.Val]) 0 kk31 rfl rfl rfl) rfl rfl rfl ?_
            refine TO.ef (Ef.buildSlice (α := Ent) (Vs := [.agg #[strV e.Key, .int .i64 e.Seq, .bool e.Del, strV e.Val]]) [e] ke26 kz31 rfl rfl rfl rfl rfl) rfl rfl rfl (fun B19 => ?_)
            refine TO.bind fun E21 H22 => ?_
            refine TO.ef (Ef.append (α := Ent) (is' := [.own (.slice (some ⟨B19, 0, none⟩) 1 1) (lc ([e])), .box B1 31 [strV e.Key, .int .i64 e.Seq, .bool e.Del, strV e.Val]]) [2, 0, 0] H22 ke26 kz31 rfl rfl rfl rfl rfl (Can.own 0 rfl)) rfl rfl rfl (fun V20 => ?_)
            refine TO.y (Y.assign rfl) rfl rfl rfl ?_
            refine TO.nil ?_
            refine TE.next ?_
            refine TW.region ?_
            refine TO.y (Y.assign rfl) rfl rfl rfl ?_
            refine TO.nil ?_
            exact TE.jn_go V20 [2, 0] ⟨rfl, rfl, rfl, rfl, rfl, trivial⟩ rfl
          · refine TW.skip ?_
            exact TE.jn_go X4 [0, 0] ⟨rfl, rfl, rfl, rfl, rfl, trivial⟩ rfl
        · refine TE.next ?_
          refine TW.region ?_
          refine TO.y (Y.move rfl) rfl rfl rfl ?_
          refine TO.y (Y.move rfl) rfl rfl rfl ?_
          refine TO.y (Y.move rfl) rfl rfl rfl ?_
          refine TO.bind fun E23 H24 => ?_
          refine TO.y (Y.index ke26 (Base.can HB_V_l0) H24 rfl rfl) rfl rfl rfl ?_
          refine TO.y (Y.load_el (us := [strV E23.Key, .int .i64 E23.Seq, .bool E23.Del, strV E23.Val]) (u := .agg #[strV E23.Key, .int .i64 E23.Seq, .bool E23.Del, strV E23.Val]) kk31 rfl (Base.can HB_V_l0) (idx_get H24).2.2 rfl rfl rfl rfl rfl) rfl rfl rfl ?_
          refine TO.ef (Ef.buildSlice (α := Ent) (Vs := [.agg #[strV E23.Key, .int .i64 E23.Seq, .bool E23.Del, strV E23.Val]]) [E23] ke26 kz31 rfl rfl rfl rfl rfl) rfl rfl rfl (fun B25 => ?_)
          refine TO.bind fun E27 H28 => ?_
          refine TO.ef (Ef.append (α := Ent) (is' := [.own (.slice (some ⟨B25, 0, none⟩) 1 1) (lc ([E23])), .box B1 31 [strV e.Key, .int .i64 e.Seq, .bool e.Del, strV e.Val]]) [2, 0, 0] H28 ke26 kz31 rfl rfl rfl rfl rfl (Can.own 0 rfl)) rfl rfl rfl (fun V26 => ?_)
          refine TO.y (Y.assign rfl) rfl rfl rfl ?_
          refine TO.nil ?_
          refine TE.block_normal ?_
          refine TE.next ?_
          refine TW.region ?_
          refine TO.y (Y.move rfl) rfl rfl rfl ?_
          refine TO.y (Y.add rfl rfl) rfl rfl rfl ?_
          refine TO.y (Y.assign rfl) rfl rfl rfl ?_
          refine TO.nil ?_
          exact TE.lp_go V26 [2, 0] ⟨rfl, rfl, rfl, rfl, rfl, trivial⟩ rfl
    · refine TW.exit ?_
      refine TE.then_exit ?_
      refine TE.lp_exit ?_
      refine TE.block_exit ?_
      exact TE.jn_go X4 [0, 0] ⟨rfl, rfl, rfl, trivial⟩ rfl
  · refine TE.next ?_
    refine TW.seq ?_
    refine TW.seq ?_
    refine TW.region ?_
    refine TO.y (Y.move rfl) rfl rfl rfl ?_
    refine TO.y (Y.not rfl) rfl rfl rfl ?_
    refine TO.nil ?_
    refine TE.next ?_
    refine TW.joinX (τ := List Ent) (X := Value) (fun _ X => [(5, X)]) (fun T X => [.own X (lc T)]) ?_ (fun T29 X30 => ?_)
    · refine TW.cond rfl (fun H31 => ?_) (fun H31 => ?_)
      · refine TW.region ?_
        refine TO.y (Y.move rfl) rfl rfl rfl ?_
        refine TO.y (Y.load_box (v := .agg #[strV e.Key, .int .i64 e.Seq, .bool e.Del, strV e.Val]) 0 kk31 rfl rfl rfl) rfl rfl rfl ?_
        refine TO.ef (Ef.buildSlice (α := Ent) (Vs := [.agg #[strV e.Key, .int .i64 e.Seq, .bool e.Del, strV e.Val]]) [e] ke26 kz31 rfl rfl rfl rfl rfl) rfl rfl rfl (fun B32 => ?_)
        refine TO.bind fun E34 H35 => ?_
        refine TO.ef (Ef.append (α := Ent) (is' := [.own (.slice (some ⟨B32, 0, none⟩) 1 1) (lc ([e])), .box B1 31 [strV e.Key, .int .i64 e.Seq, .bool e.Del, strV e.Val]]) [2, 0, 0] H35 ke26 kz31 rfl rfl rfl rfl rfl (Can.own 0 rfl)) rfl rfl rfl (fun V33 => ?_)
        refine TO.y (Y.assign rfl) rfl rfl rfl ?_
        refine TO.nil ?_
        exact TE.jn_go V33 [0] ⟨rfl, trivial⟩ rfl
      · refine TW.skip ?_
        exact TE.jn_go X6 [1] ⟨rfl, trivial⟩ rfl
    · refine TE.next ?_
      refine TW.seq ?_
      refine TW.region ?_
      refine TO.y (Y.move rfl) rfl rfl rfl ?_
      refine TO.y (Y.assign rfl) rfl rfl rfl ?_
      refine TO.nil ?_
      refine TE.next ?_
      refine TW.ret ?_
      exact TE.leaf fun _ _ hf_ hs_ => ret_any (rs := [.tmp 4]) (vs := [X30]) (.inl rfl) rfl ⟨rfl, trivial⟩ hf_ hs_ ⟨X30, rfl, hs_.pulls [0] rfl⟩

/-- loop.example/g00950/spec.MemPut -/
noncomputable def spec_MemPut (l : List Ent) (e : Ent) : Option (List Ent × Bool) :=
  (spec_MemOk l).bind fun R2 =>
  if (!R2) = true then (some (([] : List Ent), false))
  else ((spec_l9Put l e).bind fun R7 =>
  (spec_MemOk R7).bind fun R10 =>
  if (!R10) = true then ((app 48 ([] : List Ent) l).bind fun E16 =>
  some (E16, false))
  else (some (R7, true)))

theorem spec_MemPut_con (l : List Ent) (e : Ent) (V_l0 : Value) (r : List Ent × Bool) (hm : spec_MemPut l e = some r) :
    Con Try.prog 83 [V_l0, .agg #[strV e.Key, .int .i64 e.Seq, .bool e.Del, strV e.Val]] [] [(V_l0, lc l)] (fun X : Value => .tuple #[X, .bool r.2]) (fun X => [.own X (lc r.1)]) := by
  refine Con.intro (args := [V_l0, .agg #[strV e.Key, .int .i64 e.Seq, .bool e.Del, strV e.Val]]) (n := 21) (val := fun r (X : Value) => .tuple #[X, .bool r.2]) (post := fun r X => [.own X (lc r.1)]) (m := spec_MemPut l e) Try.func83 rfl rfl rfl hm ?_
  intro w S hrd
  have HB_V_l0 := hrd _ (.head _)
  clear hrd
  unfold spec_MemPut
  refine TW.seq ?_
  refine TW.region ?_
  refine TO.ef (Ef.box rfl (Cel.plain rfl rfl)) rfl rfl rfl (fun B1 => ?_)
  refine TO.y (Y.assign rfl) rfl rfl rfl ?_
  refine TO.y (Y.assign rfl) rfl rfl rfl ?_
  refine TO.nil ?_
  refine TE.next ?_
  refine TW.seq ?_
  refine TW.seq ?_
  refine TW.region ?_
  refine TO.y (Y.move rfl) rfl rfl rfl ?_
  refine TO.bind fun R2 H3 => ?_
  refine TO.ef (Ef.call (rest := [.box B1 31 [strV e.Key, .int .i64 e.Seq, .bool e.Del, strV e.Val]]) [0] (spec_MemOk_con l V_l0 R2 H3) kc12 rfl rfl ⟨(Base.can HB_V_l0), trivial⟩) rfl rfl rfl (fun _ => ?_)
  refine TO.y (Y.not rfl) rfl rfl rfl ?_
  refine TO.nil ?_
  refine TE.next ?_
  refine TW.cond rfl (fun H5 => ?_) (fun H5 => ?_)
  · refine TW.seq ?_
    refine TW.region ?_
    refine TO.ef (Ef.buildSlice (α := Ent) (Vs := []) ([] : List Ent) ke26 kz31 rfl rfl rfl rfl rfl) rfl rfl rfl (fun B6 => ?_)
    refine TO.y (Y.assign rfl) rfl rfl rfl ?_
    refine TO.y (Y.assign rfl) rfl rfl rfl ?_
    refine TO.nil ?_
    refine TE.next ?_
    refine TW.ret ?_
    refine TE.then_ret ?_
    exact TE.leaf fun _ _ hf_ hs_ => ret_any (rs := [.tmp 4, .tmp 5]) (vs := [.slice (some ⟨B6, 0, none⟩) 0 0, .bool false]) (.inl rfl) rfl ⟨rfl, ⟨rfl, trivial⟩⟩ hf_ hs_ ⟨(.slice (some ⟨B6, 0, none⟩) 0 0), rfl, hs_.pulls [0] rfl⟩
  · refine TW.skip ?_
    refine TE.next ?_
    refine TW.seq ?_
    refine TW.region ?_
    refine TO.y (Y.move rfl) rfl rfl rfl ?_
    refine TO.y (Y.load_box (v := .agg #[strV e.Key, .int .i64 e.Seq, .bool e.Del, strV e.Val]) 0 kk31 rfl rfl rfl) rfl rfl rfl ?_
    refine TO.bind fun R7 H8 => ?_
    refine TO.ef (Ef.call (rest := [.box B1 31 [strV e.Key, .int .i64 e.Seq, .bool e.Del, strV e.Val]]) [0] (spec_l9Put_con l e V_l0 R7 H8) kc98 rfl rfl ⟨(Base.can HB_V_l0), trivial⟩) rfl rfl rfl (fun Y9 => ?_)
    refine TO.y (Y.assign rfl) rfl rfl rfl ?_
    refine TO.nil ?_
    refine TE.next ?_
    refine TW.seq ?_
    refine TW.seq ?_
    refine TW.region ?_
    refine TO.y (Y.move rfl) rfl rfl rfl ?_
    refine TO.bind fun R10 H11 => ?_
    refine TO.ef (Ef.call (rest := [.own Y9 (lc R7), .box B1 31 [strV e.Key, .int .i64 e.Seq, .bool e.Del, strV e.Val]]) [0, 0] (spec_MemOk_con R7 Y9 R10 H11) kc12 rfl rfl ⟨(Can.own 0 rfl), trivial⟩) rfl rfl rfl (fun _ => ?_)
    refine TO.y (Y.not rfl) rfl rfl rfl ?_
    refine TO.nil ?_
    refine TE.next ?_
    refine TW.cond rfl (fun H13 => ?_) (fun H13 => ?_)
    · refine TW.seq ?_
      refine TW.region ?_
      refine TO.ef (Ef.buildSlice (α := Ent) (Vs := []) ([] : List Ent) ke26 kz31 rfl rfl rfl rfl rfl) rfl rfl rfl (fun B14 => ?_)
      refine TO.y (Y.move rfl) rfl rfl rfl ?_
      refine TO.bind fun E16 H17 => ?_
      refine TO.ef (Ef.append (α := Ent) (is' := [.own Y9 (lc R7), .box B1 31 [strV e.Key, .int .i64 e.Seq, .bool e.Del, strV e.Val]]) [0, 0, 0] H17 ke26 kz31 rfl rfl rfl rfl rfl (Base.can HB_V_l0)) rfl rfl rfl (fun V15 => ?_)
      refine TO.y (Y.assign rfl) rfl rfl rfl ?_
      refine TO.y (Y.assign rfl) rfl rfl rfl ?_
      refine TO.nil ?_
      refine TE.next ?_
      refine TW.ret ?_
      refine TE.then_ret ?_
      exact TE.leaf fun _ _ hf_ hs_ => ret_any (rs := [.tmp 4, .tmp 5]) (vs := [V15, .bool false]) (.inl rfl) rfl ⟨rfl, ⟨rfl, trivial⟩⟩ hf_ hs_ ⟨V15, rfl, hs_.pulls [0] rfl⟩
    · refine TW.skip ?_
      refine TE.next ?_
      refine TW.seq ?_
      refine TW.region ?_
      refine TO.y (Y.move rfl) rfl rfl rfl ?_
      refine TO.y (Y.assign rfl) rfl rfl rfl ?_
      refine TO.y (Y.assign rfl) rfl rfl rfl ?_
      refine TO.nil ?_
      refine TE.next ?_
      refine TW.ret ?_
      exact TE.leaf fun _ _ hf_ hs_ => ret_any (rs := [.tmp 4, .tmp 5]) (vs := [Y9, .bool true]) (.inl rfl) rfl ⟨rfl, ⟨rfl, trivial⟩⟩ hf_ hs_ ⟨Y9, rfl, hs_.pulls [0] rfl⟩

/-- loop.example/g00950/spec.l9Some -/
noncomputable def spec_l9Some (c : L1Cur) (most : Int) : Option (List Ent × L1Cur) :=
  (spec_l1Below c most).bind fun R2 =>
  bindC (loopO (fun (S5 : Int × Int × Int × List Ent) => if (decide (S5.2.2.1 > (0 : Int))) = true then ((spec_l7Key ({ b := c.b, i := S5.1, h := S5.2.1 : L1Cur })).bind fun R10 =>
  (spec_l1Below ({ b := c.b, i := R10.2.i, h := R10.2.h : L1Cur }) (20 : Int)).bind fun R13 =>
  (spec_l1Once ({ b := c.b, i := R13.2.i, h := R13.2.h : L1Cur }) (4 : Int)).bind fun R17 =>
  bindC (if R17.1 = true then (some (.go (R17.2.i, R17.2.h, true, [])))
  else ((spec_l1Text ({ b := c.b, i := R17.2.i, h := R17.2.h : L1Cur }) (4 : Int)).bind fun R23 =>
  some (.go (R23.2.i, R23.2.h, false, R23.1))))
  (fun (T20 : Int × Int × Bool × List UInt8) => (spec_MemPut S5.2.2.2 ({ Key := R10.1, Seq := R13.1, Del := T20.2.2.1, Val := T20.2.2.2 : Ent })).bind fun R26 =>
  bindC (if R26.2 = true then (some (.go R26.1))
  else (some (.go S5.2.2.2)))
  (fun (T29 : List Ent) => some (.go (T20.1, T20.2.1, IntKind.i64.wrap (S5.2.2.1 - (1 : Int)), T29)))))
  else (some (.done (.go (S5.1, S5.2.1, S5.2.2.2)))))
  (R2.2.i, R2.2.h, R2.1, ([] : List Ent)))
  (fun (T7 : Int × Int × List Ent) => some (T7.2.2, { b := c.b, i := T7.1, h := T7.2.1 : L1Cur }))

theorem spec_l9Some_con (c : L1Cur) (most : Int) (V_c0 : Value) (B_c : Nat) (r : List Ent × L1Cur) (hm : spec_l9Some c most = some r) :
    Con Try.prog 56 [.pointer (some ⟨B_c, 0, none⟩), .int .i64 most] [.box B_c 70 [V_c0, .int .i64 c.i, .int .i64 c.h]] [(V_c0, lc c.b)] (fun X : Value => X) (fun X => [.box B_c 70 [V_c0, .int .i64 r.2.i, .int .i64 r.2.h], .own X (lc r.1)]) := by
  refine Con.intro (args := [.pointer (some ⟨B_c, 0, none⟩), .int .i64 most]) (n := 38) (val := fun _ (X : Value) => X) (post := fun r X => [.box B_c 70 [V_c0, .int .i64 r.2.i, .int .i64 r.2.h], .own X (lc r.1)]) (m := spec_l9Some c most) Try.func56 rfl rfl rfl hm ?_
  intro w S hrd
  have HB_V_c0 := hrd _ (.head _)
  clear hrd
  unfold spec_l9Some
  refine TW.seq ?_
  refine TW.region ?_
  refine TO.y (Y.assign rfl) rfl rfl rfl ?_
  refine TO.nil ?_
  refine TE.next ?_
  refine TW.seq ?_
  refine TW.region ?_
  refine TO.ef (Ef.buildSlice (α := Ent) (Vs := []) ([] : List Ent) ke26 kz31 rfl rfl rfl rfl rfl) rfl rfl rfl (fun B1 => ?_)
  refine TO.y (Y.assign rfl) rfl rfl rfl ?_
  refine TO.nil ?_
  refine TE.next ?_
  refine TW.seq ?_
  refine TW.seq ?_
  refine TW.region ?_
  refine TO.y (Y.move rfl) rfl rfl rfl ?_
  refine TO.y (Y.move rfl) rfl rfl rfl ?_
  refine TO.bind fun R2 H3 => ?_
  refine TO.ef (Ef.call (rest := [.own (.slice (some ⟨B1, 0, none⟩) 0 0) (lc ([] : List Ent))]) [1, 0] (spec_l1Below_con c most V_c0 B_c R2 H3) kc30 rfl rfl ⟨(Base.can HB_V_c0), trivial⟩) rfl rfl rfl (fun _ => ?_)
  refine TO.y (Y.assign rfl) rfl rfl rfl ?_
  refine TO.nil ?_
  refine TE.next ?_
  refine TW.joinX (τ := Int × Int × List Ent) (X := Value) (fun _ X => [(5, X)]) (fun T X => [.box B_c 70 [V_c0, .int .i64 T.1, .int .i64 T.2.1], .own X (lc T.2.2)]) ?_ (fun T7 X8 => ?_)
  · refine TW.block ?_
    refine TW.loopX (σ := Int × Int × Int × List Ent) (X := Value) (fun T X => [(0, .pointer (some ⟨B_c, 0, none⟩)), (5, X), (6, .int .i64 T.2.2.1)]) (fun T X => [.box B_c 70 [V_c0, .int .i64 T.1, .int .i64 T.2.1], .own X (lc T.2.2.2)]) (.slice (some ⟨B1, 0, none⟩) 0 0) [0, 0] ⟨rfl, rfl, rfl, trivial⟩ rfl (fun S5 X6 => ?_)
    refine TW.seq ?_
    refine TW.seq ?_
    refine TW.region ?_
    refine TO.y (Y.move rfl) rfl rfl rfl ?_
    refine TO.y (Y.gtr rfl rfl) rfl rfl rfl ?_
    refine TO.nil ?_
    refine TE.next ?_
    refine TW.cond rfl (fun H9 => ?_) (fun H9 => ?_)
    · refine TW.skip ?_
      refine TE.next ?_
      refine TW.seq ?_
      refine TW.block ?_
      refine TW.seq ?_
      refine TW.region ?_
      refine TO.y (Y.move rfl) rfl rfl rfl ?_
      refine TO.bind fun R10 H11 => ?_
      refine TO.ef (Ef.call (rest := [.own X6 (lc S5.2.2.2)]) [0, 0] (spec_l7Key_con ({ b := c.b, i := S5.1, h := S5.2.1 : L1Cur }) V_c0 B_c R10 H11) kc81 rfl rfl ⟨(Base.can HB_V_c0), trivial⟩) rfl rfl rfl (fun _ => ?_)
      refine TO.y (Y.move rfl) rfl rfl rfl ?_
      refine TO.bind fun R13 H14 => ?_
      refine TO.ef (Ef.call (rest := [.own X6 (lc S5.2.2.2)]) [0, 0] (spec_l1Below_con ({ b := c.b, i := R10.2.i, h := R10.2.h : L1Cur }) (20 : Int) V_c0 B_c R13 H14) kc30 rfl rfl ⟨(Base.can HB_V_c0), trivial⟩) rfl rfl rfl (fun _ => ?_)
      refine TO.y (Y.build (cells := [strV R10.1, .int .i64 R13.1, .bool false, strV ([])]) [(0, [strV R10.1]), (1, [.int .i64 R13.1])] kp31 kz31 ⟨rfl, ⟨_, rfl, (Cel.plain rfl rfl)⟩, ⟨rfl, ⟨_, rfl, (Cel.plain rfl rfl)⟩, trivial⟩⟩ rfl) rfl rfl rfl ?_
      refine TO.ef (Ef.alloc kz31 rfl) rfl rfl rfl (fun B16 => ?_)
      refine TO.ef0 (Ef.store_box (us := [strV R10.1, .int .i64 R13.1, .bool false, strV ([])]) (vs' := [strV R10.1, .int .i64 R13.1, .bool false, strV ([])]) (is' := [.box B16 31 [strV R10.1, .int .i64 R13.1, .bool false, strV ([])], .box B_c 70 [V_c0, .int .i64 R13.2.i, .int .i64 R13.2.h], .own X6 (lc S5.2.2.2)]) 0 kk31 rfl rfl rfl (Cel.plain rfl rfl) rfl rfl rfl rfl) rfl rfl (fun _ => ?_)
      refine TO.nil ?_
      refine TE.next ?_
      refine TW.seq ?_
      refine TW.seq ?_
      refine TW.region ?_
      refine TO.y (Y.move rfl) rfl rfl rfl ?_
      refine TO.bind fun R17 H18 => ?_
      refine TO.ef (Ef.call (rest := [.box B16 31 [strV R10.1, .int .i64 R13.1, .bool false, strV ([])], .own X6 (lc S5.2.2.2)]) [1, 0, 0] (spec_l1Once_con ({ b := c.b, i := R13.2.i, h := R13.2.h : L1Cur }) (4 : Int) V_c0 B_c R17 H18) kc57 rfl rfl ⟨(Base.can HB_V_c0), trivial⟩) rfl rfl rfl (fun _ => ?_)
      refine TO.nil ?_
      refine TE.next ?_
      refine TW.joinX (τ := Int × Int × Bool × List UInt8) (X := Unit) (fun _ _ => [(0, .pointer (some ⟨B_c, 0, none⟩)), (5, X6), (6, .int .i64 S5.2.2.1), (7, .pointer (some ⟨B16, 0, none⟩))]) (fun T _ => [.box B_c 70 [V_c0, .int .i64 T.1, .int .i64 T.2.1], .box B16 31 [strV R10.1, .int .i64 R13.1, .bool T.2.2.1, strV T.2.2.2], .own X6 (lc S5.2.2.2)]) ?_ (fun T20 X21 => ?_)
      · refine TW.cond rfl (fun H22 => ?_) (fun H22 => ?_)
        · refine TW.region ?_
          refine TO.y (Y.field_box kf31_2 rfl rfl) rfl rfl rfl ?_
          refine TO.ef0 (Ef.store_box (us := [.bool true]) (vs' := [strV R10.1, .int .i64 R13.1, .bool true, strV ([])]) (is' := [.box B_c 70 [V_c0, .int .i64 R17.2.i, .int .i64 R17.2.h], .box B16 31 [strV R10.1, .int .i64 R13.1, .bool true, strV ([])], .own X6 (lc S5.2.2.2)]) 1 kk4 rfl rfl rfl (Cel.plain rfl rfl) rfl rfl rfl rfl) rfl rfl (fun _ => ?_)
          refine TO.nil ?_
          exact TE.jn_go () [0, 0, 0] ⟨rfl, rfl, rfl, rfl, trivial⟩ rfl
        · refine TW.region ?_
          refine TO.y (Y.move rfl) rfl rfl rfl ?_
          refine TO.bind fun R23 H24 => ?_
          refine TO.ef (Ef.call (rest := [.box B16 31 [strV R10.1, .int .i64 R13.1, .bool false, strV ([])], .own X6 (lc S5.2.2.2)]) [0, 0, 0] (spec_l1Text_con ({ b := c.b, i := R17.2.i, h := R17.2.h : L1Cur }) (4 : Int) V_c0 B_c R23 H24) kc82 rfl rfl ⟨(Base.can HB_V_c0), trivial⟩) rfl rfl rfl (fun _ => ?_)
          refine TO.y (Y.field_box kf31_3 rfl rfl) rfl rfl rfl ?_
          refine TO.ef0 (Ef.store_box (us := [strV R23.1]) (vs' := [strV R10.1, .int .i64 R13.1, .bool false, strV R23.1]) (is' := [.box B_c 70 [V_c0, .int .i64 R23.2.i, .int .i64 R23.2.h], .box B16 31 [strV R10.1, .int .i64 R13.1, .bool false, strV R23.1], .own X6 (lc S5.2.2.2)]) 1 kk9 rfl rfl rfl (Cel.plain rfl rfl) rfl rfl rfl rfl) rfl rfl (fun _ => ?_)
          refine TO.nil ?_
          exact TE.jn_go () [0, 0, 0] ⟨rfl, rfl, rfl, rfl, trivial⟩ rfl
      · refine TE.next ?_
        refine TW.seq ?_
        refine TW.region ?_
        refine TO.y (Y.move rfl) rfl rfl rfl ?_
        refine TO.y (Y.load_box (v := .agg #[strV R10.1, .int .i64 R13.1, .bool T20.2.2.1, strV T20.2.2.2]) 1 kk31 rfl rfl rfl) rfl rfl rfl ?_
        refine TO.bind fun R26 H27 => ?_
        refine TO.ef (Ef.call (rest := [.box B_c 70 [V_c0, .int .i64 T20.1, .int .i64 T20.2.1], .box B16 31 [strV R10.1, .int .i64 R13.1, .bool T20.2.2.1, strV T20.2.2.2], .own X6 (lc S5.2.2.2)]) [0, 0, 0] (spec_MemPut_con S5.2.2.2 ({ Key := R10.1, Seq := R13.1, Del := T20.2.2.1, Val := T20.2.2.2 : Ent }) X6 R26 H27) kc83 rfl rfl ⟨(Can.own 2 rfl), trivial⟩) rfl rfl rfl (fun Y28 => ?_)
        refine TO.y (Y.move rfl) rfl rfl rfl ?_
        refine TO.y (Y.extract rfl rfl) rfl rfl rfl ?_
        refine TO.y (Y.extract rfl rfl) rfl rfl rfl ?_
        refine TO.y (Y.assign rfl) rfl rfl rfl ?_
        refine TO.y (Y.assign rfl) rfl rfl rfl ?_
        refine TO.nil ?_
        refine TE.next ?_
        refine TW.seq ?_
        refine TW.region ?_
        refine TO.y (Y.move rfl) rfl rfl rfl ?_
        refine TO.nil ?_
        refine TE.next ?_
        refine TW.joinX (τ := List Ent) (X := Value) (fun _ X => [(0, .pointer (some ⟨B_c, 0, none⟩)), (5, X), (6, .int .i64 S5.2.2.1)]) (fun T X => [.box B_c 70 [V_c0, .int .i64 T20.1, .int .i64 T20.2.1], .own X (lc T)]) ?_ (fun T29 X30 => ?_)
        · refine TW.cond rfl (fun H31 => ?_) (fun H31 => ?_)
          · refine TW.region ?_
            refine TO.y (Y.move rfl) rfl rfl rfl ?_
            refine TO.y (Y.assign rfl) rfl rfl rfl ?_
            refine TO.nil ?_
            exact TE.jn_go Y28 [1, 0] ⟨rfl, rfl, rfl, trivial⟩ rfl
          · refine TW.skip ?_
            exact TE.jn_go X6 [1, 2] ⟨rfl, rfl, rfl, trivial⟩ rfl
        · refine TE.block_normal ?_
          refine TE.next ?_
          refine TW.region ?_
          refine TO.y (Y.move rfl) rfl rfl rfl ?_
          refine TO.y (Y.sub rfl rfl) rfl rfl rfl ?_
          refine TO.y (Y.assign rfl) rfl rfl rfl ?_
          refine TO.nil ?_
          exact TE.lp_go X30 [0, 0] ⟨rfl, rfl, rfl, trivial⟩ rfl
    · refine TW.exit ?_
      refine TE.then_exit ?_
      refine TE.lp_exit ?_
      refine TE.block_exit ?_
      exact TE.jn_go X6 [0, 0] ⟨rfl, trivial⟩ rfl
  · refine TE.next ?_
    refine TW.seq ?_
    refine TW.region ?_
    refine TO.y (Y.move rfl) rfl rfl rfl ?_
    refine TO.y (Y.assign rfl) rfl rfl rfl ?_
    refine TO.nil ?_
    refine TE.next ?_
    refine TW.ret ?_
    exact TE.leaf fun _ _ hf_ hs_ => ret_any (rs := [.tmp 4]) (vs := [X8]) (.inl rfl) rfl ⟨rfl, trivial⟩ hf_ hs_ ⟨X8, rfl, hs_.pulls [0, 0] rfl⟩

/-- loop.example/g00950/spec.l1PickInt -/
noncomputable def spec_l1PickInt (c : L1Cur) (list : List Int) : Option (Int × L1Cur) :=
  (spec_l1Below c ((list.length : Nat) : Int)).bind fun R1 =>
  (idx list R1.1).bind fun E4 =>
  some (E4, { b := c.b, i := R1.2.i, h := R1.2.h : L1Cur })

theorem spec_l1PickInt_con (c : L1Cur) (list : List Int) (V_c0 : Value) (B_c : Nat) (V_list0 : Value) (r : Int × L1Cur) (hm : spec_l1PickInt c list = some r) :
    Con Try.prog 59 [.pointer (some ⟨B_c, 0, none⟩), V_list0] [.box B_c 70 [V_c0, .int .i64 c.i, .int .i64 c.h]] [(V_c0, lc c.b), (V_list0, lc list)] (fun _ : Unit => .int .i64 r.1) (fun _ => [.box B_c 70 [V_c0, .int .i64 r.2.i, .int .i64 r.2.h]]) := by
  refine Con.intro (args := [.pointer (some ⟨B_c, 0, none⟩), V_list0]) (n := 12) (val := fun r (_ : Unit) => .int .i64 r.1) (post := fun r _ => [.box B_c 70 [V_c0, .int .i64 r.2.i, .int .i64 r.2.h]]) (m := spec_l1PickInt c list) Try.func59 rfl rfl rfl hm ?_
  intro w S hrd
  have HB_V_c0 := hrd _ (.head _)
  have HB_V_list0 := hrd _ (.tail _ (.head _))
  clear hrd
  unfold spec_l1PickInt
  refine TW.seq ?_
  refine TW.region ?_
  refine TO.y (Y.assign rfl) rfl rfl rfl ?_
  refine TO.nil ?_
  refine TE.next ?_
  refine TW.seq ?_
  refine TW.region ?_
  refine TO.y (Y.move rfl) rfl rfl rfl ?_
  refine TO.y (Y.move rfl) rfl rfl rfl ?_
  refine TO.y (Y.move rfl) rfl rfl rfl ?_
  refine TO.y (Y.len (l := list) ke40 (Base.can HB_V_list0) rfl) rfl rfl rfl ?_
  refine TO.bind fun R1 H2 => ?_
  refine TO.ef (Ef.call (rest := []) [0] (spec_l1Below_con c ((list.length : Nat) : Int) V_c0 B_c R1 H2) kc30 rfl rfl ⟨(Base.can HB_V_c0), trivial⟩) rfl rfl rfl (fun _ => ?_)
  refine TO.bind fun E4 H5 => ?_
  refine TO.y (Y.index ke40 (Base.can HB_V_list0) H5 rfl rfl) rfl rfl rfl ?_
  refine TO.y (Y.load_el (us := [.int .i64 E4]) (u := .int .i64 E4) kk3 rfl (Base.can HB_V_list0) (idx_get H5).2.2 rfl rfl rfl rfl rfl) rfl rfl rfl ?_
  refine TO.y (Y.assign rfl) rfl rfl rfl ?_
  refine TO.nil ?_
  refine TE.next ?_
  refine TW.ret ?_
  exact TE.leaf fun _ _ hf_ hs_ => ret_any (rs := [.tmp 4]) (vs := [.int .i64 E4]) (.inl rfl) rfl ⟨rfl, trivial⟩ hf_ hs_ ⟨(), rfl, hs_.pulls [0] rfl⟩

/-- loop.example/g00950/spec.l9Any -/
noncomputable def spec_l9Any (c : L1Cur) (most : Int) : Option (List Ent × L1Cur) :=
  (spec_l9Some c most).bind fun R1 =>
  (if (decide (((R1.1.length : Nat) : Int) > (0 : Int))) = true then ((spec_l1Once ({ b := c.b, i := R1.2.i, h := R1.2.h : L1Cur }) (10 : Int)).bind fun R7 =>
  some (R7.2.i, R7.2.h, R7.1))
  else (some (R1.2.i, R1.2.h, false))).bind (fun (T4 : Int × Int × Bool) =>
  bindC (if T4.2.2 = true then ((spec_l1Below ({ b := c.b, i := T4.1, h := T4.2.1 : L1Cur }) ((R1.1.length : Nat) : Int)).bind fun R13 =>
  (spec_l1Below ({ b := c.b, i := R13.2.i, h := R13.2.h : L1Cur }) (4 : Int)).bind fun R16 =>
  bindC (if (decide (R16.1 = (0 : Int))) = true then ((spec_l1Pick ({ b := c.b, i := R16.2.i, h := R16.2.h : L1Cur }) ([[], [98], [97, 97, 97, 97, 97, 97, 97, 97, 97, 97, 97]])).bind fun R23 =>
  (idx R1.1 R13.1).bind fun E26 =>
  some (.go (R23.2.i, R23.2.h, (R1.1.set R13.1.toNat ({ Key := R23.1, Seq := E26.Seq, Del := E26.Del, Val := E26.Val : Ent })))))
  else (bindC (if (decide (R16.1 = (1 : Int))) = true then ((spec_l1PickInt ({ b := c.b, i := R16.2.i, h := R16.2.h : L1Cur }) ([(-1 : Int), (5 : Int), (1000000 : Int), (1000001 : Int)])).bind fun R32 =>
  (idx R1.1 R13.1).bind fun E35 =>
  some (.go (R32.2.i, R32.2.h, (R1.1.set R13.1.toNat ({ Key := E35.Key, Seq := R32.1, Del := E35.Del, Val := E35.Val : Ent })))))
  else (bindC (if (decide (R16.1 = (2 : Int))) = true then ((idx R1.1 R13.1).bind fun E40 =>
  some (.go (R16.2.i, R16.2.h, (R1.1.set R13.1.toNat ({ Key := E40.Key, Seq := E40.Seq, Del := !E40.Del, Val := E40.Val : Ent })))))
  else (bindC (loopO (fun (S42 : Int × Int × Int × List Ent) => (spec_l1Below ({ b := c.b, i := S42.1, h := S42.2.1 : L1Cur }) (3 : Int)).bind fun R46 =>
  if (decide (((S42.2.2.2.length : Nat) : Int) < IntKind.i64.wrap ((59 : Int) + R46.1))) = true then ((app 48 S42.2.2.2 ([{ Key := [122, 122, 122], Seq := IntKind.i64.wrap ((500 : Int) - S42.2.2.1), Del := false, Val := [] : Ent }])).bind fun E52 =>
  some (.go (R46.2.i, R46.2.h, IntKind.i64.wrap (S42.2.2.1 + (1 : Int)), E52)))
  else (some (.done (.go (R46.2.i, R46.2.h, S42.2.2.2)))))
  (R16.2.i, R16.2.h, (0 : Int), R1.1))
  (fun (T44 : Int × Int × List Ent) => some (.go (T44.1, T44.2.1, T44.2.2)))))
  (fun (T37 : Int × Int × List Ent) => some (.go (T37.1, T37.2.1, T37.2.2)))))
  (fun (T28 : Int × Int × List Ent) => some (.go (T28.1, T28.2.1, T28.2.2)))))
  (fun (T19 : Int × Int × List Ent) => some (.go (T19.1, T19.2.1, T19.2.2))))
  else (some (.go (T4.1, T4.2.1, R1.1))))
  (fun (T10 : Int × Int × List Ent) => some (T10.2.2, { b := c.b, i := T10.1, h := T10.2.1 : L1Cur })))

theorem spec_l9Any_con (c : L1Cur) (most : Int) (V_c0 : Value) (B_c : Nat) (r : List Ent × L1Cur) (hm : spec_l9Any c most = some r) :
    Con Try.prog 31 [.pointer (some ⟨B_c, 0, none⟩), .int .i64 most] [.box B_c 70 [V_c0, .int .i64 c.i, .int .i64 c.h]] [(V_c0, lc c.b)] (fun X : Value => X) (fun X => [.box B_c 70 [V_c0, .int .i64 r.2.i, .int .i64 r.2.h], .own X (lc r.1)]) := by
  refine Con.intro (args := [.pointer (some ⟨B_c, 0, none⟩), .int .i64 most]) (n := 69) (val := fun _ (X : Value) => X) (post := fun r X => [.box B_c 70 [V_c0, .int .i64 r.2.i, .int .i64 r.2.h], .own X (lc r.1)]) (m := spec_l9Any c most) Try.func31 rfl rfl rfl hm ?_
  intro w S hrd
  have HB_V_c0 := hrd _ (.head _)
  clear hrd
  unfold spec_l9Any
  refine TW.seq ?_
  refine TW.region ?_
  refine TO.y (Y.assign rfl) rfl rfl rfl ?_
  refine TO.nil ?_
  refine TE.next ?_
  refine TW.seq ?_
  refine TW.region ?_
  refine TO.y (Y.move rfl) rfl rfl rfl ?_
  refine TO.y (Y.move rfl) rfl rfl rfl ?_
  refine TO.bind fun R1 H2 => ?_
  refine TO.ef (Ef.call (rest := []) [0] (spec_l9Some_con c most V_c0 B_c R1 H2) kc56 rfl rfl ⟨(Base.can HB_V_c0), trivial⟩) rfl rfl rfl (fun Y3 => ?_)
  refine TO.y (Y.assign rfl) rfl rfl rfl ?_
  refine TO.nil ?_
  refine TE.next ?_
  refine TW.seq ?_
  refine TW.seq ?_
  refine TW.joinBX (τ := Int × Int × Bool) (X := Unit) (fun T _ => [(0, .pointer (some ⟨B_c, 0, none⟩)), (5, Y3), (17, .bool T.2.2)]) (fun T _ => [.box B_c 70 [V_c0, .int .i64 T.1, .int .i64 T.2.1], .own Y3 (lc R1.1)]) ?_ (fun T4 X5 => ?_)
  · refine TW.region ?_
    refine TO.y (Y.move rfl) rfl rfl rfl ?_
    refine TO.y (Y.len (l := R1.1) ke26 (Can.own 1 rfl) rfl) rfl rfl rfl ?_
    refine TO.y (Y.gtr rfl rfl) rfl rfl rfl ?_
    refine TO.y (Y.move rfl) rfl rfl rfl ?_
    refine TO.ite (b := decide (((R1.1.length : Nat) : Int) > (0 : Int))) (fun H6 => ?_) (fun H6 => ?_)
    · refine TO.y (Y.move rfl) (Gd.at 3 true 14 (decide (((R1.1.length : Nat) : Int) > (0 : Int))) rfl rfl rfl (beq_tt H6)) rfl rfl ?_
      refine TO.bind fun R7 H8 => ?_
      refine TO.ef (Ef.call (rest := [.own Y3 (lc R1.1)]) [0, 0] (spec_l1Once_con ({ b := c.b, i := R1.2.i, h := R1.2.h : L1Cur }) (10 : Int) V_c0 B_c R7 H8) kc57 rfl rfl ⟨(Base.can HB_V_c0), trivial⟩) (Gd.at 3 true 14 (decide (((R1.1.length : Nat) : Int) > (0 : Int))) rfl rfl rfl (beq_tt H6)) rfl rfl (fun _ => ?_)
      refine TO.y (Y.pick_t H6 rfl rfl) rfl rfl rfl ?_
      refine TO.nil ?_
      exact TE.jb_go () [0, 0] ⟨rfl, rfl, rfl, trivial⟩ rfl
    · refine TO.off (Gd.at 3 true 14 (decide (((R1.1.length : Nat) : Int) > (0 : Int))) rfl rfl rfl (beq_ft H6)) rfl rfl ?_
      refine TO.off (Gd.at 3 true 14 (decide (((R1.1.length : Nat) : Int) > (0 : Int))) rfl rfl rfl (beq_ft H6)) rfl rfl ?_
      refine TO.y (Y.pick_f H6 rfl rfl) rfl rfl rfl ?_
      refine TO.nil ?_
      exact TE.jb_go () [0, 0] ⟨rfl, rfl, rfl, trivial⟩ rfl
  · refine TE.next ?_
    refine TW.joinX (τ := Int × Int × List Ent) (X := Value) (fun _ X => [(5, X)]) (fun T X => [.box B_c 70 [V_c0, .int .i64 T.1, .int .i64 T.2.1], .own X (lc T.2.2)]) ?_ (fun T10 X11 => ?_)
    · refine TW.cond rfl (fun H12 => ?_) (fun H12 => ?_)
      · refine TW.seq ?_
        refine TW.region ?_
        refine TO.y (Y.move rfl) rfl rfl rfl ?_
        refine TO.y (Y.move rfl) rfl rfl rfl ?_
        refine TO.y (Y.len (l := R1.1) ke26 (Can.own 1 rfl) rfl) rfl rfl rfl ?_
        refine TO.bind fun R13 H14 => ?_
        refine TO.ef (Ef.call (rest := [.own Y3 (lc R1.1)]) [0, 0] (spec_l1Below_con ({ b := c.b, i := T4.1, h := T4.2.1 : L1Cur }) ((R1.1.length : Nat) : Int) V_c0 B_c R13 H14) kc30 rfl rfl ⟨(Base.can HB_V_c0), trivial⟩) rfl rfl rfl (fun _ => ?_)
        refine TO.y (Y.assign rfl) rfl rfl rfl ?_
        refine TO.nil ?_
        refine TE.next ?_
        refine TW.seq ?_
        refine TW.region ?_
        refine TO.y (Y.move rfl) rfl rfl rfl ?_
        refine TO.bind fun R16 H17 => ?_
        refine TO.ef (Ef.call (rest := [.own Y3 (lc R1.1)]) [0, 0] (spec_l1Below_con ({ b := c.b, i := R13.2.i, h := R13.2.h : L1Cur }) (4 : Int) V_c0 B_c R16 H17) kc30 rfl rfl ⟨(Base.can HB_V_c0), trivial⟩) rfl rfl rfl (fun _ => ?_)
        refine TO.nil ?_
        refine TE.next ?_
        refine TW.block ?_
        refine TW.seq ?_
        refine TW.region ?_
        refine TO.y (Y.eql rfl rfl) rfl rfl rfl ?_
        refine TO.y (Y.assign rfl) rfl rfl rfl ?_
        refine TO.nil ?_
        refine TE.next ?_
        refine TW.joinX (τ := Int × Int × List Ent) (X := Value) (fun _ X => [(5, X)]) (fun T X => [.box B_c 70 [V_c0, .int .i64 T.1, .int .i64 T.2.1], .own X (lc T.2.2)]) ?_ (fun T19 X20 => ?_)
        · refine TW.cond rfl (fun H21 => ?_) (fun H21 => ?_)
          · refine TW.region ?_
            refine TO.y (Y.move rfl) rfl rfl rfl ?_
            refine TO.y (Y.move rfl) rfl rfl rfl ?_
            refine TO.y (Y.move rfl) rfl rfl rfl ?_
            refine TO.ef (Ef.buildSlice (α := List UInt8) (Vs := [strV ([]), strV ([98]), strV ([97, 97, 97, 97, 97, 97, 97, 97, 97, 97, 97])]) [[], [98], [97, 97, 97, 97, 97, 97, 97, 97, 97, 97, 97]] ke74 kz9 rfl rfl rfl rfl rfl) rfl rfl rfl (fun B22 => ?_)
            refine TO.bind fun R23 H24 => ?_
            refine TO.ef (Ef.call (rest := [.own (.slice (some ⟨B22, 0, none⟩) 3 3) (lc ([[], [98], [97, 97, 97, 97, 97, 97, 97, 97, 97, 97, 97]])), .own Y3 (lc R1.1)]) [1, 0, 0] (spec_l1Pick_con ({ b := c.b, i := R16.2.i, h := R16.2.h : L1Cur }) ([[], [98], [97, 97, 97, 97, 97, 97, 97, 97, 97, 97, 97]]) V_c0 B_c (.slice (some ⟨B22, 0, none⟩) 3 3) R23 H24) kc58 rfl rfl ⟨(Base.can HB_V_c0), (Can.own 0 rfl), trivial⟩) rfl rfl rfl (fun _ => ?_)
            refine TO.bind fun E26 H27 => ?_
            refine TO.y (Y.index ke26 (Can.own 2 rfl) H27 rfl rfl) rfl rfl rfl ?_
            refine TO.y (Y.field_el kf31_0 (Can.own 2 rfl) (idx_get H27).2.2 rfl rfl) rfl rfl rfl ?_
            refine TO.ef0 (Ef.store_el (us := [strV R23.1]) (is' := [.box B_c 70 [V_c0, .int .i64 R23.2.i, .int .i64 R23.2.h], .own (.slice (some ⟨B22, 0, none⟩) 3 3) (lc ([[], [98], [97, 97, 97, 97, 97, 97, 97, 97, 97, 97, 97]])), .own Y3 (lc (R1.1.set R13.1.toNat ({ Key := R23.1, Seq := E26.Seq, Del := E26.Del, Val := E26.Val : Ent })))]) ({ Key := R23.1, Seq := E26.Seq, Del := E26.Del, Val := E26.Val : Ent }) 2 kk9 rfl rfl (idx_get H27).2.2 rfl rfl (Cel.plain rfl rfl) rfl rfl rfl rfl) rfl rfl (fun _ => ?_)
            refine TO.nil ?_
            exact TE.jn_go Y3 [0, 1] ⟨rfl, trivial⟩ rfl
          · refine TW.seq ?_
            refine TW.region ?_
            refine TO.y (Y.eql rfl rfl) rfl rfl rfl ?_
            refine TO.y (Y.assign rfl) rfl rfl rfl ?_
            refine TO.nil ?_
            refine TE.next ?_
            refine TW.joinX (τ := Int × Int × List Ent) (X := Value) (fun _ X => [(5, X)]) (fun T X => [.box B_c 70 [V_c0, .int .i64 T.1, .int .i64 T.2.1], .own X (lc T.2.2)]) ?_ (fun T28 X29 => ?_)
            · refine TW.cond rfl (fun H30 => ?_) (fun H30 => ?_)
              · refine TW.region ?_
                refine TO.y (Y.move rfl) rfl rfl rfl ?_
                refine TO.y (Y.move rfl) rfl rfl rfl ?_
                refine TO.y (Y.move rfl) rfl rfl rfl ?_
                refine TO.ef (Ef.buildSlice (α := Int) (Vs := [.int .i64 (-1 : Int), .int .i64 (5 : Int), .int .i64 (1000000 : Int), .int .i64 (1000001 : Int)]) [(-1 : Int), (5 : Int), (1000000 : Int), (1000001 : Int)] ke40 kz3 rfl rfl rfl rfl rfl) rfl rfl rfl (fun B31 => ?_)
                refine TO.bind fun R32 H33 => ?_
                refine TO.ef (Ef.call (rest := [.own (.slice (some ⟨B31, 0, none⟩) 4 4) (lc ([(-1 : Int), (5 : Int), (1000000 : Int), (1000001 : Int)])), .own Y3 (lc R1.1)]) [1, 0, 0] (spec_l1PickInt_con ({ b := c.b, i := R16.2.i, h := R16.2.h : L1Cur }) ([(-1 : Int), (5 : Int), (1000000 : Int), (1000001 : Int)]) V_c0 B_c (.slice (some ⟨B31, 0, none⟩) 4 4) R32 H33) kc59 rfl rfl ⟨(Base.can HB_V_c0), (Can.own 0 rfl), trivial⟩) rfl rfl rfl (fun _ => ?_)
                refine TO.bind fun E35 H36 => ?_
                refine TO.y (Y.index ke26 (Can.own 2 rfl) H36 rfl rfl) rfl rfl rfl ?_
                refine TO.y (Y.field_el kf31_1 (Can.own 2 rfl) (idx_get H36).2.2 rfl rfl) rfl rfl rfl ?_
                refine TO.ef0 (Ef.store_el (us := [.int .i64 R32.1]) (is' := [.box B_c 70 [V_c0, .int .i64 R32.2.i, .int .i64 R32.2.h], .own (.slice (some ⟨B31, 0, none⟩) 4 4) (lc ([(-1 : Int), (5 : Int), (1000000 : Int), (1000001 : Int)])), .own Y3 (lc (R1.1.set R13.1.toNat ({ Key := E35.Key, Seq := R32.1, Del := E35.Del, Val := E35.Val : Ent })))]) ({ Key := E35.Key, Seq := R32.1, Del := E35.Del, Val := E35.Val : Ent }) 2 kk3 rfl rfl (idx_get H36).2.2 rfl rfl (Cel.plain rfl rfl) rfl rfl rfl rfl) rfl rfl (fun _ => ?_)
                refine TO.nil ?_
                exact TE.jn_go Y3 [0, 1] ⟨rfl, trivial⟩ rfl
              · refine TW.seq ?_
                refine TW.region ?_
                refine TO.y (Y.eql rfl rfl) rfl rfl rfl ?_
                refine TO.y (Y.assign rfl) rfl rfl rfl ?_
                refine TO.nil ?_
                refine TE.next ?_
                refine TW.joinX (τ := Int × Int × List Ent) (X := Value) (fun _ X => [(5, X)]) (fun T X => [.box B_c 70 [V_c0, .int .i64 T.1, .int .i64 T.2.1], .own X (lc T.2.2)]) ?_ (fun T37 X38 => ?_)
                · refine TW.cond rfl (fun H39 => ?_) (fun H39 => ?_)
                  · refine TW.region ?_
                    refine TO.y (Y.move rfl) rfl rfl rfl ?_
                    refine TO.y (Y.move rfl) rfl rfl rfl ?_
                    refine TO.y (Y.move rfl) rfl rfl rfl ?_
                    refine TO.y (Y.move rfl) rfl rfl rfl ?_
                    refine TO.bind fun E40 H41 => ?_
                    refine TO.y (Y.index ke26 (Can.own 1 rfl) H41 rfl rfl) rfl rfl rfl ?_
                    refine TO.y (Y.field_el kf31_2 (Can.own 1 rfl) (idx_get H41).2.2 rfl rfl) rfl rfl rfl ?_
                    refine TO.y (Y.load_el (us := [.bool E40.Del]) (u := .bool E40.Del) kk4 rfl (Can.own 1 rfl) (idx_get H41).2.2 rfl rfl rfl rfl rfl) rfl rfl rfl ?_
                    refine TO.y (Y.not rfl) rfl rfl rfl ?_
                    refine TO.y (Y.index ke26 (Can.own 1 rfl) H41 rfl rfl) rfl rfl rfl ?_
                    refine TO.y (Y.field_el kf31_2 (Can.own 1 rfl) (idx_get H41).2.2 rfl rfl) rfl rfl rfl ?_
                    refine TO.ef0 (Ef.store_el (us := [.bool (!E40.Del)]) (is' := [.box B_c 70 [V_c0, .int .i64 R16.2.i, .int .i64 R16.2.h], .own Y3 (lc (R1.1.set R13.1.toNat ({ Key := E40.Key, Seq := E40.Seq, Del := !E40.Del, Val := E40.Val : Ent })))]) ({ Key := E40.Key, Seq := E40.Seq, Del := !E40.Del, Val := E40.Val : Ent }) 1 kk4 rfl rfl (idx_get H41).2.2 rfl rfl (Cel.plain rfl rfl) rfl rfl rfl rfl) rfl rfl (fun _ => ?_)
                    refine TO.nil ?_
                    exact TE.jn_go Y3 [0, 0] ⟨rfl, trivial⟩ rfl
                  · refine TW.seq ?_
                    refine TW.region ?_
                    refine TO.y (Y.assign rfl) rfl rfl rfl ?_
                    refine TO.nil ?_
                    refine TE.next ?_
                    refine TW.joinX (τ := Int × Int × List Ent) (X := Value) (fun _ X => [(5, X)]) (fun T X => [.box B_c 70 [V_c0, .int .i64 T.1, .int .i64 T.2.1], .own X (lc T.2.2)]) ?_ (fun T44 X45 => ?_)
                    · refine TW.block ?_
                      refine TW.loopX (σ := Int × Int × Int × List Ent) (X := Value) (fun T X => [(0, .pointer (some ⟨B_c, 0, none⟩)), (5, X), (7, .int .i64 T.2.2.1)]) (fun T X => [.box B_c 70 [V_c0, .int .i64 T.1, .int .i64 T.2.1], .own X (lc T.2.2.2)]) Y3 [0, 0] ⟨rfl, rfl, rfl, trivial⟩ rfl (fun S42 X43 => ?_)
                      refine TW.seq ?_
                      refine TW.seq ?_
                      refine TW.region ?_
                      refine TO.y (Y.move rfl) rfl rfl rfl ?_
                      refine TO.y (Y.len (l := S42.2.2.2) ke26 (Can.own 1 rfl) rfl) rfl rfl rfl ?_
                      refine TO.y (Y.move rfl) rfl rfl rfl ?_
                      refine TO.bind fun R46 H47 => ?_
                      refine TO.ef (Ef.call (rest := [.own X43 (lc S42.2.2.2)]) [0, 0] (spec_l1Below_con ({ b := c.b, i := S42.1, h := S42.2.1 : L1Cur }) (3 : Int) V_c0 B_c R46 H47) kc30 rfl rfl ⟨(Base.can HB_V_c0), trivial⟩) rfl rfl rfl (fun _ => ?_)
                      refine TO.y (Y.add rfl rfl) rfl rfl rfl ?_
                      refine TO.y (Y.lss rfl rfl) rfl rfl rfl ?_
                      refine TO.nil ?_
                      refine TE.next ?_
                      refine TW.cond rfl (fun H49 => ?_) (fun H49 => ?_)
                      · refine TW.skip ?_
                        refine TE.next ?_
                        refine TW.seq ?_
                        refine TW.block ?_
                        refine TW.region ?_
                        refine TO.y (Y.move rfl) rfl rfl rfl ?_
                        refine TO.y (Y.move rfl) rfl rfl rfl ?_
                        refine TO.y (Y.sub rfl rfl) rfl rfl rfl ?_
                        refine TO.y (Y.build (cells := [strV ([122, 122, 122]), .int .i64 (IntKind.i64.wrap ((500 : Int) - S42.2.2.1)), .bool false, strV ([])]) [(0, [strV ([122, 122, 122])]), (1, [.int .i64 (IntKind.i64.wrap ((500 : Int) - S42.2.2.1))])] kp31 kz31 ⟨rfl, ⟨_, rfl, (Cel.plain rfl rfl)⟩, ⟨rfl, ⟨_, rfl, (Cel.plain rfl rfl)⟩, trivial⟩⟩ rfl) rfl rfl rfl ?_
                        refine TO.ef (Ef.buildSlice (α := Ent) (Vs := [.agg #[strV ([122, 122, 122]), .int .i64 (IntKind.i64.wrap ((500 : Int) - S42.2.2.1)), .bool false, strV ([])]]) [{ Key := [122, 122, 122], Seq := IntKind.i64.wrap ((500 : Int) - S42.2.2.1), Del := false, Val := [] : Ent }] ke26 kz31 rfl rfl rfl rfl rfl) rfl rfl rfl (fun B50 => ?_)
                        refine TO.bind fun E52 H53 => ?_
                        refine TO.ef (Ef.append (α := Ent) (is' := [.own (.slice (some ⟨B50, 0, none⟩) 1 1) (lc ([{ Key := [122, 122, 122], Seq := IntKind.i64.wrap ((500 : Int) - S42.2.2.1), Del := false, Val := [] : Ent }])), .box B_c 70 [V_c0, .int .i64 R46.2.i, .int .i64 R46.2.h]]) [2, 0, 0] H53 ke26 kz31 rfl rfl rfl rfl rfl (Can.own 0 rfl)) rfl rfl rfl (fun V51 => ?_)
                        refine TO.y (Y.assign rfl) rfl rfl rfl ?_
                        refine TO.nil ?_
                        refine TE.block_normal ?_
                        refine TE.next ?_
                        refine TW.region ?_
                        refine TO.y (Y.move rfl) rfl rfl rfl ?_
                        refine TO.y (Y.add rfl rfl) rfl rfl rfl ?_
                        refine TO.y (Y.assign rfl) rfl rfl rfl ?_
                        refine TO.nil ?_
                        exact TE.lp_go V51 [2, 0] ⟨rfl, rfl, rfl, trivial⟩ rfl
                      · refine TW.exit ?_
                        refine TE.then_exit ?_
                        refine TE.lp_exit ?_
                        refine TE.block_exit ?_
                        exact TE.jn_go X43 [0, 0] ⟨rfl, trivial⟩ rfl
                    · exact TE.jn_go X45 [0, 0] ⟨rfl, trivial⟩ rfl
                · exact TE.jn_go X38 [0, 0] ⟨rfl, trivial⟩ rfl
            · exact TE.jn_go X29 [0, 0] ⟨rfl, trivial⟩ rfl
        · refine TE.block_normal ?_
          exact TE.jn_go X20 [0, 0] ⟨rfl, trivial⟩ rfl
      · refine TW.skip ?_
        exact TE.jn_go Y3 [0, 0] ⟨rfl, trivial⟩ rfl
    · refine TE.next ?_
      refine TW.seq ?_
      refine TW.region ?_
      refine TO.y (Y.move rfl) rfl rfl rfl ?_
      refine TO.y (Y.assign rfl) rfl rfl rfl ?_
      refine TO.nil ?_
      refine TE.next ?_
      refine TW.ret ?_
      exact TE.leaf fun _ _ hf_ hs_ => ret_any (rs := [.tmp 4]) (vs := [X11]) (.inl rfl) rfl ⟨rfl, trivial⟩ hf_ hs_ ⟨X11, rfl, hs_.pulls [0, 0] rfl⟩

/-- loop.example/g00950/spec.DrawMergeEnts -/
noncomputable def spec_DrawMergeEnts (code : List UInt8) : Option (List (List Ent)) :=
  (spec_l1New code).bind fun R1 =>
  (spec_l1Below ({ b := code, i := R1.i, h := R1.h : L1Cur }) (5 : Int)).bind fun R5 =>
  bindC (loopO (fun (S8 : Int × Int × Int × List (List Ent)) => if (decide (S8.2.2.1 > (0 : Int))) = true then ((spec_l9Any ({ b := code, i := S8.1, h := S8.2.1 : L1Cur }) (9 : Int)).bind fun R13 =>
  (app 24 S8.2.2.2 ([R13.1])).bind fun E18 =>
  some (.go (R13.2.i, R13.2.h, IntKind.i64.wrap (S8.2.2.1 - (1 : Int)), E18)))
  else (some (.done (.go S8.2.2.2))))
  (R5.2.i, R5.2.h, R5.1, ([] : List (List Ent))))
  (fun (T10 : List (List Ent)) => some T10)

theorem spec_DrawMergeEnts_con (code : List UInt8) (V_code0 : Value) (r : List (List Ent)) (hm : spec_DrawMergeEnts code = some r) :
    Con Try.prog 8 [V_code0] [] [(V_code0, lc code)] (fun X : Value => X) (fun X => [.own X (lc r)]) := by
  refine Con.intro (args := [V_code0]) (n := 21) (val := fun _ (X : Value) => X) (post := fun r X => [.own X (lc r)]) (m := spec_DrawMergeEnts code) Try.func8 rfl rfl rfl hm ?_
  intro w S hrd
  have HB_V_code0 := hrd _ (.head _)
  clear hrd
  unfold spec_DrawMergeEnts
  refine TW.seq ?_
  refine TW.region ?_
  refine TO.y (Y.assign rfl) rfl rfl rfl ?_
  refine TO.nil ?_
  refine TE.next ?_
  refine TW.seq ?_
  refine TW.region ?_
  refine TO.y (Y.move rfl) rfl rfl rfl ?_
  refine TO.bind fun R1 H2 => ?_
  refine TO.ef (Ef.call (rest := []) [] (spec_l1New_con code V_code0 R1 H2) kc29 rfl rfl ⟨(Base.can HB_V_code0), trivial⟩) rfl rfl rfl (fun Y3 => ?_)
  refine TO.y (Y.assign rfl) rfl rfl rfl ?_
  refine TO.nil ?_
  refine TE.next ?_
  refine TW.seq ?_
  refine TW.region ?_
  refine TO.ef (Ef.buildSliceR (Vs := []) [] [] ke24 kz26 rfl rfl rfl rfl rfl trivial rfl) rfl rfl rfl (fun B4 => ?_)
  refine TO.ghost (is' := fun _ => [.own (.slice (some ⟨B4, 0, none⟩) 0 0) (lc ([] : List (List Ent))), .box Y3 70 [V_code0, .int .i64 R1.i, .int .i64 R1.h]]) (Gh.closeAll (js := []) (r := [.box Y3 70 [V_code0, .int .i64 R1.i, .int .i64 R1.h]]) [0, 0] rfl Cls.nil) (fun _ => ?_)
  refine TO.y (Y.assign rfl) rfl rfl rfl ?_
  refine TO.nil ?_
  refine TE.next ?_
  refine TW.seq ?_
  refine TW.seq ?_
  refine TW.region ?_
  refine TO.y (Y.move rfl) rfl rfl rfl ?_
  refine TO.bind fun R5 H6 => ?_
  refine TO.ef (Ef.call (rest := [.own (.slice (some ⟨B4, 0, none⟩) 0 0) (lc ([] : List (List Ent)))]) [1, 0] (spec_l1Below_con ({ b := code, i := R1.i, h := R1.h : L1Cur }) (5 : Int) V_code0 Y3 R5 H6) kc30 rfl rfl ⟨(Base.can HB_V_code0), trivial⟩) rfl rfl rfl (fun _ => ?_)
  refine TO.y (Y.assign rfl) rfl rfl rfl ?_
  refine TO.nil ?_
  refine TE.next ?_
  refine TW.joinX (τ := List (List Ent)) (X := Value) (fun _ X => [(4, X)]) (fun T X => [.own X (lc T)]) ?_ (fun T10 X11 => ?_)
  · refine TW.block ?_
    refine TW.loopX (σ := Int × Int × Int × List (List Ent)) (X := Value) (fun T X => [(3, .pointer (some ⟨Y3, 0, none⟩)), (4, X), (5, .int .i64 T.2.2.1)]) (fun T X => [.box Y3 70 [V_code0, .int .i64 T.1, .int .i64 T.2.1], .own X (lc T.2.2.2)]) (.slice (some ⟨B4, 0, none⟩) 0 0) [0, 0] ⟨rfl, rfl, rfl, trivial⟩ rfl (fun S8 X9 => ?_)
    refine TW.seq ?_
    refine TW.seq ?_
    refine TW.region ?_
    refine TO.y (Y.move rfl) rfl rfl rfl ?_
    refine TO.y (Y.gtr rfl rfl) rfl rfl rfl ?_
    refine TO.nil ?_
    refine TE.next ?_
    refine TW.cond rfl (fun H12 => ?_) (fun H12 => ?_)
    · refine TW.skip ?_
      refine TE.next ?_
      refine TW.seq ?_
      refine TW.block ?_
      refine TW.region ?_
      refine TO.y (Y.move rfl) rfl rfl rfl ?_
      refine TO.y (Y.move rfl) rfl rfl rfl ?_
      refine TO.bind fun R13 H14 => ?_
      refine TO.ef (Ef.call (rest := [.own X9 (lc S8.2.2.2)]) [0, 0] (spec_l9Any_con ({ b := code, i := S8.1, h := S8.2.1 : L1Cur }) (9 : Int) V_code0 Y3 R13 H14) kc31 rfl rfl ⟨(Base.can HB_V_code0), trivial⟩) rfl rfl rfl (fun Y15 => ?_)
      refine TO.ef (Ef.buildSliceR (Vs := [Y15]) [[Y15]] [.raw Y15] ke24 kz26 rfl rfl rfl rfl rfl ⟨(Cel.one (One.can (Can.own 1 rfl))), trivial⟩ rfl) rfl rfl rfl (fun B16 => ?_)
      refine TO.ghost (is' := fun _ => [.own (.slice (some ⟨B16, 0, none⟩) 1 1) (lc ([R13.1])), .box Y3 70 [V_code0, .int .i64 R13.2.i, .int .i64 R13.2.h], .own X9 (lc S8.2.2.2)]) (Gh.closeAll (js := [.own Y15 (lc R13.1)]) (r := [.box Y3 70 [V_code0, .int .i64 R13.2.i, .int .i64 R13.2.h], .own X9 (lc S8.2.2.2)]) [0, 1, 0, 0] rfl (Cls.fill Cls.nil)) (fun _ => ?_)
      refine TO.bind fun E18 H19 => ?_
      refine TO.ef (Ef.appN (α := List Ent) (is' := [.box Y3 70 [V_code0, .int .i64 R13.2.i, .int .i64 R13.2.h]]) [2, 0, 0] H19 ke24 kz26 rfl rfl rfl rfl rfl) rfl rfl rfl (fun V17 => ?_)
      refine TO.y (Y.assign rfl) rfl rfl rfl ?_
      refine TO.nil ?_
      refine TE.block_normal ?_
      refine TE.next ?_
      refine TW.region ?_
      refine TO.y (Y.move rfl) rfl rfl rfl ?_
      refine TO.y (Y.sub rfl rfl) rfl rfl rfl ?_
      refine TO.y (Y.assign rfl) rfl rfl rfl ?_
      refine TO.nil ?_
      exact TE.lp_go V17 [1, 0] ⟨rfl, rfl, rfl, trivial⟩ rfl
    · refine TW.exit ?_
      refine TE.then_exit ?_
      refine TE.lp_exit ?_
      refine TE.block_exit ?_
      exact TE.jn_go X9 [1] ⟨rfl, trivial⟩ rfl
  · refine TE.next ?_
    refine TW.seq ?_
    refine TW.region ?_
    refine TO.y (Y.move rfl) rfl rfl rfl ?_
    refine TO.y (Y.assign rfl) rfl rfl rfl ?_
    refine TO.nil ?_
    refine TE.next ?_
    refine TW.ret ?_
    exact TE.leaf fun _ _ hf_ hs_ => ret_any (rs := [.tmp 2]) (vs := [X11]) (.inl rfl) rfl ⟨rfl, trivial⟩ hf_ hs_ ⟨X11, rfl, hs_.pulls [0] rfl⟩

/-- loop.example/g00950/impl.totalOf -/
noncomputable def impl_totalOf (l : List (List Ent)) : Option Int :=
  bindC (loopO (fun (S1 : Int × Int) => if (decide (S1.2 < ((l.length : Nat) : Int))) = true then ((idx l S1.2).bind fun E6 =>
  some (.go (IntKind.i64.wrap (S1.1 + ((E6.length : Nat) : Int)), IntKind.i64.wrap (S1.2 + (1 : Int)))))
  else (some (.done (.go S1.1))))
  ((0 : Int), (0 : Int)))
  (fun (T3 : Int) => some T3)

theorem impl_totalOf_con (l : List (List Ent)) (V_l0 : Value) (r : Int) (hm : impl_totalOf l = some r) :
    Con Try.prog 32 [V_l0] [] [(V_l0, lc l)] (fun _ : Unit => .int .i64 r) (fun _ => []) := by
  refine Con.intro (args := [V_l0]) (n := 18) (val := fun r (_ : Unit) => .int .i64 r) (post := fun _ _ => []) (m := impl_totalOf l) Try.func32 rfl rfl rfl hm ?_
  intro w S hrd
  have HB_V_l0 := hrd _ (.head _)
  clear hrd
  unfold impl_totalOf
  refine TW.seq ?_
  refine TW.region ?_
  refine TO.y (Y.assign rfl) rfl rfl rfl ?_
  refine TO.nil ?_
  refine TE.next ?_
  refine TW.seq ?_
  refine TW.region ?_
  refine TO.y (Y.assign rfl) rfl rfl rfl ?_
  refine TO.nil ?_
  refine TE.next ?_
  refine TW.seq ?_
  refine TW.seq ?_
  refine TW.region ?_
  refine TO.y (Y.move rfl) rfl rfl rfl ?_
  refine TO.y (Y.len (l := l) ke24 (Base.can HB_V_l0) rfl) rfl rfl rfl ?_
  refine TO.y (Y.move rfl) rfl rfl rfl ?_
  refine TO.nil ?_
  refine TE.next ?_
  refine TW.joinX (τ := Int) (X := Unit) (fun T _ => [(3, .int .i64 T)]) (fun _ _ => []) ?_ (fun T3 X4 => ?_)
  · refine TW.block ?_
    refine TW.loopX (σ := Int × Int) (X := Unit) (fun T _ => [(3, .int .i64 T.1), (6, V_l0), (7, .int .i64 ((l.length : Nat) : Int)), (8, .int .i64 T.2)]) (fun _ _ => []) () [] ⟨rfl, rfl, rfl, rfl, trivial⟩ rfl (fun S1 X2 => ?_)
    refine TW.seq ?_
    refine TW.region ?_
    refine TO.y (Y.lss rfl rfl) rfl rfl rfl ?_
    refine TO.nil ?_
    refine TE.next ?_
    refine TW.seq ?_
    refine TW.cond rfl (fun H5 => ?_) (fun H5 => ?_)
    · refine TW.skip ?_
      refine TE.next ?_
      refine TW.seq ?_
      refine TW.block ?_
      refine TW.seq ?_
      refine TW.region ?_
      refine TO.bind fun E6 H7 => ?_
      refine TO.y (Y.index ke24 (Base.can HB_V_l0) H7 rfl rfl) rfl rfl rfl ?_
      have Q8 : Base w S (elv w V_l0 (S1.2.toNat * 1 + 0)) (lc E6) := Base.el HB_V_l0 (idx_get H7).2.2 rfl rfl
      refine TO.y (Y.load_base (α := List Ent) (u := (elv w V_l0 (S1.2.toNat * 1 + 0))) kk26 rfl HB_V_l0 (idx_get H7).2.2 rfl rfl rfl rfl rfl) rfl rfl rfl ?_
      refine TO.y (Y.assign rfl) rfl rfl rfl ?_
      refine TO.nil ?_
      refine TE.next ?_
      refine TW.region ?_
      refine TO.y (Y.move rfl) rfl rfl rfl ?_
      refine TO.y (Y.move rfl) rfl rfl rfl ?_
      refine TO.y (Y.len (l := E6) ke26 (Base.can Q8) rfl) rfl rfl rfl ?_
      refine TO.y (Y.add rfl rfl) rfl rfl rfl ?_
      refine TO.y (Y.assign rfl) rfl rfl rfl ?_
      refine TO.nil ?_
      refine TE.block_normal ?_
      refine TE.next ?_
      refine TW.region ?_
      refine TO.y (Y.add rfl rfl) rfl rfl rfl ?_
      refine TO.y (Y.move rfl) rfl rfl rfl ?_
      refine TO.nil ?_
      exact TE.lp_go () [] ⟨rfl, rfl, rfl, rfl, trivial⟩ rfl
    · refine TW.exit ?_
      refine TE.then_exit ?_
      refine TE.lp_exit ?_
      refine TE.block_exit ?_
      exact TE.jn_go () [] ⟨rfl, trivial⟩ rfl
  · refine TE.next ?_
    refine TW.seq ?_
    refine TW.region ?_
    refine TO.y (Y.move rfl) rfl rfl rfl ?_
    refine TO.y (Y.assign rfl) rfl rfl rfl ?_
    refine TO.nil ?_
    refine TE.next ?_
    refine TW.ret ?_
    exact TE.leaf fun _ _ hf_ hs_ => ret_any (rs := [.tmp 2]) (vs := [.int .i64 T3]) (.inl rfl) rfl ⟨rfl, trivial⟩ hf_ hs_ ⟨(), rfl, hs_.pulls [] rfl⟩

/-- loop.example/g00950/impl.inRange -/
noncomputable def impl_inRange (n : Int) (least : Int) (most : Int) : Option Bool :=
  (if (decide (n ≥ least)) = true then (some (decide (n ≤ most)))
  else (some false)).bind (fun (T1 : Bool) =>
  some T1)

theorem impl_inRange_con (n : Int) (least : Int) (most : Int)  (r : Bool) (hm : impl_inRange n least most = some r) :
    Con Try.prog 76 [.int .i64 n, .int .i64 least, .int .i64 most] [] [] (fun _ : Unit => .bool r) (fun _ => []) := by
  refine Con.intro (args := [.int .i64 n, .int .i64 least, .int .i64 most]) (n := 15) (val := fun r (_ : Unit) => .bool r) (post := fun _ _ => []) (m := impl_inRange n least most) Try.func76 rfl rfl rfl hm ?_
  intro w S _
  unfold impl_inRange
  refine TW.seq ?_
  refine TW.region ?_
  refine TO.y (Y.assign rfl) rfl rfl rfl ?_
  refine TO.nil ?_
  refine TE.next ?_
  refine TW.seq ?_
  refine TW.joinBX (τ := Bool) (X := Unit) (fun T _ => [(6, .bool T)]) (fun _ _ => []) ?_ (fun T1 X2 => ?_)
  · refine TW.region ?_
    refine TO.y (Y.move rfl) rfl rfl rfl ?_
    refine TO.y (Y.move rfl) rfl rfl rfl ?_
    refine TO.y (Y.geq rfl rfl) rfl rfl rfl ?_
    refine TO.y (Y.move rfl) rfl rfl rfl ?_
    refine TO.ite (b := decide (n ≥ least)) (fun H3 => ?_) (fun H3 => ?_)
    · refine TO.y (Y.move rfl) (Gd.at 3 true 10 (decide (n ≥ least)) rfl rfl rfl (beq_tt H3)) rfl rfl ?_
      refine TO.y (Y.move rfl) (Gd.at 3 true 10 (decide (n ≥ least)) rfl rfl rfl (beq_tt H3)) rfl rfl ?_
      refine TO.y (Y.leq rfl rfl) (Gd.at 3 true 10 (decide (n ≥ least)) rfl rfl rfl (beq_tt H3)) rfl rfl ?_
      refine TO.y (Y.pick_t H3 rfl rfl) rfl rfl rfl ?_
      refine TO.y (Y.assign rfl) rfl rfl rfl ?_
      refine TO.nil ?_
      exact TE.jb_go () [] ⟨rfl, trivial⟩ rfl
    · refine TO.off (Gd.at 3 true 10 (decide (n ≥ least)) rfl rfl rfl (beq_ft H3)) rfl rfl ?_
      refine TO.off (Gd.at 3 true 10 (decide (n ≥ least)) rfl rfl rfl (beq_ft H3)) rfl rfl ?_
      refine TO.off (Gd.at 3 true 10 (decide (n ≥ least)) rfl rfl rfl (beq_ft H3)) rfl rfl ?_
      refine TO.y (Y.pick_f H3 rfl rfl) rfl rfl rfl ?_
      refine TO.y (Y.assign rfl) rfl rfl rfl ?_
      refine TO.nil ?_
      exact TE.jb_go () [] ⟨rfl, trivial⟩ rfl
  · refine TE.next ?_
    refine TW.ret ?_
    exact TE.leaf fun _ _ hf_ hs_ => ret_any (rs := [.tmp 6]) (vs := [.bool T1]) (.inl rfl) rfl ⟨rfl, trivial⟩ hf_ hs_ ⟨(), rfl, hs_.pulls [] rfl⟩

/-- loop.example/g00950/impl.isKey -/
noncomputable def impl_isKey (s : List UInt8) : Option Bool :=
  (impl_inRange ((s.length : Nat) : Int) (1 : Int) (10 : Int)).bind fun R1 =>
  some R1

theorem impl_isKey_con (s : List UInt8)  (r : Bool) (hm : impl_isKey s = some r) :
    Con Try.prog 99 [strV s] [] [] (fun _ : Unit => .bool r) (fun _ => []) := by
  refine Con.intro (args := [strV s]) (n := 6) (val := fun r (_ : Unit) => .bool r) (post := fun _ _ => []) (m := impl_isKey s) Try.func99 rfl rfl rfl hm ?_
  intro w S _
  unfold impl_isKey
  refine TW.seq ?_
  refine TW.region ?_
  refine TO.y (Y.assign rfl) rfl rfl rfl ?_
  refine TO.nil ?_
  refine TE.next ?_
  refine TW.seq ?_
  refine TW.region ?_
  refine TO.y (Y.move rfl) rfl rfl rfl ?_
  refine TO.y (Y.slen ks9 rfl) rfl rfl rfl ?_
  refine TO.bind fun R1 H2 => ?_
  refine TO.ef (Ef.call (rest := []) [] (impl_inRange_con ((s.length : Nat) : Int) (1 : Int) (10 : Int)  R1 H2) kc76 rfl rfl trivial) rfl rfl rfl (fun _ => ?_)
  refine TO.y (Y.assign rfl) rfl rfl rfl ?_
  refine TO.nil ?_
  refine TE.next ?_
  refine TW.ret ?_
  exact TE.leaf fun _ _ hf_ hs_ => ret_any (rs := [.tmp 2]) (vs := [.bool R1]) (.inl rfl) rfl ⟨rfl, trivial⟩ hf_ hs_ ⟨(), rfl, hs_.pulls [] rfl⟩

/-- loop.example/g00950/impl.isNumber -/
noncomputable def impl_isNumber (n : Int) : Option Bool :=
  (impl_inRange n (0 : Int) (1000000 : Int)).bind fun R1 =>
  some R1

theorem impl_isNumber_con (n : Int)  (r : Bool) (hm : impl_isNumber n = some r) :
    Con Try.prog 74 [.int .i64 n] [] [] (fun _ : Unit => .bool r) (fun _ => []) := by
  refine Con.intro (args := [.int .i64 n]) (n := 5) (val := fun r (_ : Unit) => .bool r) (post := fun _ _ => []) (m := impl_isNumber n) Try.func74 rfl rfl rfl hm ?_
  intro w S _
  unfold impl_isNumber
  refine TW.seq ?_
  refine TW.region ?_
  refine TO.y (Y.assign rfl) rfl rfl rfl ?_
  refine TO.nil ?_
  refine TE.next ?_
  refine TW.seq ?_
  refine TW.region ?_
  refine TO.y (Y.move rfl) rfl rfl rfl ?_
  refine TO.bind fun R1 H2 => ?_
  refine TO.ef (Ef.call (rest := []) [] (impl_inRange_con n (0 : Int) (1000000 : Int)  R1 H2) kc76 rfl rfl trivial) rfl rfl rfl (fun _ => ?_)
  refine TO.y (Y.assign rfl) rfl rfl rfl ?_
  refine TO.nil ?_
  refine TE.next ?_
  refine TW.ret ?_
  exact TE.leaf fun _ _ hf_ hs_ => ret_any (rs := [.tmp 2]) (vs := [.bool R1]) (.inl rfl) rfl ⟨rfl, trivial⟩ hf_ hs_ ⟨(), rfl, hs_.pulls [] rfl⟩

/-- loop.example/g00950/impl.isVal -/
noncomputable def impl_isVal (del : Bool) (val : List UInt8) : Option Bool :=
  (if (decide (((val.length : Nat) : Int) ≤ (16 : Int))) = true then (if del = true then (some (!(!(decide (val = ([]))))))
  else (some (!false)))
  else (some false)).bind (fun (T1 : Bool) =>
  some T1)

theorem impl_isVal_con (del : Bool) (val : List UInt8)  (r : Bool) (hm : impl_isVal del val = some r) :
    Con Try.prog 100 [.bool del, strV val] [] [] (fun _ : Unit => .bool r) (fun _ => []) := by
  refine Con.intro (args := [.bool del, strV val]) (n := 16) (val := fun r (_ : Unit) => .bool r) (post := fun _ _ => []) (m := impl_isVal del val) Try.func100 rfl rfl rfl hm ?_
  intro w S _
  unfold impl_isVal
  refine TW.seq ?_
  refine TW.region ?_
  refine TO.y (Y.assign rfl) rfl rfl rfl ?_
  refine TO.nil ?_
  refine TE.next ?_
  refine TW.seq ?_
  refine TW.joinBX (τ := Bool) (X := Unit) (fun T _ => [(4, .bool T)]) (fun _ _ => []) ?_ (fun T1 X2 => ?_)
  · refine TW.region ?_
    refine TO.y (Y.move rfl) rfl rfl rfl ?_
    refine TO.y (Y.slen ks9 rfl) rfl rfl rfl ?_
    refine TO.y (Y.leq rfl rfl) rfl rfl rfl ?_
    refine TO.y (Y.move rfl) rfl rfl rfl ?_
    refine TO.ite (b := decide (((val.length : Nat) : Int) ≤ (16 : Int))) (fun H3 => ?_) (fun H3 => ?_)
    · refine TO.y (Y.move rfl) (Gd.at 3 true 8 (decide (((val.length : Nat) : Int) ≤ (16 : Int))) rfl rfl rfl (beq_tt H3)) rfl rfl ?_
      refine TO.y (Y.move rfl) (Gd.at 3 true 8 (decide (((val.length : Nat) : Int) ≤ (16 : Int))) rfl rfl rfl (beq_tt H3)) rfl rfl ?_
      refine TO.ite (b := del) (fun H4 => ?_) (fun H4 => ?_)
      · refine TO.y (Y.move rfl) (Gd.at 5 true 10 del rfl rfl rfl (beq_tt H4)) rfl rfl ?_
        refine TO.y (Y.sneq rfl rfl) (Gd.at 5 true 10 del rfl rfl rfl (beq_tt H4)) rfl rfl ?_
        refine TO.y (Y.pick_t H4 rfl rfl) (Gd.at 3 true 8 (decide (((val.length : Nat) : Int) ≤ (16 : Int))) rfl rfl rfl (beq_tt H3)) rfl rfl ?_
        refine TO.y (Y.not rfl) (Gd.at 3 true 8 (decide (((val.length : Nat) : Int) ≤ (16 : Int))) rfl rfl rfl (beq_tt H3)) rfl rfl ?_
        refine TO.y (Y.pick_t H3 rfl rfl) rfl rfl rfl ?_
        refine TO.y (Y.assign rfl) rfl rfl rfl ?_
        refine TO.nil ?_
        exact TE.jb_go () [] ⟨rfl, trivial⟩ rfl
      · refine TO.off (Gd.at 5 true 10 del rfl rfl rfl (beq_ft H4)) rfl rfl ?_
        refine TO.off (Gd.at 5 true 10 del rfl rfl rfl (beq_ft H4)) rfl rfl ?_
        refine TO.y (Y.pick_f H4 rfl rfl) (Gd.at 3 true 8 (decide (((val.length : Nat) : Int) ≤ (16 : Int))) rfl rfl rfl (beq_tt H3)) rfl rfl ?_
        refine TO.y (Y.not rfl) (Gd.at 3 true 8 (decide (((val.length : Nat) : Int) ≤ (16 : Int))) rfl rfl rfl (beq_tt H3)) rfl rfl ?_
        refine TO.y (Y.pick_t H3 rfl rfl) rfl rfl rfl ?_
        refine TO.y (Y.assign rfl) rfl rfl rfl ?_
        refine TO.nil ?_
        exact TE.jb_go () [] ⟨rfl, trivial⟩ rfl
    · refine TO.off (Gd.at 3 true 8 (decide (((val.length : Nat) : Int) ≤ (16 : Int))) rfl rfl rfl (beq_ft H3)) rfl rfl ?_
      refine TO.off (Gd.at 3 true 8 (decide (((val.length : Nat) : Int) ≤ (16 : Int))) rfl rfl rfl (beq_ft H3)) rfl rfl ?_
      refine TO.off (Gd.un 5 true 10 rfl rfl rfl) rfl rfl ?_
      refine TO.off (Gd.un 5 true 10 rfl rfl rfl) rfl rfl ?_
      refine TO.off (Gd.at 3 true 8 (decide (((val.length : Nat) : Int) ≤ (16 : Int))) rfl rfl rfl (beq_ft H3)) rfl rfl ?_
      refine TO.off (Gd.at 3 true 8 (decide (((val.length : Nat) : Int) ≤ (16 : Int))) rfl rfl rfl (beq_ft H3)) rfl rfl ?_
      refine TO.y (Y.pick_f H3 rfl rfl) rfl rfl rfl ?_
      refine TO.y (Y.assign rfl) rfl rfl rfl ?_
      refine TO.nil ?_
      exact TE.jb_go () [] ⟨rfl, trivial⟩ rfl
  · refine TE.next ?_
    refine TW.ret ?_
    exact TE.leaf fun _ _ hf_ hs_ => ret_any (rs := [.tmp 4]) (vs := [.bool T1]) (.inl rfl) rfl ⟨rfl, trivial⟩ hf_ hs_ ⟨(), rfl, hs_.pulls [] rfl⟩

/-- loop.example/g00950/impl.entOk -/
noncomputable def impl_entOk (e : Ent) : Option Bool :=
  ((impl_isKey e.Key).bind fun R4 =>
  if R4 = true then ((impl_isNumber e.Seq).bind fun R8 =>
  if R8 = true then ((impl_isVal e.Del e.Val).bind fun R12 =>
  some R12)
  else (some false))
  else (some false)).bind (fun (T2 : Bool) =>
  some T2)

theorem impl_entOk_con (e : Ent)  (r : Bool) (hm : impl_entOk e = some r) :
    Con Try.prog 84 [.agg #[strV e.Key, .int .i64 e.Seq, .bool e.Del, strV e.Val]] [] [] (fun _ : Unit => .bool r) (fun _ => []) := by
  refine Con.intro (args := [.agg #[strV e.Key, .int .i64 e.Seq, .bool e.Del, strV e.Val]]) (n := 18) (val := fun r (_ : Unit) => .bool r) (post := fun _ _ => []) (m := impl_entOk e) Try.func84 rfl rfl rfl hm ?_
  intro w S _
  unfold impl_entOk
  refine TW.seq ?_
  refine TW.region ?_
  refine TO.ef (Ef.box rfl (Cel.plain rfl rfl)) rfl rfl rfl (fun B1 => ?_)
  refine TO.y (Y.assign rfl) rfl rfl rfl ?_
  refine TO.nil ?_
  refine TE.next ?_
  refine TW.seq ?_
  refine TW.joinBX (τ := Bool) (X := Unit) (fun T _ => [(2, .bool T)]) (fun _ _ => []) ?_ (fun T2 X3 => ?_)
  · refine TW.region ?_
    refine TO.y (Y.field_box kf31_0 rfl rfl) rfl rfl rfl ?_
    refine TO.y (Y.load_box (v := strV e.Key) 0 kk9 rfl rfl rfl) rfl rfl rfl ?_
    refine TO.bind fun R4 H5 => ?_
    refine TO.ef (Ef.call (rest := [.box B1 31 [strV e.Key, .int .i64 e.Seq, .bool e.Del, strV e.Val]]) [0] (impl_isKey_con e.Key  R4 H5) kc99 rfl rfl trivial) rfl rfl rfl (fun _ => ?_)
    refine TO.y (Y.move rfl) rfl rfl rfl ?_
    refine TO.ite (b := R4) (fun H7 => ?_) (fun H7 => ?_)
    · refine TO.y (Y.field_box kf31_1 rfl rfl) (Gd.at 3 true 6 R4 rfl rfl rfl (beq_tt H7)) rfl rfl ?_
      refine TO.y (Y.load_box (v := .int .i64 e.Seq) 0 kk3 rfl rfl rfl) (Gd.at 3 true 6 R4 rfl rfl rfl (beq_tt H7)) rfl rfl ?_
      refine TO.bind fun R8 H9 => ?_
      refine TO.ef (Ef.call (rest := [.box B1 31 [strV e.Key, .int .i64 e.Seq, .bool e.Del, strV e.Val]]) [0] (impl_isNumber_con e.Seq  R8 H9) kc74 rfl rfl trivial) (Gd.at 3 true 6 R4 rfl rfl rfl (beq_tt H7)) rfl rfl (fun _ => ?_)
      refine TO.y (Y.pick_t H7 rfl rfl) rfl rfl rfl ?_
      refine TO.y (Y.move rfl) rfl rfl rfl ?_
      refine TO.ite (b := R8) (fun H11 => ?_) (fun H11 => ?_)
      · refine TO.y (Y.field_box kf31_2 rfl rfl) (Gd.at 8 true 11 R8 rfl rfl rfl (beq_tt H11)) rfl rfl ?_
        refine TO.y (Y.load_box (v := .bool e.Del) 0 kk4 rfl rfl rfl) (Gd.at 8 true 11 R8 rfl rfl rfl (beq_tt H11)) rfl rfl ?_
        refine TO.y (Y.field_box kf31_3 rfl rfl) (Gd.at 8 true 11 R8 rfl rfl rfl (beq_tt H11)) rfl rfl ?_
        refine TO.y (Y.load_box (v := strV e.Val) 0 kk9 rfl rfl rfl) (Gd.at 8 true 11 R8 rfl rfl rfl (beq_tt H11)) rfl rfl ?_
        refine TO.bind fun R12 H13 => ?_
        refine TO.ef (Ef.call (rest := [.box B1 31 [strV e.Key, .int .i64 e.Seq, .bool e.Del, strV e.Val]]) [0] (impl_isVal_con e.Del e.Val  R12 H13) kc100 rfl rfl trivial) (Gd.at 8 true 11 R8 rfl rfl rfl (beq_tt H11)) rfl rfl (fun _ => ?_)
        refine TO.y (Y.pick_t H11 rfl rfl) rfl rfl rfl ?_
        refine TO.y (Y.assign rfl) rfl rfl rfl ?_
        refine TO.nil ?_
        exact TE.jb_go () [] ⟨rfl, trivial⟩ rfl
      · refine TO.off (Gd.at 8 true 11 R8 rfl rfl rfl (beq_ft H11)) rfl rfl ?_
        refine TO.off (Gd.at 8 true 11 R8 rfl rfl rfl (beq_ft H11)) rfl rfl ?_
        refine TO.off (Gd.at 8 true 11 R8 rfl rfl rfl (beq_ft H11)) rfl rfl ?_
        refine TO.off (Gd.at 8 true 11 R8 rfl rfl rfl (beq_ft H11)) rfl rfl ?_
        refine TO.off (Gd.at 8 true 11 R8 rfl rfl rfl (beq_ft H11)) rfl rfl ?_
        refine TO.y (Y.pick_f H11 rfl rfl) rfl rfl rfl ?_
        refine TO.y (Y.assign rfl) rfl rfl rfl ?_
        refine TO.nil ?_
        exact TE.jb_go () [] ⟨rfl, trivial⟩ rfl
    · refine TO.off (Gd.at 3 true 6 R4 rfl rfl rfl (beq_ft H7)) rfl rfl ?_
      refine TO.off (Gd.at 3 true 6 R4 rfl rfl rfl (beq_ft H7)) rfl rfl ?_
      refine TO.off (Gd.at 3 true 6 R4 rfl rfl rfl (beq_ft H7)) rfl rfl ?_
      refine TO.y (Y.pick_f H7 rfl rfl) rfl rfl rfl ?_
      refine TO.y (Y.move rfl) rfl rfl rfl ?_
      refine TO.off (Gd.at 8 true 11 false rfl rfl rfl rfl) rfl rfl ?_
      refine TO.off (Gd.at 8 true 11 false rfl rfl rfl rfl) rfl rfl ?_
      refine TO.off (Gd.at 8 true 11 false rfl rfl rfl rfl) rfl rfl ?_
      refine TO.off (Gd.at 8 true 11 false rfl rfl rfl rfl) rfl rfl ?_
      refine TO.off (Gd.at 8 true 11 false rfl rfl rfl rfl) rfl rfl ?_
      refine TO.y (Y.pick_f rfl rfl rfl) rfl rfl rfl ?_
      refine TO.y (Y.assign rfl) rfl rfl rfl ?_
      refine TO.nil ?_
      exact TE.jb_go () [] ⟨rfl, trivial⟩ rfl
  · refine TE.next ?_
    refine TW.ret ?_
    exact TE.leaf fun _ _ hf_ hs_ => ret_any (rs := [.tmp 2]) (vs := [.bool T2]) (.inl rfl) rfl ⟨rfl, trivial⟩ hf_ hs_ ⟨(), rfl, hs_.pulls [] rfl⟩

/-- cmp.isNaN[string] -/
noncomputable def cmp_isNaN_83645 (x : List UInt8) : Option Bool :=
  some (!(decide (x = x)))

theorem cmp_isNaN_83645_con (x : List UInt8)  (r : Bool) (hm : cmp_isNaN_83645 x = some r) :
    Con Try.prog 103 [strV x] [] [] (fun _ : Unit => .bool r) (fun _ => []) := by
  refine Con.intro (args := [strV x]) (n := 6) (val := fun r (_ : Unit) => .bool r) (post := fun _ _ => []) (m := cmp_isNaN_83645 x) Try.func103 rfl rfl rfl hm ?_
  intro w S _
  unfold cmp_isNaN_83645
  refine TW.seq ?_
  refine TW.region ?_
  refine TO.y (Y.assign rfl) rfl rfl rfl ?_
  refine TO.nil ?_
  refine TE.next ?_
  refine TW.seq ?_
  refine TW.region ?_
  refine TO.y (Y.move rfl) rfl rfl rfl ?_
  refine TO.y (Y.move rfl) rfl rfl rfl ?_
  refine TO.y (Y.sneq rfl rfl) rfl rfl rfl ?_
  refine TO.y (Y.assign rfl) rfl rfl rfl ?_
  refine TO.nil ?_
  refine TE.next ?_
  refine TW.ret ?_
  exact TE.leaf fun _ _ hf_ hs_ => ret_any (rs := [.tmp 2]) (vs := [.bool (!(decide (x = x)))]) (.inl rfl) rfl ⟨rfl, trivial⟩ hf_ hs_ ⟨(), rfl, hs_.pulls [] rfl⟩

/-- cmp.Compare[string] -/
noncomputable def cmp_Compare_83645 (x : List UInt8) (y : List UInt8) : Option Int :=
  (cmp_isNaN_83645 x).bind fun R1 =>
  (cmp_isNaN_83645 y).bind fun R4 =>
  if R1 = true then (if R4 = true then (some (0 : Int))
  else (some (-1 : Int)))
  else (if R4 = true then (some (1 : Int))
  else (if (sLt x y) = true then (some (-1 : Int))
  else (if (!(sLt x y || decide (x = y))) = true then (some (1 : Int))
  else (some (0 : Int)))))

theorem cmp_Compare_83645_con (x : List UInt8) (y : List UInt8)  (r : Int) (hm : cmp_Compare_83645 x y = some r) :
    Con Try.prog 88 [strV x, strV y] [] [] (fun _ : Unit => .int .i64 r) (fun _ => []) := by
  refine Con.intro (args := [strV x, strV y]) (n := 20) (val := fun r (_ : Unit) => .int .i64 r) (post := fun _ _ => []) (m := cmp_Compare_83645 x y) Try.func88 rfl rfl rfl hm ?_
  intro w S _
  unfold cmp_Compare_83645
  refine TW.seq ?_
  refine TW.region ?_
  refine TO.y (Y.assign rfl) rfl rfl rfl ?_
  refine TO.nil ?_
  refine TE.next ?_
  refine TW.seq ?_
  refine TW.region ?_
  refine TO.y (Y.move rfl) rfl rfl rfl ?_
  refine TO.bind fun R1 H2 => ?_
  refine TO.ef (Ef.call (rest := []) [] (cmp_isNaN_83645_con x  R1 H2) kc103 rfl rfl trivial) rfl rfl rfl (fun _ => ?_)
  refine TO.y (Y.assign rfl) rfl rfl rfl ?_
  refine TO.nil ?_
  refine TE.next ?_
  refine TW.seq ?_
  refine TW.region ?_
  refine TO.y (Y.move rfl) rfl rfl rfl ?_
  refine TO.bind fun R4 H5 => ?_
  refine TO.ef (Ef.call (rest := []) [] (cmp_isNaN_83645_con y  R4 H5) kc103 rfl rfl trivial) rfl rfl rfl (fun _ => ?_)
  refine TO.y (Y.assign rfl) rfl rfl rfl ?_
  refine TO.nil ?_
  refine TE.next ?_
  refine TW.seq ?_
  refine TW.seq ?_
  refine TW.region ?_
  refine TO.y (Y.move rfl) rfl rfl rfl ?_
  refine TO.nil ?_
  refine TE.next ?_
  refine TW.cond rfl (fun H7 => ?_) (fun H7 => ?_)
  · refine TW.seq ?_
    refine TW.seq ?_
    refine TW.region ?_
    refine TO.y (Y.move rfl) rfl rfl rfl ?_
    refine TO.nil ?_
    refine TE.next ?_
    refine TW.cond rfl (fun H8 => ?_) (fun H8 => ?_)
    · refine TW.seq ?_
      refine TW.region ?_
      refine TO.y (Y.assign rfl) rfl rfl rfl ?_
      refine TO.nil ?_
      refine TE.next ?_
      refine TW.ret ?_
      refine TE.then_ret ?_
      refine TE.then_ret ?_
      exact TE.leaf fun _ _ hf_ hs_ => ret_any (rs := [.tmp 4]) (vs := [.int .i64 (0 : Int)]) (.inl rfl) rfl ⟨rfl, trivial⟩ hf_ hs_ ⟨(), rfl, hs_.pulls [] rfl⟩
    · refine TW.skip ?_
      refine TE.next ?_
      refine TW.seq ?_
      refine TW.region ?_
      refine TO.y (Y.assign rfl) rfl rfl rfl ?_
      refine TO.nil ?_
      refine TE.next ?_
      refine TW.ret ?_
      refine TE.then_ret ?_
      exact TE.leaf fun _ _ hf_ hs_ => ret_any (rs := [.tmp 4]) (vs := [.int .i64 (-1 : Int)]) (.inl rfl) rfl ⟨rfl, trivial⟩ hf_ hs_ ⟨(), rfl, hs_.pulls [] rfl⟩
  · refine TW.skip ?_
    refine TE.next ?_
    refine TW.seq ?_
    refine TW.seq ?_
    refine TW.region ?_
    refine TO.y (Y.move rfl) rfl rfl rfl ?_
    refine TO.nil ?_
    refine TE.next ?_
    refine TW.cond rfl (fun H9 => ?_) (fun H9 => ?_)
    · refine TW.seq ?_
      refine TW.region ?_
      refine TO.y (Y.assign rfl) rfl rfl rfl ?_
      refine TO.nil ?_
      refine TE.next ?_
      refine TW.ret ?_
      refine TE.then_ret ?_
      exact TE.leaf fun _ _ hf_ hs_ => ret_any (rs := [.tmp 4]) (vs := [.int .i64 (1 : Int)]) (.inl rfl) rfl ⟨rfl, trivial⟩ hf_ hs_ ⟨(), rfl, hs_.pulls [] rfl⟩
    · refine TW.skip ?_
      refine TE.next ?_
      refine TW.seq ?_
      refine TW.seq ?_
      refine TW.region ?_
      refine TO.y (Y.move rfl) rfl rfl rfl ?_
      refine TO.y (Y.move rfl) rfl rfl rfl ?_
      refine TO.y (Y.slss rfl rfl) rfl rfl rfl ?_
      refine TO.nil ?_
      refine TE.next ?_
      refine TW.cond rfl (fun H10 => ?_) (fun H10 => ?_)
      · refine TW.seq ?_
        refine TW.region ?_
        refine TO.y (Y.assign rfl) rfl rfl rfl ?_
        refine TO.nil ?_
        refine TE.next ?_
        refine TW.ret ?_
        refine TE.then_ret ?_
        exact TE.leaf fun _ _ hf_ hs_ => ret_any (rs := [.tmp 4]) (vs := [.int .i64 (-1 : Int)]) (.inl rfl) rfl ⟨rfl, trivial⟩ hf_ hs_ ⟨(), rfl, hs_.pulls [] rfl⟩
      · refine TW.skip ?_
        refine TE.next ?_
        refine TW.seq ?_
        refine TW.seq ?_
        refine TW.region ?_
        refine TO.y (Y.move rfl) rfl rfl rfl ?_
        refine TO.y (Y.move rfl) rfl rfl rfl ?_
        refine TO.y (Y.sgtr rfl rfl) rfl rfl rfl ?_
        refine TO.nil ?_
        refine TE.next ?_
        refine TW.cond rfl (fun H11 => ?_) (fun H11 => ?_)
        · refine TW.seq ?_
          refine TW.region ?_
          refine TO.y (Y.assign rfl) rfl rfl rfl ?_
          refine TO.nil ?_
          refine TE.next ?_
          refine TW.ret ?_
          refine TE.then_ret ?_
          exact TE.leaf fun _ _ hf_ hs_ => ret_any (rs := [.tmp 4]) (vs := [.int .i64 (1 : Int)]) (.inl rfl) rfl ⟨rfl, trivial⟩ hf_ hs_ ⟨(), rfl, hs_.pulls [] rfl⟩
        · refine TW.skip ?_
          refine TE.next ?_
          refine TW.seq ?_
          refine TW.region ?_
          refine TO.y (Y.assign rfl) rfl rfl rfl ?_
          refine TO.nil ?_
          refine TE.next ?_
          refine TW.ret ?_
          exact TE.leaf fun _ _ hf_ hs_ => ret_any (rs := [.tmp 4]) (vs := [.int .i64 (0 : Int)]) (.inl rfl) rfl ⟨rfl, trivial⟩ hf_ hs_ ⟨(), rfl, hs_.pulls [] rfl⟩

/-- cmp.isNaN[int] -/
noncomputable def cmp_isNaN_26527 (x : Int) : Option Bool :=
  some (!(decide (x = x)))

theorem cmp_isNaN_26527_con (x : Int)  (r : Bool) (hm : cmp_isNaN_26527 x = some r) :
    Con Try.prog 104 [.int .i64 x] [] [] (fun _ : Unit => .bool r) (fun _ => []) := by
  refine Con.intro (args := [.int .i64 x]) (n := 6) (val := fun r (_ : Unit) => .bool r) (post := fun _ _ => []) (m := cmp_isNaN_26527 x) Try.func104 rfl rfl rfl hm ?_
  intro w S _
  unfold cmp_isNaN_26527
  refine TW.seq ?_
  refine TW.region ?_
  refine TO.y (Y.assign rfl) rfl rfl rfl ?_
  refine TO.nil ?_
  refine TE.next ?_
  refine TW.seq ?_
  refine TW.region ?_
  refine TO.y (Y.move rfl) rfl rfl rfl ?_
  refine TO.y (Y.move rfl) rfl rfl rfl ?_
  refine TO.y (Y.neq rfl rfl) rfl rfl rfl ?_
  refine TO.y (Y.assign rfl) rfl rfl rfl ?_
  refine TO.nil ?_
  refine TE.next ?_
  refine TW.ret ?_
  exact TE.leaf fun _ _ hf_ hs_ => ret_any (rs := [.tmp 2]) (vs := [.bool (!(decide (x = x)))]) (.inl rfl) rfl ⟨rfl, trivial⟩ hf_ hs_ ⟨(), rfl, hs_.pulls [] rfl⟩

/-- cmp.Compare[int] -/
noncomputable def cmp_Compare_26527 (x : Int) (y : Int) : Option Int :=
  (cmp_isNaN_26527 x).bind fun R1 =>
  (cmp_isNaN_26527 y).bind fun R4 =>
  if R1 = true then (if R4 = true then (some (0 : Int))
  else (some (-1 : Int)))
  else (if R4 = true then (some (1 : Int))
  else (if (decide (x < y)) = true then (some (-1 : Int))
  else (if (decide (x > y)) = true then (some (1 : Int))
  else (some (0 : Int)))))

theorem cmp_Compare_26527_con (x : Int) (y : Int)  (r : Int) (hm : cmp_Compare_26527 x y = some r) :
    Con Try.prog 89 [.int .i64 x, .int .i64 y] [] [] (fun _ : Unit => .int .i64 r) (fun _ => []) := by
  refine Con.intro (args := [.int .i64 x, .int .i64 y]) (n := 20) (val := fun r (_ : Unit) => .int .i64 r) (post := fun _ _ => []) (m := cmp_Compare_26527 x y) Try.func89 rfl rfl rfl hm ?_
  intro w S _
  unfold cmp_Compare_26527
  refine TW.seq ?_
  refine TW.region ?_
  refine TO.y (Y.assign rfl) rfl rfl rfl ?_
  refine TO.nil ?_
  refine TE.next ?_
  refine TW.seq ?_
  refine TW.region ?_
  refine TO.y (Y.move rfl) rfl rfl rfl ?_
  refine TO.bind fun R1 H2 => ?_
  refine TO.ef (Ef.call (rest := []) [] (cmp_isNaN_26527_con x  R1 H2) kc104 rfl rfl trivial) rfl rfl rfl (fun _ => ?_)
  refine TO.y (Y.assign rfl) rfl rfl rfl ?_
  refine TO.nil ?_
  refine TE.next ?_
  refine TW.seq ?_
  refine TW.region ?_
  refine TO.y (Y.move rfl) rfl rfl rfl ?_
  refine TO.bind fun R4 H5 => ?_
  refine TO.ef (Ef.call (rest := []) [] (cmp_isNaN_26527_con y  R4 H5) kc104 rfl rfl trivial) rfl rfl rfl (fun _ => ?_)
  refine TO.y (Y.assign rfl) rfl rfl rfl ?_
  refine TO.nil ?_
  refine TE.next ?_
  refine TW.seq ?_
  refine TW.seq ?_
  refine TW.region ?_
  refine TO.y (Y.move rfl) rfl rfl rfl ?_
  refine TO.nil ?_
  refine TE.next ?_
  refine TW.cond rfl (fun H7 => ?_) (fun H7 => ?_)
  · refine TW.seq ?_
    refine TW.seq ?_
    refine TW.region ?_
    refine TO.y (Y.move rfl) rfl rfl rfl ?_
    refine TO.nil ?_
    refine TE.next ?_
    refine TW.cond rfl (fun H8 => ?_) (fun H8 => ?_)
    · refine TW.seq ?_
      refine TW.region ?_
      refine TO.y (Y.assign rfl) rfl rfl rfl ?_
      refine TO.nil ?_
      refine TE.next ?_
      refine TW.ret ?_
      refine TE.then_ret ?_
      refine TE.then_ret ?_
      exact TE.leaf fun _ _ hf_ hs_ => ret_any (rs := [.tmp 4]) (vs := [.int .i64 (0 : Int)]) (.inl rfl) rfl ⟨rfl, trivial⟩ hf_ hs_ ⟨(), rfl, hs_.pulls [] rfl⟩
    · refine TW.skip ?_
      refine TE.next ?_
      refine TW.seq ?_
      refine TW.region ?_
      refine TO.y (Y.assign rfl) rfl rfl rfl ?_
      refine TO.nil ?_
      refine TE.next ?_
      refine TW.ret ?_
      refine TE.then_ret ?_
      exact TE.leaf fun _ _ hf_ hs_ => ret_any (rs := [.tmp 4]) (vs := [.int .i64 (-1 : Int)]) (.inl rfl) rfl ⟨rfl, trivial⟩ hf_ hs_ ⟨(), rfl, hs_.pulls [] rfl⟩
  · refine TW.skip ?_
    refine TE.next ?_
    refine TW.seq ?_
    refine TW.seq ?_
    refine TW.region ?_
    refine TO.y (Y.move rfl) rfl rfl rfl ?_
    refine TO.nil ?_
    refine TE.next ?_
    refine TW.cond rfl (fun H9 => ?_) (fun H9 => ?_)
    · refine TW.seq ?_
      refine TW.region ?_
      refine TO.y (Y.assign rfl) rfl rfl rfl ?_
      refine TO.nil ?_
      refine TE.next ?_
      refine TW.ret ?_
      refine TE.then_ret ?_
      exact TE.leaf fun _ _ hf_ hs_ => ret_any (rs := [.tmp 4]) (vs := [.int .i64 (1 : Int)]) (.inl rfl) rfl ⟨rfl, trivial⟩ hf_ hs_ ⟨(), rfl, hs_.pulls [] rfl⟩
    · refine TW.skip ?_
      refine TE.next ?_
      refine TW.seq ?_
      refine TW.seq ?_
      refine TW.region ?_
      refine TO.y (Y.move rfl) rfl rfl rfl ?_
      refine TO.y (Y.move rfl) rfl rfl rfl ?_
      refine TO.y (Y.lss rfl rfl) rfl rfl rfl ?_
      refine TO.nil ?_
      refine TE.next ?_
      refine TW.cond rfl (fun H10 => ?_) (fun H10 => ?_)
      · refine TW.seq ?_
        refine TW.region ?_
        refine TO.y (Y.assign rfl) rfl rfl rfl ?_
        refine TO.nil ?_
        refine TE.next ?_
        refine TW.ret ?_
        refine TE.then_ret ?_
        exact TE.leaf fun _ _ hf_ hs_ => ret_any (rs := [.tmp 4]) (vs := [.int .i64 (-1 : Int)]) (.inl rfl) rfl ⟨rfl, trivial⟩ hf_ hs_ ⟨(), rfl, hs_.pulls [] rfl⟩
      · refine TW.skip ?_
        refine TE.next ?_
        refine TW.seq ?_
        refine TW.seq ?_
        refine TW.region ?_
        refine TO.y (Y.move rfl) rfl rfl rfl ?_
        refine TO.y (Y.move rfl) rfl rfl rfl ?_
        refine TO.y (Y.gtr rfl rfl) rfl rfl rfl ?_
        refine TO.nil ?_
        refine TE.next ?_
        refine TW.cond rfl (fun H11 => ?_) (fun H11 => ?_)
        · refine TW.seq ?_
          refine TW.region ?_
          refine TO.y (Y.assign rfl) rfl rfl rfl ?_
          refine TO.nil ?_
          refine TE.next ?_
          refine TW.ret ?_
          refine TE.then_ret ?_
          exact TE.leaf fun _ _ hf_ hs_ => ret_any (rs := [.tmp 4]) (vs := [.int .i64 (1 : Int)]) (.inl rfl) rfl ⟨rfl, trivial⟩ hf_ hs_ ⟨(), rfl, hs_.pulls [] rfl⟩
        · refine TW.skip ?_
          refine TE.next ?_
          refine TW.seq ?_
          refine TW.region ?_
          refine TO.y (Y.assign rfl) rfl rfl rfl ?_
          refine TO.nil ?_
          refine TE.next ?_
          refine TW.ret ?_
          exact TE.leaf fun _ _ hf_ hs_ => ret_any (rs := [.tmp 4]) (vs := [.int .i64 (0 : Int)]) (.inl rfl) rfl ⟨rfl, trivial⟩ hf_ hs_ ⟨(), rfl, hs_.pulls [] rfl⟩

/-- cmp.Or[int] -/
noncomputable def cmp_Or_26527 (vals : List Int) : Option Int :=
  bindC (loopO (fun (S1 : Int) => if (decide (S1 < ((vals.length : Nat) : Int))) = true then ((idx vals S1).bind fun E6 =>
  if (!(decide (E6 = (0 : Int)))) = true then (some (.done (.done E6)))
  else (some (.go (IntKind.i64.wrap (S1 + (1 : Int))))))
  else (some (.done (.go ()))))
  (0 : Int))
  (fun (T3 : Unit) => some (0 : Int))

theorem cmp_Or_26527_con (vals : List Int) (V_vals0 : Value) (r : Int) (hm : cmp_Or_26527 vals = some r) :
    Con Try.prog 87 [V_vals0] [] [(V_vals0, lc vals)] (fun _ : Unit => .int .i64 r) (fun _ => []) := by
  refine Con.intro (args := [V_vals0]) (n := 18) (val := fun r (_ : Unit) => .int .i64 r) (post := fun _ _ => []) (m := cmp_Or_26527 vals) Try.func87 rfl rfl rfl hm ?_
  intro w S hrd
  have HB_V_vals0 := hrd _ (.head _)
  clear hrd
  unfold cmp_Or_26527
  refine TW.seq ?_
  refine TW.region ?_
  refine TO.y (Y.assign rfl) rfl rfl rfl ?_
  refine TO.nil ?_
  refine TE.next ?_
  refine TW.seq ?_
  refine TW.region ?_
  refine TO.y (Y.assign rfl) rfl rfl rfl ?_
  refine TO.nil ?_
  refine TE.next ?_
  refine TW.seq ?_
  refine TW.seq ?_
  refine TW.region ?_
  refine TO.y (Y.move rfl) rfl rfl rfl ?_
  refine TO.y (Y.len (l := vals) ke40 (Base.can HB_V_vals0) rfl) rfl rfl rfl ?_
  refine TO.y (Y.move rfl) rfl rfl rfl ?_
  refine TO.nil ?_
  refine TE.next ?_
  refine TW.joinX (τ := Unit) (X := Unit) (fun _ _ => [(3, .int .i64 (0 : Int))]) (fun _ _ => []) ?_ (fun T3 X4 => ?_)
  · refine TW.block ?_
    refine TW.loopX (σ := Int) (X := Unit) (fun T _ => [(3, .int .i64 (0 : Int)), (6, V_vals0), (7, .int .i64 ((vals.length : Nat) : Int)), (8, .int .i64 T)]) (fun _ _ => []) () [] ⟨rfl, rfl, rfl, rfl, trivial⟩ rfl (fun S1 X2 => ?_)
    refine TW.seq ?_
    refine TW.region ?_
    refine TO.y (Y.lss rfl rfl) rfl rfl rfl ?_
    refine TO.nil ?_
    refine TE.next ?_
    refine TW.seq ?_
    refine TW.cond rfl (fun H5 => ?_) (fun H5 => ?_)
    · refine TW.skip ?_
      refine TE.next ?_
      refine TW.seq ?_
      refine TW.block ?_
      refine TW.seq ?_
      refine TW.region ?_
      refine TO.bind fun E6 H7 => ?_
      refine TO.y (Y.index ke40 (Base.can HB_V_vals0) H7 rfl rfl) rfl rfl rfl ?_
      refine TO.y (Y.load_el (us := [.int .i64 E6]) (u := .int .i64 E6) kk3 rfl (Base.can HB_V_vals0) (idx_get H7).2.2 rfl rfl rfl rfl rfl) rfl rfl rfl ?_
      refine TO.y (Y.assign rfl) rfl rfl rfl ?_
      refine TO.nil ?_
      refine TE.next ?_
      refine TW.seq ?_
      refine TW.region ?_
      refine TO.y (Y.move rfl) rfl rfl rfl ?_
      refine TO.y (Y.move rfl) rfl rfl rfl ?_
      refine TO.y (Y.neq rfl rfl) rfl rfl rfl ?_
      refine TO.nil ?_
      refine TE.next ?_
      refine TW.cond rfl (fun H8 => ?_) (fun H8 => ?_)
      · refine TW.seq ?_
        refine TW.region ?_
        refine TO.y (Y.move rfl) rfl rfl rfl ?_
        refine TO.y (Y.assign rfl) rfl rfl rfl ?_
        refine TO.nil ?_
        refine TE.next ?_
        refine TW.ret ?_
        refine TE.block_ret ?_
        refine TE.then_ret ?_
        refine TE.lp_ret ?_
        refine TE.block_ret ?_
        refine TE.jn_done ?_
        refine TE.then_ret ?_
        exact TE.leaf fun _ _ hf_ hs_ => ret_any (rs := [.tmp 2]) (vs := [.int .i64 E6]) (.inl rfl) rfl ⟨rfl, trivial⟩ hf_ hs_ ⟨(), rfl, hs_.pulls [] rfl⟩
      · refine TW.skip ?_
        refine TE.block_normal ?_
        refine TE.next ?_
        refine TW.region ?_
        refine TO.y (Y.add rfl rfl) rfl rfl rfl ?_
        refine TO.y (Y.move rfl) rfl rfl rfl ?_
        refine TO.nil ?_
        exact TE.lp_go () [] ⟨rfl, rfl, rfl, rfl, trivial⟩ rfl
    · refine TW.exit ?_
      refine TE.then_exit ?_
      refine TE.lp_exit ?_
      refine TE.block_exit ?_
      exact TE.jn_go () [] ⟨rfl, trivial⟩ rfl
  · refine TE.next ?_
    refine TW.seq ?_
    refine TW.region ?_
    refine TO.y (Y.move rfl) rfl rfl rfl ?_
    refine TO.y (Y.assign rfl) rfl rfl rfl ?_
    refine TO.nil ?_
    refine TE.next ?_
    refine TW.ret ?_
    exact TE.leaf fun _ _ hf_ hs_ => ret_any (rs := [.tmp 2]) (vs := [.int .i64 (0 : Int)]) (.inl rfl) rfl ⟨rfl, trivial⟩ hf_ hs_ ⟨(), rfl, hs_.pulls [] rfl⟩

/-- loop.example/g00950/impl.compareEnts -/
noncomputable def impl_compareEnts (a : Ent) (b : Ent) : Option Int :=
  (cmp_Compare_83645 a.Key b.Key).bind fun R3 =>
  (cmp_Compare_26527 b.Seq a.Seq).bind fun R6 =>
  (cmp_Or_26527 ([R3, R6])).bind fun R10 =>
  some R10

theorem impl_compareEnts_con (a : Ent) (b : Ent)  (r : Int) (hm : impl_compareEnts a b = some r) :
    Con Try.prog 63 [.agg #[strV a.Key, .int .i64 a.Seq, .bool a.Del, strV a.Val], .agg #[strV b.Key, .int .i64 b.Seq, .bool b.Del, strV b.Val]] [] [] (fun _ : Unit => .int .i64 r) (fun _ => []) := by
  refine Con.intro (args := [.agg #[strV a.Key, .int .i64 a.Seq, .bool a.Del, strV a.Val], .agg #[strV b.Key, .int .i64 b.Seq, .bool b.Del, strV b.Val]]) (n := 17) (val := fun r (_ : Unit) => .int .i64 r) (post := fun _ _ => []) (m := impl_compareEnts a b) Try.func63 rfl rfl rfl hm ?_
  intro w S _
  unfold impl_compareEnts
  refine TW.seq ?_
  refine TW.region ?_
  refine TO.ef (Ef.box rfl (Cel.plain rfl rfl)) rfl rfl rfl (fun B1 => ?_)
  refine TO.ef (Ef.box rfl (Cel.plain rfl rfl)) rfl rfl rfl (fun B2 => ?_)
  refine TO.y (Y.assign rfl) rfl rfl rfl ?_
  refine TO.nil ?_
  refine TE.next ?_
  refine TW.seq ?_
  refine TW.draw (isH := [.box B2 31 [strV b.Key, .int .i64 b.Seq, .bool b.Del, strV b.Val], .box B1 31 [strV a.Key, .int .i64 a.Seq, .bool a.Del, strV a.Val]]) hMix ?_
  refine TA.y (listed' := #[true, false, false, false, false, false, false, false, false, false, false, false, false]) 0 [0, 0] rfl (Y.field_box kf31_0 rfl rfl) rfl rfl rfl (by kernel_rfl) (by kernel_rfl) (by kernel_rfl) rfl rfl ?_
  refine TA.y (listed' := #[true, true, false, false, false, false, false, false, false, false, false, false, false]) 1 [0, 0] rfl (Y.load_box (v := strV a.Key) 1 kk9 rfl rfl rfl) rfl rfl rfl (by kernel_rfl) (by kernel_rfl) (by kernel_rfl) rfl rfl ?_
  refine TA.y (listed' := #[true, true, true, false, false, false, false, false, false, false, false, false, false]) 2 [0, 0] rfl (Y.field_box kf31_0 rfl rfl) rfl rfl rfl (by kernel_rfl) (by kernel_rfl) (by kernel_rfl) rfl rfl ?_
  refine TA.y (listed' := #[true, true, true, true, false, false, false, false, false, false, false, false, false]) 3 [0, 0] rfl (Y.load_box (v := strV b.Key) 0 kk9 rfl rfl rfl) rfl rfl rfl (by kernel_rfl) (by kernel_rfl) (by kernel_rfl) rfl rfl ?_
  refine TA.y (listed' := #[true, true, true, true, false, true, false, false, false, false, false, false, false]) 5 [0, 0] rfl (Y.field_box kf31_1 rfl rfl) rfl rfl rfl (by kernel_rfl) (by kernel_rfl) (by kernel_rfl) rfl rfl ?_
  refine TA.y (listed' := #[true, true, true, true, false, true, true, false, false, false, false, false, false]) 6 [0, 0] rfl (Y.load_box (v := .int .i64 b.Seq) 0 kk3 rfl rfl rfl) rfl rfl rfl (by kernel_rfl) (by kernel_rfl) (by kernel_rfl) rfl rfl ?_
  refine TA.y (listed' := #[true, true, true, true, false, true, true, true, false, false, false, false, false]) 7 [0, 0] rfl (Y.field_box kf31_1 rfl rfl) rfl rfl rfl (by kernel_rfl) (by kernel_rfl) (by kernel_rfl) rfl rfl ?_
  refine TA.y (listed' := #[true, true, true, true, false, true, true, true, true, false, false, false, false]) 8 [0, 0] rfl (Y.load_box (v := .int .i64 a.Seq) 1 kk3 rfl rfl rfl) rfl rfl rfl (by kernel_rfl) (by kernel_rfl) (by kernel_rfl) rfl rfl ?_
  refine TA.bind fun R3 H4 => ?_
  refine TA.one 4 (by kernel_rfl) ?_
  refine TX.ef (listed' := #[true, true, true, true, true, true, true, true, true, false, false, false, false]) [0, 0] rfl (Ef.call (rest := [.box B2 31 [strV b.Key, .int .i64 b.Seq, .bool b.Del, strV b.Val], .box B1 31 [strV a.Key, .int .i64 a.Seq, .bool a.Del, strV a.Val]]) [0, 0] (cmp_Compare_83645_con a.Key b.Key  R3 H4) kc88 rfl rfl trivial) rfl rfl rfl rfl (fun _ => rfl) (fun _ => ?_)
  refine TA.bind fun R6 H7 => ?_
  refine TA.one 9 (by kernel_rfl) ?_
  refine TX.ef (listed' := #[true, true, true, true, true, true, true, true, true, true, false, false, false]) [0, 0] rfl (Ef.call (rest := [.box B2 31 [strV b.Key, .int .i64 b.Seq, .bool b.Del, strV b.Val], .box B1 31 [strV a.Key, .int .i64 a.Seq, .bool a.Del, strV a.Val]]) [0, 0] (cmp_Compare_26527_con b.Seq a.Seq  R6 H7) kc89 rfl rfl trivial) rfl rfl rfl rfl (fun _ => rfl) (fun _ => ?_)
  refine TA.one 10 (by kernel_rfl) ?_
  refine TX.ef (listed' := #[true, true, true, true, true, true, true, true, true, true, true, false, false]) [1, 1] rfl (Ef.buildSlice (α := Int) (Vs := [.int .i64 R3, .int .i64 R6]) [R3, R6] ke40 kz3 rfl rfl rfl rfl rfl) rfl rfl rfl rfl (fun _ => rfl) (fun B9 => ?_)
  refine TA.bind fun R10 H11 => ?_
  refine TA.one 11 (by kernel_rfl) ?_
  refine TX.ef (listed' := #[true, true, true, true, true, true, true, true, true, true, true, true, false]) [1, 1] rfl (Ef.call (rest := [.own (.slice (some ⟨B9, 0, none⟩) 2 2) (lc ([R3, R6])), .box B2 31 [strV b.Key, .int .i64 b.Seq, .bool b.Del, strV b.Val], .box B1 31 [strV a.Key, .int .i64 a.Seq, .bool a.Del, strV a.Val]]) [0, 0, 0] (cmp_Or_26527_con ([R3, R6]) (.slice (some ⟨B9, 0, none⟩) 2 2) R10 H11) kc87 rfl rfl ⟨(Can.own 0 rfl), trivial⟩) rfl rfl rfl rfl (fun _ => rfl) (fun _ => ?_)
  refine TA.y (listed' := #[true, true, true, true, true, true, true, true, true, true, true, true, true]) 12 [1, 1] rfl (Y.assign rfl) rfl rfl rfl (by kernel_rfl) (by kernel_rfl) (by kernel_rfl) rfl rfl ?_
  refine TA.nil (by kernel_rfl) ?_
  refine TE.next ?_
  refine TW.ret ?_
  exact TE.leaf fun _ _ hf_ hs_ => ret_any (rs := [.tmp 4]) (vs := [.int .i64 R10]) (.inl rfl) rfl ⟨rfl, trivial⟩ hf_ hs_ ⟨(), rfl, hs_.pulls [] rfl⟩

end Go.Proofs.Ytfnhaaafggdllaa
