/-
  The functions that a law reaches, each as a pure function, with the proof that the program computes it, and the step from a pure law to the given statement. Conditions: none.
-/
import Derived.Test.YtiabgnjihoknnaaSw
import Derived.Test.YtiabgnjihoknnaaRows
set_option linter.unusedVariables false
set_option maxRecDepth 100000
set_option maxHeartbeats 4000000
namespace Go.Proofs.Ytiabgnjihoknnaa
open Go Sl

structure L1Cur where
  b : List UInt8
  i : Int
  h : Int
  deriving DecidableEq
instance : Enc L1Cur := ⟨3, fun x => [lc x.b, .int .i64 x.i, .int .i64 x.h], fun _ => rfl, by decide⟩
instance : Dec L1Cur where
  sh := [.sl 1 (Dec.sh UInt8), .int .i64, .int .i64]
  ok x := okl x.b ∧ okI x.i ∧ okI x.h
  dec cs h := by
    obtain ⟨c0, r0, rfl, h0, h⟩ := h.cons_inv
    obtain ⟨c1, r1, rfl, h1, h⟩ := h.cons_inv
    obtain ⟨c2, r2, rfl, h2, h⟩ := h.cons_inv
    obtain rfl := h.nil_inv
    obtain ⟨y0, rfl, w0⟩ := h0.sl_inv (α := UInt8) rfl
    obtain ⟨y1, rfl, w1_⟩ := h1.int_inv
    have w1 := okI_of w1_
    obtain ⟨y2, rfl, w2_⟩ := h2.int_inv
    have w2 := okI_of w2_
    exact ⟨{ b := y0, i := y1, h := y2 : L1Cur }, rfl, w0, w1, w2⟩
structure File where
  No : Int
  Level : Int
  Lo : List UInt8
  Hi : List UInt8
  deriving DecidableEq
instance : Enc File := ⟨4, fun x => [.int .i64 x.No, .int .i64 x.Level, .str x.Lo, .str x.Hi], fun _ => rfl, by decide⟩
instance : Dec File where
  sh := [.int .i64, .int .i64, .str, .str]
  ok x := okI x.No ∧ okI x.Level ∧ x.Lo.length ≤ 9223372036854775807 ∧ x.Hi.length ≤ 9223372036854775807
  dec cs h := by
    obtain ⟨c0, r0, rfl, h0, h⟩ := h.cons_inv
    obtain ⟨c1, r1, rfl, h1, h⟩ := h.cons_inv
    obtain ⟨c2, r2, rfl, h2, h⟩ := h.cons_inv
    obtain ⟨c3, r3, rfl, h3, h⟩ := h.cons_inv
    obtain rfl := h.nil_inv
    obtain ⟨y0, rfl, w0_⟩ := h0.int_inv
    have w0 := okI_of w0_
    obtain ⟨y1, rfl, w1_⟩ := h1.int_inv
    have w1 := okI_of w1_
    obtain ⟨y2, rfl, w2⟩ := h2.str_inv
    obtain ⟨y3, rfl, w3⟩ := h3.str_inv
    exact ⟨{ No := y0, Level := y1, Lo := y2, Hi := y3 : File }, rfl, w0, w1, w2, w3⟩
instance : Flat File := { vals := fun x => [.int .i64 x.No, .int .i64 x.Level, strV x.Lo, strV x.Hi], flat := fun _ => rfl }
structure Edit where
  Add : List File
  Drop : List Int
  deriving DecidableEq
instance : Enc Edit := ⟨2, fun x => [lc x.Add, lc x.Drop], fun _ => rfl, by decide⟩
instance : Dec Edit where
  sh := [.sl 4 (Dec.sh File), .sl 1 (Dec.sh Int)]
  ok x := okl x.Add ∧ okl x.Drop
  dec cs h := by
    obtain ⟨c0, r0, rfl, h0, h⟩ := h.cons_inv
    obtain ⟨c1, r1, rfl, h1, h⟩ := h.cons_inv
    obtain rfl := h.nil_inv
    obtain ⟨y0, rfl, w0⟩ := h0.sl_inv (α := File) rfl
    obtain ⟨y1, rfl, w1⟩ := h1.sl_inv (α := Int) rfl
    exact ⟨{ Add := y0, Drop := y1 : Edit }, rfl, w0, w1⟩
structure Reader where
  text : List UInt8
  at_ : Int
  bad : Bool
  deriving DecidableEq
instance : Enc Reader := ⟨3, fun x => [.str x.text, .int .i64 x.at_, .bool x.bad], fun _ => rfl, by decide⟩
instance : Dec Reader where
  sh := [.str, .int .i64, .bool]
  ok x := x.text.length ≤ 9223372036854775807 ∧ okI x.at_ ∧ True
  dec cs h := by
    obtain ⟨c0, r0, rfl, h0, h⟩ := h.cons_inv
    obtain ⟨c1, r1, rfl, h1, h⟩ := h.cons_inv
    obtain ⟨c2, r2, rfl, h2, h⟩ := h.cons_inv
    obtain rfl := h.nil_inv
    obtain ⟨y0, rfl, w0⟩ := h0.str_inv
    obtain ⟨y1, rfl, w1_⟩ := h1.int_inv
    have w1 := okI_of w1_
    obtain ⟨y2, rfl⟩ := h2.bool_inv
    have w2 := True.intro
    exact ⟨{ text := y0, at_ := y1, bad := y2 : Reader }, rfl, w0, w1, w2⟩
instance : Flat Reader := { vals := fun x => [strV x.text, .int .i64 x.at_, .bool x.bad], flat := fun _ => rfl }

theorem hMix : Try.prog.follows .mixedOrders = true := by kernel_rfl
theorem ke22 : elemB Try.prog 22 = some (5, 1, 1) := by kernel_rfl
theorem kk5 : kindB Try.prog 5 = some (false, 1) := by kernel_rfl
theorem ki5 : intB Try.prog 5 = some .u8 := by kernel_rfl
theorem ki3 : intB Try.prog 3 = some .i64 := by kernel_rfl
theorem kz94 : zeroB Try.prog 94 = some (.agg #[.slice none 0 0, .int .i64 (0 : Int), .int .i64 (0 : Int)]) := by kernel_rfl
theorem kp94 : placesB Try.prog 94 = some [(0, 1), (1, 1), (2, 1)] := by kernel_rfl
theorem kf94_2 : fieldB Try.prog 94 2 = some 2 := by kernel_rfl
theorem kk3 : kindB Try.prog 3 = some (false, 1) := by kernel_rfl
theorem kf94_1 : fieldB Try.prog 94 1 = some 1 := by kernel_rfl
theorem kf94_0 : fieldB Try.prog 94 0 = some 0 := by kernel_rfl
theorem kk22 : kindB Try.prog 22 = some (false, 1) := by kernel_rfl
theorem kc62 : callB Try.prog 62 = true := by kernel_rfl
theorem kc31 : callB Try.prog 31 = true := by kernel_rfl
theorem ke24 : elemB Try.prog 24 = some (9, 1, 16) := by kernel_rfl
theorem kk9 : kindB Try.prog 9 = some (false, 1) := by kernel_rfl
theorem kz9 : zeroB Try.prog 9 = some (strV ([])) := by kernel_rfl
theorem kc79 : callB Try.prog 79 = true := by kernel_rfl
theorem ke32 : elemB Try.prog 32 = some (3, 1, 8) := by kernel_rfl
theorem kz43 : zeroB Try.prog 43 = some (.agg #[.int .i64 (0 : Int), .int .i64 (0 : Int), strV ([]), strV ([])]) := by kernel_rfl
theorem kc58 : callB Try.prog 58 = true := by kernel_rfl
theorem kp43 : placesB Try.prog 43 = some [(0, 1), (1, 1), (2, 1), (3, 1)] := by kernel_rfl
theorem kk43 : kindB Try.prog 43 = some (true, 4) := by kernel_rfl
theorem kf43_2 : fieldB Try.prog 43 2 = some 2 := by kernel_rfl
theorem kf43_3 : fieldB Try.prog 43 3 = some 3 := by kernel_rfl
theorem kc34 : callB Try.prog 34 = true := by kernel_rfl
theorem kz3 : zeroB Try.prog 3 = some (.int .i64 (0 : Int)) := by kernel_rfl
theorem kc63 : callB Try.prog 63 = true := by kernel_rfl
theorem kf43_0 : fieldB Try.prog 43 0 = some 0 := by kernel_rfl
theorem kf43_1 : fieldB Try.prog 43 1 = some 1 := by kernel_rfl
theorem kz34 : zeroB Try.prog 34 = some (.agg #[.slice none 0 0, .slice none 0 0]) := by kernel_rfl
theorem kp34 : placesB Try.prog 34 = some [(0, 1), (1, 1)] := by kernel_rfl
theorem kk34 : kindB Try.prog 34 = some (true, 2) := by kernel_rfl
theorem ke26 : elemB Try.prog 26 = some (43, 4, 48) := by kernel_rfl
theorem kf34_1 : fieldB Try.prog 34 1 = some 1 := by kernel_rfl
theorem kk32 : kindB Try.prog 32 = some (false, 1) := by kernel_rfl
theorem kf34_0 : fieldB Try.prog 34 0 = some 0 := by kernel_rfl
theorem kk26 : kindB Try.prog 26 = some (false, 1) := by kernel_rfl
theorem kc55 : callB Try.prog 55 = true := by kernel_rfl
theorem ks9 : isStrB Try.prog 9 = true := by kernel_rfl
theorem kc37 : callB Try.prog 37 = true := by kernel_rfl
theorem kc38 : callB Try.prog 38 = true := by kernel_rfl
theorem kc39 : callB Try.prog 39 = true := by kernel_rfl
theorem kc10 : callB Try.prog 10 = true := by kernel_rfl
theorem kc64 : callB Try.prog 64 = true := by kernel_rfl
theorem kc20 : callB Try.prog 20 = true := by kernel_rfl
theorem kz5 : zeroB Try.prog 5 = some (.int .u8 (0 : Int)) := by kernel_rfl
theorem kc66 : callB Try.prog 66 = true := by kernel_rfl
theorem kc65 : callB Try.prog 65 = true := by kernel_rfl
theorem kc67 : callB Try.prog 67 = true := by kernel_rfl
theorem kc69 : callB Try.prog 69 = true := by kernel_rfl
theorem kc68 : callB Try.prog 68 = true := by kernel_rfl
theorem kc70 : callB Try.prog 70 = true := by kernel_rfl
theorem kc30 : callB Try.prog 30 = true := by kernel_rfl
theorem kc32 : callB Try.prog 32 = true := by kernel_rfl
theorem kc33 : callB Try.prog 33 = true := by kernel_rfl
theorem kc35 : callB Try.prog 35 = true := by kernel_rfl
theorem kc36 : callB Try.prog 36 = true := by kernel_rfl
theorem ki112 : intB Try.prog 112 = some .u32 := by kernel_rfl
theorem kc59 : callB Try.prog 59 = true := by kernel_rfl
theorem ki105 : intB Try.prog 105 = some .u64 := by kernel_rfl
theorem kc72 : callB Try.prog 72 = true := by kernel_rfl
theorem kc71 : callB Try.prog 71 = true := by kernel_rfl
theorem kf67_2 : fieldB Try.prog 67 2 = some 2 := by kernel_rfl
theorem kk4 : kindB Try.prog 4 = some (false, 1) := by kernel_rfl
theorem kf67_0 : fieldB Try.prog 67 0 = some 0 := by kernel_rfl
theorem kf67_1 : fieldB Try.prog 67 1 = some 1 := by kernel_rfl
theorem kc73 : callB Try.prog 73 = true := by kernel_rfl
theorem kc41 : callB Try.prog 41 = true := by kernel_rfl
theorem kc74 : callB Try.prog 74 = true := by kernel_rfl
theorem kc76 : callB Try.prog 76 = true := by kernel_rfl
theorem kc49 : callB Try.prog 49 = true := by kernel_rfl
theorem kc47 : callB Try.prog 47 = true := by kernel_rfl
theorem kz76 : zeroB Try.prog 76 = some (.agg #[.pointer none, .slice none 0 0]) := by kernel_rfl
theorem kf76_0 : fieldB Try.prog 76 0 = some 0 := by kernel_rfl
theorem kf76_1 : fieldB Try.prog 76 1 = some 1 := by kernel_rfl
theorem kk74 : kindB Try.prog 74 = some (false, 1) := by kernel_rfl
theorem kc77 : callB Try.prog 77 = true := by kernel_rfl
theorem kp74 : ptrB Try.prog 74 = some (76, 2) := by kernel_rfl
theorem kp106 : ptrB Try.prog 106 = some (5, 1) := by kernel_rfl
theorem ku113 : unsB Try.prog 113 = true := by kernel_rfl
theorem kl76 : liesAt Try.prog Try.prog.depth 76 (2 / Try.prog.cellsOf 76) 0 76 1 = true := by kernel_rfl
theorem kc48 : callB Try.prog 48 = true := by kernel_rfl
theorem kc50 : callB Try.prog 50 = true := by kernel_rfl
theorem kc52 : callB Try.prog 52 = true := by kernel_rfl
theorem kc51 : callB Try.prog 51 = true := by kernel_rfl
theorem kc40 : callB Try.prog 40 = true := by kernel_rfl
theorem kz67 : zeroB Try.prog 67 = some (.agg #[strV ([]), .int .i64 (0 : Int), .bool false]) := by kernel_rfl
theorem kp67 : placesB Try.prog 67 = some [(0, 1), (1, 1), (2, 1)] := by kernel_rfl
theorem kk67 : kindB Try.prog 67 = some (true, 3) := by kernel_rfl
theorem kc42 : callB Try.prog 42 = true := by kernel_rfl
theorem kc43 : callB Try.prog 43 = true := by kernel_rfl
theorem kc15 : callB Try.prog 15 = true := by kernel_rfl
theorem kc86 : callB Try.prog 86 = true := by kernel_rfl
theorem kc85 : callB Try.prog 85 = true := by kernel_rfl
theorem kc84 : callB Try.prog 84 = true := by kernel_rfl
theorem kc88 : callB Try.prog 88 = true := by kernel_rfl
theorem kc89 : callB Try.prog 89 = true := by kernel_rfl
theorem kc80 : callB Try.prog 80 = true := by kernel_rfl
theorem kc81 : callB Try.prog 81 = true := by kernel_rfl
theorem kc75 : callB Try.prog 75 = true := by kernel_rfl
theorem kc60 : callB Try.prog 60 = true := by kernel_rfl
theorem kc56 : callB Try.prog 56 = true := by kernel_rfl
theorem kc44 : callB Try.prog 44 = true := by kernel_rfl
theorem kc45 : callB Try.prog 45 = true := by kernel_rfl
theorem kc61 : callB Try.prog 61 = true := by kernel_rfl
theorem kc57 : callB Try.prog 57 = true := by kernel_rfl
theorem kc28 : callB Try.prog 28 = true := by kernel_rfl
theorem kc19 : callB Try.prog 19 = true := by kernel_rfl
theorem kc12 : callB Try.prog 12 = true := by kernel_rfl
theorem kc13 : callB Try.prog 13 = true := by kernel_rfl
theorem kc78 : callB Try.prog 78 = true := by kernel_rfl
theorem kc53 : callB Try.prog 53 = true := by kernel_rfl
theorem kc54 : callB Try.prog 54 = true := by kernel_rfl
theorem kc17 : callB Try.prog 17 = true := by kernel_rfl
theorem keq43 : eqTB Try.prog 43 = some [0, 0, 2, 2] := by kernel_rfl
theorem kc46 : callB Try.prog 46 = true := by kernel_rfl
theorem kc5 : callB Try.prog 5 = true := by kernel_rfl
theorem kc6 : callB Try.prog 6 = true := by kernel_rfl
theorem kc7 : callB Try.prog 7 = true := by kernel_rfl
theorem kc8 : callB Try.prog 8 = true := by kernel_rfl
theorem kc9 : callB Try.prog 9 = true := by kernel_rfl
theorem kc11 : callB Try.prog 11 = true := by kernel_rfl
theorem kc14 : callB Try.prog 14 = true := by kernel_rfl
theorem kc16 : callB Try.prog 16 = true := by kernel_rfl
theorem kb4 : Try.prog.underlying 4 = some .bool := by kernel_rfl
theorem hu22 : Try.prog.underlying 22 = some (.slice 5) := by kernel_rfl
theorem hs22 : shB Try.prog 20 22 = some ([.sl 1 (Dec.sh UInt8)]) := by kernel_rfl

/-- loop.example/g00950/laws.big -/
noncomputable def laws_big (code : List UInt8) : Option Bool :=
  some (decide (((code.length : Nat) : Int) > (1048576 : Int)))

theorem laws_big_con (code : List UInt8) (V_code0 : Value) (r : Bool) (hm : laws_big code = some r) :
    Con Try.prog 5 [V_code0] [] [(V_code0, lc code)] (fun _ : Unit => .bool r) (fun _ => []) := by
  refine Con.intro (args := [V_code0]) (n := 6) (val := fun r (_ : Unit) => .bool r) (post := fun _ _ => []) (m := laws_big code) Try.func5 rfl rfl rfl hm ?_
  intro w S hrd
  have HB_V_code0 := hrd _ (.head _)
  clear hrd
  unfold laws_big
  refine TW.seq ?_
  refine TW.region ?_
  refine TO.y (Y.assign rfl) rfl rfl rfl ?_
  refine TO.nil ?_
  refine TE.next ?_
  refine TW.seq ?_
  refine TW.region ?_
  refine TO.y (Y.move rfl) rfl rfl rfl ?_
  refine TO.y (Y.len (l := code) ke22 (Base.can HB_V_code0) rfl) rfl rfl rfl ?_
  refine TO.y (Y.gtr rfl rfl) rfl rfl rfl ?_
  refine TO.y (Y.assign rfl) rfl rfl rfl ?_
  refine TO.nil ?_
  refine TE.next ?_
  refine TW.ret ?_
  exact TE.leaf fun _ _ hf_ hs_ => ret_any (rs := [.tmp 2]) (vs := [.bool (decide (((code.length : Nat) : Int) > (1048576 : Int)))]) (.inl rfl) rfl ⟨rfl, trivial⟩ hf_ hs_ ⟨(), rfl, hs_.pulls [] rfl⟩

/-- loop.example/g00950/spec.l1New -/
noncomputable def spec_l1New (code : List UInt8) : Option L1Cur :=
  bindC (loopO (fun (S1 : Int × Int) => (if (decide (S1.2 < ((code.length : Nat) : Int))) = true then (some (decide (S1.2 < (4000 : Int))))
  else (some false)).bind (fun (T5 : Bool) =>
  if T5 = true then ((idx code S1.2).bind fun E9 =>
  some (.go (iand .i64 (IntKind.i64.wrap (IntKind.i64.wrap (IntKind.i64.wrap (S1.1 * (131 : Int)) + (IntKind.i64.wrap ((E9.toNat : Nat) : Int))) + (7 : Int))) (1073741823 : Int), IntKind.i64.wrap (S1.2 + (1 : Int)))))
  else (some (.done (.go S1.1)))))
  (IntKind.i64.wrap ((10101 : Int) + ((code.length : Nat) : Int)), (0 : Int)))
  (fun (T3 : Int) => some ({ b := code, i := (0 : Int), h := T3 : L1Cur }))

theorem spec_l1New_con (code : List UInt8) (V_code0 : Value) (r : L1Cur) (hm : spec_l1New code = some r) :
    Con Try.prog 30 [V_code0] [] [(V_code0, lc code)] (fun X : Nat => .pointer (some ⟨X, 0, none⟩)) (fun X => [.box X 94 [V_code0, .int .i64 r.i, .int .i64 r.h]]) := by
  refine Con.intro (args := [V_code0]) (n := 32) (val := fun _ (X : Nat) => .pointer (some ⟨X, 0, none⟩)) (post := fun r X => [.box X 94 [V_code0, .int .i64 r.i, .int .i64 r.h]]) (m := spec_l1New code) Try.func30 rfl rfl rfl hm ?_
  intro w S hrd
  have HB_V_code0 := hrd _ (.head _)
  clear hrd
  unfold spec_l1New
  refine TW.seq ?_
  refine TW.region ?_
  refine TO.y (Y.assign rfl) rfl rfl rfl ?_
  refine TO.nil ?_
  refine TE.next ?_
  refine TW.seq ?_
  refine TW.region ?_
  refine TO.y (Y.move rfl) rfl rfl rfl ?_
  refine TO.y (Y.len (l := code) ke22 (Base.can HB_V_code0) rfl) rfl rfl rfl ?_
  refine TO.y (Y.add rfl rfl) rfl rfl rfl ?_
  refine TO.y (Y.assign rfl) rfl rfl rfl ?_
  refine TO.nil ?_
  refine TE.next ?_
  refine TW.seq ?_
  refine TW.seq ?_
  refine TW.region ?_
  refine TO.y (Y.assign rfl) rfl rfl rfl ?_
  refine TO.nil ?_
  refine TE.next ?_
  refine TW.joinX (τ := Int) (X := Unit) (fun T _ => [(0, V_code0), (3, .int .i64 T)]) (fun _ _ => []) ?_ (fun T3 X4 => ?_)
  · refine TW.block ?_
    refine TW.loopX (σ := Int × Int) (X := Unit) (fun T _ => [(0, V_code0), (3, .int .i64 T.1), (4, .int .i64 T.2)]) (fun _ _ => []) () [] ⟨rfl, rfl, rfl, trivial⟩ rfl (fun S1 X2 => ?_)
    refine TW.seq ?_
    refine TW.seq ?_
    refine TW.joinBX (τ := Bool) (X := Unit) (fun T _ => [(0, V_code0), (3, .int .i64 S1.1), (4, .int .i64 S1.2), (15, .bool T)]) (fun _ _ => []) ?_ (fun T5 X6 => ?_)
    · refine TW.region ?_
      refine TO.y (Y.move rfl) rfl rfl rfl ?_
      refine TO.y (Y.move rfl) rfl rfl rfl ?_
      refine TO.y (Y.len (l := code) ke22 (Base.can HB_V_code0) rfl) rfl rfl rfl ?_
      refine TO.y (Y.lss rfl rfl) rfl rfl rfl ?_
      refine TO.y (Y.move rfl) rfl rfl rfl ?_
      refine TO.ite (b := decide (S1.2 < ((code.length : Nat) : Int))) (fun H7 => ?_) (fun H7 => ?_)
      · refine TO.y (Y.move rfl) (Gd.at 4 true 12 (decide (S1.2 < ((code.length : Nat) : Int))) rfl rfl rfl (beq_tt H7)) rfl rfl ?_
        refine TO.y (Y.lss rfl rfl) (Gd.at 4 true 12 (decide (S1.2 < ((code.length : Nat) : Int))) rfl rfl rfl (beq_tt H7)) rfl rfl ?_
        refine TO.y (Y.pick_t H7 rfl rfl) rfl rfl rfl ?_
        refine TO.nil ?_
        exact TE.jb_go () [] ⟨rfl, rfl, rfl, rfl, trivial⟩ rfl
      · refine TO.off (Gd.at 4 true 12 (decide (S1.2 < ((code.length : Nat) : Int))) rfl rfl rfl (beq_ft H7)) rfl rfl ?_
        refine TO.off (Gd.at 4 true 12 (decide (S1.2 < ((code.length : Nat) : Int))) rfl rfl rfl (beq_ft H7)) rfl rfl ?_
        refine TO.y (Y.pick_f H7 rfl rfl) rfl rfl rfl ?_
        refine TO.nil ?_
        exact TE.jb_go () [] ⟨rfl, rfl, rfl, rfl, trivial⟩ rfl
    · refine TE.next ?_
      refine TW.cond rfl (fun H8 => ?_) (fun H8 => ?_)
      · refine TW.skip ?_
        refine TE.next ?_
        refine TW.seq ?_
        refine TW.block ?_
        refine TW.region ?_
        refine TO.y (Y.move rfl) rfl rfl rfl ?_
        refine TO.y (Y.mul rfl rfl) rfl rfl rfl ?_
        refine TO.y (Y.move rfl) rfl rfl rfl ?_
        refine TO.y (Y.move rfl) rfl rfl rfl ?_
        refine TO.bind fun E9 H10 => ?_
        refine TO.y (Y.index ke22 (Base.can HB_V_code0) H10 rfl rfl) rfl rfl rfl ?_
        refine TO.y (Y.load_el (us := [.int .u8 ((E9.toNat : Nat) : Int)]) (u := .int .u8 ((E9.toNat : Nat) : Int)) kk5 rfl (Base.can HB_V_code0) (idx_get H10).2.2 rfl rfl rfl rfl rfl) rfl rfl rfl ?_
        refine TO.y (Y.conv ki5 ki3 rfl) rfl rfl rfl ?_
        refine TO.y (Y.add rfl rfl) rfl rfl rfl ?_
        refine TO.y (Y.add rfl rfl) rfl rfl rfl ?_
        refine TO.y (Y.and rfl rfl) rfl rfl rfl ?_
        refine TO.y (Y.assign rfl) rfl rfl rfl ?_
        refine TO.nil ?_
        refine TE.block_normal ?_
        refine TE.next ?_
        refine TW.region ?_
        refine TO.y (Y.move rfl) rfl rfl rfl ?_
        refine TO.y (Y.add rfl rfl) rfl rfl rfl ?_
        refine TO.y (Y.assign rfl) rfl rfl rfl ?_
        refine TO.nil ?_
        exact TE.lp_go () [] ⟨rfl, rfl, rfl, trivial⟩ rfl
      · refine TW.exit ?_
        refine TE.then_exit ?_
        refine TE.lp_exit ?_
        refine TE.block_exit ?_
        exact TE.jn_go () [] ⟨rfl, rfl, trivial⟩ rfl
  · refine TE.next ?_
    refine TW.seq ?_
    refine TW.region ?_
    refine TO.y (Y.move rfl) rfl rfl rfl ?_
    refine TO.y (Y.move rfl) rfl rfl rfl ?_
    refine TO.y (Y.build (cells := [V_code0, .int .i64 (0 : Int), .int .i64 T3]) [(0, [V_code0]), (2, [.int .i64 T3])] kp94 kz94 ⟨rfl, ⟨_, rfl, (Cel.one (One.can (Base.can HB_V_code0)))⟩, ⟨rfl, ⟨_, rfl, (Cel.plain rfl rfl)⟩, trivial⟩⟩ rfl) rfl rfl rfl ?_
    refine TO.ef (Ef.box rfl (Cel.agg ⟨(One.can (Base.can HB_V_code0)), (One.plain rfl), (One.plain rfl), trivial⟩)) rfl rfl rfl (fun B11 => ?_)
    refine TO.y (Y.assign rfl) rfl rfl rfl ?_
    refine TO.nil ?_
    refine TE.next ?_
    refine TW.ret ?_
    exact TE.leaf fun _ _ hf_ hs_ => ret_any (rs := [.tmp 2]) (vs := [.pointer (some ⟨B11, 0, none⟩)]) (.inl rfl) rfl ⟨rfl, trivial⟩ hf_ hs_ ⟨B11, rfl, hs_.pulls [0] rfl⟩

/-- loop.example/g00950/spec.l1Byte -/
noncomputable def spec_l1Byte (c : L1Cur) : Option (Int × L1Cur) :=
  bindC (if (decide (c.i < ((c.b.length : Nat) : Int))) = true then ((idx c.b c.i).bind fun E4 =>
  some (.go (iand .i64 (IntKind.i64.wrap (iand .i64 (ixor .i64 (ishr .i64 (IntKind.i64.wrap (IntKind.i64.wrap (c.h * (6364136223846793005 : Int)) + (1442695040888963407 : Int))) (33 : Int)) (ishr .i64 (IntKind.i64.wrap (IntKind.i64.wrap (c.h * (6364136223846793005 : Int)) + (1442695040888963407 : Int))) (45 : Int))) (255 : Int) + (IntKind.i64.wrap ((E4.toNat : Nat) : Int)))) (255 : Int), IntKind.i64.wrap (c.i + (1 : Int)))))
  else (some (.go (iand .i64 (ixor .i64 (ishr .i64 (IntKind.i64.wrap (IntKind.i64.wrap (c.h * (6364136223846793005 : Int)) + (1442695040888963407 : Int))) (33 : Int)) (ishr .i64 (IntKind.i64.wrap (IntKind.i64.wrap (c.h * (6364136223846793005 : Int)) + (1442695040888963407 : Int))) (45 : Int))) (255 : Int), c.i))))
  (fun (T1 : Int × Int) => some (T1.1, { b := c.b, i := T1.2, h := IntKind.i64.wrap (IntKind.i64.wrap (c.h * (6364136223846793005 : Int)) + (1442695040888963407 : Int)) : L1Cur }))

theorem spec_l1Byte_con (c : L1Cur) (V_c0 : Value) (B_c : Nat) (r : Int × L1Cur) (hm : spec_l1Byte c = some r) :
    Con Try.prog 62 [.pointer (some ⟨B_c, 0, none⟩)] [.box B_c 94 [V_c0, .int .i64 c.i, .int .i64 c.h]] [(V_c0, lc c.b)] (fun _ : Unit => .int .i64 r.1) (fun _ => [.box B_c 94 [V_c0, .int .i64 r.2.i, .int .i64 r.2.h]]) := by
  refine Con.intro (args := [.pointer (some ⟨B_c, 0, none⟩)]) (n := 58) (val := fun r (_ : Unit) => .int .i64 r.1) (post := fun r _ => [.box B_c 94 [V_c0, .int .i64 r.2.i, .int .i64 r.2.h]]) (m := spec_l1Byte c) Try.func62 rfl rfl rfl hm ?_
  intro w S hrd
  have HB_V_c0 := hrd _ (.head _)
  clear hrd
  unfold spec_l1Byte
  refine TW.seq ?_
  refine TW.region ?_
  refine TO.y (Y.assign rfl) rfl rfl rfl ?_
  refine TO.nil ?_
  refine TE.next ?_
  refine TW.seq ?_
  refine TW.region ?_
  refine TO.y (Y.move rfl) rfl rfl rfl ?_
  refine TO.y (Y.move rfl) rfl rfl rfl ?_
  refine TO.y (Y.nilCheck rfl) rfl rfl rfl ?_
  refine TO.y (Y.field_box kf94_2 rfl rfl) rfl rfl rfl ?_
  refine TO.y (Y.load_box (v := .int .i64 c.h) 0 kk3 rfl rfl rfl) rfl rfl rfl ?_
  refine TO.y (Y.mul rfl rfl) rfl rfl rfl ?_
  refine TO.y (Y.add rfl rfl) rfl rfl rfl ?_
  refine TO.y (Y.nilCheck rfl) rfl rfl rfl ?_
  refine TO.y (Y.field_box kf94_2 rfl rfl) rfl rfl rfl ?_
  refine TO.ef0 (Ef.store_box (us := [.int .i64 (IntKind.i64.wrap (IntKind.i64.wrap (c.h * (6364136223846793005 : Int)) + (1442695040888963407 : Int)))]) (vs' := [V_c0, .int .i64 c.i, .int .i64 (IntKind.i64.wrap (IntKind.i64.wrap (c.h * (6364136223846793005 : Int)) + (1442695040888963407 : Int)))]) (is' := [.box B_c 94 [V_c0, .int .i64 c.i, .int .i64 (IntKind.i64.wrap (IntKind.i64.wrap (c.h * (6364136223846793005 : Int)) + (1442695040888963407 : Int)))]]) 0 kk3 rfl rfl rfl (Cel.plain rfl rfl) rfl rfl rfl rfl) rfl rfl (fun _ => ?_)
  refine TO.nil ?_
  refine TE.next ?_
  refine TW.seq ?_
  refine TW.draw (isH := [.box B_c 94 [V_c0, .int .i64 c.i, .int .i64 (IntKind.i64.wrap (IntKind.i64.wrap (c.h * (6364136223846793005 : Int)) + (1442695040888963407 : Int)))]]) hMix ?_
  refine TA.y (listed' := #[true, false, false, false, false, false, false, false, false, false, false, false, false]) 0 [0] rfl (Y.move rfl) rfl rfl rfl (by kernel_rfl) (by kernel_rfl) (by kernel_rfl) rfl rfl ?_
  refine TA.y (listed' := #[true, true, false, false, false, false, false, false, false, false, false, false, false]) 1 [0] rfl (Y.nilCheck rfl) rfl rfl rfl (by kernel_rfl) (by kernel_rfl) (by kernel_rfl) rfl rfl ?_
  refine TA.y (listed' := #[true, true, true, false, false, false, false, false, false, false, false, false, false]) 2 [0] rfl (Y.field_box kf94_2 rfl rfl) rfl rfl rfl (by kernel_rfl) (by kernel_rfl) (by kernel_rfl) rfl rfl ?_
  refine TA.y (listed' := #[true, true, true, true, false, false, false, false, false, false, false, false, false]) 3 [0] rfl (Y.load_box (v := .int .i64 (IntKind.i64.wrap (IntKind.i64.wrap (c.h * (6364136223846793005 : Int)) + (1442695040888963407 : Int)))) 0 kk3 rfl rfl rfl) rfl rfl rfl (by kernel_rfl) (by kernel_rfl) (by kernel_rfl) rfl rfl ?_
  refine TA.y (listed' := #[true, true, true, true, true, false, false, false, false, false, false, false, false]) 4 [0] rfl (Y.shr (by decide) rfl rfl) rfl rfl rfl (by kernel_rfl) (by kernel_rfl) (by kernel_rfl) rfl rfl ?_
  refine TA.y (listed' := #[true, true, true, true, true, true, false, false, false, false, false, false, false]) 5 [0] rfl (Y.move rfl) rfl rfl rfl (by kernel_rfl) (by kernel_rfl) (by kernel_rfl) rfl rfl ?_
  refine TA.y (listed' := #[true, true, true, true, true, true, true, false, false, false, false, false, false]) 6 [0] rfl (Y.nilCheck rfl) rfl rfl rfl (by kernel_rfl) (by kernel_rfl) (by kernel_rfl) rfl rfl ?_
  refine TA.y (listed' := #[true, true, true, true, true, true, true, true, false, false, false, false, false]) 7 [0] rfl (Y.field_box kf94_2 rfl rfl) rfl rfl rfl (by kernel_rfl) (by kernel_rfl) (by kernel_rfl) rfl rfl ?_
  refine TA.y (listed' := #[true, true, true, true, true, true, true, true, true, false, false, false, false]) 8 [0] rfl (Y.load_box (v := .int .i64 (IntKind.i64.wrap (IntKind.i64.wrap (c.h * (6364136223846793005 : Int)) + (1442695040888963407 : Int)))) 0 kk3 rfl rfl rfl) rfl rfl rfl (by kernel_rfl) (by kernel_rfl) (by kernel_rfl) rfl rfl ?_
  refine TA.y (listed' := #[true, true, true, true, true, true, true, true, true, true, false, false, false]) 9 [0] rfl (Y.shr (by decide) rfl rfl) rfl rfl rfl (by kernel_rfl) (by kernel_rfl) (by kernel_rfl) rfl rfl ?_
  refine TA.y (listed' := #[true, true, true, true, true, true, true, true, true, true, true, false, false]) 10 [0] rfl (Y.xor rfl rfl) rfl rfl rfl (by kernel_rfl) (by kernel_rfl) (by kernel_rfl) rfl rfl ?_
  refine TA.y (listed' := #[true, true, true, true, true, true, true, true, true, true, true, true, false]) 11 [0] rfl (Y.and rfl rfl) rfl rfl rfl (by kernel_rfl) (by kernel_rfl) (by kernel_rfl) rfl rfl ?_
  refine TA.y (listed' := #[true, true, true, true, true, true, true, true, true, true, true, true, true]) 12 [0] rfl (Y.assign rfl) rfl rfl rfl (by kernel_rfl) (by kernel_rfl) (by kernel_rfl) rfl rfl ?_
  refine TA.nil (by kernel_rfl) ?_
  refine TE.next ?_
  refine TW.seq ?_
  refine TW.seq ?_
  refine TW.draw (isH := [.box B_c 94 [V_c0, .int .i64 c.i, .int .i64 (IntKind.i64.wrap (IntKind.i64.wrap (c.h * (6364136223846793005 : Int)) + (1442695040888963407 : Int)))]]) hMix ?_
  refine TA.y (listed' := #[true, false, false, false, false, false, false, false, false, false]) 0 [0] rfl (Y.move rfl) rfl rfl rfl (by kernel_rfl) (by kernel_rfl) (by kernel_rfl) rfl rfl ?_
  refine TA.y (listed' := #[true, true, false, false, false, false, false, false, false, false]) 1 [0] rfl (Y.nilCheck rfl) rfl rfl rfl (by kernel_rfl) (by kernel_rfl) (by kernel_rfl) rfl rfl ?_
  refine TA.y (listed' := #[true, true, true, false, false, false, false, false, false, false]) 2 [0] rfl (Y.field_box kf94_1 rfl rfl) rfl rfl rfl (by kernel_rfl) (by kernel_rfl) (by kernel_rfl) rfl rfl ?_
  refine TA.y (listed' := #[true, true, true, true, false, false, false, false, false, false]) 3 [0] rfl (Y.load_box (v := .int .i64 c.i) 0 kk3 rfl rfl rfl) rfl rfl rfl (by kernel_rfl) (by kernel_rfl) (by kernel_rfl) rfl rfl ?_
  refine TA.y (listed' := #[true, true, true, true, true, false, false, false, false, false]) 4 [0] rfl (Y.move rfl) rfl rfl rfl (by kernel_rfl) (by kernel_rfl) (by kernel_rfl) rfl rfl ?_
  refine TA.y (listed' := #[true, true, true, true, true, true, false, false, false, false]) 5 [0] rfl (Y.nilCheck rfl) rfl rfl rfl (by kernel_rfl) (by kernel_rfl) (by kernel_rfl) rfl rfl ?_
  refine TA.y (listed' := #[true, true, true, true, true, true, true, false, false, false]) 6 [0] rfl (Y.field_box kf94_0 rfl rfl) rfl rfl rfl (by kernel_rfl) (by kernel_rfl) (by kernel_rfl) rfl rfl ?_
  refine TA.y (listed' := #[true, true, true, true, true, true, true, true, false, false]) 7 [0] rfl (Y.load_box (v := V_c0) 0 kk22 rfl rfl rfl) rfl rfl rfl (by kernel_rfl) (by kernel_rfl) (by kernel_rfl) rfl rfl ?_
  refine TA.y (listed' := #[true, true, true, true, true, true, true, true, true, false]) 8 [0] rfl (Y.len (l := c.b) ke22 (Base.can HB_V_c0) rfl) rfl rfl rfl (by kernel_rfl) (by kernel_rfl) (by kernel_rfl) rfl rfl ?_
  refine TA.y (listed' := #[true, true, true, true, true, true, true, true, true, true]) 9 [0] rfl (Y.lss rfl rfl) rfl rfl rfl (by kernel_rfl) (by kernel_rfl) (by kernel_rfl) rfl rfl ?_
  refine TA.nil (by kernel_rfl) ?_
  refine TE.next ?_
  refine TW.joinX (τ := Int × Int) (X := Unit) (fun T _ => [(3, .int .i64 T.1)]) (fun T _ => [.box B_c 94 [V_c0, .int .i64 T.2, .int .i64 (IntKind.i64.wrap (IntKind.i64.wrap (c.h * (6364136223846793005 : Int)) + (1442695040888963407 : Int)))]]) ?_ (fun T1 X2 => ?_)
  · refine TW.cond rfl (fun H3 => ?_) (fun H3 => ?_)
    · refine TW.seq ?_
      refine TW.draw (isH := [.box B_c 94 [V_c0, .int .i64 c.i, .int .i64 (IntKind.i64.wrap (IntKind.i64.wrap (c.h * (6364136223846793005 : Int)) + (1442695040888963407 : Int)))]]) hMix ?_
      refine TA.y (listed' := #[true, false, false, false, false, false, false, false, false, false, false, false, false, false, false]) 0 [0] rfl (Y.move rfl) rfl rfl rfl (by kernel_rfl) (by kernel_rfl) (by kernel_rfl) rfl rfl ?_
      refine TA.y (listed' := #[true, true, false, false, false, false, false, false, false, false, false, false, false, false, false]) 1 [0] rfl (Y.move rfl) rfl rfl rfl (by kernel_rfl) (by kernel_rfl) (by kernel_rfl) rfl rfl ?_
      refine TA.y (listed' := #[true, true, true, false, false, false, false, false, false, false, false, false, false, false, false]) 2 [0] rfl (Y.nilCheck rfl) rfl rfl rfl (by kernel_rfl) (by kernel_rfl) (by kernel_rfl) rfl rfl ?_
      refine TA.y (listed' := #[true, true, true, true, false, false, false, false, false, false, false, false, false, false, false]) 3 [0] rfl (Y.field_box kf94_0 rfl rfl) rfl rfl rfl (by kernel_rfl) (by kernel_rfl) (by kernel_rfl) rfl rfl ?_
      refine TA.y (listed' := #[true, true, true, true, true, false, false, false, false, false, false, false, false, false, false]) 4 [0] rfl (Y.load_box (v := V_c0) 0 kk22 rfl rfl rfl) rfl rfl rfl (by kernel_rfl) (by kernel_rfl) (by kernel_rfl) rfl rfl ?_
      refine TA.y (listed' := #[true, true, true, true, true, true, false, false, false, false, false, false, false, false, false]) 5 [0] rfl (Y.move rfl) rfl rfl rfl (by kernel_rfl) (by kernel_rfl) (by kernel_rfl) rfl rfl ?_
      refine TA.y (listed' := #[true, true, true, true, true, true, true, false, false, false, false, false, false, false, false]) 6 [0] rfl (Y.nilCheck rfl) rfl rfl rfl (by kernel_rfl) (by kernel_rfl) (by kernel_rfl) rfl rfl ?_
      refine TA.y (listed' := #[true, true, true, true, true, true, true, true, false, false, false, false, false, false, false]) 7 [0] rfl (Y.field_box kf94_1 rfl rfl) rfl rfl rfl (by kernel_rfl) (by kernel_rfl) (by kernel_rfl) rfl rfl ?_
      refine TA.y (listed' := #[true, true, true, true, true, true, true, true, true, false, false, false, false, false, false]) 8 [0] rfl (Y.load_box (v := .int .i64 c.i) 0 kk3 rfl rfl rfl) rfl rfl rfl (by kernel_rfl) (by kernel_rfl) (by kernel_rfl) rfl rfl ?_
      refine TA.bind fun E4 H5 => ?_
      refine TA.y (listed' := #[true, true, true, true, true, true, true, true, true, true, false, false, false, false, false]) 9 [0] rfl (Y.index ke22 (Base.can HB_V_c0) H5 rfl rfl) rfl rfl rfl (by kernel_rfl) (by kernel_rfl) (by kernel_rfl) rfl rfl ?_
      refine TA.y (listed' := #[true, true, true, true, true, true, true, true, true, true, true, false, false, false, false]) 10 [0] rfl (Y.load_el (us := [.int .u8 ((E4.toNat : Nat) : Int)]) (u := .int .u8 ((E4.toNat : Nat) : Int)) kk5 rfl (Base.can HB_V_c0) (idx_get H5).2.2 rfl rfl rfl rfl rfl) rfl rfl rfl (by kernel_rfl) (by kernel_rfl) (by kernel_rfl) rfl rfl ?_
      refine TA.y (listed' := #[true, true, true, true, true, true, true, true, true, true, true, true, false, false, false]) 11 [0] rfl (Y.conv ki5 ki3 rfl) rfl rfl rfl (by kernel_rfl) (by kernel_rfl) (by kernel_rfl) rfl rfl ?_
      refine TA.y (listed' := #[true, true, true, true, true, true, true, true, true, true, true, true, true, false, false]) 12 [0] rfl (Y.add rfl rfl) rfl rfl rfl (by kernel_rfl) (by kernel_rfl) (by kernel_rfl) rfl rfl ?_
      refine TA.y (listed' := #[true, true, true, true, true, true, true, true, true, true, true, true, true, true, false]) 13 [0] rfl (Y.and rfl rfl) rfl rfl rfl (by kernel_rfl) (by kernel_rfl) (by kernel_rfl) rfl rfl ?_
      refine TA.y (listed' := #[true, true, true, true, true, true, true, true, true, true, true, true, true, true, true]) 14 [0] rfl (Y.assign rfl) rfl rfl rfl (by kernel_rfl) (by kernel_rfl) (by kernel_rfl) rfl rfl ?_
      refine TA.nil (by kernel_rfl) ?_
      refine TE.next ?_
      refine TW.region ?_
      refine TO.y (Y.move rfl) rfl rfl rfl ?_
      refine TO.y (Y.move rfl) rfl rfl rfl ?_
      refine TO.y (Y.nilCheck rfl) rfl rfl rfl ?_
      refine TO.y (Y.field_box kf94_1 rfl rfl) rfl rfl rfl ?_
      refine TO.y (Y.load_box (v := .int .i64 c.i) 0 kk3 rfl rfl rfl) rfl rfl rfl ?_
      refine TO.y (Y.add rfl rfl) rfl rfl rfl ?_
      refine TO.y (Y.nilCheck rfl) rfl rfl rfl ?_
      refine TO.y (Y.field_box kf94_1 rfl rfl) rfl rfl rfl ?_
      refine TO.ef0 (Ef.store_box (us := [.int .i64 (IntKind.i64.wrap (c.i + (1 : Int)))]) (vs' := [V_c0, .int .i64 (IntKind.i64.wrap (c.i + (1 : Int))), .int .i64 (IntKind.i64.wrap (IntKind.i64.wrap (c.h * (6364136223846793005 : Int)) + (1442695040888963407 : Int)))]) (is' := [.box B_c 94 [V_c0, .int .i64 (IntKind.i64.wrap (c.i + (1 : Int))), .int .i64 (IntKind.i64.wrap (IntKind.i64.wrap (c.h * (6364136223846793005 : Int)) + (1442695040888963407 : Int)))]]) 0 kk3 rfl rfl rfl (Cel.plain rfl rfl) rfl rfl rfl rfl) rfl rfl (fun _ => ?_)
      refine TO.nil ?_
      exact TE.jn_go () [0] ⟨rfl, trivial⟩ rfl
    · refine TW.skip ?_
      exact TE.jn_go () [0] ⟨rfl, trivial⟩ rfl
  · refine TE.next ?_
    refine TW.seq ?_
    refine TW.region ?_
    refine TO.y (Y.move rfl) rfl rfl rfl ?_
    refine TO.y (Y.assign rfl) rfl rfl rfl ?_
    refine TO.nil ?_
    refine TE.next ?_
    refine TW.ret ?_
    exact TE.leaf fun _ _ hf_ hs_ => ret_any (rs := [.tmp 2]) (vs := [.int .i64 T1.1]) (.inl rfl) rfl ⟨rfl, trivial⟩ hf_ hs_ ⟨(), rfl, hs_.pulls [0] rfl⟩

/-- loop.example/g00950/spec.l1Below -/
noncomputable def spec_l1Below (c : L1Cur) (n : Int) : Option (Int × L1Cur) :=
  if (decide (n ≤ (0 : Int))) = true then (some ((0 : Int), c))
  else (if (decide (n ≤ (256 : Int))) = true then ((spec_l1Byte c).bind fun R3 =>
  (nz n).bind fun E6 =>
  some (Int.tmod R3.1 n, { b := c.b, i := R3.2.i, h := R3.2.h : L1Cur }))
  else ((spec_l1Byte c).bind fun R8 =>
  (spec_l1Byte ({ b := c.b, i := R8.2.i, h := R8.2.h : L1Cur })).bind fun R11 =>
  (spec_l1Byte ({ b := c.b, i := R11.2.i, h := R11.2.h : L1Cur })).bind fun R14 =>
  (spec_l1Byte ({ b := c.b, i := R14.2.i, h := R14.2.h : L1Cur })).bind fun R17 =>
  (nz n).bind fun E20 =>
  some (Int.tmod (IntKind.i64.wrap (IntKind.i64.wrap (IntKind.i64.wrap (IntKind.i64.wrap (R8.1 * (16777216 : Int)) + (IntKind.i64.wrap (R11.1 * (65536 : Int)))) + (IntKind.i64.wrap (R14.1 * (256 : Int)))) + R17.1)) n, { b := c.b, i := R17.2.i, h := R17.2.h : L1Cur })))

theorem spec_l1Below_con (c : L1Cur) (n : Int) (V_c0 : Value) (B_c : Nat) (r : Int × L1Cur) (hm : spec_l1Below c n = some r) :
    Con Try.prog 31 [.pointer (some ⟨B_c, 0, none⟩), .int .i64 n] [.box B_c 94 [V_c0, .int .i64 c.i, .int .i64 c.h]] [(V_c0, lc c.b)] (fun _ : Unit => .int .i64 r.1) (fun _ => [.box B_c 94 [V_c0, .int .i64 r.2.i, .int .i64 r.2.h]]) := by
  refine Con.intro (args := [.pointer (some ⟨B_c, 0, none⟩), .int .i64 n]) (n := 37) (val := fun r (_ : Unit) => .int .i64 r.1) (post := fun r _ => [.box B_c 94 [V_c0, .int .i64 r.2.i, .int .i64 r.2.h]]) (m := spec_l1Below c n) Try.func31 rfl rfl rfl hm ?_
  intro w S hrd
  have HB_V_c0 := hrd _ (.head _)
  clear hrd
  unfold spec_l1Below
  refine TW.seq ?_
  refine TW.region ?_
  refine TO.y (Y.assign rfl) rfl rfl rfl ?_
  refine TO.nil ?_
  refine TE.next ?_
  refine TW.seq ?_
  refine TW.seq ?_
  refine TW.region ?_
  refine TO.y (Y.move rfl) rfl rfl rfl ?_
  refine TO.y (Y.leq rfl rfl) rfl rfl rfl ?_
  refine TO.nil ?_
  refine TE.next ?_
  refine TW.cond rfl (fun H1 => ?_) (fun H1 => ?_)
  · refine TW.seq ?_
    refine TW.region ?_
    refine TO.y (Y.assign rfl) rfl rfl rfl ?_
    refine TO.nil ?_
    refine TE.next ?_
    refine TW.ret ?_
    refine TE.then_ret ?_
    exact TE.leaf fun _ _ hf_ hs_ => ret_any (rs := [.tmp 4]) (vs := [.int .i64 (0 : Int)]) (.inl rfl) rfl ⟨rfl, trivial⟩ hf_ hs_ ⟨(), rfl, hs_.pulls [0] rfl⟩
  · refine TW.skip ?_
    refine TE.next ?_
    refine TW.seq ?_
    refine TW.seq ?_
    refine TW.region ?_
    refine TO.y (Y.move rfl) rfl rfl rfl ?_
    refine TO.y (Y.leq rfl rfl) rfl rfl rfl ?_
    refine TO.nil ?_
    refine TE.next ?_
    refine TW.cond rfl (fun H2 => ?_) (fun H2 => ?_)
    · refine TW.seq ?_
      refine TW.region ?_
      refine TO.y (Y.move rfl) rfl rfl rfl ?_
      refine TO.bind fun R3 H4 => ?_
      refine TO.ef (Ef.call (rest := []) [0] (spec_l1Byte_con c V_c0 B_c R3 H4) kc62 rfl rfl ⟨(Base.can HB_V_c0), trivial⟩) rfl rfl rfl (fun _ => ?_)
      refine TO.y (Y.move rfl) rfl rfl rfl ?_
      refine TO.bind fun E6 H7 => ?_
      refine TO.y (Y.rem (nz_ne H7) rfl rfl) rfl rfl rfl ?_
      refine TO.y (Y.assign rfl) rfl rfl rfl ?_
      refine TO.nil ?_
      refine TE.next ?_
      refine TW.ret ?_
      refine TE.then_ret ?_
      exact TE.leaf fun _ _ hf_ hs_ => ret_any (rs := [.tmp 4]) (vs := [.int .i64 (Int.tmod R3.1 n)]) (.inl rfl) rfl ⟨rfl, trivial⟩ hf_ hs_ ⟨(), rfl, hs_.pulls [0] rfl⟩
    · refine TW.skip ?_
      refine TE.next ?_
      refine TW.seq ?_
      refine TW.region ?_
      refine TO.y (Y.move rfl) rfl rfl rfl ?_
      refine TO.bind fun R8 H9 => ?_
      refine TO.ef (Ef.call (rest := []) [0] (spec_l1Byte_con c V_c0 B_c R8 H9) kc62 rfl rfl ⟨(Base.can HB_V_c0), trivial⟩) rfl rfl rfl (fun _ => ?_)
      refine TO.y (Y.assign rfl) rfl rfl rfl ?_
      refine TO.nil ?_
      refine TE.next ?_
      refine TW.seq ?_
      refine TW.region ?_
      refine TO.y (Y.move rfl) rfl rfl rfl ?_
      refine TO.bind fun R11 H12 => ?_
      refine TO.ef (Ef.call (rest := []) [0] (spec_l1Byte_con ({ b := c.b, i := R8.2.i, h := R8.2.h : L1Cur }) V_c0 B_c R11 H12) kc62 rfl rfl ⟨(Base.can HB_V_c0), trivial⟩) rfl rfl rfl (fun _ => ?_)
      refine TO.y (Y.assign rfl) rfl rfl rfl ?_
      refine TO.nil ?_
      refine TE.next ?_
      refine TW.seq ?_
      refine TW.region ?_
      refine TO.y (Y.move rfl) rfl rfl rfl ?_
      refine TO.bind fun R14 H15 => ?_
      refine TO.ef (Ef.call (rest := []) [0] (spec_l1Byte_con ({ b := c.b, i := R11.2.i, h := R11.2.h : L1Cur }) V_c0 B_c R14 H15) kc62 rfl rfl ⟨(Base.can HB_V_c0), trivial⟩) rfl rfl rfl (fun _ => ?_)
      refine TO.y (Y.assign rfl) rfl rfl rfl ?_
      refine TO.nil ?_
      refine TE.next ?_
      refine TW.seq ?_
      refine TW.region ?_
      refine TO.y (Y.move rfl) rfl rfl rfl ?_
      refine TO.bind fun R17 H18 => ?_
      refine TO.ef (Ef.call (rest := []) [0] (spec_l1Byte_con ({ b := c.b, i := R14.2.i, h := R14.2.h : L1Cur }) V_c0 B_c R17 H18) kc62 rfl rfl ⟨(Base.can HB_V_c0), trivial⟩) rfl rfl rfl (fun _ => ?_)
      refine TO.y (Y.assign rfl) rfl rfl rfl ?_
      refine TO.nil ?_
      refine TE.next ?_
      refine TW.seq ?_
      refine TW.region ?_
      refine TO.y (Y.move rfl) rfl rfl rfl ?_
      refine TO.y (Y.mul rfl rfl) rfl rfl rfl ?_
      refine TO.y (Y.move rfl) rfl rfl rfl ?_
      refine TO.y (Y.mul rfl rfl) rfl rfl rfl ?_
      refine TO.y (Y.add rfl rfl) rfl rfl rfl ?_
      refine TO.y (Y.move rfl) rfl rfl rfl ?_
      refine TO.y (Y.mul rfl rfl) rfl rfl rfl ?_
      refine TO.y (Y.add rfl rfl) rfl rfl rfl ?_
      refine TO.y (Y.move rfl) rfl rfl rfl ?_
      refine TO.y (Y.add rfl rfl) rfl rfl rfl ?_
      refine TO.y (Y.move rfl) rfl rfl rfl ?_
      refine TO.bind fun E20 H21 => ?_
      refine TO.y (Y.rem (nz_ne H21) rfl rfl) rfl rfl rfl ?_
      refine TO.y (Y.assign rfl) rfl rfl rfl ?_
      refine TO.nil ?_
      refine TE.next ?_
      refine TW.ret ?_
      exact TE.leaf fun _ _ hf_ hs_ => ret_any (rs := [.tmp 4]) (vs := [.int .i64 (Int.tmod (IntKind.i64.wrap (IntKind.i64.wrap (IntKind.i64.wrap (IntKind.i64.wrap (R8.1 * (16777216 : Int)) + (IntKind.i64.wrap (R11.1 * (65536 : Int)))) + (IntKind.i64.wrap (R14.1 * (256 : Int)))) + R17.1)) n)]) (.inl rfl) rfl ⟨rfl, trivial⟩ hf_ hs_ ⟨(), rfl, hs_.pulls [0] rfl⟩

/-- loop.example/g00950/spec.l1Once -/
noncomputable def spec_l1Once (c : L1Cur) (n : Int) : Option (Bool × L1Cur) :=
  (spec_l1Below c n).bind fun R1 =>
  some (decide (R1.1 = (0 : Int)), { b := c.b, i := R1.2.i, h := R1.2.h : L1Cur })

theorem spec_l1Once_con (c : L1Cur) (n : Int) (V_c0 : Value) (B_c : Nat) (r : Bool × L1Cur) (hm : spec_l1Once c n = some r) :
    Con Try.prog 34 [.pointer (some ⟨B_c, 0, none⟩), .int .i64 n] [.box B_c 94 [V_c0, .int .i64 c.i, .int .i64 c.h]] [(V_c0, lc c.b)] (fun _ : Unit => .bool r.1) (fun _ => [.box B_c 94 [V_c0, .int .i64 r.2.i, .int .i64 r.2.h]]) := by
  refine Con.intro (args := [.pointer (some ⟨B_c, 0, none⟩), .int .i64 n]) (n := 9) (val := fun r (_ : Unit) => .bool r.1) (post := fun r _ => [.box B_c 94 [V_c0, .int .i64 r.2.i, .int .i64 r.2.h]]) (m := spec_l1Once c n) Try.func34 rfl rfl rfl hm ?_
  intro w S hrd
  have HB_V_c0 := hrd _ (.head _)
  clear hrd
  unfold spec_l1Once
  refine TW.seq ?_
  refine TW.region ?_
  refine TO.y (Y.assign rfl) rfl rfl rfl ?_
  refine TO.nil ?_
  refine TE.next ?_
  refine TW.seq ?_
  refine TW.region ?_
  refine TO.y (Y.move rfl) rfl rfl rfl ?_
  refine TO.y (Y.move rfl) rfl rfl rfl ?_
  refine TO.bind fun R1 H2 => ?_
  refine TO.ef (Ef.call (rest := []) [0] (spec_l1Below_con c n V_c0 B_c R1 H2) kc31 rfl rfl ⟨(Base.can HB_V_c0), trivial⟩) rfl rfl rfl (fun _ => ?_)
  refine TO.y (Y.eql rfl rfl) rfl rfl rfl ?_
  refine TO.y (Y.assign rfl) rfl rfl rfl ?_
  refine TO.nil ?_
  refine TE.next ?_
  refine TW.ret ?_
  exact TE.leaf fun _ _ hf_ hs_ => ret_any (rs := [.tmp 4]) (vs := [.bool (decide (R1.1 = (0 : Int)))]) (.inl rfl) rfl ⟨rfl, trivial⟩ hf_ hs_ ⟨(), rfl, hs_.pulls [0] rfl⟩

/-- loop.example/g00950/spec.l1Pick -/
noncomputable def spec_l1Pick (c : L1Cur) (list : List (List UInt8)) : Option (List UInt8 × L1Cur) :=
  (spec_l1Below c ((list.length : Nat) : Int)).bind fun R1 =>
  (idx list R1.1).bind fun E4 =>
  some (E4, { b := c.b, i := R1.2.i, h := R1.2.h : L1Cur })

theorem spec_l1Pick_con (c : L1Cur) (list : List (List UInt8)) (V_c0 : Value) (B_c : Nat) (V_list0 : Value) (r : List UInt8 × L1Cur) (hm : spec_l1Pick c list = some r) :
    Con Try.prog 79 [.pointer (some ⟨B_c, 0, none⟩), V_list0] [.box B_c 94 [V_c0, .int .i64 c.i, .int .i64 c.h]] [(V_c0, lc c.b), (V_list0, lc list)] (fun _ : Unit => strV r.1) (fun _ => [.box B_c 94 [V_c0, .int .i64 r.2.i, .int .i64 r.2.h]]) := by
  refine Con.intro (args := [.pointer (some ⟨B_c, 0, none⟩), V_list0]) (n := 12) (val := fun r (_ : Unit) => strV r.1) (post := fun r _ => [.box B_c 94 [V_c0, .int .i64 r.2.i, .int .i64 r.2.h]]) (m := spec_l1Pick c list) Try.func79 rfl rfl rfl hm ?_
  intro w S hrd
  have HB_V_c0 := hrd _ (.head _)
  have HB_V_list0 := hrd _ (.tail _ (.head _))
  clear hrd
  unfold spec_l1Pick
  refine TW.seq ?_
  refine TW.region ?_
  refine TO.y (Y.assign rfl) rfl rfl rfl ?_
  refine TO.nil ?_
  refine TE.next ?_
  refine TW.seq ?_
  refine TW.region ?_
  refine TO.y (Y.move rfl) rfl rfl rfl ?_
  refine TO.y (Y.move rfl) rfl rfl rfl ?_
  refine TO.y (Y.move rfl) rfl rfl rfl ?_
  refine TO.y (Y.len (l := list) ke24 (Base.can HB_V_list0) rfl) rfl rfl rfl ?_
  refine TO.bind fun R1 H2 => ?_
  refine TO.ef (Ef.call (rest := []) [0] (spec_l1Below_con c ((list.length : Nat) : Int) V_c0 B_c R1 H2) kc31 rfl rfl ⟨(Base.can HB_V_c0), trivial⟩) rfl rfl rfl (fun _ => ?_)
  refine TO.bind fun E4 H5 => ?_
  refine TO.y (Y.index ke24 (Base.can HB_V_list0) H5 rfl rfl) rfl rfl rfl ?_
  refine TO.y (Y.load_el (us := [strV E4]) (u := strV E4) kk9 rfl (Base.can HB_V_list0) (idx_get H5).2.2 rfl rfl rfl rfl rfl) rfl rfl rfl ?_
  refine TO.y (Y.assign rfl) rfl rfl rfl ?_
  refine TO.nil ?_
  refine TE.next ?_
  refine TW.ret ?_
  exact TE.leaf fun _ _ hf_ hs_ => ret_any (rs := [.tmp 4]) (vs := [strV E4]) (.inl rfl) rfl ⟨rfl, trivial⟩ hf_ hs_ ⟨(), rfl, hs_.pulls [0] rfl⟩

/-- loop.example/g00950/spec.l7Key -/
noncomputable def spec_l7Key (c : L1Cur) : Option (List UInt8 × L1Cur) :=
  (spec_l1Pick c ([[97], [98], [97, 98], [97, 98, 99], [98, 48], [99], [0], [122, 122]])).bind fun R2 =>
  some (R2.1, { b := c.b, i := R2.2.i, h := R2.2.h : L1Cur })

theorem spec_l7Key_con (c : L1Cur) (V_c0 : Value) (B_c : Nat) (r : List UInt8 × L1Cur) (hm : spec_l7Key c = some r) :
    Con Try.prog 58 [.pointer (some ⟨B_c, 0, none⟩)] [.box B_c 94 [V_c0, .int .i64 c.i, .int .i64 c.h]] [(V_c0, lc c.b)] (fun _ : Unit => strV r.1) (fun _ => [.box B_c 94 [V_c0, .int .i64 r.2.i, .int .i64 r.2.h]]) := by
  refine Con.intro (args := [.pointer (some ⟨B_c, 0, none⟩)]) (n := 6) (val := fun r (_ : Unit) => strV r.1) (post := fun r _ => [.box B_c 94 [V_c0, .int .i64 r.2.i, .int .i64 r.2.h]]) (m := spec_l7Key c) Try.func58 rfl rfl rfl hm ?_
  intro w S hrd
  have HB_V_c0 := hrd _ (.head _)
  clear hrd
  unfold spec_l7Key
  refine TW.seq ?_
  refine TW.region ?_
  refine TO.y (Y.assign rfl) rfl rfl rfl ?_
  refine TO.nil ?_
  refine TE.next ?_
  refine TW.seq ?_
  refine TW.region ?_
  refine TO.y (Y.move rfl) rfl rfl rfl ?_
  refine TO.ef (Ef.buildSlice (α := List UInt8) (Vs := [strV ([97]), strV ([98]), strV ([97, 98]), strV ([97, 98, 99]), strV ([98, 48]), strV ([99]), strV ([0]), strV ([122, 122])]) [[97], [98], [97, 98], [97, 98, 99], [98, 48], [99], [0], [122, 122]] ke24 kz9 rfl rfl rfl rfl rfl) rfl rfl rfl (fun B1 => ?_)
  refine TO.bind fun R2 H3 => ?_
  refine TO.ef (Ef.call (rest := [.own (.slice (some ⟨B1, 0, none⟩) 8 8) (lc ([[97], [98], [97, 98], [97, 98, 99], [98, 48], [99], [0], [122, 122]]))]) [1, 0] (spec_l1Pick_con c ([[97], [98], [97, 98], [97, 98, 99], [98, 48], [99], [0], [122, 122]]) V_c0 B_c (.slice (some ⟨B1, 0, none⟩) 8 8) R2 H3) kc79 rfl rfl ⟨(Base.can HB_V_c0), (Can.own 0 rfl), trivial⟩) rfl rfl rfl (fun _ => ?_)
  refine TO.y (Y.assign rfl) rfl rfl rfl ?_
  refine TO.nil ?_
  refine TE.next ?_
  refine TW.ret ?_
  exact TE.leaf fun _ _ hf_ hs_ => ret_any (rs := [.tmp 2]) (vs := [strV R2.1]) (.inl rfl) rfl ⟨rfl, trivial⟩ hf_ hs_ ⟨(), rfl, hs_.pulls [0] rfl⟩

/-- loop.example/g00950/spec.l1PickInt -/
noncomputable def spec_l1PickInt (c : L1Cur) (list : List Int) : Option (Int × L1Cur) :=
  (spec_l1Below c ((list.length : Nat) : Int)).bind fun R1 =>
  (idx list R1.1).bind fun E4 =>
  some (E4, { b := c.b, i := R1.2.i, h := R1.2.h : L1Cur })

theorem spec_l1PickInt_con (c : L1Cur) (list : List Int) (V_c0 : Value) (B_c : Nat) (V_list0 : Value) (r : Int × L1Cur) (hm : spec_l1PickInt c list = some r) :
    Con Try.prog 63 [.pointer (some ⟨B_c, 0, none⟩), V_list0] [.box B_c 94 [V_c0, .int .i64 c.i, .int .i64 c.h]] [(V_c0, lc c.b), (V_list0, lc list)] (fun _ : Unit => .int .i64 r.1) (fun _ => [.box B_c 94 [V_c0, .int .i64 r.2.i, .int .i64 r.2.h]]) := by
  refine Con.intro (args := [.pointer (some ⟨B_c, 0, none⟩), V_list0]) (n := 12) (val := fun r (_ : Unit) => .int .i64 r.1) (post := fun r _ => [.box B_c 94 [V_c0, .int .i64 r.2.i, .int .i64 r.2.h]]) (m := spec_l1PickInt c list) Try.func63 rfl rfl rfl hm ?_
  intro w S hrd
  have HB_V_c0 := hrd _ (.head _)
  have HB_V_list0 := hrd _ (.tail _ (.head _))
  clear hrd
  unfold spec_l1PickInt
  refine TW.seq ?_
  refine TW.region ?_
  refine TO.y (Y.assign rfl) rfl rfl rfl ?_
  refine TO.nil ?_
  refine TE.next ?_
  refine TW.seq ?_
  refine TW.region ?_
  refine TO.y (Y.move rfl) rfl rfl rfl ?_
  refine TO.y (Y.move rfl) rfl rfl rfl ?_
  refine TO.y (Y.move rfl) rfl rfl rfl ?_
  refine TO.y (Y.len (l := list) ke32 (Base.can HB_V_list0) rfl) rfl rfl rfl ?_
  refine TO.bind fun R1 H2 => ?_
  refine TO.ef (Ef.call (rest := []) [0] (spec_l1Below_con c ((list.length : Nat) : Int) V_c0 B_c R1 H2) kc31 rfl rfl ⟨(Base.can HB_V_c0), trivial⟩) rfl rfl rfl (fun _ => ?_)
  refine TO.bind fun E4 H5 => ?_
  refine TO.y (Y.index ke32 (Base.can HB_V_list0) H5 rfl rfl) rfl rfl rfl ?_
  refine TO.y (Y.load_el (us := [.int .i64 E4]) (u := .int .i64 E4) kk3 rfl (Base.can HB_V_list0) (idx_get H5).2.2 rfl rfl rfl rfl rfl) rfl rfl rfl ?_
  refine TO.y (Y.assign rfl) rfl rfl rfl ?_
  refine TO.nil ?_
  refine TE.next ?_
  refine TW.ret ?_
  exact TE.leaf fun _ _ hf_ hs_ => ret_any (rs := [.tmp 4]) (vs := [.int .i64 E4]) (.inl rfl) rfl ⟨rfl, trivial⟩ hf_ hs_ ⟨(), rfl, hs_.pulls [0] rfl⟩

/-- loop.example/g00950/spec.l16File -/
noncomputable def spec_l16File (c : L1Cur) : Option (File × L1Cur) :=
  (spec_l1Below c (12 : Int)).bind fun R2 =>
  (spec_l1Below ({ b := c.b, i := R2.2.i, h := R2.2.h : L1Cur }) (3 : Int)).bind fun R5 =>
  (spec_l7Key ({ b := c.b, i := R5.2.i, h := R5.2.h : L1Cur })).bind fun R8 =>
  (spec_l1Pick ({ b := c.b, i := R8.2.i, h := R8.2.h : L1Cur }) ([[], [48], [122], [109]])).bind fun R14 =>
  (cat R8.1 R14.1).bind fun E17 =>
  (spec_l1Once ({ b := c.b, i := R14.2.i, h := R14.2.h : L1Cur }) (4 : Int)).bind fun R22 =>
  bindC (if R22.1 = true then (some (.go ([122, 122])))
  else (some (.go E17)))
  (fun (T25 : List UInt8) => (spec_l1Once ({ b := c.b, i := R22.2.i, h := R22.2.h : L1Cur }) (15 : Int)).bind fun R28 =>
  bindC (if R28.1 = true then ((spec_l1Below ({ b := c.b, i := R28.2.i, h := R28.2.h : L1Cur }) (3 : Int)).bind fun R34 =>
  bindC (if (decide (R34.1 = (0 : Int))) = true then ((spec_l1PickInt ({ b := c.b, i := R34.2.i, h := R34.2.h : L1Cur }) ([(0 : Int), (1000000 : Int), (1000001 : Int)])).bind fun R41 =>
  some (.go (R41.1, R5.1, T25, R41.2.i, R41.2.h)))
  else (bindC (if (decide (R34.1 = (1 : Int))) = true then ((spec_l1PickInt ({ b := c.b, i := R34.2.i, h := R34.2.h : L1Cur }) ([(-1 : Int), (3 : Int)])).bind fun R48 =>
  some (.go (R48.1, T25, R48.2.i, R48.2.h)))
  else ((spec_l1Pick ({ b := c.b, i := R34.2.i, h := R34.2.h : L1Cur }) ([[], [97, 97, 97, 97, 97, 97, 97, 97, 97, 97, 97]])).bind fun R52 =>
  some (.go (R5.1, R52.1, R52.2.i, R52.2.h))))
  (fun (T44 : Int × List UInt8 × Int × Int) => some (.go (IntKind.i64.wrap ((1 : Int) + R2.1), T44.1, T44.2.1, T44.2.2.1, T44.2.2.2)))))
  (fun (T37 : Int × Int × List UInt8 × Int × Int) => some (.go (T37.1, T37.2.1, T37.2.2.1, T37.2.2.2.1, T37.2.2.2.2))))
  else (some (.go (IntKind.i64.wrap ((1 : Int) + R2.1), R5.1, T25, R28.2.i, R28.2.h))))
  (fun (T31 : Int × Int × List UInt8 × Int × Int) => some ({ No := T31.1, Level := T31.2.1, Lo := R8.1, Hi := T31.2.2.1 : File }, { b := c.b, i := T31.2.2.2.1, h := T31.2.2.2.2 : L1Cur })))

theorem spec_l16File_con (c : L1Cur) (V_c0 : Value) (B_c : Nat) (r : File × L1Cur) (hm : spec_l16File c = some r) :
    Con Try.prog 55 [.pointer (some ⟨B_c, 0, none⟩)] [.box B_c 94 [V_c0, .int .i64 c.i, .int .i64 c.h]] [(V_c0, lc c.b)] (fun _ : Unit => .agg #[.int .i64 r.1.No, .int .i64 r.1.Level, strV r.1.Lo, strV r.1.Hi]) (fun _ => [.box B_c 94 [V_c0, .int .i64 r.2.i, .int .i64 r.2.h]]) := by
  refine Con.intro (args := [.pointer (some ⟨B_c, 0, none⟩)]) (n := 43) (val := fun r (_ : Unit) => .agg #[.int .i64 r.1.No, .int .i64 r.1.Level, strV r.1.Lo, strV r.1.Hi]) (post := fun r _ => [.box B_c 94 [V_c0, .int .i64 r.2.i, .int .i64 r.2.h]]) (m := spec_l16File c) Try.func55 rfl rfl rfl hm ?_
  intro w S hrd
  have HB_V_c0 := hrd _ (.head _)
  clear hrd
  unfold spec_l16File
  refine TW.seq ?_
  refine TW.region ?_
  refine TO.ef (Ef.alloc kz43 rfl) rfl rfl rfl (fun B1 => ?_)
  refine TO.nil ?_
  refine TE.next ?_
  refine TW.seq ?_
  refine TW.region ?_
  refine TO.y (Y.move rfl) rfl rfl rfl ?_
  refine TO.bind fun R2 H3 => ?_
  refine TO.ef (Ef.call (rest := [.box B1 43 [.int .i64 (0 : Int), .int .i64 (0 : Int), strV ([]), strV ([])]]) [1, 0] (spec_l1Below_con c (12 : Int) V_c0 B_c R2 H3) kc31 rfl rfl ⟨(Base.can HB_V_c0), trivial⟩) rfl rfl rfl (fun _ => ?_)
  refine TO.y (Y.add rfl rfl) rfl rfl rfl ?_
  refine TO.y (Y.move rfl) rfl rfl rfl ?_
  refine TO.bind fun R5 H6 => ?_
  refine TO.ef (Ef.call (rest := [.box B1 43 [.int .i64 (0 : Int), .int .i64 (0 : Int), strV ([]), strV ([])]]) [0, 0] (spec_l1Below_con ({ b := c.b, i := R2.2.i, h := R2.2.h : L1Cur }) (3 : Int) V_c0 B_c R5 H6) kc31 rfl rfl ⟨(Base.can HB_V_c0), trivial⟩) rfl rfl rfl (fun _ => ?_)
  refine TO.y (Y.move rfl) rfl rfl rfl ?_
  refine TO.bind fun R8 H9 => ?_
  refine TO.ef (Ef.call (rest := [.box B1 43 [.int .i64 (0 : Int), .int .i64 (0 : Int), strV ([]), strV ([])]]) [0, 0] (spec_l7Key_con ({ b := c.b, i := R5.2.i, h := R5.2.h : L1Cur }) V_c0 B_c R8 H9) kc58 rfl rfl ⟨(Base.can HB_V_c0), trivial⟩) rfl rfl rfl (fun _ => ?_)
  refine TO.y (Y.build (cells := [.int .i64 (IntKind.i64.wrap ((1 : Int) + R2.1)), .int .i64 R5.1, strV R8.1, strV ([])]) [(0, [.int .i64 (IntKind.i64.wrap ((1 : Int) + R2.1))]), (1, [.int .i64 R5.1]), (2, [strV R8.1])] kp43 kz43 ⟨rfl, ⟨_, rfl, (Cel.plain rfl rfl)⟩, ⟨rfl, ⟨_, rfl, (Cel.plain rfl rfl)⟩, ⟨rfl, ⟨_, rfl, (Cel.plain rfl rfl)⟩, trivial⟩⟩⟩ rfl) rfl rfl rfl ?_
  refine TO.ef (Ef.alloc kz43 rfl) rfl rfl rfl (fun B11 => ?_)
  refine TO.ef0 (Ef.store_box (us := [.int .i64 (IntKind.i64.wrap ((1 : Int) + R2.1)), .int .i64 R5.1, strV R8.1, strV ([])]) (vs' := [.int .i64 (IntKind.i64.wrap ((1 : Int) + R2.1)), .int .i64 R5.1, strV R8.1, strV ([])]) (is' := [.box B11 43 [.int .i64 (IntKind.i64.wrap ((1 : Int) + R2.1)), .int .i64 R5.1, strV R8.1, strV ([])], .box B_c 94 [V_c0, .int .i64 R8.2.i, .int .i64 R8.2.h], .box B1 43 [.int .i64 (0 : Int), .int .i64 (0 : Int), strV ([]), strV ([])]]) 0 kk43 rfl rfl rfl (Cel.plain rfl rfl) rfl rfl rfl rfl) rfl rfl (fun _ => ?_)
  refine TO.nil ?_
  refine TE.next ?_
  refine TW.seq ?_
  refine TW.bind fun R14 H15 => ?_
  refine TW.bind fun E17 H18 => ?_
  refine TW.joinU (X := Unit) (fun _ _ => [(0, .pointer (some ⟨B_c, 0, none⟩)), (2, .pointer (some ⟨B1, 0, none⟩)), (3, .pointer (some ⟨B11, 0, none⟩))]) (fun _ _ => [.box B_c 94 [V_c0, .int .i64 R14.2.i, .int .i64 R14.2.h], .box B1 43 [.int .i64 (0 : Int), .int .i64 (0 : Int), strV ([]), strV ([])], .box B11 43 [.int .i64 (IntKind.i64.wrap ((1 : Int) + R2.1)), .int .i64 R5.1, strV R8.1, strV E17]]) ?_ (fun _ X20 => ?_)
  · refine TW.draw (isH := [.box B1 43 [.int .i64 (0 : Int), .int .i64 (0 : Int), strV ([]), strV ([])]]) hMix ?_
    refine TA.y (listed' := #[true, false, false, false, false, false, false, false]) 0 [2] rfl (Y.field_box kf43_2 rfl rfl) rfl rfl rfl (by kernel_rfl) (by kernel_rfl) (by kernel_rfl) rfl rfl ?_
    refine TA.y (listed' := #[true, false, true, false, false, false, false, false]) 2 [2] rfl (Y.move rfl) rfl rfl rfl (by kernel_rfl) (by kernel_rfl) (by kernel_rfl) rfl rfl ?_
    refine TA.two 1 3 (by kernel_rfl) ?_ ?_
    · refine TX.y (listed' := #[true, true, true, false, false, false, false, false]) [2] rfl (Y.load_box (v := strV R8.1) 0 kk9 rfl rfl rfl) rfl rfl rfl rfl rfl ?_
      refine TA.one 3 (by kernel_rfl) ?_
      refine TX.ef (listed' := #[true, true, true, true, false, false, false, false]) [3] rfl (Ef.buildSlice (α := List UInt8) (Vs := [strV ([]), strV ([48]), strV ([122]), strV ([109])]) [[], [48], [122], [109]] ke24 kz9 rfl rfl rfl rfl rfl) rfl rfl rfl rfl (fun _ => rfl) (fun B22 => ?_)
      refine TA.one 4 (by kernel_rfl) ?_
      refine TX.ef (listed' := #[true, true, true, true, true, false, false, false]) [3] rfl (Ef.call (rest := [.own (.slice (some ⟨B22, 0, none⟩) 4 4) (lc ([[], [48], [122], [109]])), .box B11 43 [.int .i64 (IntKind.i64.wrap ((1 : Int) + R2.1)), .int .i64 R5.1, strV R8.1, strV ([])], .box B1 43 [.int .i64 (0 : Int), .int .i64 (0 : Int), strV ([]), strV ([])]]) [2, 0, 0, 0] (spec_l1Pick_con ({ b := c.b, i := R8.2.i, h := R8.2.h : L1Cur }) ([[], [48], [122], [109]]) V_c0 B_c (.slice (some ⟨B22, 0, none⟩) 4 4) R14 H15) kc79 rfl rfl ⟨(Base.can HB_V_c0), (Can.own 0 rfl), trivial⟩) rfl rfl rfl rfl (fun _ => rfl) (fun _ => ?_)
      refine TA.y (listed' := #[true, true, true, true, true, true, false, false]) 5 [3] rfl (Y.cat H18 rfl rfl) rfl rfl rfl (by kernel_rfl) (by kernel_rfl) (by kernel_rfl) rfl rfl ?_
      refine TA.y (listed' := #[true, true, true, true, true, true, true, false]) 6 [3] rfl (Y.field_box kf43_3 rfl rfl) rfl rfl rfl (by kernel_rfl) (by kernel_rfl) (by kernel_rfl) rfl rfl ?_
      refine TA.one 7 (by kernel_rfl) ?_
      refine TX.ef0 (listed' := #[true, true, true, true, true, true, true, true]) [3] rfl (Ef.store_box (us := [strV E17]) (vs' := [.int .i64 (IntKind.i64.wrap ((1 : Int) + R2.1)), .int .i64 R5.1, strV R8.1, strV E17]) (is' := [.box B_c 94 [V_c0, .int .i64 R14.2.i, .int .i64 R14.2.h], .own (.slice (some ⟨B22, 0, none⟩) 4 4) (lc ([[], [48], [122], [109]])), .box B11 43 [.int .i64 (IntKind.i64.wrap ((1 : Int) + R2.1)), .int .i64 R5.1, strV R8.1, strV E17], .box B1 43 [.int .i64 (0 : Int), .int .i64 (0 : Int), strV ([]), strV ([])]]) 2 kk9 rfl rfl rfl (Cel.plain rfl rfl) rfl rfl rfl rfl) rfl rfl rfl (fun _ => rfl) (fun _ => ?_)
      refine TA.nil (by kernel_rfl) ?_
      exact TE.jb_go () [0, 2, 1] ⟨rfl, rfl, rfl, trivial⟩ rfl
    · refine TX.ef (listed' := #[true, false, true, true, false, false, false, false]) [3] rfl (Ef.buildSlice (α := List UInt8) (Vs := [strV ([]), strV ([48]), strV ([122]), strV ([109])]) [[], [48], [122], [109]] ke24 kz9 rfl rfl rfl rfl rfl) rfl rfl rfl rfl (fun _ => rfl) (fun B21 => ?_)
      refine TA.two 1 4 (by kernel_rfl) ?_ ?_
      · refine TX.y (listed' := #[true, true, true, true, false, false, false, false]) [3] rfl (Y.load_box (v := strV R8.1) 1 kk9 rfl rfl rfl) rfl rfl rfl rfl rfl ?_
        refine TA.one 4 (by kernel_rfl) ?_
        refine TX.ef (listed' := #[true, true, true, true, true, false, false, false]) [3] rfl (Ef.call (rest := [.own (.slice (some ⟨B21, 0, none⟩) 4 4) (lc ([[], [48], [122], [109]])), .box B11 43 [.int .i64 (IntKind.i64.wrap ((1 : Int) + R2.1)), .int .i64 R5.1, strV R8.1, strV ([])], .box B1 43 [.int .i64 (0 : Int), .int .i64 (0 : Int), strV ([]), strV ([])]]) [2, 0, 0, 0] (spec_l1Pick_con ({ b := c.b, i := R8.2.i, h := R8.2.h : L1Cur }) ([[], [48], [122], [109]]) V_c0 B_c (.slice (some ⟨B21, 0, none⟩) 4 4) R14 H15) kc79 rfl rfl ⟨(Base.can HB_V_c0), (Can.own 0 rfl), trivial⟩) rfl rfl rfl rfl (fun _ => rfl) (fun _ => ?_)
        refine TA.y (listed' := #[true, true, true, true, true, true, false, false]) 5 [3] rfl (Y.cat H18 rfl rfl) rfl rfl rfl (by kernel_rfl) (by kernel_rfl) (by kernel_rfl) rfl rfl ?_
        refine TA.y (listed' := #[true, true, true, true, true, true, true, false]) 6 [3] rfl (Y.field_box kf43_3 rfl rfl) rfl rfl rfl (by kernel_rfl) (by kernel_rfl) (by kernel_rfl) rfl rfl ?_
        refine TA.one 7 (by kernel_rfl) ?_
        refine TX.ef0 (listed' := #[true, true, true, true, true, true, true, true]) [3] rfl (Ef.store_box (us := [strV E17]) (vs' := [.int .i64 (IntKind.i64.wrap ((1 : Int) + R2.1)), .int .i64 R5.1, strV R8.1, strV E17]) (is' := [.box B_c 94 [V_c0, .int .i64 R14.2.i, .int .i64 R14.2.h], .own (.slice (some ⟨B21, 0, none⟩) 4 4) (lc ([[], [48], [122], [109]])), .box B11 43 [.int .i64 (IntKind.i64.wrap ((1 : Int) + R2.1)), .int .i64 R5.1, strV R8.1, strV E17], .box B1 43 [.int .i64 (0 : Int), .int .i64 (0 : Int), strV ([]), strV ([])]]) 2 kk9 rfl rfl rfl (Cel.plain rfl rfl) rfl rfl rfl rfl) rfl rfl rfl (fun _ => rfl) (fun _ => ?_)
        refine TA.nil (by kernel_rfl) ?_
        exact TE.jb_go () [0, 2, 1] ⟨rfl, rfl, rfl, trivial⟩ rfl
      · refine TX.ef (listed' := #[true, false, true, true, true, false, false, false]) [3] rfl (Ef.call (rest := [.own (.slice (some ⟨B21, 0, none⟩) 4 4) (lc ([[], [48], [122], [109]])), .box B11 43 [.int .i64 (IntKind.i64.wrap ((1 : Int) + R2.1)), .int .i64 R5.1, strV R8.1, strV ([])], .box B1 43 [.int .i64 (0 : Int), .int .i64 (0 : Int), strV ([]), strV ([])]]) [2, 0, 0, 0] (spec_l1Pick_con ({ b := c.b, i := R8.2.i, h := R8.2.h : L1Cur }) ([[], [48], [122], [109]]) V_c0 B_c (.slice (some ⟨B21, 0, none⟩) 4 4) R14 H15) kc79 rfl rfl ⟨(Base.can HB_V_c0), (Can.own 0 rfl), trivial⟩) rfl rfl rfl rfl (fun _ => rfl) (fun _ => ?_)
        refine TA.one 1 (by kernel_rfl) ?_
        refine TX.y (listed' := #[true, true, true, true, true, false, false, false]) [3] rfl (Y.load_box (v := strV R8.1) 2 kk9 rfl rfl rfl) rfl rfl rfl rfl rfl ?_
        refine TA.y (listed' := #[true, true, true, true, true, true, false, false]) 5 [3] rfl (Y.cat H18 rfl rfl) rfl rfl rfl (by kernel_rfl) (by kernel_rfl) (by kernel_rfl) rfl rfl ?_
        refine TA.y (listed' := #[true, true, true, true, true, true, true, false]) 6 [3] rfl (Y.field_box kf43_3 rfl rfl) rfl rfl rfl (by kernel_rfl) (by kernel_rfl) (by kernel_rfl) rfl rfl ?_
        refine TA.one 7 (by kernel_rfl) ?_
        refine TX.ef0 (listed' := #[true, true, true, true, true, true, true, true]) [3] rfl (Ef.store_box (us := [strV E17]) (vs' := [.int .i64 (IntKind.i64.wrap ((1 : Int) + R2.1)), .int .i64 R5.1, strV R8.1, strV E17]) (is' := [.box B_c 94 [V_c0, .int .i64 R14.2.i, .int .i64 R14.2.h], .own (.slice (some ⟨B21, 0, none⟩) 4 4) (lc ([[], [48], [122], [109]])), .box B11 43 [.int .i64 (IntKind.i64.wrap ((1 : Int) + R2.1)), .int .i64 R5.1, strV R8.1, strV E17], .box B1 43 [.int .i64 (0 : Int), .int .i64 (0 : Int), strV ([]), strV ([])]]) 2 kk9 rfl rfl rfl (Cel.plain rfl rfl) rfl rfl rfl rfl) rfl rfl rfl (fun _ => rfl) (fun _ => ?_)
        refine TA.nil (by kernel_rfl) ?_
        exact TE.jb_go () [0, 2, 1] ⟨rfl, rfl, rfl, trivial⟩ rfl
  · refine TE.next ?_
    refine TW.seq ?_
    refine TW.seq ?_
    refine TW.region ?_
    refine TO.y (Y.move rfl) rfl rfl rfl ?_
    refine TO.bind fun R22 H23 => ?_
    refine TO.ef (Ef.call (rest := [.box B1 43 [.int .i64 (0 : Int), .int .i64 (0 : Int), strV ([]), strV ([])], .box B11 43 [.int .i64 (IntKind.i64.wrap ((1 : Int) + R2.1)), .int .i64 R5.1, strV R8.1, strV E17]]) [0, 0, 0] (spec_l1Once_con ({ b := c.b, i := R14.2.i, h := R14.2.h : L1Cur }) (4 : Int) V_c0 B_c R22 H23) kc34 rfl rfl ⟨(Base.can HB_V_c0), trivial⟩) rfl rfl rfl (fun _ => ?_)
    refine TO.nil ?_
    refine TE.next ?_
    refine TW.joinX (τ := List UInt8) (X := Unit) (fun _ _ => [(0, .pointer (some ⟨B_c, 0, none⟩)), (2, .pointer (some ⟨B1, 0, none⟩)), (3, .pointer (some ⟨B11, 0, none⟩))]) (fun T _ => [.box B_c 94 [V_c0, .int .i64 R22.2.i, .int .i64 R22.2.h], .box B1 43 [.int .i64 (0 : Int), .int .i64 (0 : Int), strV ([]), strV ([])], .box B11 43 [.int .i64 (IntKind.i64.wrap ((1 : Int) + R2.1)), .int .i64 R5.1, strV R8.1, strV T]]) ?_ (fun T25 X26 => ?_)
    · refine TW.cond rfl (fun H27 => ?_) (fun H27 => ?_)
      · refine TW.region ?_
        refine TO.y (Y.field_box kf43_3 rfl rfl) rfl rfl rfl ?_
        refine TO.ef0 (Ef.store_box (us := [strV ([122, 122])]) (vs' := [.int .i64 (IntKind.i64.wrap ((1 : Int) + R2.1)), .int .i64 R5.1, strV R8.1, strV ([122, 122])]) (is' := [.box B_c 94 [V_c0, .int .i64 R22.2.i, .int .i64 R22.2.h], .box B1 43 [.int .i64 (0 : Int), .int .i64 (0 : Int), strV ([]), strV ([])], .box B11 43 [.int .i64 (IntKind.i64.wrap ((1 : Int) + R2.1)), .int .i64 R5.1, strV R8.1, strV ([122, 122])]]) 2 kk9 rfl rfl rfl (Cel.plain rfl rfl) rfl rfl rfl rfl) rfl rfl (fun _ => ?_)
        refine TO.nil ?_
        exact TE.jn_go () [0, 0, 0] ⟨rfl, rfl, rfl, trivial⟩ rfl
      · refine TW.skip ?_
        exact TE.jn_go () [0, 0, 0] ⟨rfl, rfl, rfl, trivial⟩ rfl
    · refine TE.next ?_
      refine TW.seq ?_
      refine TW.seq ?_
      refine TW.region ?_
      refine TO.y (Y.move rfl) rfl rfl rfl ?_
      refine TO.bind fun R28 H29 => ?_
      refine TO.ef (Ef.call (rest := [.box B1 43 [.int .i64 (0 : Int), .int .i64 (0 : Int), strV ([]), strV ([])], .box B11 43 [.int .i64 (IntKind.i64.wrap ((1 : Int) + R2.1)), .int .i64 R5.1, strV R8.1, strV T25]]) [0, 0, 0] (spec_l1Once_con ({ b := c.b, i := R22.2.i, h := R22.2.h : L1Cur }) (15 : Int) V_c0 B_c R28 H29) kc34 rfl rfl ⟨(Base.can HB_V_c0), trivial⟩) rfl rfl rfl (fun _ => ?_)
      refine TO.nil ?_
      refine TE.next ?_
      refine TW.joinX (τ := Int × Int × List UInt8 × Int × Int) (X := Unit) (fun _ _ => [(2, .pointer (some ⟨B1, 0, none⟩)), (3, .pointer (some ⟨B11, 0, none⟩))]) (fun T _ => [.box B1 43 [.int .i64 (0 : Int), .int .i64 (0 : Int), strV ([]), strV ([])], .box B11 43 [.int .i64 T.1, .int .i64 T.2.1, strV R8.1, strV T.2.2.1], .box B_c 94 [V_c0, .int .i64 T.2.2.2.1, .int .i64 T.2.2.2.2]]) ?_ (fun T31 X32 => ?_)
      · refine TW.cond rfl (fun H33 => ?_) (fun H33 => ?_)
        · refine TW.seq ?_
          refine TW.region ?_
          refine TO.y (Y.move rfl) rfl rfl rfl ?_
          refine TO.bind fun R34 H35 => ?_
          refine TO.ef (Ef.call (rest := [.box B1 43 [.int .i64 (0 : Int), .int .i64 (0 : Int), strV ([]), strV ([])], .box B11 43 [.int .i64 (IntKind.i64.wrap ((1 : Int) + R2.1)), .int .i64 R5.1, strV R8.1, strV T25]]) [0, 0, 0] (spec_l1Below_con ({ b := c.b, i := R28.2.i, h := R28.2.h : L1Cur }) (3 : Int) V_c0 B_c R34 H35) kc31 rfl rfl ⟨(Base.can HB_V_c0), trivial⟩) rfl rfl rfl (fun _ => ?_)
          refine TO.nil ?_
          refine TE.next ?_
          refine TW.block ?_
          refine TW.seq ?_
          refine TW.region ?_
          refine TO.y (Y.eql rfl rfl) rfl rfl rfl ?_
          refine TO.y (Y.assign rfl) rfl rfl rfl ?_
          refine TO.nil ?_
          refine TE.next ?_
          refine TW.joinX (τ := Int × Int × List UInt8 × Int × Int) (X := Unit) (fun _ _ => [(2, .pointer (some ⟨B1, 0, none⟩)), (3, .pointer (some ⟨B11, 0, none⟩))]) (fun T _ => [.box B1 43 [.int .i64 (0 : Int), .int .i64 (0 : Int), strV ([]), strV ([])], .box B11 43 [.int .i64 T.1, .int .i64 T.2.1, strV R8.1, strV T.2.2.1], .box B_c 94 [V_c0, .int .i64 T.2.2.2.1, .int .i64 T.2.2.2.2]]) ?_ (fun T37 X38 => ?_)
          · refine TW.cond rfl (fun H39 => ?_) (fun H39 => ?_)
            · refine TW.region ?_
              refine TO.y (Y.move rfl) rfl rfl rfl ?_
              refine TO.ef (Ef.buildSlice (α := Int) (Vs := [.int .i64 (0 : Int), .int .i64 (1000000 : Int), .int .i64 (1000001 : Int)]) [(0 : Int), (1000000 : Int), (1000001 : Int)] ke32 kz3 rfl rfl rfl rfl rfl) rfl rfl rfl (fun B40 => ?_)
              refine TO.bind fun R41 H42 => ?_
              refine TO.ef (Ef.call (rest := [.own (.slice (some ⟨B40, 0, none⟩) 3 3) (lc ([(0 : Int), (1000000 : Int), (1000001 : Int)])), .box B1 43 [.int .i64 (0 : Int), .int .i64 (0 : Int), strV ([]), strV ([])], .box B11 43 [.int .i64 (IntKind.i64.wrap ((1 : Int) + R2.1)), .int .i64 R5.1, strV R8.1, strV T25]]) [1, 0, 0, 0] (spec_l1PickInt_con ({ b := c.b, i := R34.2.i, h := R34.2.h : L1Cur }) ([(0 : Int), (1000000 : Int), (1000001 : Int)]) V_c0 B_c (.slice (some ⟨B40, 0, none⟩) 3 3) R41 H42) kc63 rfl rfl ⟨(Base.can HB_V_c0), (Can.own 0 rfl), trivial⟩) rfl rfl rfl (fun _ => ?_)
              refine TO.y (Y.field_box kf43_0 rfl rfl) rfl rfl rfl ?_
              refine TO.ef0 (Ef.store_box (us := [.int .i64 R41.1]) (vs' := [.int .i64 R41.1, .int .i64 R5.1, strV R8.1, strV T25]) (is' := [.box B_c 94 [V_c0, .int .i64 R41.2.i, .int .i64 R41.2.h], .own (.slice (some ⟨B40, 0, none⟩) 3 3) (lc ([(0 : Int), (1000000 : Int), (1000001 : Int)])), .box B1 43 [.int .i64 (0 : Int), .int .i64 (0 : Int), strV ([]), strV ([])], .box B11 43 [.int .i64 R41.1, .int .i64 R5.1, strV R8.1, strV T25]]) 3 kk3 rfl rfl rfl (Cel.plain rfl rfl) rfl rfl rfl rfl) rfl rfl (fun _ => ?_)
              refine TO.nil ?_
              exact TE.jn_go () [2, 2, 0] ⟨rfl, rfl, trivial⟩ rfl
            · refine TW.seq ?_
              refine TW.region ?_
              refine TO.y (Y.eql rfl rfl) rfl rfl rfl ?_
              refine TO.y (Y.assign rfl) rfl rfl rfl ?_
              refine TO.nil ?_
              refine TE.next ?_
              refine TW.joinX (τ := Int × List UInt8 × Int × Int) (X := Unit) (fun _ _ => [(2, .pointer (some ⟨B1, 0, none⟩)), (3, .pointer (some ⟨B11, 0, none⟩))]) (fun T _ => [.box B1 43 [.int .i64 (0 : Int), .int .i64 (0 : Int), strV ([]), strV ([])], .box B11 43 [.int .i64 (IntKind.i64.wrap ((1 : Int) + R2.1)), .int .i64 T.1, strV R8.1, strV T.2.1], .box B_c 94 [V_c0, .int .i64 T.2.2.1, .int .i64 T.2.2.2]]) ?_ (fun T44 X45 => ?_)
              · refine TW.cond rfl (fun H46 => ?_) (fun H46 => ?_)
                · refine TW.region ?_
                  refine TO.y (Y.move rfl) rfl rfl rfl ?_
                  refine TO.ef (Ef.buildSlice (α := Int) (Vs := [.int .i64 (-1 : Int), .int .i64 (3 : Int)]) [(-1 : Int), (3 : Int)] ke32 kz3 rfl rfl rfl rfl rfl) rfl rfl rfl (fun B47 => ?_)
                  refine TO.bind fun R48 H49 => ?_
                  refine TO.ef (Ef.call (rest := [.own (.slice (some ⟨B47, 0, none⟩) 2 2) (lc ([(-1 : Int), (3 : Int)])), .box B1 43 [.int .i64 (0 : Int), .int .i64 (0 : Int), strV ([]), strV ([])], .box B11 43 [.int .i64 (IntKind.i64.wrap ((1 : Int) + R2.1)), .int .i64 R5.1, strV R8.1, strV T25]]) [1, 0, 0, 0] (spec_l1PickInt_con ({ b := c.b, i := R34.2.i, h := R34.2.h : L1Cur }) ([(-1 : Int), (3 : Int)]) V_c0 B_c (.slice (some ⟨B47, 0, none⟩) 2 2) R48 H49) kc63 rfl rfl ⟨(Base.can HB_V_c0), (Can.own 0 rfl), trivial⟩) rfl rfl rfl (fun _ => ?_)
                  refine TO.y (Y.field_box kf43_1 rfl rfl) rfl rfl rfl ?_
                  refine TO.ef0 (Ef.store_box (us := [.int .i64 R48.1]) (vs' := [.int .i64 (IntKind.i64.wrap ((1 : Int) + R2.1)), .int .i64 R48.1, strV R8.1, strV T25]) (is' := [.box B_c 94 [V_c0, .int .i64 R48.2.i, .int .i64 R48.2.h], .own (.slice (some ⟨B47, 0, none⟩) 2 2) (lc ([(-1 : Int), (3 : Int)])), .box B1 43 [.int .i64 (0 : Int), .int .i64 (0 : Int), strV ([]), strV ([])], .box B11 43 [.int .i64 (IntKind.i64.wrap ((1 : Int) + R2.1)), .int .i64 R48.1, strV R8.1, strV T25]]) 3 kk3 rfl rfl rfl (Cel.plain rfl rfl) rfl rfl rfl rfl) rfl rfl (fun _ => ?_)
                  refine TO.nil ?_
                  exact TE.jn_go () [2, 2, 0] ⟨rfl, rfl, trivial⟩ rfl
                · refine TW.region ?_
                  refine TO.y (Y.move rfl) rfl rfl rfl ?_
                  refine TO.ef (Ef.buildSlice (α := List UInt8) (Vs := [strV ([]), strV ([97, 97, 97, 97, 97, 97, 97, 97, 97, 97, 97])]) [[], [97, 97, 97, 97, 97, 97, 97, 97, 97, 97, 97]] ke24 kz9 rfl rfl rfl rfl rfl) rfl rfl rfl (fun B51 => ?_)
                  refine TO.bind fun R52 H53 => ?_
                  refine TO.ef (Ef.call (rest := [.own (.slice (some ⟨B51, 0, none⟩) 2 2) (lc ([[], [97, 97, 97, 97, 97, 97, 97, 97, 97, 97, 97]])), .box B1 43 [.int .i64 (0 : Int), .int .i64 (0 : Int), strV ([]), strV ([])], .box B11 43 [.int .i64 (IntKind.i64.wrap ((1 : Int) + R2.1)), .int .i64 R5.1, strV R8.1, strV T25]]) [1, 0, 0, 0] (spec_l1Pick_con ({ b := c.b, i := R34.2.i, h := R34.2.h : L1Cur }) ([[], [97, 97, 97, 97, 97, 97, 97, 97, 97, 97, 97]]) V_c0 B_c (.slice (some ⟨B51, 0, none⟩) 2 2) R52 H53) kc79 rfl rfl ⟨(Base.can HB_V_c0), (Can.own 0 rfl), trivial⟩) rfl rfl rfl (fun _ => ?_)
                  refine TO.y (Y.field_box kf43_3 rfl rfl) rfl rfl rfl ?_
                  refine TO.ef0 (Ef.store_box (us := [strV R52.1]) (vs' := [.int .i64 (IntKind.i64.wrap ((1 : Int) + R2.1)), .int .i64 R5.1, strV R8.1, strV R52.1]) (is' := [.box B_c 94 [V_c0, .int .i64 R52.2.i, .int .i64 R52.2.h], .own (.slice (some ⟨B51, 0, none⟩) 2 2) (lc ([[], [97, 97, 97, 97, 97, 97, 97, 97, 97, 97, 97]])), .box B1 43 [.int .i64 (0 : Int), .int .i64 (0 : Int), strV ([]), strV ([])], .box B11 43 [.int .i64 (IntKind.i64.wrap ((1 : Int) + R2.1)), .int .i64 R5.1, strV R8.1, strV R52.1]]) 3 kk9 rfl rfl rfl (Cel.plain rfl rfl) rfl rfl rfl rfl) rfl rfl (fun _ => ?_)
                  refine TO.nil ?_
                  exact TE.jn_go () [2, 2, 0] ⟨rfl, rfl, trivial⟩ rfl
              · exact TE.jn_go () [0, 0, 0] ⟨rfl, rfl, trivial⟩ rfl
          · refine TE.block_normal ?_
            exact TE.jn_go () [0, 0, 0] ⟨rfl, rfl, trivial⟩ rfl
        · refine TW.skip ?_
          exact TE.jn_go () [1, 1, 0] ⟨rfl, rfl, trivial⟩ rfl
      · refine TE.next ?_
        refine TW.seq ?_
        refine TW.region ?_
        refine TO.y (Y.load_box (v := .agg #[.int .i64 T31.1, .int .i64 T31.2.1, strV R8.1, strV T31.2.2.1]) 1 kk43 rfl rfl rfl) rfl rfl rfl ?_
        refine TO.ef0 (Ef.store_box (us := [.int .i64 T31.1, .int .i64 T31.2.1, strV R8.1, strV T31.2.2.1]) (vs' := [.int .i64 T31.1, .int .i64 T31.2.1, strV R8.1, strV T31.2.2.1]) (is' := [.box B1 43 [.int .i64 T31.1, .int .i64 T31.2.1, strV R8.1, strV T31.2.2.1], .box B11 43 [.int .i64 T31.1, .int .i64 T31.2.1, strV R8.1, strV T31.2.2.1], .box B_c 94 [V_c0, .int .i64 T31.2.2.2.1, .int .i64 T31.2.2.2.2]]) 0 kk43 rfl rfl rfl (Cel.plain rfl rfl) rfl rfl rfl rfl) rfl rfl (fun _ => ?_)
        refine TO.nil ?_
        refine TE.next ?_
        refine TW.ret ?_
        exact TE.leaf fun _ _ hf_ hs_ => ret_any (rs := [.cell 2 43]) (vs := [.agg #[.int .i64 T31.1, .int .i64 T31.2.1, strV R8.1, strV T31.2.2.1]]) (.inl rfl) rfl (RV.cell 0 rfl rfl kk43 rfl trivial) hf_ hs_ ⟨(), rfl, hs_.pulls [2] rfl⟩

/-- loop.example/g00950/spec.l17Edit -/
noncomputable def spec_l17Edit (c : L1Cur) (l : List File) : Option (Edit × L1Cur) :=
  bindC (loopO (fun (S3 : Int × Int × Int × List Int) => if (decide (S3.2.2.1 < ((l.length : Nat) : Int))) = true then ((spec_l1Once ({ b := c.b, i := S3.1, h := S3.2.1 : L1Cur }) (5 : Int)).bind fun R8 =>
  bindC (if R8.1 = true then ((idx l S3.2.2.1).bind fun E14 =>
  (app 8 S3.2.2.2 ([E14.No])).bind fun E19 =>
  some (.go E19))
  else (some (.go S3.2.2.2)))
  (fun (T11 : List Int) => some (.go (R8.2.i, R8.2.h, IntKind.i64.wrap (S3.2.2.1 + (1 : Int)), T11))))
  else (some (.done (.go (S3.1, S3.2.1, S3.2.2.2)))))
  (c.i, c.h, (0 : Int), ([] : List Int)))
  (fun (T5 : Int × Int × List Int) => (spec_l1Below ({ b := c.b, i := T5.1, h := T5.2.1 : L1Cur }) (3 : Int)).bind fun R24 =>
  bindC (loopO (fun (S27 : Int × Int × Int × List File) => if (decide (S27.2.2.1 > (0 : Int))) = true then ((spec_l16File ({ b := c.b, i := S27.1, h := S27.2.1 : L1Cur })).bind fun R32 =>
  (app 48 S27.2.2.2 ([R32.1])).bind fun E38 =>
  some (.go (R32.2.i, R32.2.h, IntKind.i64.wrap (S27.2.2.1 - (1 : Int)), E38)))
  else (some (.done (.go (S27.1, S27.2.1, S27.2.2.2)))))
  (R24.2.i, R24.2.h, R24.1, ([] : List File)))
  (fun (T29 : Int × Int × List File) => (spec_l1Once ({ b := c.b, i := T29.1, h := T29.2.1 : L1Cur }) (12 : Int)).bind fun R43 =>
  bindC (if R43.1 = true then ((spec_l1PickInt ({ b := c.b, i := R43.2.i, h := R43.2.h : L1Cur }) ([(-1 : Int), (0 : Int), (50 : Int), (1000001 : Int)])).bind fun R51 =>
  (app 8 T5.2.2 ([R51.1])).bind fun E56 =>
  some (.go (R51.2.i, R51.2.h, E56)))
  else (some (.go (R43.2.i, R43.2.h, T5.2.2))))
  (fun (T46 : Int × Int × List Int) => some ({ Add := T29.2.2, Drop := T46.2.2 : Edit }, { b := c.b, i := T46.1, h := T46.2.1 : L1Cur }))))

theorem spec_l17Edit_con (c : L1Cur) (l : List File) (V_c0 : Value) (B_c : Nat) (V_l0 : Value) (r : Edit × L1Cur) (hm : spec_l17Edit c l = some r) :
    Con Try.prog 32 [.pointer (some ⟨B_c, 0, none⟩), V_l0] [.box B_c 94 [V_c0, .int .i64 c.i, .int .i64 c.h]] [(V_c0, lc c.b), (V_l0, lc l)] (fun X : Value × Value => .agg #[X.1, X.2]) (fun X => [.box B_c 94 [V_c0, .int .i64 r.2.i, .int .i64 r.2.h], .own X.1 (lc r.1.Add), .own X.2 (lc r.1.Drop)]) := by
  refine Con.intro (args := [.pointer (some ⟨B_c, 0, none⟩), V_l0]) (n := 51) (val := fun _ (X : Value × Value) => .agg #[X.1, X.2]) (post := fun r X => [.box B_c 94 [V_c0, .int .i64 r.2.i, .int .i64 r.2.h], .own X.1 (lc r.1.Add), .own X.2 (lc r.1.Drop)]) (m := spec_l17Edit c l) Try.func32 rfl rfl rfl hm ?_
  intro w S hrd
  have HB_V_c0 := hrd _ (.head _)
  have HB_V_l0 := hrd _ (.tail _ (.head _))
  clear hrd
  unfold spec_l17Edit
  refine TW.seq ?_
  refine TW.region ?_
  refine TO.ef (Ef.alloc kz34 rfl) rfl rfl rfl (fun B1 => ?_)
  refine TO.nil ?_
  refine TE.next ?_
  refine TW.seq ?_
  refine TW.region ?_
  refine TO.y (Y.build (cells := [.slice none 0 0, .slice none 0 0]) [] kp34 kz34 trivial rfl) rfl rfl rfl ?_
  refine TO.ef (Ef.alloc kz34 rfl) rfl rfl rfl (fun B2 => ?_)
  refine TO.ef0 (Ef.store_box (us := [.slice none 0 0, .slice none 0 0]) (vs' := [.slice none 0 0, .slice none 0 0]) (is' := [.box B2 34 [.slice none 0 0, .slice none 0 0], .box B1 34 [.slice none 0 0, .slice none 0 0], .box B_c 94 [V_c0, .int .i64 c.i, .int .i64 c.h]]) 0 kk34 rfl rfl rfl (Cel.plain rfl rfl) rfl rfl rfl rfl) rfl rfl (fun _ => ?_)
  refine TO.nil ?_
  refine TE.next ?_
  refine TW.seq ?_
  refine TW.seq ?_
  refine TW.region ?_
  refine TO.y (Y.assign rfl) rfl rfl rfl ?_
  refine TO.nil ?_
  refine TE.next ?_
  refine TW.joinX (τ := Int × Int × List Int) (X := Value) (fun _ _ => [(0, .pointer (some ⟨B_c, 0, none⟩)), (4, .pointer (some ⟨B1, 0, none⟩)), (5, .pointer (some ⟨B2, 0, none⟩))]) (fun T X => [.box B_c 94 [V_c0, .int .i64 T.1, .int .i64 T.2.1], .box B1 34 [.slice none 0 0, .slice none 0 0], .box B2 34 [.slice none 0 0, X], .own X (lc T.2.2)]) ?_ (fun T5 X6 => ?_)
  · refine TW.block ?_
    refine TW.nilItem 1 ?_
    refine TW.loopX (σ := Int × Int × Int × List Int) (X := Value) (fun T _ => [(0, .pointer (some ⟨B_c, 0, none⟩)), (1, V_l0), (4, .pointer (some ⟨B1, 0, none⟩)), (5, .pointer (some ⟨B2, 0, none⟩)), (6, .int .i64 T.2.2.1)]) (fun T X => [.box B_c 94 [V_c0, .int .i64 T.1, .int .i64 T.2.1], .box B1 34 [.slice none 0 0, .slice none 0 0], .box B2 34 [.slice none 0 0, X], .own X (lc T.2.2.2)]) (.slice none 0 0) [3, 2, 1, 0] ⟨rfl, rfl, rfl, rfl, rfl, trivial⟩ rfl (fun S3 X4 => ?_)
    refine TW.seq ?_
    refine TW.seq ?_
    refine TW.region ?_
    refine TO.y (Y.move rfl) rfl rfl rfl ?_
    refine TO.y (Y.move rfl) rfl rfl rfl ?_
    refine TO.y (Y.len (l := l) ke26 (Base.can HB_V_l0) rfl) rfl rfl rfl ?_
    refine TO.y (Y.lss rfl rfl) rfl rfl rfl ?_
    refine TO.nil ?_
    refine TE.next ?_
    refine TW.cond rfl (fun H7 => ?_) (fun H7 => ?_)
    · refine TW.skip ?_
      refine TE.next ?_
      refine TW.seq ?_
      refine TW.block ?_
      refine TW.seq ?_
      refine TW.region ?_
      refine TO.y (Y.move rfl) rfl rfl rfl ?_
      refine TO.bind fun R8 H9 => ?_
      refine TO.ef (Ef.call (rest := [.box B1 34 [.slice none 0 0, .slice none 0 0], .box B2 34 [.slice none 0 0, X4], .own X4 (lc S3.2.2.2)]) [0, 0, 0, 0] (spec_l1Once_con ({ b := c.b, i := S3.1, h := S3.2.1 : L1Cur }) (5 : Int) V_c0 B_c R8 H9) kc34 rfl rfl ⟨(Base.can HB_V_c0), trivial⟩) rfl rfl rfl (fun _ => ?_)
      refine TO.nil ?_
      refine TE.next ?_
      refine TW.joinX (τ := List Int) (X := Value) (fun _ _ => [(0, .pointer (some ⟨B_c, 0, none⟩)), (1, V_l0), (4, .pointer (some ⟨B1, 0, none⟩)), (5, .pointer (some ⟨B2, 0, none⟩)), (6, .int .i64 S3.2.2.1)]) (fun T X => [.box B_c 94 [V_c0, .int .i64 R8.2.i, .int .i64 R8.2.h], .box B1 34 [.slice none 0 0, .slice none 0 0], .box B2 34 [.slice none 0 0, X], .own X (lc T)]) ?_ (fun T11 X12 => ?_)
      · refine TW.cond rfl (fun H13 => ?_) (fun H13 => ?_)
        · refine TW.bind fun E14 H15 => ?_
          refine TW.bind fun E19 H20 => ?_
          refine TW.joinU (X := Value) (fun _ _ => [(0, .pointer (some ⟨B_c, 0, none⟩)), (1, V_l0), (4, .pointer (some ⟨B1, 0, none⟩)), (5, .pointer (some ⟨B2, 0, none⟩)), (6, .int .i64 S3.2.2.1)]) (fun _ X => [.box B_c 94 [V_c0, .int .i64 R8.2.i, .int .i64 R8.2.h], .box B1 34 [.slice none 0 0, .slice none 0 0], .box B2 34 [.slice none 0 0, X], .own X (lc E19)]) ?_ (fun _ X22 => ?_)
          · refine TW.draw (isH := [.box B_c 94 [V_c0, .int .i64 R8.2.i, .int .i64 R8.2.h], .box B1 34 [.slice none 0 0, .slice none 0 0]]) hMix ?_
            refine TA.y (listed' := #[true, false, false, false, false, false, false, false, false, false, false]) 0 [0, 0] rfl (Y.field_box kf34_1 rfl rfl) rfl rfl rfl (by kernel_rfl) (by kernel_rfl) (by kernel_rfl) rfl rfl ?_
            refine TA.y (listed' := #[true, false, true, false, false, false, false, false, false, false, false]) 2 [0, 0] rfl (Y.move rfl) rfl rfl rfl (by kernel_rfl) (by kernel_rfl) (by kernel_rfl) rfl rfl ?_
            refine TA.y (listed' := #[true, false, true, true, false, false, false, false, false, false, false]) 3 [0, 0] rfl (Y.move rfl) rfl rfl rfl (by kernel_rfl) (by kernel_rfl) (by kernel_rfl) rfl rfl ?_
            refine TA.y (listed' := #[true, false, true, true, true, false, false, false, false, false, false]) 4 [0, 0] rfl (Y.index ke26 (Base.can HB_V_l0) H15 rfl rfl) rfl rfl rfl (by kernel_rfl) (by kernel_rfl) (by kernel_rfl) rfl rfl ?_
            refine TA.y (listed' := #[true, false, true, true, true, true, false, false, false, false, false]) 5 [0, 0] rfl (Y.field_el kf43_0 (Base.can HB_V_l0) (idx_get H15).2.2 rfl rfl) rfl rfl rfl (by kernel_rfl) (by kernel_rfl) (by kernel_rfl) rfl rfl ?_
            refine TA.y (listed' := #[true, false, true, true, true, true, true, false, false, false, false]) 6 [0, 0] rfl (Y.load_el (us := [.int .i64 E14.No]) (u := .int .i64 E14.No) kk3 rfl (Base.can HB_V_l0) (idx_get H15).2.2 rfl rfl rfl rfl rfl) rfl rfl rfl (by kernel_rfl) (by kernel_rfl) (by kernel_rfl) rfl rfl ?_
            refine TA.two 1 7 (by kernel_rfl) ?_ ?_
            · refine TX.y (listed' := #[true, true, true, true, true, true, true, false, false, false, false]) [0, 0] rfl (Y.load_box (v := X4) 2 kk32 rfl rfl rfl) rfl rfl rfl rfl rfl ?_
              refine TA.one 7 (by kernel_rfl) ?_
              refine TX.ef (listed' := #[true, true, true, true, true, true, true, true, false, false, false]) [1, 1] rfl (Ef.buildSlice (α := Int) (Vs := [.int .i64 E14.No]) [E14.No] ke32 kz3 rfl rfl rfl rfl rfl) rfl rfl rfl rfl (fun _ => rfl) (fun B24 => ?_)
              refine TA.one 8 (by kernel_rfl) ?_
              refine TX.ef (listed' := #[true, true, true, true, true, true, true, true, true, false, false]) [2, 2] rfl (Ef.append (α := Int) (is' := [.own (.slice (some ⟨B24, 0, none⟩) 1 1) (lc ([E14.No])), .box B_c 94 [V_c0, .int .i64 R8.2.i, .int .i64 R8.2.h], .box B1 34 [.slice none 0 0, .slice none 0 0], .box B2 34 [.slice none 0 0, X4]]) [4, 0, 0, 0, 0] H20 ke32 kz3 rfl rfl rfl rfl rfl (Can.own 0 rfl)) rfl rfl rfl rfl (fun _ => rfl) (fun V25 => ?_)
              refine TA.y (listed' := #[true, true, true, true, true, true, true, true, true, true, false]) 9 [2, 2] rfl (Y.field_box kf34_1 rfl rfl) rfl rfl rfl (by kernel_rfl) (by kernel_rfl) (by kernel_rfl) rfl rfl ?_
              refine TA.one 10 (by kernel_rfl) ?_
              refine TX.ef0 (listed' := #[true, true, true, true, true, true, true, true, true, true, true]) [2, 2] rfl (Ef.store_box (us := [V25]) (vs' := [.slice none 0 0, V25]) (is' := [.own V25 (lc E19), .own (.slice (some ⟨B24, 0, none⟩) 1 1) (lc ([E14.No])), .box B_c 94 [V_c0, .int .i64 R8.2.i, .int .i64 R8.2.h], .box B1 34 [.slice none 0 0, .slice none 0 0], .box B2 34 [.slice none 0 0, V25]]) 4 kk32 rfl rfl rfl (Cel.one (One.can (Can.own 0 rfl))) rfl rfl rfl rfl) rfl rfl rfl (fun _ => rfl) (fun _ => ?_)
              refine TA.nil (by kernel_rfl) ?_
              exact TE.jb_go V25 [2, 2, 2, 0] ⟨rfl, rfl, rfl, rfl, rfl, trivial⟩ rfl
            · refine TX.ef (listed' := #[true, false, true, true, true, true, true, true, false, false, false]) [1, 1] rfl (Ef.buildSlice (α := Int) (Vs := [.int .i64 E14.No]) [E14.No] ke32 kz3 rfl rfl rfl rfl rfl) rfl rfl rfl rfl (fun _ => rfl) (fun B23 => ?_)
              refine TA.one 1 (by kernel_rfl) ?_
              refine TX.y (listed' := #[true, true, true, true, true, true, true, true, false, false, false]) [1, 1] rfl (Y.load_box (v := X4) 3 kk32 rfl rfl rfl) rfl rfl rfl rfl rfl ?_
              refine TA.one 8 (by kernel_rfl) ?_
              refine TX.ef (listed' := #[true, true, true, true, true, true, true, true, true, false, false]) [2, 2] rfl (Ef.append (α := Int) (is' := [.own (.slice (some ⟨B23, 0, none⟩) 1 1) (lc ([E14.No])), .box B_c 94 [V_c0, .int .i64 R8.2.i, .int .i64 R8.2.h], .box B1 34 [.slice none 0 0, .slice none 0 0], .box B2 34 [.slice none 0 0, X4]]) [4, 0, 0, 0, 0] H20 ke32 kz3 rfl rfl rfl rfl rfl (Can.own 0 rfl)) rfl rfl rfl rfl (fun _ => rfl) (fun V24 => ?_)
              refine TA.y (listed' := #[true, true, true, true, true, true, true, true, true, true, false]) 9 [2, 2] rfl (Y.field_box kf34_1 rfl rfl) rfl rfl rfl (by kernel_rfl) (by kernel_rfl) (by kernel_rfl) rfl rfl ?_
              refine TA.one 10 (by kernel_rfl) ?_
              refine TX.ef0 (listed' := #[true, true, true, true, true, true, true, true, true, true, true]) [2, 2] rfl (Ef.store_box (us := [V24]) (vs' := [.slice none 0 0, V24]) (is' := [.own V24 (lc E19), .own (.slice (some ⟨B23, 0, none⟩) 1 1) (lc ([E14.No])), .box B_c 94 [V_c0, .int .i64 R8.2.i, .int .i64 R8.2.h], .box B1 34 [.slice none 0 0, .slice none 0 0], .box B2 34 [.slice none 0 0, V24]]) 4 kk32 rfl rfl rfl (Cel.one (One.can (Can.own 0 rfl))) rfl rfl rfl rfl) rfl rfl rfl (fun _ => rfl) (fun _ => ?_)
              refine TA.nil (by kernel_rfl) ?_
              exact TE.jb_go V24 [2, 2, 2, 0] ⟨rfl, rfl, rfl, rfl, rfl, trivial⟩ rfl
          · exact TE.jn_go X22 [0, 0, 0, 0] ⟨rfl, rfl, rfl, rfl, rfl, trivial⟩ rfl
        · refine TW.skip ?_
          exact TE.jn_go X4 [0, 0, 0, 0] ⟨rfl, rfl, rfl, rfl, rfl, trivial⟩ rfl
      · refine TE.block_normal ?_
        refine TE.next ?_
        refine TW.region ?_
        refine TO.y (Y.move rfl) rfl rfl rfl ?_
        refine TO.y (Y.add rfl rfl) rfl rfl rfl ?_
        refine TO.y (Y.assign rfl) rfl rfl rfl ?_
        refine TO.nil ?_
        exact TE.lp_go X12 [0, 0, 0, 0] ⟨rfl, rfl, rfl, rfl, rfl, trivial⟩ rfl
    · refine TW.exit ?_
      refine TE.then_exit ?_
      refine TE.lp_exit ?_
      refine TE.block_exit ?_
      exact TE.jn_go X4 [0, 0, 0, 0] ⟨rfl, rfl, rfl, trivial⟩ rfl
  · refine TE.next ?_
    refine TW.seq ?_
    refine TW.seq ?_
    refine TW.region ?_
    refine TO.y (Y.move rfl) rfl rfl rfl ?_
    refine TO.bind fun R24 H25 => ?_
    refine TO.ef (Ef.call (rest := [.box B1 34 [.slice none 0 0, .slice none 0 0], .box B2 34 [.slice none 0 0, X6], .own X6 (lc T5.2.2)]) [0, 0, 0, 0] (spec_l1Below_con ({ b := c.b, i := T5.1, h := T5.2.1 : L1Cur }) (3 : Int) V_c0 B_c R24 H25) kc31 rfl rfl ⟨(Base.can HB_V_c0), trivial⟩) rfl rfl rfl (fun _ => ?_)
    refine TO.y (Y.assign rfl) rfl rfl rfl ?_
    refine TO.nil ?_
    refine TE.next ?_
    refine TW.joinX (τ := Int × Int × List File) (X := Value) (fun _ _ => [(0, .pointer (some ⟨B_c, 0, none⟩)), (4, .pointer (some ⟨B1, 0, none⟩)), (5, .pointer (some ⟨B2, 0, none⟩))]) (fun T X => [.box B_c 94 [V_c0, .int .i64 T.1, .int .i64 T.2.1], .box B1 34 [.slice none 0 0, .slice none 0 0], .box B2 34 [X, X6], .own X (lc T.2.2), .own X6 (lc T5.2.2)]) ?_ (fun T29 X30 => ?_)
    · refine TW.block ?_
      refine TW.nilItem 4 ?_
      refine TW.loopX (σ := Int × Int × Int × List File) (X := Value) (fun T _ => [(0, .pointer (some ⟨B_c, 0, none⟩)), (4, .pointer (some ⟨B1, 0, none⟩)), (5, .pointer (some ⟨B2, 0, none⟩)), (7, .int .i64 T.2.2.1)]) (fun T X => [.box B_c 94 [V_c0, .int .i64 T.1, .int .i64 T.2.1], .box B1 34 [.slice none 0 0, .slice none 0 0], .box B2 34 [X, X6], .own X (lc T.2.2.2), .own X6 (lc T5.2.2)]) (.slice none 0 0) [1, 1, 1, 0, 0] ⟨rfl, rfl, rfl, rfl, trivial⟩ rfl (fun S27 X28 => ?_)
      refine TW.seq ?_
      refine TW.seq ?_
      refine TW.region ?_
      refine TO.y (Y.move rfl) rfl rfl rfl ?_
      refine TO.y (Y.gtr rfl rfl) rfl rfl rfl ?_
      refine TO.nil ?_
      refine TE.next ?_
      refine TW.cond rfl (fun H31 => ?_) (fun H31 => ?_)
      · refine TW.skip ?_
        refine TE.next ?_
        refine TW.seq ?_
        refine TW.block ?_
        refine TW.bind fun R32 H33 => ?_
        refine TW.bind fun E38 H39 => ?_
        refine TW.joinU (X := Value) (fun _ _ => [(0, .pointer (some ⟨B_c, 0, none⟩)), (4, .pointer (some ⟨B1, 0, none⟩)), (5, .pointer (some ⟨B2, 0, none⟩)), (7, .int .i64 S27.2.2.1)]) (fun _ X => [.box B_c 94 [V_c0, .int .i64 R32.2.i, .int .i64 R32.2.h], .box B1 34 [.slice none 0 0, .slice none 0 0], .box B2 34 [X, X6], .own X (lc E38), .own X6 (lc T5.2.2)]) ?_ (fun _ X41 => ?_)
        · refine TW.draw (isH := [.box B1 34 [.slice none 0 0, .slice none 0 0], .own X6 (lc T5.2.2)]) hMix ?_
          refine TA.y (listed' := #[true, false, false, false, false, false, false, false]) 0 [1, 3] rfl (Y.field_box kf34_0 rfl rfl) rfl rfl rfl (by kernel_rfl) (by kernel_rfl) (by kernel_rfl) rfl rfl ?_
          refine TA.y (listed' := #[true, false, true, false, false, false, false, false]) 2 [1, 3] rfl (Y.move rfl) rfl rfl rfl (by kernel_rfl) (by kernel_rfl) (by kernel_rfl) rfl rfl ?_
          refine TA.two 1 3 (by kernel_rfl) ?_ ?_
          · refine TX.y (listed' := #[true, true, true, false, false, false, false, false]) [1, 3] rfl (Y.load_box (v := X28) 2 kk26 rfl rfl rfl) rfl rfl rfl rfl rfl ?_
            refine TA.one 3 (by kernel_rfl) ?_
            refine TX.ef (listed' := #[true, true, true, true, false, false, false, false]) [1, 3] rfl (Ef.call (rest := [.box B1 34 [.slice none 0 0, .slice none 0 0], .box B2 34 [X28, X6], .own X28 (lc S27.2.2.2), .own X6 (lc T5.2.2)]) [0, 0, 0, 0, 0] (spec_l16File_con ({ b := c.b, i := S27.1, h := S27.2.1 : L1Cur }) V_c0 B_c R32 H33) kc55 rfl rfl ⟨(Base.can HB_V_c0), trivial⟩) rfl rfl rfl rfl (fun _ => rfl) (fun _ => ?_)
            refine TA.one 4 (by kernel_rfl) ?_
            refine TX.ef (listed' := #[true, true, true, true, true, false, false, false]) [2, 4] rfl (Ef.buildSlice (α := File) (Vs := [.agg #[.int .i64 R32.1.No, .int .i64 R32.1.Level, strV R32.1.Lo, strV R32.1.Hi]]) [R32.1] ke26 kz43 rfl rfl rfl rfl rfl) rfl rfl rfl rfl (fun _ => rfl) (fun B44 => ?_)
            refine TA.one 5 (by kernel_rfl) ?_
            refine TX.ef (listed' := #[true, true, true, true, true, true, false, false]) [3, 4] rfl (Ef.append (α := File) (is' := [.own (.slice (some ⟨B44, 0, none⟩) 1 1) (lc ([R32.1])), .box B_c 94 [V_c0, .int .i64 R32.2.i, .int .i64 R32.2.h], .box B1 34 [.slice none 0 0, .slice none 0 0], .box B2 34 [X28, X6], .own X6 (lc T5.2.2)]) [4, 0, 0, 0, 0, 0] H39 ke26 kz43 rfl rfl rfl rfl rfl (Can.own 0 rfl)) rfl rfl rfl rfl (fun _ => rfl) (fun V45 => ?_)
            refine TA.y (listed' := #[true, true, true, true, true, true, true, false]) 6 [3, 4] rfl (Y.field_box kf34_0 rfl rfl) rfl rfl rfl (by kernel_rfl) (by kernel_rfl) (by kernel_rfl) rfl rfl ?_
            refine TA.one 7 (by kernel_rfl) ?_
            refine TX.ef0 (listed' := #[true, true, true, true, true, true, true, true]) [3, 4] rfl (Ef.store_box (us := [V45]) (vs' := [V45, X6]) (is' := [.own V45 (lc E38), .own (.slice (some ⟨B44, 0, none⟩) 1 1) (lc ([R32.1])), .box B_c 94 [V_c0, .int .i64 R32.2.i, .int .i64 R32.2.h], .box B1 34 [.slice none 0 0, .slice none 0 0], .box B2 34 [V45, X6], .own X6 (lc T5.2.2)]) 4 kk26 rfl rfl rfl (Cel.one (One.can (Can.own 0 rfl))) rfl rfl rfl rfl) rfl rfl rfl (fun _ => rfl) (fun _ => ?_)
            refine TA.nil (by kernel_rfl) ?_
            exact TE.jb_go V45 [2, 2, 2, 0, 1] ⟨rfl, rfl, rfl, rfl, trivial⟩ rfl
          · refine TX.ef (listed' := #[true, false, true, true, false, false, false, false]) [1, 3] rfl (Ef.call (rest := [.box B1 34 [.slice none 0 0, .slice none 0 0], .box B2 34 [X28, X6], .own X28 (lc S27.2.2.2), .own X6 (lc T5.2.2)]) [0, 0, 0, 0, 0] (spec_l16File_con ({ b := c.b, i := S27.1, h := S27.2.1 : L1Cur }) V_c0 B_c R32 H33) kc55 rfl rfl ⟨(Base.can HB_V_c0), trivial⟩) rfl rfl rfl rfl (fun _ => rfl) (fun _ => ?_)
            refine TA.two 1 4 (by kernel_rfl) ?_ ?_
            · refine TX.y (listed' := #[true, true, true, true, false, false, false, false]) [1, 3] rfl (Y.load_box (v := X28) 2 kk26 rfl rfl rfl) rfl rfl rfl rfl rfl ?_
              refine TA.one 4 (by kernel_rfl) ?_
              refine TX.ef (listed' := #[true, true, true, true, true, false, false, false]) [2, 4] rfl (Ef.buildSlice (α := File) (Vs := [.agg #[.int .i64 R32.1.No, .int .i64 R32.1.Level, strV R32.1.Lo, strV R32.1.Hi]]) [R32.1] ke26 kz43 rfl rfl rfl rfl rfl) rfl rfl rfl rfl (fun _ => rfl) (fun B44 => ?_)
              refine TA.one 5 (by kernel_rfl) ?_
              refine TX.ef (listed' := #[true, true, true, true, true, true, false, false]) [3, 4] rfl (Ef.append (α := File) (is' := [.own (.slice (some ⟨B44, 0, none⟩) 1 1) (lc ([R32.1])), .box B_c 94 [V_c0, .int .i64 R32.2.i, .int .i64 R32.2.h], .box B1 34 [.slice none 0 0, .slice none 0 0], .box B2 34 [X28, X6], .own X6 (lc T5.2.2)]) [4, 0, 0, 0, 0, 0] H39 ke26 kz43 rfl rfl rfl rfl rfl (Can.own 0 rfl)) rfl rfl rfl rfl (fun _ => rfl) (fun V45 => ?_)
              refine TA.y (listed' := #[true, true, true, true, true, true, true, false]) 6 [3, 4] rfl (Y.field_box kf34_0 rfl rfl) rfl rfl rfl (by kernel_rfl) (by kernel_rfl) (by kernel_rfl) rfl rfl ?_
              refine TA.one 7 (by kernel_rfl) ?_
              refine TX.ef0 (listed' := #[true, true, true, true, true, true, true, true]) [3, 4] rfl (Ef.store_box (us := [V45]) (vs' := [V45, X6]) (is' := [.own V45 (lc E38), .own (.slice (some ⟨B44, 0, none⟩) 1 1) (lc ([R32.1])), .box B_c 94 [V_c0, .int .i64 R32.2.i, .int .i64 R32.2.h], .box B1 34 [.slice none 0 0, .slice none 0 0], .box B2 34 [V45, X6], .own X6 (lc T5.2.2)]) 4 kk26 rfl rfl rfl (Cel.one (One.can (Can.own 0 rfl))) rfl rfl rfl rfl) rfl rfl rfl (fun _ => rfl) (fun _ => ?_)
              refine TA.nil (by kernel_rfl) ?_
              exact TE.jb_go V45 [2, 2, 2, 0, 1] ⟨rfl, rfl, rfl, rfl, trivial⟩ rfl
            · refine TX.ef (listed' := #[true, false, true, true, true, false, false, false]) [2, 4] rfl (Ef.buildSlice (α := File) (Vs := [.agg #[.int .i64 R32.1.No, .int .i64 R32.1.Level, strV R32.1.Lo, strV R32.1.Hi]]) [R32.1] ke26 kz43 rfl rfl rfl rfl rfl) rfl rfl rfl rfl (fun _ => rfl) (fun B43 => ?_)
              refine TA.one 1 (by kernel_rfl) ?_
              refine TX.y (listed' := #[true, true, true, true, true, false, false, false]) [2, 4] rfl (Y.load_box (v := X28) 3 kk26 rfl rfl rfl) rfl rfl rfl rfl rfl ?_
              refine TA.one 5 (by kernel_rfl) ?_
              refine TX.ef (listed' := #[true, true, true, true, true, true, false, false]) [3, 4] rfl (Ef.append (α := File) (is' := [.own (.slice (some ⟨B43, 0, none⟩) 1 1) (lc ([R32.1])), .box B_c 94 [V_c0, .int .i64 R32.2.i, .int .i64 R32.2.h], .box B1 34 [.slice none 0 0, .slice none 0 0], .box B2 34 [X28, X6], .own X6 (lc T5.2.2)]) [4, 0, 0, 0, 0, 0] H39 ke26 kz43 rfl rfl rfl rfl rfl (Can.own 0 rfl)) rfl rfl rfl rfl (fun _ => rfl) (fun V44 => ?_)
              refine TA.y (listed' := #[true, true, true, true, true, true, true, false]) 6 [3, 4] rfl (Y.field_box kf34_0 rfl rfl) rfl rfl rfl (by kernel_rfl) (by kernel_rfl) (by kernel_rfl) rfl rfl ?_
              refine TA.one 7 (by kernel_rfl) ?_
              refine TX.ef0 (listed' := #[true, true, true, true, true, true, true, true]) [3, 4] rfl (Ef.store_box (us := [V44]) (vs' := [V44, X6]) (is' := [.own V44 (lc E38), .own (.slice (some ⟨B43, 0, none⟩) 1 1) (lc ([R32.1])), .box B_c 94 [V_c0, .int .i64 R32.2.i, .int .i64 R32.2.h], .box B1 34 [.slice none 0 0, .slice none 0 0], .box B2 34 [V44, X6], .own X6 (lc T5.2.2)]) 4 kk26 rfl rfl rfl (Cel.one (One.can (Can.own 0 rfl))) rfl rfl rfl rfl) rfl rfl rfl (fun _ => rfl) (fun _ => ?_)
              refine TA.nil (by kernel_rfl) ?_
              exact TE.jb_go V44 [2, 2, 2, 0, 1] ⟨rfl, rfl, rfl, rfl, trivial⟩ rfl
        · refine TE.block_normal ?_
          refine TE.next ?_
          refine TW.region ?_
          refine TO.y (Y.move rfl) rfl rfl rfl ?_
          refine TO.y (Y.sub rfl rfl) rfl rfl rfl ?_
          refine TO.y (Y.assign rfl) rfl rfl rfl ?_
          refine TO.nil ?_
          exact TE.lp_go X41 [0, 0, 0, 0, 0] ⟨rfl, rfl, rfl, rfl, trivial⟩ rfl
      · refine TW.exit ?_
        refine TE.then_exit ?_
        refine TE.lp_exit ?_
        refine TE.block_exit ?_
        exact TE.jn_go X28 [0, 0, 0, 0, 0] ⟨rfl, rfl, rfl, trivial⟩ rfl
    · refine TE.next ?_
      refine TW.seq ?_
      refine TW.seq ?_
      refine TW.region ?_
      refine TO.y (Y.move rfl) rfl rfl rfl ?_
      refine TO.bind fun R43 H44 => ?_
      refine TO.ef (Ef.call (rest := [.box B1 34 [.slice none 0 0, .slice none 0 0], .box B2 34 [X30, X6], .own X30 (lc T29.2.2), .own X6 (lc T5.2.2)]) [0, 0, 0, 0, 0] (spec_l1Once_con ({ b := c.b, i := T29.1, h := T29.2.1 : L1Cur }) (12 : Int) V_c0 B_c R43 H44) kc34 rfl rfl ⟨(Base.can HB_V_c0), trivial⟩) rfl rfl rfl (fun _ => ?_)
      refine TO.nil ?_
      refine TE.next ?_
      refine TW.joinX (τ := Int × Int × List Int) (X := Value) (fun _ _ => [(4, .pointer (some ⟨B1, 0, none⟩)), (5, .pointer (some ⟨B2, 0, none⟩))]) (fun T X => [.box B1 34 [.slice none 0 0, .slice none 0 0], .box B2 34 [X30, X], .box B_c 94 [V_c0, .int .i64 T.1, .int .i64 T.2.1], .own X30 (lc T29.2.2), .own X (lc T.2.2)]) ?_ (fun T46 X47 => ?_)
      · refine TW.cond rfl (fun H48 => ?_) (fun H48 => ?_)
        · refine TW.bind fun R51 H52 => ?_
          refine TW.bind fun E56 H57 => ?_
          refine TW.joinU (X := Value) (fun _ _ => [(4, .pointer (some ⟨B1, 0, none⟩)), (5, .pointer (some ⟨B2, 0, none⟩))]) (fun _ X => [.box B1 34 [.slice none 0 0, .slice none 0 0], .box B2 34 [X30, X], .box B_c 94 [V_c0, .int .i64 R51.2.i, .int .i64 R51.2.h], .own X30 (lc T29.2.2), .own X (lc E56)]) ?_ (fun _ X59 => ?_)
          · refine TW.draw (isH := [.box B1 34 [.slice none 0 0, .slice none 0 0], .own X30 (lc T29.2.2)]) hMix ?_
            refine TA.y (listed' := #[true, false, false, false, false, false, false, false, false]) 0 [1, 2] rfl (Y.field_box kf34_1 rfl rfl) rfl rfl rfl (by kernel_rfl) (by kernel_rfl) (by kernel_rfl) rfl rfl ?_
            refine TA.y (listed' := #[true, false, true, false, false, false, false, false, false]) 2 [1, 2] rfl (Y.move rfl) rfl rfl rfl (by kernel_rfl) (by kernel_rfl) (by kernel_rfl) rfl rfl ?_
            refine TA.two 1 3 (by kernel_rfl) ?_ ?_
            · refine TX.y (listed' := #[true, true, true, false, false, false, false, false, false]) [1, 2] rfl (Y.load_box (v := X6) 2 kk32 rfl rfl rfl) rfl rfl rfl rfl rfl ?_
              refine TA.one 3 (by kernel_rfl) ?_
              refine TX.ef (listed' := #[true, true, true, true, false, false, false, false, false]) [2, 3] rfl (Ef.buildSlice (α := Int) (Vs := [.int .i64 (-1 : Int), .int .i64 (0 : Int), .int .i64 (50 : Int), .int .i64 (1000001 : Int)]) [(-1 : Int), (0 : Int), (50 : Int), (1000001 : Int)] ke32 kz3 rfl rfl rfl rfl rfl) rfl rfl rfl rfl (fun _ => rfl) (fun B61 => ?_)
              refine TA.one 4 (by kernel_rfl) ?_
              refine TX.ef (listed' := #[true, true, true, true, true, false, false, false, false]) [2, 3] rfl (Ef.call (rest := [.own (.slice (some ⟨B61, 0, none⟩) 4 4) (lc ([(-1 : Int), (0 : Int), (50 : Int), (1000001 : Int)])), .box B1 34 [.slice none 0 0, .slice none 0 0], .box B2 34 [X30, X6], .own X30 (lc T29.2.2), .own X6 (lc T5.2.2)]) [1, 0, 0, 0, 0, 0] (spec_l1PickInt_con ({ b := c.b, i := R43.2.i, h := R43.2.h : L1Cur }) ([(-1 : Int), (0 : Int), (50 : Int), (1000001 : Int)]) V_c0 B_c (.slice (some ⟨B61, 0, none⟩) 4 4) R51 H52) kc63 rfl rfl ⟨(Base.can HB_V_c0), (Can.own 0 rfl), trivial⟩) rfl rfl rfl rfl (fun _ => rfl) (fun _ => ?_)
              refine TA.one 5 (by kernel_rfl) ?_
              refine TX.ef (listed' := #[true, true, true, true, true, true, false, false, false]) [3, 4] rfl (Ef.buildSlice (α := Int) (Vs := [.int .i64 R51.1]) [R51.1] ke32 kz3 rfl rfl rfl rfl rfl) rfl rfl rfl rfl (fun _ => rfl) (fun B63 => ?_)
              refine TA.one 6 (by kernel_rfl) ?_
              refine TX.ef (listed' := #[true, true, true, true, true, true, true, false, false]) [4, 5] rfl (Ef.append (α := Int) (is' := [.own (.slice (some ⟨B63, 0, none⟩) 1 1) (lc ([R51.1])), .box B_c 94 [V_c0, .int .i64 R51.2.i, .int .i64 R51.2.h], .own (.slice (some ⟨B61, 0, none⟩) 4 4) (lc ([(-1 : Int), (0 : Int), (50 : Int), (1000001 : Int)])), .box B1 34 [.slice none 0 0, .slice none 0 0], .box B2 34 [X30, X6], .own X30 (lc T29.2.2)]) [6, 0, 0, 0, 0, 0, 0] H57 ke32 kz3 rfl rfl rfl rfl rfl (Can.own 0 rfl)) rfl rfl rfl rfl (fun _ => rfl) (fun V64 => ?_)
              refine TA.y (listed' := #[true, true, true, true, true, true, true, true, false]) 7 [4, 5] rfl (Y.field_box kf34_1 rfl rfl) rfl rfl rfl (by kernel_rfl) (by kernel_rfl) (by kernel_rfl) rfl rfl ?_
              refine TA.one 8 (by kernel_rfl) ?_
              refine TX.ef0 (listed' := #[true, true, true, true, true, true, true, true, true]) [4, 5] rfl (Ef.store_box (us := [V64]) (vs' := [X30, V64]) (is' := [.own V64 (lc E56), .own (.slice (some ⟨B63, 0, none⟩) 1 1) (lc ([R51.1])), .box B_c 94 [V_c0, .int .i64 R51.2.i, .int .i64 R51.2.h], .own (.slice (some ⟨B61, 0, none⟩) 4 4) (lc ([(-1 : Int), (0 : Int), (50 : Int), (1000001 : Int)])), .box B1 34 [.slice none 0 0, .slice none 0 0], .box B2 34 [X30, V64], .own X30 (lc T29.2.2)]) 5 kk32 rfl rfl rfl (Cel.one (One.can (Can.own 0 rfl))) rfl rfl rfl rfl) rfl rfl rfl (fun _ => rfl) (fun _ => ?_)
              refine TA.nil (by kernel_rfl) ?_
              exact TE.jb_go V64 [4, 4, 2, 3, 0] ⟨rfl, rfl, trivial⟩ rfl
            · refine TX.ef (listed' := #[true, false, true, true, false, false, false, false, false]) [2, 3] rfl (Ef.buildSlice (α := Int) (Vs := [.int .i64 (-1 : Int), .int .i64 (0 : Int), .int .i64 (50 : Int), .int .i64 (1000001 : Int)]) [(-1 : Int), (0 : Int), (50 : Int), (1000001 : Int)] ke32 kz3 rfl rfl rfl rfl rfl) rfl rfl rfl rfl (fun _ => rfl) (fun B60 => ?_)
              refine TA.two 1 4 (by kernel_rfl) ?_ ?_
              · refine TX.y (listed' := #[true, true, true, true, false, false, false, false, false]) [2, 3] rfl (Y.load_box (v := X6) 3 kk32 rfl rfl rfl) rfl rfl rfl rfl rfl ?_
                refine TA.one 4 (by kernel_rfl) ?_
                refine TX.ef (listed' := #[true, true, true, true, true, false, false, false, false]) [2, 3] rfl (Ef.call (rest := [.own (.slice (some ⟨B60, 0, none⟩) 4 4) (lc ([(-1 : Int), (0 : Int), (50 : Int), (1000001 : Int)])), .box B1 34 [.slice none 0 0, .slice none 0 0], .box B2 34 [X30, X6], .own X30 (lc T29.2.2), .own X6 (lc T5.2.2)]) [1, 0, 0, 0, 0, 0] (spec_l1PickInt_con ({ b := c.b, i := R43.2.i, h := R43.2.h : L1Cur }) ([(-1 : Int), (0 : Int), (50 : Int), (1000001 : Int)]) V_c0 B_c (.slice (some ⟨B60, 0, none⟩) 4 4) R51 H52) kc63 rfl rfl ⟨(Base.can HB_V_c0), (Can.own 0 rfl), trivial⟩) rfl rfl rfl rfl (fun _ => rfl) (fun _ => ?_)
                refine TA.one 5 (by kernel_rfl) ?_
                refine TX.ef (listed' := #[true, true, true, true, true, true, false, false, false]) [3, 4] rfl (Ef.buildSlice (α := Int) (Vs := [.int .i64 R51.1]) [R51.1] ke32 kz3 rfl rfl rfl rfl rfl) rfl rfl rfl rfl (fun _ => rfl) (fun B63 => ?_)
                refine TA.one 6 (by kernel_rfl) ?_
                refine TX.ef (listed' := #[true, true, true, true, true, true, true, false, false]) [4, 5] rfl (Ef.append (α := Int) (is' := [.own (.slice (some ⟨B63, 0, none⟩) 1 1) (lc ([R51.1])), .box B_c 94 [V_c0, .int .i64 R51.2.i, .int .i64 R51.2.h], .own (.slice (some ⟨B60, 0, none⟩) 4 4) (lc ([(-1 : Int), (0 : Int), (50 : Int), (1000001 : Int)])), .box B1 34 [.slice none 0 0, .slice none 0 0], .box B2 34 [X30, X6], .own X30 (lc T29.2.2)]) [6, 0, 0, 0, 0, 0, 0] H57 ke32 kz3 rfl rfl rfl rfl rfl (Can.own 0 rfl)) rfl rfl rfl rfl (fun _ => rfl) (fun V64 => ?_)
                refine TA.y (listed' := #[true, true, true, true, true, true, true, true, false]) 7 [4, 5] rfl (Y.field_box kf34_1 rfl rfl) rfl rfl rfl (by kernel_rfl) (by kernel_rfl) (by kernel_rfl) rfl rfl ?_
                refine TA.one 8 (by kernel_rfl) ?_
                refine TX.ef0 (listed' := #[true, true, true, true, true, true, true, true, true]) [4, 5] rfl (Ef.store_box (us := [V64]) (vs' := [X30, V64]) (is' := [.own V64 (lc E56), .own (.slice (some ⟨B63, 0, none⟩) 1 1) (lc ([R51.1])), .box B_c 94 [V_c0, .int .i64 R51.2.i, .int .i64 R51.2.h], .own (.slice (some ⟨B60, 0, none⟩) 4 4) (lc ([(-1 : Int), (0 : Int), (50 : Int), (1000001 : Int)])), .box B1 34 [.slice none 0 0, .slice none 0 0], .box B2 34 [X30, V64], .own X30 (lc T29.2.2)]) 5 kk32 rfl rfl rfl (Cel.one (One.can (Can.own 0 rfl))) rfl rfl rfl rfl) rfl rfl rfl (fun _ => rfl) (fun _ => ?_)
                refine TA.nil (by kernel_rfl) ?_
                exact TE.jb_go V64 [4, 4, 2, 3, 0] ⟨rfl, rfl, trivial⟩ rfl
              · refine TX.ef (listed' := #[true, false, true, true, true, false, false, false, false]) [2, 3] rfl (Ef.call (rest := [.own (.slice (some ⟨B60, 0, none⟩) 4 4) (lc ([(-1 : Int), (0 : Int), (50 : Int), (1000001 : Int)])), .box B1 34 [.slice none 0 0, .slice none 0 0], .box B2 34 [X30, X6], .own X30 (lc T29.2.2), .own X6 (lc T5.2.2)]) [1, 0, 0, 0, 0, 0] (spec_l1PickInt_con ({ b := c.b, i := R43.2.i, h := R43.2.h : L1Cur }) ([(-1 : Int), (0 : Int), (50 : Int), (1000001 : Int)]) V_c0 B_c (.slice (some ⟨B60, 0, none⟩) 4 4) R51 H52) kc63 rfl rfl ⟨(Base.can HB_V_c0), (Can.own 0 rfl), trivial⟩) rfl rfl rfl rfl (fun _ => rfl) (fun _ => ?_)
                refine TA.two 1 5 (by kernel_rfl) ?_ ?_
                · refine TX.y (listed' := #[true, true, true, true, true, false, false, false, false]) [2, 3] rfl (Y.load_box (v := X6) 3 kk32 rfl rfl rfl) rfl rfl rfl rfl rfl ?_
                  refine TA.one 5 (by kernel_rfl) ?_
                  refine TX.ef (listed' := #[true, true, true, true, true, true, false, false, false]) [3, 4] rfl (Ef.buildSlice (α := Int) (Vs := [.int .i64 R51.1]) [R51.1] ke32 kz3 rfl rfl rfl rfl rfl) rfl rfl rfl rfl (fun _ => rfl) (fun B63 => ?_)
                  refine TA.one 6 (by kernel_rfl) ?_
                  refine TX.ef (listed' := #[true, true, true, true, true, true, true, false, false]) [4, 5] rfl (Ef.append (α := Int) (is' := [.own (.slice (some ⟨B63, 0, none⟩) 1 1) (lc ([R51.1])), .box B_c 94 [V_c0, .int .i64 R51.2.i, .int .i64 R51.2.h], .own (.slice (some ⟨B60, 0, none⟩) 4 4) (lc ([(-1 : Int), (0 : Int), (50 : Int), (1000001 : Int)])), .box B1 34 [.slice none 0 0, .slice none 0 0], .box B2 34 [X30, X6], .own X30 (lc T29.2.2)]) [6, 0, 0, 0, 0, 0, 0] H57 ke32 kz3 rfl rfl rfl rfl rfl (Can.own 0 rfl)) rfl rfl rfl rfl (fun _ => rfl) (fun V64 => ?_)
                  refine TA.y (listed' := #[true, true, true, true, true, true, true, true, false]) 7 [4, 5] rfl (Y.field_box kf34_1 rfl rfl) rfl rfl rfl (by kernel_rfl) (by kernel_rfl) (by kernel_rfl) rfl rfl ?_
                  refine TA.one 8 (by kernel_rfl) ?_
                  refine TX.ef0 (listed' := #[true, true, true, true, true, true, true, true, true]) [4, 5] rfl (Ef.store_box (us := [V64]) (vs' := [X30, V64]) (is' := [.own V64 (lc E56), .own (.slice (some ⟨B63, 0, none⟩) 1 1) (lc ([R51.1])), .box B_c 94 [V_c0, .int .i64 R51.2.i, .int .i64 R51.2.h], .own (.slice (some ⟨B60, 0, none⟩) 4 4) (lc ([(-1 : Int), (0 : Int), (50 : Int), (1000001 : Int)])), .box B1 34 [.slice none 0 0, .slice none 0 0], .box B2 34 [X30, V64], .own X30 (lc T29.2.2)]) 5 kk32 rfl rfl rfl (Cel.one (One.can (Can.own 0 rfl))) rfl rfl rfl rfl) rfl rfl rfl (fun _ => rfl) (fun _ => ?_)
                  refine TA.nil (by kernel_rfl) ?_
                  exact TE.jb_go V64 [4, 4, 2, 3, 0] ⟨rfl, rfl, trivial⟩ rfl
                · refine TX.ef (listed' := #[true, false, true, true, true, true, false, false, false]) [3, 4] rfl (Ef.buildSlice (α := Int) (Vs := [.int .i64 R51.1]) [R51.1] ke32 kz3 rfl rfl rfl rfl rfl) rfl rfl rfl rfl (fun _ => rfl) (fun B62 => ?_)
                  refine TA.one 1 (by kernel_rfl) ?_
                  refine TX.y (listed' := #[true, true, true, true, true, true, false, false, false]) [3, 4] rfl (Y.load_box (v := X6) 4 kk32 rfl rfl rfl) rfl rfl rfl rfl rfl ?_
                  refine TA.one 6 (by kernel_rfl) ?_
                  refine TX.ef (listed' := #[true, true, true, true, true, true, true, false, false]) [4, 5] rfl (Ef.append (α := Int) (is' := [.own (.slice (some ⟨B62, 0, none⟩) 1 1) (lc ([R51.1])), .box B_c 94 [V_c0, .int .i64 R51.2.i, .int .i64 R51.2.h], .own (.slice (some ⟨B60, 0, none⟩) 4 4) (lc ([(-1 : Int), (0 : Int), (50 : Int), (1000001 : Int)])), .box B1 34 [.slice none 0 0, .slice none 0 0], .box B2 34 [X30, X6], .own X30 (lc T29.2.2)]) [6, 0, 0, 0, 0, 0, 0] H57 ke32 kz3 rfl rfl rfl rfl rfl (Can.own 0 rfl)) rfl rfl rfl rfl (fun _ => rfl) (fun V63 => ?_)
                  refine TA.y (listed' := #[true, true, true, true, true, true, true, true, false]) 7 [4, 5] rfl (Y.field_box kf34_1 rfl rfl) rfl rfl rfl (by kernel_rfl) (by kernel_rfl) (by kernel_rfl) rfl rfl ?_
                  refine TA.one 8 (by kernel_rfl) ?_
                  refine TX.ef0 (listed' := #[true, true, true, true, true, true, true, true, true]) [4, 5] rfl (Ef.store_box (us := [V63]) (vs' := [X30, V63]) (is' := [.own V63 (lc E56), .own (.slice (some ⟨B62, 0, none⟩) 1 1) (lc ([R51.1])), .box B_c 94 [V_c0, .int .i64 R51.2.i, .int .i64 R51.2.h], .own (.slice (some ⟨B60, 0, none⟩) 4 4) (lc ([(-1 : Int), (0 : Int), (50 : Int), (1000001 : Int)])), .box B1 34 [.slice none 0 0, .slice none 0 0], .box B2 34 [X30, V63], .own X30 (lc T29.2.2)]) 5 kk32 rfl rfl rfl (Cel.one (One.can (Can.own 0 rfl))) rfl rfl rfl rfl) rfl rfl rfl (fun _ => rfl) (fun _ => ?_)
                  refine TA.nil (by kernel_rfl) ?_
                  exact TE.jb_go V63 [4, 4, 2, 3, 0] ⟨rfl, rfl, trivial⟩ rfl
          · exact TE.jn_go X59 [0, 0, 0, 0, 0] ⟨rfl, rfl, trivial⟩ rfl
        · refine TW.skip ?_
          exact TE.jn_go X6 [1, 1, 0, 0, 0] ⟨rfl, rfl, trivial⟩ rfl
      · refine TE.next ?_
        refine TW.seq ?_
        refine TW.region ?_
        refine TO.y (Y.load_box (v := .agg #[X30, X47]) 1 kk34 rfl rfl rfl) rfl rfl rfl ?_
        refine TO.ef0 (Ef.store_box (us := [X30, X47]) (vs' := [X30, X47]) (is' := [.box B1 34 [X30, X47], .box B2 34 [X30, X47], .box B_c 94 [V_c0, .int .i64 T46.1, .int .i64 T46.2.1], .own X30 (lc T29.2.2), .own X47 (lc T46.2.2)]) 0 kk34 rfl rfl rfl (Cel.agg ⟨(One.can (Can.own 3 rfl)), (One.can (Can.own 4 rfl)), trivial⟩) rfl rfl rfl rfl) rfl rfl (fun _ => ?_)
        refine TO.nil ?_
        refine TE.next ?_
        refine TW.ret ?_
        exact TE.leaf fun _ _ hf_ hs_ => ret_any (rs := [.cell 4 34]) (vs := [.agg #[X30, X47]]) (.inl rfl) rfl (RV.cell 0 rfl rfl kk34 rfl trivial) hf_ hs_ ⟨(X30, X47), rfl, hs_.pulls [2, 2, 2] rfl⟩

/-- loop.example/g00950/spec.l1In -/
noncomputable def spec_l1In (x : Int) (low : Int) (high : Int) : Option Bool :=
  (if (decide (x ≥ low)) = true then (some (decide (x ≤ high)))
  else (some false)).bind (fun (T1 : Bool) =>
  some T1)

theorem spec_l1In_con (x : Int) (low : Int) (high : Int)  (r : Bool) (hm : spec_l1In x low high = some r) :
    Con Try.prog 37 [.int .i64 x, .int .i64 low, .int .i64 high] [] [] (fun _ : Unit => .bool r) (fun _ => []) := by
  refine Con.intro (args := [.int .i64 x, .int .i64 low, .int .i64 high]) (n := 15) (val := fun r (_ : Unit) => .bool r) (post := fun _ _ => []) (m := spec_l1In x low high) Try.func37 rfl rfl rfl hm ?_
  intro w S _
  unfold spec_l1In
  refine TW.seq ?_
  refine TW.region ?_
  refine TO.y (Y.assign rfl) rfl rfl rfl ?_
  refine TO.nil ?_
  refine TE.next ?_
  refine TW.seq ?_
  refine TW.joinBX (τ := Bool) (X := Unit) (fun T _ => [(6, .bool T)]) (fun _ _ => []) ?_ (fun T1 X2 => ?_)
  · refine TW.region ?_
    refine TO.y (Y.move rfl) rfl rfl rfl ?_
    refine TO.y (Y.move rfl) rfl rfl rfl ?_
    refine TO.y (Y.geq rfl rfl) rfl rfl rfl ?_
    refine TO.y (Y.move rfl) rfl rfl rfl ?_
    refine TO.ite (b := decide (x ≥ low)) (fun H3 => ?_) (fun H3 => ?_)
    · refine TO.y (Y.move rfl) (Gd.at 3 true 10 (decide (x ≥ low)) rfl rfl rfl (beq_tt H3)) rfl rfl ?_
      refine TO.y (Y.move rfl) (Gd.at 3 true 10 (decide (x ≥ low)) rfl rfl rfl (beq_tt H3)) rfl rfl ?_
      refine TO.y (Y.leq rfl rfl) (Gd.at 3 true 10 (decide (x ≥ low)) rfl rfl rfl (beq_tt H3)) rfl rfl ?_
      refine TO.y (Y.pick_t H3 rfl rfl) rfl rfl rfl ?_
      refine TO.y (Y.assign rfl) rfl rfl rfl ?_
      refine TO.nil ?_
      exact TE.jb_go () [] ⟨rfl, trivial⟩ rfl
    · refine TO.off (Gd.at 3 true 10 (decide (x ≥ low)) rfl rfl rfl (beq_ft H3)) rfl rfl ?_
      refine TO.off (Gd.at 3 true 10 (decide (x ≥ low)) rfl rfl rfl (beq_ft H3)) rfl rfl ?_
      refine TO.off (Gd.at 3 true 10 (decide (x ≥ low)) rfl rfl rfl (beq_ft H3)) rfl rfl ?_
      refine TO.y (Y.pick_f H3 rfl rfl) rfl rfl rfl ?_
      refine TO.y (Y.assign rfl) rfl rfl rfl ?_
      refine TO.nil ?_
      exact TE.jb_go () [] ⟨rfl, trivial⟩ rfl
  · refine TE.next ?_
    refine TW.ret ?_
    exact TE.leaf fun _ _ hf_ hs_ => ret_any (rs := [.tmp 6]) (vs := [.bool T1]) (.inl rfl) rfl ⟨rfl, trivial⟩ hf_ hs_ ⟨(), rfl, hs_.pulls [] rfl⟩

/-- loop.example/g00950/spec.l16Text -/
noncomputable def spec_l16Text (s : List UInt8) : Option Bool :=
  (spec_l1In ((s.length : Nat) : Int) (1 : Int) (10 : Int)).bind fun R1 =>
  some R1

theorem spec_l16Text_con (s : List UInt8)  (r : Bool) (hm : spec_l16Text s = some r) :
    Con Try.prog 38 [strV s] [] [] (fun _ : Unit => .bool r) (fun _ => []) := by
  refine Con.intro (args := [strV s]) (n := 6) (val := fun r (_ : Unit) => .bool r) (post := fun _ _ => []) (m := spec_l16Text s) Try.func38 rfl rfl rfl hm ?_
  intro w S _
  unfold spec_l16Text
  refine TW.seq ?_
  refine TW.region ?_
  refine TO.y (Y.assign rfl) rfl rfl rfl ?_
  refine TO.nil ?_
  refine TE.next ?_
  refine TW.seq ?_
  refine TW.region ?_
  refine TO.y (Y.move rfl) rfl rfl rfl ?_
  refine TO.y (Y.slen ks9 rfl) rfl rfl rfl ?_
  refine TO.bind fun R1 H2 => ?_
  refine TO.ef (Ef.call (rest := []) [] (spec_l1In_con ((s.length : Nat) : Int) (1 : Int) (10 : Int)  R1 H2) kc37 rfl rfl trivial) rfl rfl rfl (fun _ => ?_)
  refine TO.y (Y.assign rfl) rfl rfl rfl ?_
  refine TO.nil ?_
  refine TE.next ?_
  refine TW.ret ?_
  exact TE.leaf fun _ _ hf_ hs_ => ret_any (rs := [.tmp 2]) (vs := [.bool R1]) (.inl rfl) rfl ⟨rfl, trivial⟩ hf_ hs_ ⟨(), rfl, hs_.pulls [] rfl⟩

/-- loop.example/g00950/spec.l16Ahead -/
noncomputable def spec_l16Ahead (a : File) (b : File) : Option Bool :=
  if (!(decide (a.Level = b.Level))) = true then (some (decide (a.Level < b.Level)))
  else (if (decide (a.Level = (0 : Int))) = true then (some (decide (a.No > b.No)))
  else (some (sLt a.Lo b.Lo)))

theorem spec_l16Ahead_con (a : File) (b : File)  (r : Bool) (hm : spec_l16Ahead a b = some r) :
    Con Try.prog 39 [.agg #[.int .i64 a.No, .int .i64 a.Level, strV a.Lo, strV a.Hi], .agg #[.int .i64 b.No, .int .i64 b.Level, strV b.Lo, strV b.Hi]] [] [] (fun _ : Unit => .bool r) (fun _ => []) := by
  refine Con.intro (args := [.agg #[.int .i64 a.No, .int .i64 a.Level, strV a.Lo, strV a.Hi], .agg #[.int .i64 b.No, .int .i64 b.Level, strV b.Lo, strV b.Hi]]) (n := 28) (val := fun r (_ : Unit) => .bool r) (post := fun _ _ => []) (m := spec_l16Ahead a b) Try.func39 rfl rfl rfl hm ?_
  intro w S _
  unfold spec_l16Ahead
  refine TW.seq ?_
  refine TW.region ?_
  refine TO.ef (Ef.box rfl (Cel.plain rfl rfl)) rfl rfl rfl (fun B1 => ?_)
  refine TO.ef (Ef.box rfl (Cel.plain rfl rfl)) rfl rfl rfl (fun B2 => ?_)
  refine TO.y (Y.assign rfl) rfl rfl rfl ?_
  refine TO.nil ?_
  refine TE.next ?_
  refine TW.seq ?_
  refine TW.seq ?_
  refine TW.region ?_
  refine TO.y (Y.field_box kf43_1 rfl rfl) rfl rfl rfl ?_
  refine TO.y (Y.load_box (v := .int .i64 a.Level) 1 kk3 rfl rfl rfl) rfl rfl rfl ?_
  refine TO.y (Y.field_box kf43_1 rfl rfl) rfl rfl rfl ?_
  refine TO.y (Y.load_box (v := .int .i64 b.Level) 0 kk3 rfl rfl rfl) rfl rfl rfl ?_
  refine TO.y (Y.neq rfl rfl) rfl rfl rfl ?_
  refine TO.nil ?_
  refine TE.next ?_
  refine TW.cond rfl (fun H3 => ?_) (fun H3 => ?_)
  · refine TW.seq ?_
    refine TW.region ?_
    refine TO.y (Y.field_box kf43_1 rfl rfl) rfl rfl rfl ?_
    refine TO.y (Y.load_box (v := .int .i64 a.Level) 1 kk3 rfl rfl rfl) rfl rfl rfl ?_
    refine TO.y (Y.field_box kf43_1 rfl rfl) rfl rfl rfl ?_
    refine TO.y (Y.load_box (v := .int .i64 b.Level) 0 kk3 rfl rfl rfl) rfl rfl rfl ?_
    refine TO.y (Y.lss rfl rfl) rfl rfl rfl ?_
    refine TO.y (Y.assign rfl) rfl rfl rfl ?_
    refine TO.nil ?_
    refine TE.next ?_
    refine TW.ret ?_
    refine TE.then_ret ?_
    exact TE.leaf fun _ _ hf_ hs_ => ret_any (rs := [.tmp 4]) (vs := [.bool (decide (a.Level < b.Level))]) (.inl rfl) rfl ⟨rfl, trivial⟩ hf_ hs_ ⟨(), rfl, hs_.pulls [] rfl⟩
  · refine TW.skip ?_
    refine TE.next ?_
    refine TW.seq ?_
    refine TW.seq ?_
    refine TW.region ?_
    refine TO.y (Y.field_box kf43_1 rfl rfl) rfl rfl rfl ?_
    refine TO.y (Y.load_box (v := .int .i64 a.Level) 1 kk3 rfl rfl rfl) rfl rfl rfl ?_
    refine TO.y (Y.eql rfl rfl) rfl rfl rfl ?_
    refine TO.nil ?_
    refine TE.next ?_
    refine TW.cond rfl (fun H4 => ?_) (fun H4 => ?_)
    · refine TW.seq ?_
      refine TW.region ?_
      refine TO.y (Y.field_box kf43_0 rfl rfl) rfl rfl rfl ?_
      refine TO.y (Y.load_box (v := .int .i64 a.No) 1 kk3 rfl rfl rfl) rfl rfl rfl ?_
      refine TO.y (Y.field_box kf43_0 rfl rfl) rfl rfl rfl ?_
      refine TO.y (Y.load_box (v := .int .i64 b.No) 0 kk3 rfl rfl rfl) rfl rfl rfl ?_
      refine TO.y (Y.gtr rfl rfl) rfl rfl rfl ?_
      refine TO.y (Y.assign rfl) rfl rfl rfl ?_
      refine TO.nil ?_
      refine TE.next ?_
      refine TW.ret ?_
      refine TE.then_ret ?_
      exact TE.leaf fun _ _ hf_ hs_ => ret_any (rs := [.tmp 4]) (vs := [.bool (decide (a.No > b.No))]) (.inl rfl) rfl ⟨rfl, trivial⟩ hf_ hs_ ⟨(), rfl, hs_.pulls [] rfl⟩
    · refine TW.skip ?_
      refine TE.next ?_
      refine TW.seq ?_
      refine TW.region ?_
      refine TO.y (Y.field_box kf43_2 rfl rfl) rfl rfl rfl ?_
      refine TO.y (Y.load_box (v := strV a.Lo) 1 kk9 rfl rfl rfl) rfl rfl rfl ?_
      refine TO.y (Y.field_box kf43_2 rfl rfl) rfl rfl rfl ?_
      refine TO.y (Y.load_box (v := strV b.Lo) 0 kk9 rfl rfl rfl) rfl rfl rfl ?_
      refine TO.y (Y.slss rfl rfl) rfl rfl rfl ?_
      refine TO.y (Y.assign rfl) rfl rfl rfl ?_
      refine TO.nil ?_
      refine TE.next ?_
      refine TW.ret ?_
      exact TE.leaf fun _ _ hf_ hs_ => ret_any (rs := [.tmp 4]) (vs := [.bool (sLt a.Lo b.Lo)]) (.inl rfl) rfl ⟨rfl, trivial⟩ hf_ hs_ ⟨(), rfl, hs_.pulls [] rfl⟩

end Go.Proofs.Ytiabgnjihoknnaa
