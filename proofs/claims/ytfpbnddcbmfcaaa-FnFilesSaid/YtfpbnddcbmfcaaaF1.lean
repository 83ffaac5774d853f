/-
  The functions that a law reaches, each as a pure function, with the proof that the program computes it, and the step from a pure law to the given statement. Conditions: none.
-/
import Derived.Test.YtfpbnddcbmfcaaaSw
import Derived.Test.YtfpbnddcbmfcaaaSz
import Derived.Test.YtfpbnddcbmfcaaaRows
set_option linter.unusedVariables false
set_option maxRecDepth 100000
set_option maxHeartbeats 4000000
namespace Go.Proofs.Ytfpbnddcbmfcaaa
open Go Sl

structure L1Cur where
  b : List UInt8
  i : Int
  h : Int
  deriving DecidableEq
instance : Enc L1Cur := ⟨3, fun x => [lc x.b, .int .i64 x.i, .int .i64 x.h], fun _ => rfl, by decide⟩
instance : Dec L1Cur where
  sh := [.sl 1 (Dec.sh UInt8), .int .i64, .int .i64]
  ok x := okl x.b ∧ okI x.i ∧ okI x.h
  dec cs h := by
    obtain ⟨c0, r0, rfl, h0, h⟩ := h.cons_inv
    obtain ⟨c1, r1, rfl, h1, h⟩ := h.cons_inv
    obtain ⟨c2, r2, rfl, h2, h⟩ := h.cons_inv
    obtain rfl := h.nil_inv
    obtain ⟨y0, rfl, w0⟩ := h0.sl_inv (α := UInt8) rfl
    obtain ⟨y1, rfl, w1_⟩ := h1.int_inv
    have w1 := okI_of w1_
    obtain ⟨y2, rfl, w2_⟩ := h2.int_inv
    have w2 := okI_of w2_
    exact ⟨{ b := y0, i := y1, h := y2 : L1Cur }, rfl, w0, w1, w2⟩
structure File where
  No : Int
  Level : Int
  Lo : List UInt8
  Hi : List UInt8
  deriving DecidableEq
instance : Enc File := ⟨4, fun x => [.int .i64 x.No, .int .i64 x.Level, .str x.Lo, .str x.Hi], fun _ => rfl, by decide⟩
instance : Dec File where
  sh := [.int .i64, .int .i64, .str, .str]
  ok x := okI x.No ∧ okI x.Level ∧ x.Lo.length ≤ 9223372036854775807 ∧ x.Hi.length ≤ 9223372036854775807
  dec cs h := by
    obtain ⟨c0, r0, rfl, h0, h⟩ := h.cons_inv
    obtain ⟨c1, r1, rfl, h1, h⟩ := h.cons_inv
    obtain ⟨c2, r2, rfl, h2, h⟩ := h.cons_inv
    obtain ⟨c3, r3, rfl, h3, h⟩ := h.cons_inv
    obtain rfl := h.nil_inv
    obtain ⟨y0, rfl, w0_⟩ := h0.int_inv
    have w0 := okI_of w0_
    obtain ⟨y1, rfl, w1_⟩ := h1.int_inv
    have w1 := okI_of w1_
    obtain ⟨y2, rfl, w2⟩ := h2.str_inv
    obtain ⟨y3, rfl, w3⟩ := h3.str_inv
    exact ⟨{ No := y0, Level := y1, Lo := y2, Hi := y3 : File }, rfl, w0, w1, w2, w3⟩
instance : Flat File := { vals := fun x => [.int .i64 x.No, .int .i64 x.Level, strV x.Lo, strV x.Hi], flat := fun _ => rfl }

theorem hMix : Try.prog.follows .mixedOrders = true := by kernel_rfl
theorem ke29 : elemB Try.prog 29 = some (5, 1, 1) := by kernel_rfl
theorem kk5 : kindB Try.prog 5 = some (false, 1) := by kernel_rfl
theorem ki5 : intB Try.prog 5 = some .u8 := by kernel_rfl
theorem ki3 : intB Try.prog 3 = some .i64 := by kernel_rfl
theorem kz75 : zeroB Try.prog 75 = some (.agg #[.slice none 0 0, .int .i64 (0 : Int), .int .i64 (0 : Int)]) := by kernel_rfl
theorem kp75 : placesB Try.prog 75 = some [(0, 1), (1, 1), (2, 1)] := by kernel_rfl
theorem kf75_2 : fieldB Try.prog 75 2 = some 2 := by kernel_rfl
theorem kk3 : kindB Try.prog 3 = some (false, 1) := by kernel_rfl
theorem kf75_1 : fieldB Try.prog 75 1 = some 1 := by kernel_rfl
theorem kf75_0 : fieldB Try.prog 75 0 = some 0 := by kernel_rfl
theorem kk29 : kindB Try.prog 29 = some (false, 1) := by kernel_rfl
theorem ke78 : elemB Try.prog 78 = some (9, 1, 16) := by kernel_rfl
theorem kk9 : kindB Try.prog 9 = some (false, 1) := by kernel_rfl
theorem kz9 : zeroB Try.prog 9 = some (strV ([])) := by kernel_rfl
theorem ke42 : elemB Try.prog 42 = some (3, 1, 8) := by kernel_rfl
theorem kz33 : zeroB Try.prog 33 = some (.agg #[.int .i64 (0 : Int), .int .i64 (0 : Int), strV ([]), strV ([])]) := by kernel_rfl
theorem kp33 : placesB Try.prog 33 = some [(0, 1), (1, 1), (2, 1), (3, 1)] := by kernel_rfl
theorem kk33 : kindB Try.prog 33 = some (true, 4) := by kernel_rfl
theorem kf33_2 : fieldB Try.prog 33 2 = some 2 := by kernel_rfl
theorem kf33_3 : fieldB Try.prog 33 3 = some 3 := by kernel_rfl
theorem kz3 : zeroB Try.prog 3 = some (.int .i64 (0 : Int)) := by kernel_rfl
theorem kf33_0 : fieldB Try.prog 33 0 = some 0 := by kernel_rfl
theorem kf33_1 : fieldB Try.prog 33 1 = some 1 := by kernel_rfl
theorem ks9 : isStrB Try.prog 9 = true := by kernel_rfl
theorem ke31 : elemB Try.prog 31 = some (33, 4, 48) := by kernel_rfl
theorem keq33 : eqTB Try.prog 33 = some [0, 0, 2, 2] := by kernel_rfl
theorem kb4 : Try.prog.underlying 4 = some .bool := by kernel_rfl
theorem hu29 : Try.prog.underlying 29 = some (.slice 5) := by kernel_rfl
theorem hs29 : shB Try.prog 20 29 = some ([.sl 1 (Dec.sh UInt8)]) := by kernel_rfl

/-- loop.example/g00950/laws.big -/
noncomputable def laws_big (code : List UInt8) : Option Bool :=
  some (decide (((code.length : Nat) : Int) > (1048576 : Int)))

theorem laws_big_c {code : List UInt8} {U0 : Value} : Cn Try.prog 10 [U0] [] [(U0, lc code)] (laws_big code) (fun r (_ : Unit) => .bool r) fun _ _ => [] := by
  unfold laws_big
  refine Ci Try.func10 r r ?_
  rintro w S ⟨Z0,-⟩
  exact Sr<|Qs 1 r<|Nx<|Sr<|Qs 1 r<|Yo (Ln ke29 (Bc Z0) r)<|Qs 2 r<|Nx<|Wr<|Re () []

/-- loop.example/g00950/spec.l1New -/
noncomputable def spec_l1New (code : List UInt8) : Option L1Cur :=
  bindC (loopO (fun (S1 : Int × Int) => (if (decide (S1.2 < ((code.length : Nat) : Int))) = true then (some (decide (S1.2 < (4000 : Int))))
  else (some false)).bind (fun (T5 : Bool) =>
  if T5 = true then ((idx code S1.2).bind fun E9 =>
  some (.go (iand .i64 (IntKind.i64.wrap (IntKind.i64.wrap (IntKind.i64.wrap (S1.1 * (131 : Int)) + (IntKind.i64.wrap ((E9.toNat : Nat) : Int))) + (7 : Int))) (1073741823 : Int), IntKind.i64.wrap (S1.2 + (1 : Int)))))
  else (some (.done (.go S1.1)))))
  (IntKind.i64.wrap ((10101 : Int) + ((code.length : Nat) : Int)), (0 : Int)))
  (fun (T3 : Int) => some ({ b := code, i := (0 : Int), h := T3 : L1Cur }))

theorem spec_l1New_c {code : List UInt8} {U0 : Value} : Cn Try.prog 28 [U0] [] [(U0, lc code)] (spec_l1New code) (fun _ (X : Nat) => pt X) fun r X => [.box X 75 [U0, iv r.i, iv r.h]] := by
  unfold spec_l1New
  refine Ci Try.func28 r r ?_
  rintro w S ⟨Z0,-⟩
  exact Sr<|Qs 1 r<|Nx<|Sr<|Qs 1 r<|Yo (Ln ke29 (Bc Z0) r)<|Qs 2 r<|Nx<|Sq<|Sr<|Qs 1 r<|Nx<|Ju [0] (fun T=>[(3, iv T)]) r1 (Wb<|Lu [0] (fun T=>[(3, iv T.1), (4, iv T.2)]) r1 fun S1=>Sq<|Sq<|Jv [0,3,4] (fun T=>[(15, .bool T)]) r1 (Rg<|Qs 2 r<|Yo (Ln ke29 (Bc Z0) r)<|Qs 2 r<|It (fun H7=>Qg 2 (beq_tt H7) r r<|Yo (Pt H7 r)<|Nl<|Bg () []) fun H7=>Of 2 (beq_ft H7) r r<|Yo (Pf H7 r)<|Nl<|Bg () []) fun T5=>Ne<|Wc r (fun H8=>Sn<|Sq<|Wb<|Rg<|Qs 4 r<|Bi fun E9 H10=>Yo (Ix ke29 (Bc Z0) H10 r)<|Yo (Le kk5 (Bc Z0) H10 r)<|Yo (Y.conv ki5 ki3 r)<|Qs 4 r<|Nl<|Bn<|Ne<|Rg<|Qs 3 r<|Nl<|Lg () []) fun H8=>Wx<|Tx<|Ex<|Be<|Jg () []) fun T3=>Ne<|Sr<|Qs 2 r<|Yo (Bd kp75 kz75 (Pc r (Cb Z0)<|Pc r (Cp r)<|Pz) r)<|Fo (Bx r (Ca ⟨Ob Z0,Op',Op',⟨⟩⟩)) fun B11=>Qs 1 r<|Nx<|Wr<|Re B11 [0]

/-- loop.example/g00950/spec.l1Byte -/
noncomputable def spec_l1Byte (c : L1Cur) : Option (Int × L1Cur) :=
  bindC (if (decide (c.i < ((c.b.length : Nat) : Int))) = true then ((idx c.b c.i).bind fun E4 =>
  some (.go (iand .i64 (IntKind.i64.wrap (iand .i64 (ixor .i64 (ishr .i64 (IntKind.i64.wrap (IntKind.i64.wrap (c.h * (6364136223846793005 : Int)) + (1442695040888963407 : Int))) (33 : Int)) (ishr .i64 (IntKind.i64.wrap (IntKind.i64.wrap (c.h * (6364136223846793005 : Int)) + (1442695040888963407 : Int))) (45 : Int))) (255 : Int) + (IntKind.i64.wrap ((E4.toNat : Nat) : Int)))) (255 : Int), IntKind.i64.wrap (c.i + (1 : Int)))))
  else (some (.go (iand .i64 (ixor .i64 (ishr .i64 (IntKind.i64.wrap (IntKind.i64.wrap (c.h * (6364136223846793005 : Int)) + (1442695040888963407 : Int))) (33 : Int)) (ishr .i64 (IntKind.i64.wrap (IntKind.i64.wrap (c.h * (6364136223846793005 : Int)) + (1442695040888963407 : Int))) (45 : Int))) (255 : Int), c.i))))
  (fun (T1 : Int × Int) => some (T1.1, { b := c.b, i := T1.2, h := IntKind.i64.wrap (IntKind.i64.wrap (c.h * (6364136223846793005 : Int)) + (1442695040888963407 : Int)) : L1Cur }))

theorem spec_l1Byte_c {c : L1Cur} {U0 : Value} {U1 : Nat} : Cn Try.prog 51 [pt U1] [.box U1 75 [U0, iv c.i, iv c.h]] [(U0, lc c.b)] (spec_l1Byte c) (fun r (_ : Unit) => iv r.1) fun r _ => [.box U1 75 [U0, iv r.2.i, iv r.2.h]] := by
  unfold spec_l1Byte
  refine Ci Try.func51 r r ?_
  rintro w S ⟨Z0,-⟩
  exact Sr<|Qs 1 r<|Nx<|Sr<|Qs 3 r<|Yo (Fb kf75_2 r)<|Yo (Lb 0 kk3 r)<|Qs 3 r<|Yo (Fb kf75_2 r)<|Fu (Sb 0 kk3 r (Cp r) r)<|Nx<|Sq<|Dr [0] r hMix<|Aq [0,1] [0] r<|Ay 2 [0] r (Fb kf75_2 r)<|Ay 3 [0] r (Lb 0 kk3 r)<|Ay 4 [0] r (Y.shr (by decide) r r)<|Aq [5,6] [0] r<|Ay 7 [0] r (Fb kf75_2 r)<|Ay 8 [0] r (Lb 0 kk3 r)<|Ay 9 [0] r (Y.shr (by decide) r r)<|Aq [10,11,12] [0] r<|Az<|Ne<|Sq<|Sq<|Dr [0] r hMix<|Aq [0,1] [0] r<|Ay 2 [0] r (Fb kf75_1 r)<|Ay 3 [0] r (Lb 0 kk3 r)<|Aq [4,5] [0] r<|Ay 6 [0] r (Fb kf75_0 r)<|Ay 7 [0] r (Lb 0 kk29 r)<|Ay 8 [0] r (Ln ke29 (Bc Z0) r)<|Aq [9] [0] r<|Az<|Ne<|Jn Unit [] [] (fun T _=>[(3, iv T.1)]) (fun T _=>[.box U1 75 [U0, iv T.2, iv (IntKind.i64.wrap (IntKind.i64.wrap (c.h * (6364136223846793005 : Int)) + (1442695040888963407 : Int)))]]) r2 r2 (Wc r (fun H3=>Sq<|Dr [0] r hMix<|Aq [0,1,2] [0] r<|Ay 3 [0] r (Fb kf75_0 r)<|Ay 4 [0] r (Lb 0 kk29 r)<|Aq [5,6] [0] r<|Ay 7 [0] r (Fb kf75_1 r)<|Ay 8 [0] r (Lb 0 kk3 r)<|Ai fun E4 H5=>Ay 9 [0] r (Ix ke29 (Bc Z0) H5 r)<|Ay 10 [0] r (Le kk5 (Bc Z0) H5 r)<|Ay 11 [0] r (Y.conv ki5 ki3 r)<|Aq [12,13,14] [0] r<|Az<|Ne<|Rg<|Qs 3 r<|Yo (Fb kf75_1 r)<|Yo (Lb 0 kk3 r)<|Qs 2 r<|Yo (Fb kf75_1 r)<|Fu (Sb 0 kk3 r (Cp r) r)<|Nl<|Jg () [0]) fun H3=>Sk<|Jg () [0]) fun T1 X2=>Ne<|Sr<|Qs 2 r<|Nx<|Wr<|Re () [0]

/-- loop.example/g00950/spec.l1Below -/
noncomputable def spec_l1Below (c : L1Cur) (n : Int) : Option (Int × L1Cur) :=
  if (decide (n ≤ (0 : Int))) = true then (some ((0 : Int), c))
  else (if (decide (n ≤ (256 : Int))) = true then ((spec_l1Byte c).bind fun R3 =>
  (nz n).bind fun E6 =>
  some (Int.tmod R3.1 n, { b := c.b, i := R3.2.i, h := R3.2.h : L1Cur }))
  else ((spec_l1Byte c).bind fun R8 =>
  (spec_l1Byte ({ b := c.b, i := R8.2.i, h := R8.2.h : L1Cur })).bind fun R11 =>
  (spec_l1Byte ({ b := c.b, i := R11.2.i, h := R11.2.h : L1Cur })).bind fun R14 =>
  (spec_l1Byte ({ b := c.b, i := R14.2.i, h := R14.2.h : L1Cur })).bind fun R17 =>
  (nz n).bind fun E20 =>
  some (Int.tmod (IntKind.i64.wrap (IntKind.i64.wrap (IntKind.i64.wrap (IntKind.i64.wrap (R8.1 * (16777216 : Int)) + (IntKind.i64.wrap (R11.1 * (65536 : Int)))) + (IntKind.i64.wrap (R14.1 * (256 : Int)))) + R17.1)) n, { b := c.b, i := R17.2.i, h := R17.2.h : L1Cur })))

theorem spec_l1Below_c {c : L1Cur} {n : Int} {U0 : Value} {U1 : Nat} : Cn Try.prog 39 [pt U1, iv n] [.box U1 75 [U0, iv c.i, iv c.h]] [(U0, lc c.b)] (spec_l1Below c n) (fun r (_ : Unit) => iv r.1) fun r _ => [.box U1 75 [U0, iv r.2.i, iv r.2.h]] := by
  unfold spec_l1Below
  refine Ci Try.func39 r r ?_
  rintro w S ⟨Z0,-⟩
  exact Sr<|Qs 1 r<|Nx<|Sq<|Sr<|Qs 2 r<|Nx<|Wc r (fun H1=>Sr<|Qs 1 r<|Nx<|Wr<|Tr<|Re () [0]) fun H1=>Sn<|Sq<|Sr<|Qs 2 r<|Nx<|Wc r (fun H2=>Sr<|Qs 1 r<|Bi fun R3 H4=>Fo (Cl [0] spec_l1Byte_c H4 r r1 ⟨(Bc Z0),⟨⟩⟩) fun _=>Qs 1 r<|Bi fun E6 H7=>Yo (Y.rem (nz_ne H7) r r)<|Qs 1 r<|Nx<|Wr<|Tr<|Re () [0]) fun H2=>Sn<|Sr<|Qs 1 r<|Bi fun R8 H9=>Fo (Cl [0] spec_l1Byte_c H9 r r1 ⟨(Bc Z0),⟨⟩⟩) fun _=>Qs 1 r<|Nx<|Sr<|Qs 1 r<|Bi fun R11 H12=>Fo (Cl [0] spec_l1Byte_c H12 r r1 ⟨(Bc Z0),⟨⟩⟩) fun _=>Qs 1 r<|Nx<|Sr<|Qs 1 r<|Bi fun R14 H15=>Fo (Cl [0] spec_l1Byte_c H15 r r1 ⟨(Bc Z0),⟨⟩⟩) fun _=>Qs 1 r<|Nx<|Sr<|Qs 1 r<|Bi fun R17 H18=>Fo (Cl [0] spec_l1Byte_c H18 r r1 ⟨(Bc Z0),⟨⟩⟩) fun _=>Qs 1 r<|Nx<|Sr<|Qs 11 r<|Bi fun E20 H21=>Yo (Y.rem (nz_ne H21) r r)<|Qs 1 r<|Nx<|Wr<|Re () [0]

/-- loop.example/g00950/spec.l1Pick -/
noncomputable def spec_l1Pick (c : L1Cur) (list : List (List UInt8)) : Option (List UInt8 × L1Cur) :=
  (spec_l1Below c ((list.length : Nat) : Int)).bind fun R1 =>
  (idx list R1.1).bind fun E4 =>
  some (E4, { b := c.b, i := R1.2.i, h := R1.2.h : L1Cur })

theorem spec_l1Pick_c {c : L1Cur} {list : List (List UInt8)} {U0 U2 : Value} {U1 : Nat} : Cn Try.prog 44 [pt U1, U2] [.box U1 75 [U0, iv c.i, iv c.h]] [(U0, lc c.b), (U2, lc list)] (spec_l1Pick c list) (fun r (_ : Unit) => strV r.1) fun r _ => [.box U1 75 [U0, iv r.2.i, iv r.2.h]] := by
  unfold spec_l1Pick
  refine Ci Try.func44 r r ?_
  rintro w S ⟨Z0,Z1,-⟩
  exact Sr<|Qs 1 r<|Nx<|Sr<|Qs 3 r<|Yo (Ln ke78 (Bc Z1) r)<|Bi fun R1 H2=>Fo (Cl [0] spec_l1Below_c H2 r r1 ⟨(Bc Z0),⟨⟩⟩) fun _=>Bi fun E4 H5=>Yo (Ix ke78 (Bc Z1) H5 r)<|Yo (Le kk9 (Bc Z1) H5 r)<|Qs 1 r<|Nx<|Wr<|Re () [0]

/-- loop.example/g00950/spec.l7Key -/
noncomputable def spec_l7Key (c : L1Cur) : Option (List UInt8 × L1Cur) :=
  (spec_l1Pick c ([[97], [98], [97, 98], [97, 98, 99], [98, 48], [99], [0], [122, 122]])).bind fun R2 =>
  some (R2.1, { b := c.b, i := R2.2.i, h := R2.2.h : L1Cur })

theorem spec_l7Key_c {c : L1Cur} {U0 : Value} {U1 : Nat} : Cn Try.prog 38 [pt U1] [.box U1 75 [U0, iv c.i, iv c.h]] [(U0, lc c.b)] (spec_l7Key c) (fun r (_ : Unit) => strV r.1) fun r _ => [.box U1 75 [U0, iv r.2.i, iv r.2.h]] := by
  unfold spec_l7Key
  refine Ci Try.func38 r r ?_
  rintro w S ⟨Z0,-⟩
  exact Sr<|Qs 1 r<|Nx<|Sr<|Qs 1 r<|Fo (Bs [[97], [98], [97, 98], [97, 98, 99], [98, 48], [99], [0], [122, 122]] ke78 kz9) fun B1=>Bi fun R2 H3=>Fo (Cl [1] spec_l1Pick_c H3 r r1 ⟨(Bc Z0),(Oc 0 r),⟨⟩⟩) fun _=>Qs 1 r<|Nx<|Wr<|Re () [0]

/-- loop.example/g00950/spec.l1Once -/
noncomputable def spec_l1Once (c : L1Cur) (n : Int) : Option (Bool × L1Cur) :=
  (spec_l1Below c n).bind fun R1 =>
  some (decide (R1.1 = (0 : Int)), { b := c.b, i := R1.2.i, h := R1.2.h : L1Cur })

theorem spec_l1Once_c {c : L1Cur} {n : Int} {U0 : Value} {U1 : Nat} : Cn Try.prog 43 [pt U1, iv n] [.box U1 75 [U0, iv c.i, iv c.h]] [(U0, lc c.b)] (spec_l1Once c n) (fun r (_ : Unit) => .bool r.1) fun r _ => [.box U1 75 [U0, iv r.2.i, iv r.2.h]] := by
  unfold spec_l1Once
  refine Ci Try.func43 r r ?_
  rintro w S ⟨Z0,-⟩
  exact Sr<|Qs 1 r<|Nx<|Sr<|Qs 2 r<|Bi fun R1 H2=>Fo (Cl [0] spec_l1Below_c H2 r r1 ⟨(Bc Z0),⟨⟩⟩) fun _=>Qs 2 r<|Nx<|Wr<|Re () [0]

/-- loop.example/g00950/spec.l1PickInt -/
noncomputable def spec_l1PickInt (c : L1Cur) (list : List Int) : Option (Int × L1Cur) :=
  (spec_l1Below c ((list.length : Nat) : Int)).bind fun R1 =>
  (idx list R1.1).bind fun E4 =>
  some (E4, { b := c.b, i := R1.2.i, h := R1.2.h : L1Cur })

theorem spec_l1PickInt_c {c : L1Cur} {list : List Int} {U0 U2 : Value} {U1 : Nat} : Cn Try.prog 45 [pt U1, U2] [.box U1 75 [U0, iv c.i, iv c.h]] [(U0, lc c.b), (U2, lc list)] (spec_l1PickInt c list) (fun r (_ : Unit) => iv r.1) fun r _ => [.box U1 75 [U0, iv r.2.i, iv r.2.h]] := by
  unfold spec_l1PickInt
  refine Ci Try.func45 r r ?_
  rintro w S ⟨Z0,Z1,-⟩
  exact Sr<|Qs 1 r<|Nx<|Sr<|Qs 3 r<|Yo (Ln ke42 (Bc Z1) r)<|Bi fun R1 H2=>Fo (Cl [0] spec_l1Below_c H2 r r1 ⟨(Bc Z0),⟨⟩⟩) fun _=>Bi fun E4 H5=>Yo (Ix ke42 (Bc Z1) H5 r)<|Yo (Le kk3 (Bc Z1) H5 r)<|Qs 1 r<|Nx<|Wr<|Re () [0]

/-- loop.example/g00950/spec.l16File -/
noncomputable def spec_l16File (c : L1Cur) : Option (File × L1Cur) :=
  (spec_l1Below c (12 : Int)).bind fun R2 =>
  (spec_l1Below ({ b := c.b, i := R2.2.i, h := R2.2.h : L1Cur }) (3 : Int)).bind fun R5 =>
  (spec_l7Key ({ b := c.b, i := R5.2.i, h := R5.2.h : L1Cur })).bind fun R8 =>
  (spec_l1Pick ({ b := c.b, i := R8.2.i, h := R8.2.h : L1Cur }) ([[], [48], [122], [109]])).bind fun R14 =>
  (cat R8.1 R14.1).bind fun E17 =>
  (spec_l1Once ({ b := c.b, i := R14.2.i, h := R14.2.h : L1Cur }) (4 : Int)).bind fun R22 =>
  bindC (if R22.1 = true then (some (.go ([122, 122])))
  else (some (.go E17)))
  (fun (T25 : List UInt8) => (spec_l1Once ({ b := c.b, i := R22.2.i, h := R22.2.h : L1Cur }) (15 : Int)).bind fun R28 =>
  bindC (if R28.1 = true then ((spec_l1Below ({ b := c.b, i := R28.2.i, h := R28.2.h : L1Cur }) (3 : Int)).bind fun R34 =>
  bindC (if (decide (R34.1 = (0 : Int))) = true then ((spec_l1PickInt ({ b := c.b, i := R34.2.i, h := R34.2.h : L1Cur }) ([(0 : Int), (1000000 : Int), (1000001 : Int)])).bind fun R41 =>
  some (.go (R41.1, R5.1, T25, R41.2.i, R41.2.h)))
  else (bindC (if (decide (R34.1 = (1 : Int))) = true then ((spec_l1PickInt ({ b := c.b, i := R34.2.i, h := R34.2.h : L1Cur }) ([(-1 : Int), (3 : Int)])).bind fun R48 =>
  some (.go (R48.1, T25, R48.2.i, R48.2.h)))
  else ((spec_l1Pick ({ b := c.b, i := R34.2.i, h := R34.2.h : L1Cur }) ([[], [97, 97, 97, 97, 97, 97, 97, 97, 97, 97, 97]])).bind fun R52 =>
  some (.go (R5.1, R52.1, R52.2.i, R52.2.h))))
  (fun (T44 : Int × List UInt8 × Int × Int) => some (.go (IntKind.i64.wrap ((1 : Int) + R2.1), T44.1, T44.2.1, T44.2.2.1, T44.2.2.2)))))
  (fun (T37 : Int × Int × List UInt8 × Int × Int) => some (.go (T37.1, T37.2.1, T37.2.2.1, T37.2.2.2.1, T37.2.2.2.2))))
  else (some (.go (IntKind.i64.wrap ((1 : Int) + R2.1), R5.1, T25, R28.2.i, R28.2.h))))
  (fun (T31 : Int × Int × List UInt8 × Int × Int) => some ({ No := T31.1, Level := T31.2.1, Lo := R8.1, Hi := T31.2.2.1 : File }, { b := c.b, i := T31.2.2.2.1, h := T31.2.2.2.2 : L1Cur })))

theorem spec_l16File_c {c : L1Cur} {U0 : Value} {U1 : Nat} : Cn Try.prog 30 [pt U1] [.box U1 75 [U0, iv c.i, iv c.h]] [(U0, lc c.b)] (spec_l16File c) (fun r (_ : Unit) => .agg #[iv r.1.No, iv r.1.Level, strV r.1.Lo, strV r.1.Hi]) fun r _ => [.box U1 75 [U0, iv r.2.i, iv r.2.h]] := by
  unfold spec_l16File
  refine Ci Try.func30 r r ?_
  rintro w S ⟨Z0,-⟩
  exact Sr<|Fo (Al kz33 r) fun B1=>Nx<|Sr<|Qs 1 r<|Bi fun R2 H3=>Fo (Cl [1] spec_l1Below_c H3 r r1 ⟨(Bc Z0),⟨⟩⟩) fun _=>Qs 2 r<|Bi fun R5 H6=>Fo (Cl [0] spec_l1Below_c H6 r r1 ⟨(Bc Z0),⟨⟩⟩) fun _=>Qs 1 r<|Bi fun R8 H9=>Fo (Cl [0] spec_l7Key_c H9 r r1 ⟨(Bc Z0),⟨⟩⟩) fun _=>Yo (Bd kp33 kz33 (Pc r (Cp r)<|Pc r (Cp r)<|Pc r (Cp r)<|Pz) r)<|Fo (Al kz33 r) fun B11=>Fu (Sb 0 kk33 r (Cp r) r)<|Nx<|Sq<|Wi fun R14 H15=>Wi fun E17 H18=>Jw Unit [0,2,3] [2] (fun _=>[]) (fun _=>[.box U1 75 [U0, iv R14.2.i, iv R14.2.h], .box B11 33 [iv (IntKind.i64.wrap ((1 : Int) + R2.1)), iv R5.1, strV R8.1, strV E17]]) r1 r1 (Dr [2] r hMix<|Ay 0 [2] r (Fb kf33_2 r)<|Aq [2] [2] r<|A2 1 3 (Xy [2] r (Lb 0 kk9 r)<|A1 3<|Xe [3] r (Bs [[], [48], [122], [109]] ke78 kz9) fun B22=>A1 4<|Xe [3] r (Cl [2] spec_l1Pick_c H15 r r1 ⟨(Bc Z0),(Oc 0 r),⟨⟩⟩) fun _=>Ay 5 [3] r (Y.cat H18 r r)<|Ay 6 [3] r (Fb kf33_3 r)<|A1 7<|Xu [3] r (Sb 2 kk9 r (Cp r) r)<|Az<|Bg () [3,0,1])<|Xe [3] r (Bs [[], [48], [122], [109]] ke78 kz9) fun B21=>A2 1 4 (Xy [3] r (Lb 1 kk9 r)<|A1 4<|Xe [3] r (Cl [2] spec_l1Pick_c H15 r r1 ⟨(Bc Z0),(Oc 0 r),⟨⟩⟩) fun _=>Ay 5 [3] r (Y.cat H18 r r)<|Ay 6 [3] r (Fb kf33_3 r)<|A1 7<|Xu [3] r (Sb 2 kk9 r (Cp r) r)<|Az<|Bg () [3,0,1])<|Xe [3] r (Cl [2] spec_l1Pick_c H15 r r1 ⟨(Bc Z0),(Oc 0 r),⟨⟩⟩) fun _=>A1 1<|Xy [3] r (Lb 2 kk9 r)<|Ay 5 [3] r (Y.cat H18 r r)<|Ay 6 [3] r (Fb kf33_3 r)<|A1 7<|Xu [3] r (Sb 2 kk9 r (Cp r) r)<|Az<|Bg () [3,0,1]) fun X20=>Ne<|Sq<|Sr<|Qs 1 r<|Bi fun R22 H23=>Fo (Cl [1] spec_l1Once_c H23 r r1 ⟨(Bc Z0),⟨⟩⟩) fun _=>Nx<|Jn Unit [0,2,3] [0,0] (fun _ _=>[]) (fun T _=>[.box B11 33 [iv (IntKind.i64.wrap ((1 : Int) + R2.1)), iv R5.1, strV R8.1, strV T]]) r2 r2 (Wc r (fun H27=>Rg<|Yo (Fb kf33_3 r)<|Fu (Sb 2 kk9 r (Cp r) r)<|Nl<|Jg () [0,0,0]) fun H27=>Sk<|Jg () [0,0,0]) fun T25 X26=>Ne<|Sq<|Sr<|Qs 1 r<|Bi fun R28 H29=>Fo (Cl [0] spec_l1Once_c H29 r r1 ⟨(Bc Z0),⟨⟩⟩) fun _=>Nx<|Jn Unit [2,3] [1] (fun _ _=>[]) (fun T _=>[.box B11 33 [iv T.1, iv T.2.1, strV R8.1, strV T.2.2.1], .box U1 75 [U0, iv T.2.2.2.1, iv T.2.2.2.2]]) r2 r2 (Wc r (fun H33=>Sr<|Qs 1 r<|Bi fun R34 H35=>Fo (Cl [0] spec_l1Below_c H35 r r1 ⟨(Bc Z0),⟨⟩⟩) fun _=>Nx<|Wb<|Sr<|Qs 2 r<|Nx<|Jn Unit [2,3] [1] (fun _ _=>[]) (fun T _=>[.box B11 33 [iv T.1, iv T.2.1, strV R8.1, strV T.2.2.1], .box U1 75 [U0, iv T.2.2.2.1, iv T.2.2.2.2]]) r2 r2 (Wc r (fun H39=>Rg<|Qs 1 r<|Fo (Bs [(0 : Int), (1000000 : Int), (1000001 : Int)] ke42 kz3) fun B40=>Bi fun R41 H42=>Fo (Cl [1] spec_l1PickInt_c H42 r r1 ⟨(Bc Z0),(Oc 0 r),⟨⟩⟩) fun _=>Yo (Fb kf33_0 r)<|Fu (Sb 3 kk3 r (Cp r) r)<|Nl<|Jg () [2,2,0]) fun H39=>Sr<|Qs 2 r<|Nx<|Jn Unit [2,3] [1] (fun _ _=>[]) (fun T _=>[.box B11 33 [iv (IntKind.i64.wrap ((1 : Int) + R2.1)), iv T.1, strV R8.1, strV T.2.1], .box U1 75 [U0, iv T.2.2.1, iv T.2.2.2]]) r2 r2 (Wc r (fun H46=>Rg<|Qs 1 r<|Fo (Bs [(-1 : Int), (3 : Int)] ke42 kz3) fun B47=>Bi fun R48 H49=>Fo (Cl [1] spec_l1PickInt_c H49 r r1 ⟨(Bc Z0),(Oc 0 r),⟨⟩⟩) fun _=>Yo (Fb kf33_1 r)<|Fu (Sb 3 kk3 r (Cp r) r)<|Nl<|Jg () [2,2,0]) fun H46=>Rg<|Qs 1 r<|Fo (Bs [[], [97, 97, 97, 97, 97, 97, 97, 97, 97, 97, 97]] ke78 kz9) fun B51=>Bi fun R52 H53=>Fo (Cl [1] spec_l1Pick_c H53 r r1 ⟨(Bc Z0),(Oc 0 r),⟨⟩⟩) fun _=>Yo (Fb kf33_3 r)<|Fu (Sb 3 kk9 r (Cp r) r)<|Nl<|Jg () [2,2,0]) fun T44 X45=>Jg () [0,0,0]) fun T37 X38=>Bn<|Jg () [0,0,0]) fun H33=>Sk<|Jg () [1,1,0]) fun T31 X32=>Ne<|Sr<|Yo (Lb 1 kk33 r)<|Fu (Sb 0 kk33 r (Cp r) r)<|Nx<|Wr<|TE.leaf fun _ _ hf_ hs_ => ret_any (rs := [.cell 2 33]) (vs := [.agg #[iv T31.1, iv T31.2.1, strV R8.1, strV T31.2.2.1]]) (.inl r) r (RV.cell 0 r r kk33 r ⟨⟩) hf_ hs_ ⟨(), r, hs_.pulls [2] r⟩

/-- loop.example/g00950/spec.l1In -/
noncomputable def spec_l1In (x : Int) (low : Int) (high : Int) : Option Bool :=
  (if (decide (x ≥ low)) = true then (some (decide (x ≤ high)))
  else (some false)).bind (fun (T1 : Bool) =>
  some T1)

theorem spec_l1In_c {x : Int} {low : Int} {high : Int} : Cn Try.prog 36 [iv x, iv low, iv high] [] [] (spec_l1In x low high) (fun r (_ : Unit) => .bool r) fun _ _ => [] := by
  unfold spec_l1In
  refine Ci Try.func36 r r ?_
  rintro w S -
  exact Sr<|Qs 1 r<|Nx<|Sq<|Jv [] (fun T=>[(6, .bool T)]) r1 (Rg<|Qs 4 r<|It (fun H3=>Qg 3 (beq_tt H3) r r<|Yo (Pt H3 r)<|Qs 1 r<|Nl<|Bg () []) fun H3=>Of 3 (beq_ft H3) r r<|Yo (Pf H3 r)<|Qs 1 r<|Nl<|Bg () []) fun T1=>Ne<|Wr<|Re () []

/-- loop.example/g00950/spec.l16Text -/
noncomputable def spec_l16Text (s : List UInt8) : Option Bool :=
  (spec_l1In ((s.length : Nat) : Int) (1 : Int) (10 : Int)).bind fun R1 =>
  some R1

theorem spec_l16Text_c {s : List UInt8} : Cn Try.prog 37 [strV s] [] [] (spec_l16Text s) (fun r (_ : Unit) => .bool r) fun _ _ => [] := by
  unfold spec_l16Text
  refine Ci Try.func37 r r ?_
  rintro w S -
  exact Sr<|Qs 1 r<|Nx<|Sr<|Qs 1 r<|Yo (Y.slen ks9 r)<|Bi fun R1 H2=>Fo (Cl [] spec_l1In_c H2 r r1) fun _=>Qs 1 r<|Nx<|Wr<|Re () []

/-- loop.example/g00950/spec.l16Ahead -/
noncomputable def spec_l16Ahead (a : File) (b : File) : Option Bool :=
  if (!(decide (a.Level = b.Level))) = true then (some (decide (a.Level < b.Level)))
  else (if (decide (a.Level = (0 : Int))) = true then (some (decide (a.No > b.No)))
  else (some (sLt a.Lo b.Lo)))

theorem spec_l16Ahead_c {a : File} {b : File} : Cn Try.prog 35 [.agg #[iv a.No, iv a.Level, strV a.Lo, strV a.Hi], .agg #[iv b.No, iv b.Level, strV b.Lo, strV b.Hi]] [] [] (spec_l16Ahead a b) (fun r (_ : Unit) => .bool r) fun _ _ => [] := by
  unfold spec_l16Ahead
  refine Ci Try.func35 r r ?_
  rintro w S -
  exact Sr<|Fo (Bx r (Cp r)) fun B1=>Fo (Bx r (Cp r)) fun B2=>Qs 1 r<|Nx<|Sq<|Sr<|Yo (Fb kf33_1 r)<|Yo (Lb 1 kk3 r)<|Yo (Fb kf33_1 r)<|Yo (Lb 0 kk3 r)<|Qs 1 r<|Nx<|Wc r (fun H3=>Sr<|Yo (Fb kf33_1 r)<|Yo (Lb 1 kk3 r)<|Yo (Fb kf33_1 r)<|Yo (Lb 0 kk3 r)<|Qs 2 r<|Nx<|Wr<|Tr<|Re () []) fun H3=>Sn<|Sq<|Sr<|Yo (Fb kf33_1 r)<|Yo (Lb 1 kk3 r)<|Qs 1 r<|Nx<|Wc r (fun H4=>Sr<|Yo (Fb kf33_0 r)<|Yo (Lb 1 kk3 r)<|Yo (Fb kf33_0 r)<|Yo (Lb 0 kk3 r)<|Qs 2 r<|Nx<|Wr<|Tr<|Re () []) fun H4=>Sn<|Sr<|Yo (Fb kf33_2 r)<|Yo (Lb 1 kk9 r)<|Yo (Fb kf33_2 r)<|Yo (Lb 0 kk9 r)<|Qs 2 r<|Nx<|Wr<|Re () []

/-- loop.example/g00950/spec.FilesOk -/
noncomputable def spec_FilesOk (l : List File) : Option Bool :=
  if (decide (((l.length : Nat) : Int) > (12 : Int))) = true then (some false)
  else (bindC (loopO (fun (S2 : Int) => if (decide (S2 < ((l.length : Nat) : Int))) = true then ((idx l S2).bind fun E7 =>
  ((spec_l1In E7.No (1 : Int) (1000000 : Int)).bind fun R12 =>
  if (!R12) = true then (some true)
  else ((spec_l1In E7.Level (0 : Int) (2 : Int)).bind fun R16 =>
  if (!R16) = true then (some true)
  else ((spec_l16Text E7.Lo).bind fun R20 =>
  if (!R20) = true then (some true)
  else ((spec_l16Text E7.Hi).bind fun R24 =>
  if (!R24) = true then (some true)
  else (some (!(sLt E7.Lo E7.Hi || decide (E7.Lo = E7.Hi)))))))).bind (fun (T10 : Bool) =>
  if T10 = true then (some (.done (.done false)))
  else ((if (decide (S2 > (0 : Int))) = true then ((idx l (IntKind.i64.wrap (S2 - (1 : Int)))).bind fun E32 =>
  (spec_l16Ahead E32 E7).bind fun R34 =>
  if (!R34) = true then (some true)
  else (if (decide (E7.Level > (0 : Int))) = true then (if (decide (E32.Level = E7.Level)) = true then (some (sLt E7.Lo E32.Hi || decide (E7.Lo = E32.Hi)))
  else (some false))
  else (some false)))
  else (some false)).bind (fun (T29 : Bool) =>
  if T29 = true then (some (.done (.done false)))
  else (bindC (loopO (fun (S41 : Int) => if (decide (S41 < S2)) = true then ((idx l S41).bind fun E46 =>
  if (decide (E46.No = E7.No)) = true then (some (.done (.done (.done (.done false)))))
  else (some (.go (IntKind.i64.wrap (S41 + (1 : Int))))))
  else (some (.done (.go ()))))
  (0 : Int))
  (fun (T43 : Unit) => some (.go (IntKind.i64.wrap (S2 + (1 : Int))))))))))
  else (some (.done (.go ()))))
  (0 : Int))
  (fun (T4 : Unit) => some true))

theorem spec_FilesOk_c {l : List File} {U0 : Value} : Cn Try.prog 14 [U0] [] [(U0, lc l)] (spec_FilesOk l) (fun r (_ : Unit) => .bool r) fun _ _ => [] := by
  unfold spec_FilesOk
  refine Ci Try.func14 r r ?_
  rintro w S ⟨Z0,-⟩
  exact Sr<|Qs 1 r<|Nx<|Sq<|Sr<|Qs 1 r<|Yo (Ln ke31 (Bc Z0) r)<|Qs 1 r<|Nx<|Wc r (fun H1=>Sr<|Qs 1 r<|Nx<|Wr<|Tr<|Re () []) fun H1=>Sn<|Sq<|Sr<|Qs 1 r<|Nx<|Ju [] (fun _=>[]) r1 (Wb<|Lu [0] (fun T=>[(3, iv T)]) r1 fun S2=>Sq<|Sr<|Qs 2 r<|Yo (Ln ke31 (Bc Z0) r)<|Qs 1 r<|Nx<|Wc r (fun H6=>Sn<|Sq<|Wb<|Sr<|Qs 2 r<|Bi fun E7 H8=>Yo (Ix ke31 (Bc Z0) H8 r)<|Yo (Le kk33 (Bc Z0) H8 r)<|Fo (Al kz33 r) fun B9=>Fu (Sb 0 kk33 r (Cp r) r)<|Nx<|Sq<|Sq<|Jv [0,3,4] (fun T=>[(47, .bool T)]) r1 (Rg<|Yo (Fb kf33_0 r)<|Yo (Lb 0 kk3 r)<|Bi fun R12 H13=>Fo (Cl [] spec_l1In_c H13 r r1) fun _=>Qs 2 r<|It (fun H15=>Of 4 (beq_tf H15) r r<|Yo (Pt H15 r)<|Qs 1 r<|Of 4 r r r<|Yo (Pt r r)<|Qs 1 r<|Of 4 r r r<|Yo (Pt r r)<|Qs 1 r<|Of 5 r r r<|Yo (Pt r r)<|Nl<|Bg () [0]) fun H15=>Yg (gdA (beq_ff H15)) (Fb kf33_1 r)<|Yg (gdA (beq_ff H15)) (Lb 0 kk3 r)<|Bi fun R16 H17=>Fg (gdA (beq_ff H15)) (Cl [] spec_l1In_c H17 r r1) fun _=>Qg 1 (beq_ff H15) r r<|Yo (Pf H15 r)<|Qs 1 r<|It (fun H19=>Of 4 (beq_tf H19) r r<|Yo (Pt H19 r)<|Qs 1 r<|Of 4 r r r<|Yo (Pt r r)<|Qs 1 r<|Of 5 r r r<|Yo (Pt r r)<|Nl<|Bg () [0]) fun H19=>Yg (gdA (beq_ff H19)) (Fb kf33_2 r)<|Yg (gdA (beq_ff H19)) (Lb 0 kk9 r)<|Bi fun R20 H21=>Fg (gdA (beq_ff H19)) (Cl [] spec_l16Text_c H21 r r1) fun _=>Qg 1 (beq_ff H19) r r<|Yo (Pf H19 r)<|Qs 1 r<|It (fun H23=>Of 4 (beq_tf H23) r r<|Yo (Pt H23 r)<|Qs 1 r<|Of 5 r r r<|Yo (Pt r r)<|Nl<|Bg () [0]) fun H23=>Yg (gdA (beq_ff H23)) (Fb kf33_3 r)<|Yg (gdA (beq_ff H23)) (Lb 0 kk9 r)<|Bi fun R24 H25=>Fg (gdA (beq_ff H23)) (Cl [] spec_l16Text_c H25 r r1) fun _=>Qg 1 (beq_ff H23) r r<|Yo (Pf H23 r)<|Qs 1 r<|It (fun H27=>Of 5 (beq_tf H27) r r<|Yo (Pt H27 r)<|Nl<|Bg () [0]) fun H27=>Yg (gdA (beq_ff H27)) (Fb kf33_2 r)<|Yg (gdA (beq_ff H27)) (Lb 0 kk9 r)<|Yg (gdA (beq_ff H27)) (Fb kf33_3 r)<|Yg (gdA (beq_ff H27)) (Lb 0 kk9 r)<|Qg 1 (beq_ff H27) r r<|Yo (Pf H27 r)<|Nl<|Bg () [0]) fun T10=>Ne<|Wc r (fun H28=>Sr<|Qs 1 r<|Nx<|Wr<|Tr<|Br<|Tr<|Er<|Br<|Jd<|Tr<|Re () []) fun H28=>Sn<|Sq<|Sq<|Jv [0,3,4] (fun T=>[(86, .bool T)]) r1 (Dr [0] r hMix<|Aq [0,1,2] [0] r<|Ia (fun H31=>Ag 3 [0] (gdA (beq_tt H31)) r (Y.move r)<|Ag 4 [0] (gdA (beq_tt H31)) r (Y.move r)<|Ag 5 [0] (gdA (beq_tt H31)) r (Y.sub r r)<|Ai fun E32 H33=>Ag 6 [0] (gdA (beq_tt H31)) r (Ix ke31 (Bc Z0) H33 r)<|Ag 7 [0] (gdA (beq_tt H31)) r (Le kk33 (Bc Z0) H33 r)<|Ag 8 [0] (gdA (beq_tt H31)) r (Lb 0 kk33 r)<|Ai fun R34 H35=>A1 9<|Xeg [0] (gdA (beq_tt H31)) r (Cl [] spec_l16Ahead_c H35 r r1) fun _=>Ag 10 [0] (gdA (beq_tt H31)) r (Y.not r)<|Ag 11 [0] (gdA (beq_tt H31)) r (Y.move r)<|Ia (fun H37=>Ax [12,13,14,15] [0] (beq_tf H37) r r<|Au [16,17,18,19,20,21,22,23,24] [0] r r<|Ax [25,26] [0] (beq_tf H37) r r<|Au [27,28,29,30,31,32,33,34,35] [0] r r<|Ax [36] [0] (beq_tf H37) r r<|Ag 37 [0] (gdA (beq_tt H31)) r (Pt H37 r)<|Ay 38 [0] r (Pt H31 r)<|Az<|Bg () [0]) fun H37=>Ag 12 [0] (gdA (beq_ff H37)) r (Fb kf33_1 r)<|Ag 13 [0] (gdA (beq_ff H37)) r (Lb 0 kk3 r)<|Ag 14 [0] (gdA (beq_ff H37)) r (Y.gtr r r)<|Ag 15 [0] (gdA (beq_ff H37)) r (Y.move r)<|Ia (fun H38=>Ag 16 [0] (gdA (beq_tt H38)) r (Y.move r)<|Ag 17 [0] (gdA (beq_tt H38)) r (Y.move r)<|Ag 18 [0] (gdA (beq_tt H38)) r (Y.sub r r)<|Ag 19 [0] (gdA (beq_tt H38)) r (Ix ke31 (Bc Z0) H33 r)<|Ag 20 [0] (gdA (beq_tt H38)) r (Fe kf33_1 (Bc Z0) H33 r)<|Ag 21 [0] (gdA (beq_tt H38)) r (Le kk3 (Bc Z0) H33 r)<|Ag 22 [0] (gdA (beq_tt H38)) r (Fb kf33_1 r)<|Ag 23 [0] (gdA (beq_tt H38)) r (Lb 0 kk3 r)<|Ag 24 [0] (gdA (beq_tt H38)) r (Y.eql r r)<|Ag 25 [0] (gdA (beq_ff H37)) r (Pt H38 r)<|Ag 26 [0] (gdA (beq_ff H37)) r (Y.move r)<|Ia (fun H39=>Ag 27 [0] (gdA (beq_tt H39)) r (Fb kf33_2 r)<|Ag 28 [0] (gdA (beq_tt H39)) r (Lb 0 kk9 r)<|Ag 29 [0] (gdA (beq_tt H39)) r (Y.move r)<|Ag 30 [0] (gdA (beq_tt H39)) r (Y.move r)<|Ag 31 [0] (gdA (beq_tt H39)) r (Y.sub r r)<|Ag 32 [0] (gdA (beq_tt H39)) r (Ix ke31 (Bc Z0) H33 r)<|Ag 33 [0] (gdA (beq_tt H39)) r (Fe kf33_3 (Bc Z0) H33 r)<|Ag 34 [0] (gdA (beq_tt H39)) r (Le kk9 (Bc Z0) H33 r)<|Ag 35 [0] (gdA (beq_tt H39)) r (Y.sleq r r)<|Ag 36 [0] (gdA (beq_ff H37)) r (Pt H39 r)<|Ag 37 [0] (gdA (beq_tt H31)) r (Pf H37 r)<|Ay 38 [0] r (Pt H31 r)<|Az<|Bg () [0]) fun H39=>Ax [27,28,29,30,31,32,33,34,35] [0] (beq_ft H39) r r<|Ag 36 [0] (gdA (beq_ff H37)) r (Pf H39 r)<|Ag 37 [0] (gdA (beq_tt H31)) r (Pf H37 r)<|Ay 38 [0] r (Pt H31 r)<|Az<|Bg () [0]) fun H38=>Ax [16,17,18,19,20,21,22,23,24] [0] (beq_ft H38) r r<|Ag 25 [0] (gdA (beq_ff H37)) r (Pf H38 r)<|Ag 26 [0] (gdA (beq_ff H37)) r (Y.move r)<|Ax [27,28,29,30,31,32,33,34,35] [0] r r r<|Ag 36 [0] (gdA (beq_ff H37)) r (Pf r r)<|Ag 37 [0] (gdA (beq_tt H31)) r (Pf H37 r)<|Ay 38 [0] r (Pt H31 r)<|Az<|Bg () [0]) fun H31=>Ax [3,4,5,6,7,8,9,10,11] [0] (beq_ft H31) r r<|Au [12,13,14,15] [0] r r<|Au [16,17,18,19,20,21,22,23,24] [0] r r<|Au [25,26] [0] r r<|Au [27,28,29,30,31,32,33,34,35] [0] r r<|Au [36] [0] r r<|Ax [37] [0] (beq_ft H31) r r<|Ay 38 [0] r (Pf H31 r)<|Az<|Bg () [0]) fun T29=>Ne<|Wc r (fun H40=>Sr<|Qs 1 r<|Nx<|Wr<|Tr<|Br<|Tr<|Er<|Br<|Jd<|Tr<|Re () []) fun H40=>Sn<|Sr<|Qs 1 r<|Nx<|Jn Unit [0,3] [] (fun _ _=>[]) (fun _ _=>[]) r2 r2 (Wb<|Lu [0,3,4] (fun T=>[(5, iv T)]) r1 fun S41=>Sq<|Sr<|Qs 3 r<|Nx<|Wc r (fun H45=>Sn<|Sq<|Wb<|Sq<|Dr [0] r hMix<|Aq [0,1] [0] r<|Ai fun E46 H47=>Ay 2 [0] r (Ix ke31 (Bc Z0) H47 r)<|Ay 3 [0] r (Fe kf33_0 (Bc Z0) H47 r)<|Ay 4 [0] r (Le kk3 (Bc Z0) H47 r)<|Ay 5 [0] r (Fb kf33_0 r)<|Ay 6 [0] r (Lb 0 kk3 r)<|Aq [7] [0] r<|Az<|Ne<|Wc r (fun H48=>Sr<|Qs 1 r<|Nx<|Wr<|Br<|Tr<|Er<|Br<|Jd<|Br<|Tr<|Er<|Br<|Jd<|Tr<|Re () []) fun H48=>Sk<|Bn<|Ne<|Rg<|Qs 3 r<|Nl<|Lg () [0]) fun H45=>Wx<|Tx<|Ex<|Be<|Jg () []) fun T43 X44=>Bn<|Ne<|Rg<|Qs 3 r<|Nl<|Lg () []) fun H6=>Wx<|Tx<|Ex<|Be<|Jg () []) fun T4=>Ne<|Sr<|Qs 1 r<|Nx<|Wr<|Re () []

/-- loop.example/g00950/spec.FilesAdd -/
noncomputable def spec_FilesAdd (l : List File) (f : File) : Option (List File × Bool) :=
  (spec_FilesOk l).bind fun R2 =>
  if (!R2) = true then (some (([] : List File), false))
  else (bindC (loopO (fun (S8 : Bool × Int × List File) => if (decide (S8.2.1 < ((l.length : Nat) : Int))) = true then ((if (!S8.1) = true then ((idx l S8.2.1).bind fun E16 =>
  (spec_l16Ahead f E16).bind fun R18 =>
  some R18)
  else (some false)).bind (fun (T13 : Bool) =>
  bindC (if T13 = true then ((app 48 S8.2.2 ([f])).bind fun E26 =>
  some (.go (true, E26)))
  else (some (.go (S8.1, S8.2.2))))
  (fun (T21 : Bool × List File) => (idx l S8.2.1).bind fun E28 =>
  (app 48 T21.2 ([E28])).bind fun E32 =>
  some (.go (T21.1, IntKind.i64.wrap (S8.2.1 + (1 : Int)), E32)))))
  else (some (.done (.go (S8.1, S8.2.2)))))
  (false, (0 : Int), ([] : List File)))
  (fun (T10 : Bool × List File) => bindC (if (!T10.1) = true then ((app 48 T10.2 ([f])).bind fun E39 =>
  some (.go E39))
  else (some (.go T10.2)))
  (fun (T34 : List File) => (spec_FilesOk T34).bind fun R41 =>
  if (!R41) = true then ((app 48 ([] : List File) l).bind fun E47 =>
  some (E47, false))
  else (some (T34, true)))))

theorem spec_FilesAdd_c {l : List File} {f : File} {U0 : Value} : Cn Try.prog 13 [U0, .agg #[iv f.No, iv f.Level, strV f.Lo, strV f.Hi]] [] [(U0, lc l)] (spec_FilesAdd l f) (fun r (X : Value) => .tuple #[X, .bool r.2]) fun r X => [.own X (lc r.1)] := by
  unfold spec_FilesAdd
  refine Ci Try.func13 r r ?_
  rintro w S ⟨Z0,-⟩
  exact Sr<|Fo (Bx r (Cp r)) fun B1=>Qs 2 r<|Nx<|Sq<|Sr<|Qs 1 r<|Bi fun R2 H3=>Fo (Cl [] spec_FilesOk_c H3 r r1 ⟨(Bc Z0),⟨⟩⟩) fun _=>Qs 1 r<|Nx<|Wc r (fun H5=>Sr<|Fo (Bs ([] : List File) ke31 kz33) fun B6=>Qs 2 r<|Nx<|Wr<|Tr<|Re (.slice (some ⟨B6, 0, none⟩) 0 0) [0]) fun H5=>Sn<|Sr<|Fo (Bs ([] : List File) ke31 kz33) fun B7=>Qs 1 r<|Nx<|Sr<|Qs 1 r<|Nx<|Sq<|Sr<|Qs 1 r<|Nx<|Jn Value [0,3] [1] (fun T X=>[(6, X), (7, .bool T.1)]) (fun T X=>[.own X (lc T.2)]) r2 r2 (Wb<|Lp Value [0,3] [1] (fun T X=>[(6, X), (7, .bool T.1), (8, iv T.2.1)]) (fun T X=>[.own X (lc T.2.2)]) (.slice (some ⟨B7, 0, none⟩) 0 0) [1,0] r2 r2 fun S8 X9=>Sq<|Sr<|Qs 2 r<|Yo (Ln ke31 (Bc Z0) r)<|Qs 1 r<|Nx<|Wc r (fun H12=>Sn<|Sq<|Wb<|Sq<|Sq<|Jv [0,3,6,7,8] (fun T=>[(29, .bool T)]) r1 (Dr [0,0] r hMix<|Aq [0,1,2] [0,0] r<|Ia (fun H15=>Ag 3 [0,0] (gdA (beq_tt H15)) r (Lb 0 kk33 r)<|Ag 4 [0,0] (gdA (beq_tt H15)) r (Y.move r)<|Ag 5 [0,0] (gdA (beq_tt H15)) r (Y.move r)<|Ai fun E16 H17=>Ag 6 [0,0] (gdA (beq_tt H15)) r (Ix ke31 (Bc Z0) H17 r)<|Ag 7 [0,0] (gdA (beq_tt H15)) r (Le kk33 (Bc Z0) H17 r)<|Ai fun R18 H19=>A1 8<|Xeg [0,0] (gdA (beq_tt H15)) r (Cl [] spec_l16Ahead_c H19 r r1) fun _=>Ay 9 [0,0] r (Pt H15 r)<|Az<|Bg () [0,0]) fun H15=>Ax [3,4,5,6,7,8] [0,0] (beq_ft H15) r r<|Ay 9 [0,0] r (Pf H15 r)<|Az<|Bg () [0,0]) fun T13=>Ne<|Jn Value [0,3,8] [0] (fun T X=>[(6, X), (7, .bool T.1)]) (fun T X=>[.own X (lc T.2)]) r2 r2 (Wc r (fun H23=>Sr<|Qs 1 r<|Yo (Lb 0 kk33 r)<|Fo (Bs [f] ke31 kz33) fun B24=>Bi fun E26 H27=>Fo (Ap [2] H27 ke31 kz33 r (Oc 0 r)) fun V25=>Qs 1 r<|Nx<|Rg<|Qs 1 r<|Nl<|Jg V25 [2,0]) fun H23=>Sk<|Jg X9 [0,0]) fun T21 X22=>Ne<|Rg<|Qs 3 r<|Bi fun E28 H29=>Yo (Ix ke31 (Bc Z0) H29 r)<|Yo (Le kk33 (Bc Z0) H29 r)<|Fo (Bs [E28] ke31 kz33) fun B30=>Bi fun E32 H33=>Fo (Ap [2] H33 ke31 kz33 r (Oc 0 r)) fun V31=>Qs 1 r<|Nl<|Bn<|Ne<|Rg<|Qs 3 r<|Nl<|Lg V31 [2,0]) fun H12=>Wx<|Tx<|Ex<|Be<|Jg X9 [0,0]) fun T10 X11=>Ne<|Sq<|Sr<|Qs 2 r<|Nx<|Jn Value [0] [] (fun _ X=>[(6, X)]) (fun T X=>[.own X (lc T)]) r2 r2 (Wc r (fun H36=>Rg<|Qs 1 r<|Yo (Lb 0 kk33 r)<|Fo (Bs [f] ke31 kz33) fun B37=>Bi fun E39 H40=>Fo (Ap [2] H40 ke31 kz33 r (Oc 0 r)) fun V38=>Qs 1 r<|Nl<|Jg V38 [0]) fun H36=>Sk<|Jg X11 [1]) fun T34 X35=>Ne<|Sq<|Sr<|Qs 1 r<|Bi fun R41 H42=>Fo (Cl [] spec_FilesOk_c H42 r r1 ⟨(Oc 0 r),⟨⟩⟩) fun _=>Qs 1 r<|Nx<|Wc r (fun H44=>Sr<|Fo (Bs ([] : List File) ke31 kz33) fun B45=>Qs 1 r<|Bi fun E47 H48=>Fo (Ap [0] H48 ke31 kz33 r (Bc Z0)) fun V46=>Qs 2 r<|Nx<|Wr<|Tr<|Re V46 [0]) fun H44=>Sn<|Sr<|Qs 3 r<|Nx<|Wr<|Re X35 [0]

/-- loop.example/g00950/spec.l16Some -/
noncomputable def spec_l16Some (c : L1Cur) : Option (List File × L1Cur) :=
  (spec_l1Below c (14 : Int)).bind fun R2 =>
  bindC (loopO (fun (S5 : Int × Int × Int × List File) => if (decide (S5.2.2.1 > (0 : Int))) = true then ((spec_l16File ({ b := c.b, i := S5.1, h := S5.2.1 : L1Cur })).bind fun R10 =>
  (spec_FilesAdd S5.2.2.2 R10.1).bind fun R13 =>
  bindC (if R13.2 = true then (some (.go R13.1))
  else (some (.go S5.2.2.2)))
  (fun (T16 : List File) => some (.go (R10.2.i, R10.2.h, IntKind.i64.wrap (S5.2.2.1 - (1 : Int)), T16))))
  else (some (.done (.go (S5.1, S5.2.1, S5.2.2.2)))))
  (R2.2.i, R2.2.h, R2.1, ([] : List File)))
  (fun (T7 : Int × Int × List File) => (if (decide (((T7.2.2.length : Nat) : Int) > (0 : Int))) = true then ((spec_l1Once ({ b := c.b, i := T7.1, h := T7.2.1 : L1Cur }) (12 : Int)).bind fun R22 =>
  some (R22.2.i, R22.2.h, R22.1))
  else (some (T7.1, T7.2.1, false))).bind (fun (T19 : Int × Int × Bool) =>
  bindC (if T19.2.2 = true then ((spec_l1Below ({ b := c.b, i := T19.1, h := T19.2.1 : L1Cur }) ((T7.2.2.length : Nat) : Int)).bind fun R28 =>
  (spec_l16File ({ b := c.b, i := R28.2.i, h := R28.2.h : L1Cur })).bind fun R31 =>
  (idx T7.2.2 R28.1).bind fun E34 =>
  some (.go (R31.2.i, R31.2.h, (T7.2.2.set R28.1.toNat R31.1))))
  else (some (.go (T19.1, T19.2.1, T7.2.2))))
  (fun (T25 : Int × Int × List File) => some (T25.2.2, { b := c.b, i := T25.1, h := T25.2.1 : L1Cur }))))

theorem spec_l16Some_c {c : L1Cur} {U0 : Value} {U1 : Nat} : Cn Try.prog 29 [pt U1] [.box U1 75 [U0, iv c.i, iv c.h]] [(U0, lc c.b)] (spec_l16Some c) (fun _ (X : Value) => X) fun r X => [.box U1 75 [U0, iv r.2.i, iv r.2.h], .own X (lc r.1)] := by
  unfold spec_l16Some
  refine Ci Try.func29 r r ?_
  rintro w S ⟨Z0,-⟩
  exact Sr<|Qs 1 r<|Nx<|Sr<|Fo (Bs ([] : List File) ke31 kz33) fun B1=>Qs 1 r<|Nx<|Sq<|Sr<|Qs 1 r<|Bi fun R2 H3=>Fo (Cl [1] spec_l1Below_c H3 r r1 ⟨(Bc Z0),⟨⟩⟩) fun _=>Qs 1 r<|Nx<|Jn Value [0] [] (fun _ X=>[(3, X)]) (fun T X=>[.box U1 75 [U0, iv T.1, iv T.2.1], .own X (lc T.2.2)]) r2 r2 (Wb<|Lp Value [0] [] (fun T X=>[(3, X), (4, iv T.2.2.1)]) (fun T X=>[.box U1 75 [U0, iv T.1, iv T.2.1], .own X (lc T.2.2.2)]) (.slice (some ⟨B1, 0, none⟩) 0 0) [0,0] r2 r2 fun S5 X6=>Sq<|Sr<|Qs 2 r<|Nx<|Wc r (fun H9=>Sn<|Sq<|Wb<|Sr<|Qs 2 r<|Bi fun R10 H11=>Fo (Cl [0] spec_l16File_c H11 r r1 ⟨(Bc Z0),⟨⟩⟩) fun _=>Bi fun R13 H14=>Fo (Cl [] spec_FilesAdd_c H14 r r1 ⟨(Oc 1 r),⟨⟩⟩) fun Y15=>Qs 5 r<|Nx<|Sr<|Qs 1 r<|Nx<|Jn Value [0,4] [1] (fun _ X=>[(3, X)]) (fun T X=>[.own X (lc T)]) r2 r2 (Wc r (fun H18=>Rg<|Qs 2 r<|Nl<|Jg Y15 [1,0]) fun H18=>Sk<|Jg X6 [1,1]) fun T16 X17=>Bn<|Ne<|Rg<|Qs 3 r<|Nl<|Lg X17 [0,0]) fun H9=>Wx<|Tx<|Ex<|Be<|Jg X6 [0,0]) fun T7 X8=>Ne<|Sq<|Sq<|Jb Unit [0,3] [1] (fun T _=>[(29, .bool T.2.2)]) (fun T _=>[.box U1 75 [U0, iv T.1, iv T.2.1]]) r2 r2 (Rg<|Qs 1 r<|Yo (Ln ke31 (Oc 1 r) r)<|Qs 2 r<|It (fun H21=>Qg 1 (beq_tt H21) r r<|Bi fun R22 H23=>Fg (gdA (beq_tt H21)) (Cl [0] spec_l1Once_c H23 r r1 ⟨(Bc Z0),⟨⟩⟩) fun _=>Yo (Pt H21 r)<|Nl<|Bg () [1,0]) fun H21=>Of 2 (beq_ft H21) r r<|Yo (Pf H21 r)<|Nl<|Bg () [1,0]) fun T19 X20=>Ne<|Jn Unit [3] [] (fun _ _=>[]) (fun T _=>[.box U1 75 [U0, iv T.1, iv T.2.1], .own X8 (lc T.2.2)]) r2 r2 (Wc r (fun H27=>Rg<|Qs 3 r<|Yo (Ln ke31 (Oc 0 r) r)<|Bi fun R28 H29=>Fo (Cl [1] spec_l1Below_c H29 r r1 ⟨(Bc Z0),⟨⟩⟩) fun _=>Qs 1 r<|Bi fun R31 H32=>Fo (Cl [0] spec_l16File_c H32 r r1 ⟨(Bc Z0),⟨⟩⟩) fun _=>Bi fun E34 H35=>Yo (Ix ke31 (Oc 1 r) H35 r)<|Fu (Se R31.1 1 kk33 H35 r (Cp r) r)<|Nl<|Jg () [0,0]) fun H27=>Sk<|Jg () [1,0]) fun T25 X26=>Ne<|Sr<|Qs 2 r<|Nx<|Wr<|Re X8 [0,0]

/-- loop.example/g00950/spec.DrawFilesAdd -/
noncomputable def spec_DrawFilesAdd (code : List UInt8) : Option (List File × File) :=
  (spec_l1New code).bind fun R2 =>
  (spec_l16Some ({ b := code, i := R2.i, h := R2.h : L1Cur })).bind fun R5 =>
  (spec_l16File ({ b := code, i := R5.2.i, h := R5.2.h : L1Cur })).bind fun R8 =>
  some (R5.1, R8.1)

theorem spec_DrawFilesAdd_c {code : List UInt8} {U0 : Value} : Cn Try.prog 11 [U0] [] [(U0, lc code)] (spec_DrawFilesAdd code) (fun r (X : Value) => .tuple #[X, .agg #[iv r.2.No, iv r.2.Level, strV r.2.Lo, strV r.2.Hi]]) fun r X => [.own X (lc r.1)] := by
  unfold spec_DrawFilesAdd
  refine Ci Try.func11 r r ?_
  rintro w S ⟨Z0,-⟩
  exact Sr<|Qs 1 r<|Fo (Al kz33 r) fun B1=>Nx<|Sr<|Qs 1 r<|Bi fun R2 H3=>Fo (Cl [] spec_l1New_c H3 r r1 ⟨(Bc Z0),⟨⟩⟩) fun Y4=>Qs 1 r<|Nx<|Sr<|Qs 1 r<|Bi fun R5 H6=>Fo (Cl [0] spec_l16Some_c H6 r r1 ⟨(Bc Z0),⟨⟩⟩) fun Y7=>Qs 1 r<|Nx<|Sr<|Qs 2 r<|Bi fun R8 H9=>Fo (Cl [0] spec_l16File_c H9 r r1 ⟨(Bc Z0),⟨⟩⟩) fun _=>Qs 1 r<|Fu (Sb 2 kk33 r (Cp r) r)<|Nx<|Wr<|TE.leaf fun _ _ hf_ hs_ => ret_any (rs := [.tmp 2, .cell 3 33]) (vs := [Y7, .agg #[iv R8.1.No, iv R8.1.Level, strV R8.1.Lo, strV R8.1.Hi]]) (.inl r) r ⟨r, (RV.cell 2 r r kk33 r ⟨⟩)⟩ hf_ hs_ ⟨Y7, r, hs_.pulls [1] r⟩

/-- loop.example/g00950/impl.inRange -/
noncomputable def impl_inRange (n : Int) (least : Int) (most : Int) : Option Bool :=
  (if (decide (n ≥ least)) = true then (some (decide (n ≤ most)))
  else (some false)).bind (fun (T1 : Bool) =>
  some T1)

theorem impl_inRange_c {n : Int} {least : Int} {most : Int} : Cn Try.prog 40 [iv n, iv least, iv most] [] [] (impl_inRange n least most) (fun r (_ : Unit) => .bool r) fun _ _ => [] := by
  unfold impl_inRange
  refine Ci Try.func40 r r ?_
  rintro w S -
  exact Sr<|Qs 1 r<|Nx<|Sq<|Jv [] (fun T=>[(6, .bool T)]) r1 (Rg<|Qs 4 r<|It (fun H3=>Qg 3 (beq_tt H3) r r<|Yo (Pt H3 r)<|Qs 1 r<|Nl<|Bg () []) fun H3=>Of 3 (beq_ft H3) r r<|Yo (Pf H3 r)<|Qs 1 r<|Nl<|Bg () []) fun T1=>Ne<|Wr<|Re () []

/-- loop.example/g00950/impl.isKey -/
noncomputable def impl_isKey (s : List UInt8) : Option Bool :=
  (impl_inRange ((s.length : Nat) : Int) (1 : Int) (10 : Int)).bind fun R1 =>
  some R1

theorem impl_isKey_c {s : List UInt8} : Cn Try.prog 54 [strV s] [] [] (impl_isKey s) (fun r (_ : Unit) => .bool r) fun _ _ => [] := by
  unfold impl_isKey
  refine Ci Try.func54 r r ?_
  rintro w S -
  exact Sr<|Qs 1 r<|Nx<|Sr<|Qs 1 r<|Yo (Y.slen ks9 r)<|Bi fun R1 H2=>Fo (Cl [] impl_inRange_c H2 r r1) fun _=>Qs 1 r<|Nx<|Wr<|Re () []

/-- loop.example/g00950/impl.fileOk -/
noncomputable def impl_fileOk (f : File) : Option Bool :=
  ((impl_inRange f.No (1 : Int) (1000000 : Int)).bind fun R4 =>
  if R4 = true then ((impl_inRange f.Level (0 : Int) (2 : Int)).bind fun R8 =>
  if R8 = true then ((impl_isKey f.Lo).bind fun R12 =>
  if R12 = true then ((impl_isKey f.Hi).bind fun R16 =>
  if R16 = true then (some (sLt f.Lo f.Hi || decide (f.Lo = f.Hi)))
  else (some false))
  else (some false))
  else (some false))
  else (some false)).bind (fun (T2 : Bool) =>
  some T2)

theorem impl_fileOk_c {f : File} : Cn Try.prog 46 [.agg #[iv f.No, iv f.Level, strV f.Lo, strV f.Hi]] [] [] (impl_fileOk f) (fun r (_ : Unit) => .bool r) fun _ _ => [] := by
  unfold impl_fileOk
  refine Ci Try.func46 r r ?_
  rintro w S -
  exact Sr<|Fo (Bx r (Cp r)) fun B1=>Qs 1 r<|Nx<|Sq<|Jb Unit [] [] (fun T _=>[(2, .bool T)]) (fun _ _=>[]) r2 r2 (Rg<|Yo (Fb kf33_0 r)<|Yo (Lb 0 kk3 r)<|Bi fun R4 H5=>Fo (Cl [] impl_inRange_c H5 r r1) fun _=>Qs 1 r<|It (fun H7=>Yg (gdA (beq_tt H7)) (Fb kf33_1 r)<|Yg (gdA (beq_tt H7)) (Lb 0 kk3 r)<|Bi fun R8 H9=>Fg (gdA (beq_tt H7)) (Cl [] impl_inRange_c H9 r r1) fun _=>Yo (Pt H7 r)<|Qs 1 r<|It (fun H11=>Yg (gdA (beq_tt H11)) (Fb kf33_2 r)<|Yg (gdA (beq_tt H11)) (Lb 0 kk9 r)<|Bi fun R12 H13=>Fg (gdA (beq_tt H11)) (Cl [] impl_isKey_c H13 r r1) fun _=>Yo (Pt H11 r)<|Qs 1 r<|It (fun H15=>Yg (gdA (beq_tt H15)) (Fb kf33_3 r)<|Yg (gdA (beq_tt H15)) (Lb 0 kk9 r)<|Bi fun R16 H17=>Fg (gdA (beq_tt H15)) (Cl [] impl_isKey_c H17 r r1) fun _=>Yo (Pt H15 r)<|Qs 1 r<|It (fun H19=>Yg (gdA (beq_tt H19)) (Fb kf33_2 r)<|Yg (gdA (beq_tt H19)) (Lb 0 kk9 r)<|Yg (gdA (beq_tt H19)) (Fb kf33_3 r)<|Yg (gdA (beq_tt H19)) (Lb 0 kk9 r)<|Qg 1 (beq_tt H19) r r<|Yo (Pt H19 r)<|Qs 1 r<|Nl<|Bg () []) fun H19=>Of 5 (beq_ft H19) r r<|Yo (Pf H19 r)<|Qs 1 r<|Nl<|Bg () []) fun H15=>Of 3 (beq_ft H15) r r<|Yo (Pf H15 r)<|Qs 1 r<|Of 5 r r r<|Yo (Pf r r)<|Qs 1 r<|Nl<|Bg () []) fun H11=>Of 3 (beq_ft H11) r r<|Yo (Pf H11 r)<|Qs 1 r<|Of 3 r r r<|Yo (Pf r r)<|Qs 1 r<|Of 5 r r r<|Yo (Pf r r)<|Qs 1 r<|Nl<|Bg () []) fun H7=>Of 3 (beq_ft H7) r r<|Yo (Pf H7 r)<|Qs 1 r<|Of 3 r r r<|Yo (Pf r r)<|Qs 1 r<|Of 3 r r r<|Yo (Pf r r)<|Qs 1 r<|Of 5 r r r<|Yo (Pf r r)<|Qs 1 r<|Nl<|Bg () []) fun T2 X3=>Ne<|Wr<|Re () []

/-- loop.example/g00950/impl.fileAt$1 -/
noncomputable def impl_fileAt_1 (f : File) (c0_ : Int) : Option Bool :=
  some (decide (f.No = c0_))

theorem impl_fileAt_1_c {f : File} {c0_ : Int} {U0 : Nat} : Cn Try.prog 53 [.agg #[iv f.No, iv f.Level, strV f.Lo, strV f.Hi], pt U0] [.box U0 3 [iv c0_]] [] (impl_fileAt_1 f c0_) (fun r (_ : Unit) => .bool r) fun _ _ => [.box U0 3 [iv c0_]] := by
  unfold impl_fileAt_1
  refine Ci Try.func53 r r ?_
  rintro w S -
  exact Sr<|Fo (Bx r (Cp r)) fun B1=>Qs 1 r<|Nx<|Sr<|Yo (Fb kf33_0 r)<|Yo (Lb 0 kk3 r)<|Yo (Lb 1 kk3 r)<|Qs 2 r<|Nx<|Wr<|Re () [1]

/-- slices.IndexFunc[[]loop.example/g00950/impl.File,loop.example/g00950/impl.File] -/
noncomputable def slices_IndexFunc_68810_at_impl_fileAt_1 (s : List File) (f_c0 : Int) : Option Int :=
  bindC (loopO (fun (S1 : Int) => if (decide (S1 < ((s.length : Nat) : Int))) = true then ((idx s S1).bind fun E6 =>
  (impl_fileAt_1 E6 f_c0).bind fun R8 =>
  if R8 = true then (some (.done (.done S1)))
  else (some (.go (IntKind.i64.wrap (S1 + (1 : Int))))))
  else (some (.done (.go ()))))
  (0 : Int))
  (fun (T3 : Unit) => some (-1 : Int))

theorem slices_IndexFunc_68810_at_impl_fileAt_1_c {s : List File} {f_c0 : Int} {U0 : Value} {U1 : Nat} : Cn Try.prog 52 [U0, .func (.func 53) #[] #[pt U1]] [.box U1 3 [iv f_c0]] [(U0, lc s)] (slices_IndexFunc_68810_at_impl_fileAt_1 s f_c0) (fun r (_ : Unit) => iv r) fun _ _ => [.box U1 3 [iv f_c0]] := by
  unfold slices_IndexFunc_68810_at_impl_fileAt_1
  refine Ci Try.func52 r r ?_
  rintro w S ⟨Z0,-⟩
  exact Sr<|Qs 1 r<|Nx<|Sq<|Sr<|Qs 1 r<|Yo (Ln ke31 (Bc Z0) r)<|Qs 1 r<|Nx<|Ju [] (fun _=>[]) r1 (Wb<|Lu [0,1,7] (fun T=>[(8, iv T)]) r1 fun S1=>Sr<|Qs 1 r<|Nx<|Sq<|Wc r (fun H5=>Sn<|Sq<|Wb<|Sr<|Qs 2 r<|Nx<|Sr<|Qs 3 r<|Bi fun E6 H7=>Yo (Ix ke31 (Bc Z0) H7 r)<|Yo (Le kk33 (Bc Z0) H7 r)<|Bi fun R8 H9=>Fo (Cw [0] impl_fileAt_1_c H9 r r r1) fun _=>Nx<|Wc r (fun H11=>Sr<|Qs 2 r<|Nx<|Wr<|Br<|Tr<|Er<|Br<|Jd<|Tr<|Re () [0]) fun H11=>Sk<|Bn<|Ne<|Rg<|Qs 2 r<|Nl<|Lg () [0]) fun H5=>Wx<|Tx<|Ex<|Be<|Jg () [0]) fun T3=>Ne<|Sr<|Qs 1 r<|Nx<|Wr<|Re () [0]

/-- loop.example/g00950/impl.fileAt -/
noncomputable def impl_fileAt (l : List File) (no : Int) : Option Int :=
  (slices_IndexFunc_68810_at_impl_fileAt_1 l no).bind fun R2 =>
  some R2

theorem impl_fileAt_c {l : List File} {no : Int} {U0 : Value} : Cn Try.prog 41 [U0, iv no] [] [(U0, lc l)] (impl_fileAt l no) (fun r (_ : Unit) => iv r) fun _ _ => [] := by
  unfold impl_fileAt
  refine Ci Try.func41 r r ?_
  rintro w S ⟨Z0,-⟩
  exact Sr<|Fo (Bx r (Cp r)) fun B1=>Qs 1 r<|Nx<|Sr<|Qs 1 r<|Yo (Y.makeFunc r)<|Bi fun R2 H3=>Fo (Cl [0] slices_IndexFunc_68810_at_impl_fileAt_1_c H3 r r1 ⟨(Bc Z0),⟨⟩⟩) fun _=>Qs 1 r<|Nx<|Wr<|Re () []

/-- cmp.isNaN[int] -/
noncomputable def cmp_isNaN_26527 (x : Int) : Option Bool :=
  some (!(decide (x = x)))

theorem cmp_isNaN_26527_c {x : Int} : Cn Try.prog 55 [iv x] [] [] (cmp_isNaN_26527 x) (fun r (_ : Unit) => .bool r) fun _ _ => [] := by
  unfold cmp_isNaN_26527
  refine Ci Try.func55 r r ?_
  rintro w S -
  exact Sr<|Qs 1 r<|Nx<|Sr<|Qs 4 r<|Nx<|Wr<|Re () []

/-- cmp.Compare[int] -/
noncomputable def cmp_Compare_26527 (x : Int) (y : Int) : Option Int :=
  (cmp_isNaN_26527 x).bind fun R1 =>
  (cmp_isNaN_26527 y).bind fun R4 =>
  if R1 = true then (if R4 = true then (some (0 : Int))
  else (some (-1 : Int)))
  else (if R4 = true then (some (1 : Int))
  else (if (decide (x < y)) = true then (some (-1 : Int))
  else (if (decide (x > y)) = true then (some (1 : Int))
  else (some (0 : Int)))))

theorem cmp_Compare_26527_c {x : Int} {y : Int} : Cn Try.prog 47 [iv x, iv y] [] [] (cmp_Compare_26527 x y) (fun r (_ : Unit) => iv r) fun _ _ => [] := by
  unfold cmp_Compare_26527
  refine Ci Try.func47 r r ?_
  rintro w S -
  exact Sr<|Qs 1 r<|Nx<|Sr<|Qs 1 r<|Bi fun R1 H2=>Fo (Cl [] cmp_isNaN_26527_c H2 r r1) fun _=>Qs 1 r<|Nx<|Sr<|Qs 1 r<|Bi fun R4 H5=>Fo (Cl [] cmp_isNaN_26527_c H5 r r1) fun _=>Qs 1 r<|Nx<|Sq<|Sr<|Qs 1 r<|Nx<|Wc r (fun H7=>Sq<|Sr<|Qs 1 r<|Nx<|Wc r (fun H8=>Sr<|Qs 1 r<|Nx<|Wr<|Tr<|Tr<|Re () []) fun H8=>Sn<|Sr<|Qs 1 r<|Nx<|Wr<|Tr<|Re () []) fun H7=>Sn<|Sq<|Sr<|Qs 1 r<|Nx<|Wc r (fun H9=>Sr<|Qs 1 r<|Nx<|Wr<|Tr<|Re () []) fun H9=>Sn<|Sq<|Sr<|Qs 3 r<|Nx<|Wc r (fun H10=>Sr<|Qs 1 r<|Nx<|Wr<|Tr<|Re () []) fun H10=>Sn<|Sq<|Sr<|Qs 3 r<|Nx<|Wc r (fun H11=>Sr<|Qs 1 r<|Nx<|Wr<|Tr<|Re () []) fun H11=>Sn<|Sr<|Qs 1 r<|Nx<|Wr<|Re () []

/-- cmp.isNaN[string] -/
noncomputable def cmp_isNaN_83645 (x : List UInt8) : Option Bool :=
  some (!(decide (x = x)))

theorem cmp_isNaN_83645_c {x : List UInt8} : Cn Try.prog 56 [strV x] [] [] (cmp_isNaN_83645 x) (fun r (_ : Unit) => .bool r) fun _ _ => [] := by
  unfold cmp_isNaN_83645
  refine Ci Try.func56 r r ?_
  rintro w S -
  exact Sr<|Qs 1 r<|Nx<|Sr<|Qs 4 r<|Nx<|Wr<|Re () []

/-- cmp.Compare[string] -/
noncomputable def cmp_Compare_83645 (x : List UInt8) (y : List UInt8) : Option Int :=
  (cmp_isNaN_83645 x).bind fun R1 =>
  (cmp_isNaN_83645 y).bind fun R4 =>
  if R1 = true then (if R4 = true then (some (0 : Int))
  else (some (-1 : Int)))
  else (if R4 = true then (some (1 : Int))
  else (if (sLt x y) = true then (some (-1 : Int))
  else (if (!(sLt x y || decide (x = y))) = true then (some (1 : Int))
  else (some (0 : Int)))))

theorem cmp_Compare_83645_c {x : List UInt8} {y : List UInt8} : Cn Try.prog 48 [strV x, strV y] [] [] (cmp_Compare_83645 x y) (fun r (_ : Unit) => iv r) fun _ _ => [] := by
  unfold cmp_Compare_83645
  refine Ci Try.func48 r r ?_
  rintro w S -
  exact Sr<|Qs 1 r<|Nx<|Sr<|Qs 1 r<|Bi fun R1 H2=>Fo (Cl [] cmp_isNaN_83645_c H2 r r1) fun _=>Qs 1 r<|Nx<|Sr<|Qs 1 r<|Bi fun R4 H5=>Fo (Cl [] cmp_isNaN_83645_c H5 r r1) fun _=>Qs 1 r<|Nx<|Sq<|Sr<|Qs 1 r<|Nx<|Wc r (fun H7=>Sq<|Sr<|Qs 1 r<|Nx<|Wc r (fun H8=>Sr<|Qs 1 r<|Nx<|Wr<|Tr<|Tr<|Re () []) fun H8=>Sn<|Sr<|Qs 1 r<|Nx<|Wr<|Tr<|Re () []) fun H7=>Sn<|Sq<|Sr<|Qs 1 r<|Nx<|Wc r (fun H9=>Sr<|Qs 1 r<|Nx<|Wr<|Tr<|Re () []) fun H9=>Sn<|Sq<|Sr<|Qs 3 r<|Nx<|Wc r (fun H10=>Sr<|Qs 1 r<|Nx<|Wr<|Tr<|Re () []) fun H10=>Sn<|Sq<|Sr<|Qs 3 r<|Nx<|Wc r (fun H11=>Sr<|Qs 1 r<|Nx<|Wr<|Tr<|Re () []) fun H11=>Sn<|Sr<|Qs 1 r<|Nx<|Wr<|Re () []

/-- loop.example/g00950/impl.compareFiles -/
noncomputable def impl_compareFiles (a : File) (b : File) : Option Int :=
  if (!(decide (a.Level = b.Level))) = true then ((cmp_Compare_26527 a.Level b.Level).bind fun R4 =>
  some R4)
  else (if (decide (a.Level = (0 : Int))) = true then ((cmp_Compare_26527 b.No a.No).bind fun R8 =>
  some R8)
  else ((cmp_Compare_83645 a.Lo b.Lo).bind fun R11 =>
  some R11))

theorem impl_compareFiles_c {a : File} {b : File} : Cn Try.prog 32 [.agg #[iv a.No, iv a.Level, strV a.Lo, strV a.Hi], .agg #[iv b.No, iv b.Level, strV b.Lo, strV b.Hi]] [] [] (impl_compareFiles a b) (fun r (_ : Unit) => iv r) fun _ _ => [] := by
  unfold impl_compareFiles
  refine Ci Try.func32 r r ?_
  rintro w S -
  exact Sr<|Fo (Bx r (Cp r)) fun B1=>Fo (Bx r (Cp r)) fun B2=>Qs 1 r<|Nx<|Sq<|Sr<|Yo (Fb kf33_1 r)<|Yo (Lb 1 kk3 r)<|Yo (Fb kf33_1 r)<|Yo (Lb 0 kk3 r)<|Qs 1 r<|Nx<|Wc r (fun H3=>Sr<|Yo (Fb kf33_1 r)<|Yo (Lb 1 kk3 r)<|Yo (Fb kf33_1 r)<|Yo (Lb 0 kk3 r)<|Bi fun R4 H5=>Fo (Cl [] cmp_Compare_26527_c H5 r r1) fun _=>Qs 1 r<|Nx<|Wr<|Tr<|Re () []) fun H3=>Sn<|Sq<|Sr<|Yo (Fb kf33_1 r)<|Yo (Lb 1 kk3 r)<|Qs 1 r<|Nx<|Wc r (fun H7=>Sr<|Yo (Fb kf33_0 r)<|Yo (Lb 0 kk3 r)<|Yo (Fb kf33_0 r)<|Yo (Lb 1 kk3 r)<|Bi fun R8 H9=>Fo (Cl [] cmp_Compare_26527_c H9 r r1) fun _=>Qs 1 r<|Nx<|Wr<|Tr<|Re () []) fun H7=>Sn<|Sr<|Yo (Fb kf33_2 r)<|Yo (Lb 1 kk9 r)<|Yo (Fb kf33_2 r)<|Yo (Lb 0 kk9 r)<|Bi fun R11 H12=>Fo (Cl [] cmp_Compare_83645_c H12 r r1) fun _=>Qs 1 r<|Nx<|Wr<|Re () []

/-- loop.example/g00950/impl.FilesOk -/
noncomputable def impl_FilesOk (l : List File) : Option Bool :=
  if (decide (((l.length : Nat) : Int) > (12 : Int))) = true then (some false)
  else (bindC (loopO (fun (S2 : Int) => if (decide (S2 < ((l.length : Nat) : Int))) = true then ((idx l S2).bind fun E7 =>
  ((impl_fileOk E7).bind fun R12 =>
  if (!R12) = true then (some true)
  else ((impl_fileAt l E7.No).bind fun R16 =>
  if (!(decide (R16 = S2))) = true then (some true)
  else (if (decide (S2 > (0 : Int))) = true then ((idx l (IntKind.i64.wrap (S2 - (1 : Int)))).bind fun E21 =>
  (impl_compareFiles E21 E7).bind fun R23 =>
  some (decide (R23 ≥ (0 : Int))))
  else (some false)))).bind (fun (T10 : Bool) =>
  if T10 = true then (some (.done (.done false)))
  else ((if (decide (S2 > (0 : Int))) = true then (if (decide (E7.Level > (0 : Int))) = true then ((idx l (IntKind.i64.wrap (S2 - (1 : Int)))).bind fun E31 =>
  if (decide (E31.Level = E7.Level)) = true then (some (sLt E7.Lo E31.Hi || decide (E7.Lo = E31.Hi)))
  else (some false))
  else (some false))
  else (some false)).bind (fun (T27 : Bool) =>
  if T27 = true then (some (.done (.done false)))
  else (some (.go (IntKind.i64.wrap (S2 + (1 : Int)))))))))
  else (some (.done (.go ()))))
  (0 : Int))
  (fun (T4 : Unit) => some true))

theorem impl_FilesOk_c {l : List File} {U0 : Value} : Cn Try.prog 31 [U0] [] [(U0, lc l)] (impl_FilesOk l) (fun r (_ : Unit) => .bool r) fun _ _ => [] := by
  unfold impl_FilesOk
  refine Ci Try.func31 r r ?_
  rintro w S ⟨Z0,-⟩
  exact Sr<|Qs 1 r<|Nx<|Sq<|Sr<|Qs 1 r<|Yo (Ln ke31 (Bc Z0) r)<|Qs 1 r<|Nx<|Wc r (fun H1=>Sr<|Qs 1 r<|Nx<|Wr<|Tr<|Re () []) fun H1=>Sn<|Sq<|Sr<|Qs 1 r<|Yo (Ln ke31 (Bc Z0) r)<|Qs 1 r<|Nx<|Ju [] (fun _=>[]) r1 (Wb<|Lu [0,8,9] (fun T=>[(10, iv T)]) r1 fun S2=>Sr<|Qs 1 r<|Nx<|Sq<|Wc r (fun H6=>Sn<|Sq<|Wb<|Sr<|Qs 1 r<|Bi fun E7 H8=>Yo (Ix ke31 (Bc Z0) H8 r)<|Yo (Le kk33 (Bc Z0) H8 r)<|Fo (Al kz33 r) fun B9=>Qs 1 r<|Fu (Sb 0 kk33 r (Cp r) r)<|Nx<|Sq<|Sq<|Jv [0,3,4,8,9,10] (fun T=>[(39, .bool T)]) r1 (Dr [0] r hMix<|Ay 0 [0] r (Lb 0 kk33 r)<|Ai fun R12 H13=>A1 1<|Xe [0] r (Cl [] impl_fileOk_c H13 r r1) fun _=>Aq [2,3] [0] r<|Ia (fun H15=>Ax [4,5,6,7,8,9] [0] (beq_tf H15) r r<|Ay 10 [0] r (Pt H15 r)<|Aq [11] [0] r<|Ax [12,13,14] [0] r r r<|Au [15,16,17,18,19,20,21,22] [0] r r<|Ax [23] [0] r r r<|Ay 24 [0] r (Pt r r)<|Az<|Bg () [0]) fun H15=>Ag 4 [0] (gdA (beq_ff H15)) r (Y.move r)<|Ag 5 [0] (gdA (beq_ff H15)) r (Fb kf33_0 r)<|Ag 6 [0] (gdA (beq_ff H15)) r (Lb 0 kk3 r)<|Ag 8 [0] (gdA (beq_ff H15)) r (Y.move r)<|Ai fun R16 H17=>A1 7<|Xeg [0] (gdA (beq_ff H15)) r (Cl [] impl_fileAt_c H17 r r1 ⟨(Bc Z0),⟨⟩⟩) fun _=>Ag 9 [0] (gdA (beq_ff H15)) r (Y.neq r r)<|Ay 10 [0] r (Pf H15 r)<|Aq [11] [0] r<|Ia (fun H19=>Ax [12,13,14] [0] (beq_tf H19) r r<|Au [15,16,17,18,19,20,21,22] [0] r r<|Ax [23] [0] (beq_tf H19) r r<|Ay 24 [0] r (Pt H19 r)<|Az<|Bg () [0]) fun H19=>Ag 12 [0] (gdA (beq_ff H19)) r (Y.move r)<|Ag 13 [0] (gdA (beq_ff H19)) r (Y.gtr r r)<|Ag 14 [0] (gdA (beq_ff H19)) r (Y.move r)<|Ia (fun H20=>Ag 15 [0] (gdA (beq_tt H20)) r (Y.move r)<|Ag 16 [0] (gdA (beq_tt H20)) r (Y.move r)<|Ag 17 [0] (gdA (beq_tt H20)) r (Y.sub r r)<|Ai fun E21 H22=>Ag 18 [0] (gdA (beq_tt H20)) r (Ix ke31 (Bc Z0) H22 r)<|Ag 19 [0] (gdA (beq_tt H20)) r (Le kk33 (Bc Z0) H22 r)<|Ag 20 [0] (gdA (beq_tt H20)) r (Lb 0 kk33 r)<|Ai fun R23 H24=>A1 21<|Xeg [0] (gdA (beq_tt H20)) r (Cl [] impl_compareFiles_c H24 r r1) fun _=>Ag 22 [0] (gdA (beq_tt H20)) r (Y.geq r r)<|Ag 23 [0] (gdA (beq_ff H19)) r (Pt H20 r)<|Ay 24 [0] r (Pf H19 r)<|Az<|Bg () [0]) fun H20=>Ax [15,16,17,18,19,20,21,22] [0] (beq_ft H20) r r<|Ag 23 [0] (gdA (beq_ff H19)) r (Pf H20 r)<|Ay 24 [0] r (Pf H19 r)<|Az<|Bg () [0]) fun T10=>Ne<|Wc r (fun H26=>Sr<|Qs 1 r<|Nx<|Wr<|Tr<|Br<|Tr<|Er<|Br<|Jd<|Tr<|Re () []) fun H26=>Sn<|Sq<|Jb Unit [0,8,9,10] [] (fun T _=>[(68, .bool T)]) (fun _ _=>[]) r2 r2 (Dr [0] r hMix<|Aq [0,1,2] [0] r<|Ia (fun H29=>Ag 3 [0] (gdA (beq_tt H29)) r (Fb kf33_1 r)<|Ag 4 [0] (gdA (beq_tt H29)) r (Lb 0 kk3 r)<|Ag 5 [0] (gdA (beq_tt H29)) r (Y.gtr r r)<|Ay 6 [0] r (Pt H29 r)<|Aq [7] [0] r<|Ia (fun H30=>Ag 8 [0] (gdA (beq_tt H30)) r (Y.move r)<|Ag 9 [0] (gdA (beq_tt H30)) r (Y.move r)<|Ag 10 [0] (gdA (beq_tt H30)) r (Y.sub r r)<|Ai fun E31 H32=>Ag 11 [0] (gdA (beq_tt H30)) r (Ix ke31 (Bc Z0) H32 r)<|Ag 12 [0] (gdA (beq_tt H30)) r (Fe kf33_1 (Bc Z0) H32 r)<|Ag 13 [0] (gdA (beq_tt H30)) r (Le kk3 (Bc Z0) H32 r)<|Ag 14 [0] (gdA (beq_tt H30)) r (Fb kf33_1 r)<|Ag 15 [0] (gdA (beq_tt H30)) r (Lb 0 kk3 r)<|Ag 16 [0] (gdA (beq_tt H30)) r (Y.eql r r)<|Ay 17 [0] r (Pt H30 r)<|Aq [18] [0] r<|Ia (fun H33=>Ag 19 [0] (gdA (beq_tt H33)) r (Fb kf33_2 r)<|Ag 20 [0] (gdA (beq_tt H33)) r (Lb 0 kk9 r)<|Ag 21 [0] (gdA (beq_tt H33)) r (Y.move r)<|Ag 22 [0] (gdA (beq_tt H33)) r (Y.move r)<|Ag 23 [0] (gdA (beq_tt H33)) r (Y.sub r r)<|Ag 24 [0] (gdA (beq_tt H33)) r (Ix ke31 (Bc Z0) H32 r)<|Ag 25 [0] (gdA (beq_tt H33)) r (Fe kf33_3 (Bc Z0) H32 r)<|Ag 26 [0] (gdA (beq_tt H33)) r (Le kk9 (Bc Z0) H32 r)<|Ag 27 [0] (gdA (beq_tt H33)) r (Y.sleq r r)<|Ay 28 [0] r (Pt H33 r)<|Az<|Bg () []) fun H33=>Ax [19,20,21,22,23,24,25,26,27] [0] (beq_ft H33) r r<|Ay 28 [0] r (Pf H33 r)<|Az<|Bg () []) fun H30=>Ax [8,9,10,11,12,13,14,15,16] [0] (beq_ft H30) r r<|Ay 17 [0] r (Pf H30 r)<|Aq [18] [0] r<|Ax [19,20,21,22,23,24,25,26,27] [0] r r r<|Ay 28 [0] r (Pf r r)<|Az<|Bg () []) fun H29=>Ax [3,4,5] [0] (beq_ft H29) r r<|Ay 6 [0] r (Pf H29 r)<|Aq [7] [0] r<|Ax [8,9,10,11,12,13,14,15,16] [0] r r r<|Ay 17 [0] r (Pf r r)<|Aq [18] [0] r<|Ax [19,20,21,22,23,24,25,26,27] [0] r r r<|Ay 28 [0] r (Pf r r)<|Az<|Bg () []) fun T27 X28=>Ne<|Wc r (fun H34=>Sr<|Qs 1 r<|Nx<|Wr<|Br<|Tr<|Er<|Br<|Jd<|Tr<|Re () []) fun H34=>Sk<|Bn<|Ne<|Rg<|Qs 2 r<|Nl<|Lg () []) fun H6=>Wx<|Tx<|Ex<|Be<|Jg () []) fun T4=>Ne<|Sr<|Qs 1 r<|Nx<|Wr<|Re () []

/-- slices.Clone[[]loop.example/g00950/impl.File,loop.example/g00950/impl.File] -/
noncomputable def slices_Clone_68810 (s : List File) : Option (List File) :=
  (app 48 ([] : List File) s).bind fun E4 =>
  some E4

theorem slices_Clone_68810_c {s : List File} {U0 : Value} : Cn Try.prog 34 [U0] [] [(U0, lc s)] (slices_Clone_68810 s) (fun _ (X : Value) => X) fun r X => [.own X (lc r)] := by
  unfold slices_Clone_68810
  refine Ci Try.func34 r r ?_
  rintro w S ⟨Z0,-⟩
  exact Sr<|Qs 1 r<|Nx<|Sq<|Sr<|Qs 1 r<|Yo (Y.nileq ke31 (Bc Z0) r r)<|Nx<|TW.cond_nil (Bc Z0) r (fun hnil_=>by subst hnil_;show TW _ _ _ (some ([])) _ _ _ _ _;exact (Sr<|Qs 1 r<|Nx<|Wr<|Tr<|Ni 4<|Re (.slice none 0 0) [0]))<|Sn<|Sr<|Fo (Bs ([] : List File) ke31 kz33) fun B2=>Qs 1 r<|Bi fun E4 H5=>Fo (Ap [0] H5 ke31 kz33 r (Bc Z0)) fun V3=>Qs 1 r<|Nx<|Wr<|Re V3 [0]

/-- slices.Reverse[[]loop.example/g00950/impl.File,loop.example/g00950/impl.File] -/
noncomputable def slices_Reverse_68810 (s : List File) : Option (List File) :=
  bindC (loopO (fun (S1 : Int × Int × List File) => if (decide (S1.1 < S1.2.1)) = true then ((idx S1.2.2 S1.2.1).bind fun E6 =>
  (idx S1.2.2 S1.1).bind fun E8 =>
  (idx (S1.2.2.set S1.1.toNat E6) S1.2.1).bind fun E10 =>
  some (.go (IntKind.i64.wrap (S1.1 + (1 : Int)), IntKind.i64.wrap (S1.2.1 - (1 : Int)), ((S1.2.2.set S1.1.toNat E6).set S1.2.1.toNat E8))))
  else (some (.done (.go S1.2.2))))
  ((0 : Int), IntKind.i64.wrap (((s.length : Nat) : Int) - (1 : Int)), s))
  (fun (T3 : List File) => some T3)

theorem slices_Reverse_68810_c {s : List File} {U0 : Value} : Cn Try.prog 58 [U0] [.own U0 (lc s)] [] (slices_Reverse_68810 s) (fun _ (_ : Unit) => .tuple #[]) fun r _ => [.own U0 (lc r)] := by
  unfold slices_Reverse_68810
  refine Ci Try.func58 r r ?_
  rintro w S -
  exact Sr<|Qs 1 r<|Yo (Ln ke31 (Oc 0 r) r)<|Qs 3 r<|Nx<|Jn Unit [] [] (fun _ _=>[]) (fun T _=>[.own U0 (lc T)]) r2 r2 (Wb<|Lp Unit [0] [] (fun T _=>[(2, iv T.1), (3, iv T.2.1)]) (fun T _=>[.own U0 (lc T.2.2)]) () [0] r2 r2 fun S1 X2=>Sq<|Sr<|Qs 3 r<|Nx<|Wc r (fun H5=>Sn<|Sq<|Wb<|Wi fun E6 H7=>Wi fun E8 H9=>Wi fun E10 H11=>Jw Unit [0,2,3] [] (fun _=>[]) (fun _=>[.own U0 (lc ((S1.2.2.set S1.1.toNat E6).set S1.2.1.toNat E8))]) r1 r1 (Dr [] r hMix<|Aq [0,1,2,3,4,5,8,9] [] r<|A2 6 10 (Xy [] r (Ix ke31 (Oc 0 r) H7 r)<|A2 7 10 (Xy [] r (Le kk33 (Oc 0 r) H7 r)<|A1 10<|Xy [] r (Ix ke31 (Oc 0 r) H9 r)<|A1 11<|Xy [] r (Le kk33 (Oc 0 r) H9 r)<|A1 12<|Xy [] r (Ix ke31 (Oc 0 r) H9 r)<|A1 13<|Xu [] r (Se E6 0 kk33 H9 r (Cp r) r)<|A1 14<|Xy [] r (Ix ke31 (Oc 0 r) H11 r)<|A1 15<|Xu [] r (Se E8 0 kk33 H11 r (Cp r) r)<|Az<|Bg () [0])<|Xy [] r (Ix ke31 (Oc 0 r) H9 r)<|A2 7 11 (Xy [] r (Le kk33 (Oc 0 r) H7 r)<|A1 11<|Xy [] r (Le kk33 (Oc 0 r) H9 r)<|A1 12<|Xy [] r (Ix ke31 (Oc 0 r) H9 r)<|A1 13<|Xu [] r (Se E6 0 kk33 H9 r (Cp r) r)<|A1 14<|Xy [] r (Ix ke31 (Oc 0 r) H11 r)<|A1 15<|Xu [] r (Se E8 0 kk33 H11 r (Cp r) r)<|Az<|Bg () [0])<|Xy [] r (Le kk33 (Oc 0 r) H9 r)<|A1 7<|Xy [] r (Le kk33 (Oc 0 r) H7 r)<|A1 12<|Xy [] r (Ix ke31 (Oc 0 r) H9 r)<|A1 13<|Xu [] r (Se E6 0 kk33 H9 r (Cp r) r)<|A1 14<|Xy [] r (Ix ke31 (Oc 0 r) H11 r)<|A1 15<|Xu [] r (Se E8 0 kk33 H11 r (Cp r) r)<|Az<|Bg () [0])<|Xy [] r (Ix ke31 (Oc 0 r) H9 r)<|A2 6 11 (Xy [] r (Ix ke31 (Oc 0 r) H7 r)<|A2 7 11 (Xy [] r (Le kk33 (Oc 0 r) H7 r)<|A1 11<|Xy [] r (Le kk33 (Oc 0 r) H9 r)<|A1 12<|Xy [] r (Ix ke31 (Oc 0 r) H9 r)<|A1 13<|Xu [] r (Se E6 0 kk33 H9 r (Cp r) r)<|A1 14<|Xy [] r (Ix ke31 (Oc 0 r) H11 r)<|A1 15<|Xu [] r (Se E8 0 kk33 H11 r (Cp r) r)<|Az<|Bg () [0])<|Xy [] r (Le kk33 (Oc 0 r) H9 r)<|A1 7<|Xy [] r (Le kk33 (Oc 0 r) H7 r)<|A1 12<|Xy [] r (Ix ke31 (Oc 0 r) H9 r)<|A1 13<|Xu [] r (Se E6 0 kk33 H9 r (Cp r) r)<|A1 14<|Xy [] r (Ix ke31 (Oc 0 r) H11 r)<|A1 15<|Xu [] r (Se E8 0 kk33 H11 r (Cp r) r)<|Az<|Bg () [0])<|Xy [] r (Le kk33 (Oc 0 r) H9 r)<|A1 6<|Xy [] r (Ix ke31 (Oc 0 r) H7 r)<|A1 7<|Xy [] r (Le kk33 (Oc 0 r) H7 r)<|A1 12<|Xy [] r (Ix ke31 (Oc 0 r) H9 r)<|A1 13<|Xu [] r (Se E6 0 kk33 H9 r (Cp r) r)<|A1 14<|Xy [] r (Ix ke31 (Oc 0 r) H11 r)<|A1 15<|Xu [] r (Se E8 0 kk33 H11 r (Cp r) r)<|Az<|Bg () [0]) fun X13=>Bn<|Ne<|Rg<|Qs 6 r<|Nl<|Lg () [0]) fun H5=>Wx<|Tx<|Ex<|Be<|Jg () [0]) fun T3 X4=>Re () [0]

/-- slices.Insert[[]loop.example/g00950/impl.File,loop.example/g00950/impl.File] -/
noncomputable def slices_Insert_68810 (s : List File) (i : Int) (v : List File) : Option (List File) := ins 48 s i v

theorem slices_Insert_68810_con (s : List File) (i : Int) (v : List File) (V_s0 V_v0 : Value) (r : List File) (hm : slices_Insert_68810 s i v = some r) :
    Con Try.prog 33 [V_s0, .int .i64 i, V_v0] [.own V_s0 (lc s), .own V_v0 (lc v)] [] (fun X : Value => X) (fun X => [.own X (lc r)]) := by
  refine Con.intro (args := [V_s0, .int .i64 i, V_v0]) (n := 95) (val := fun _ (X : Value) => X) (post := fun r X => [.own X (lc r)]) (m := slices_Insert_68810 s i v) Try.func33 rfl rfl rfl hm ?_
  intro w S _
  unfold slices_Insert_68810
  refine TW.known fun r0 hr0 => ?_
  obtain ⟨h0, h1, h2, h3, rfl⟩ := ins_eq hr0
  obtain ⟨I, rfl⟩ := Int.eq_ofNat_of_zero_le h0
  rw [Int.toNat_natCast]
  have h1n : I ≤ s.length := by omega
  clear hr0 hm
  have wr : ∀ q : Nat, q ≤ 4611686018427387904 → IntKind.i64.wrap (q : Int) = (q : Int) := fun q hq => by rw [IntKind.wrap_i64]; omega
  have wr2 : ∀ a b : Nat, a + b ≤ 4611686018427387904 → IntKind.i64.wrap ((a : Int) + (b : Int)) = ((a + b : Nat) : Int) := fun a b hq => by rw [IntKind.wrap_i64]; omega
  obtain ⟨z0, hpc⟩ : ∃ z, piece s (I : Int) ((s.length : Nat) : Int) = some z := ⟨_, if_pos ⟨by omega, by omega, by omega⟩⟩
  refine TW.seq ?_
  refine TW.region ?_
  refine TO.y (Y.assign rfl) rfl rfl rfl ?_
  refine TO.nil ?_
  refine TE.next ?_
  refine TW.seq ?_
  refine TW.region ?_
  refine TO.y (Y.move rfl) rfl rfl rfl ?_
  refine TO.y (Y.move rfl) rfl rfl rfl ?_
  refine TO.y (Y.subs hpc ke31 (Can.own 0 rfl) rfl ⟨_, rfl⟩ rfl) rfl rfl rfl ?_
  refine TO.nil ?_
  refine TE.next ?_
  refine TW.seq ?_
  refine TW.region ?_
  refine TO.y (Y.move rfl) rfl rfl rfl ?_
  refine TO.y (Y.len (l := v) ke31 (Can.own 1 rfl) rfl) rfl rfl rfl ?_
  refine TO.y (Y.assign rfl) rfl rfl rfl ?_
  refine TO.nil ?_
  refine TE.next ?_
  refine TW.seq ?_
  refine TW.seq ?_
  refine TW.region ?_
  refine TO.y (Y.move rfl) rfl rfl rfl ?_
  refine TO.y (Y.eql rfl rfl) rfl rfl rfl ?_
  refine TO.nil ?_
  refine TE.next ?_
  by_cases hm0 : v = []
  · subst hm0
    rw [show s.take I ++ ([] ++ s.drop I) = s by simp]
    refine TW.cond_t rfl (by simp) ?_
    refine TW.seq ?_
    refine TW.region ?_
    refine TO.y (Y.move rfl) rfl rfl rfl ?_
    refine TO.y (Y.assign rfl) rfl rfl rfl ?_
    refine TO.nil ?_
    refine TE.next ?_
    refine TW.ret ?_
    refine TE.then_ret ?_
    exact TE.leaf fun _ _ hf_ hs_ => ret_any (rs := [.tmp 6]) (vs := [V_s0]) (.inl rfl) rfl ⟨rfl, trivial⟩ hf_ hs_ ⟨V_s0, rfl, hs_.pulls [0] rfl⟩
  · have hm1 : 0 < v.length := List.length_pos_iff.2 hm0
    refine TW.cond_f rfl (decide_eq_false (by omega)) ?_
    refine TW.skip ?_
    refine TE.next ?_
    refine TW.seq ?_
    refine TW.region ?_
    refine TO.y (Y.move rfl) rfl rfl rfl ?_
    refine TO.y (Y.len (l := s) ke31 (Can.own 0 rfl) rfl) rfl rfl rfl ?_
    refine TO.y (Y.assign rfl) rfl rfl rfl ?_
    refine TO.nil ?_
    refine TE.next ?_
    refine TW.seq ?_
    refine TW.seq ?_
    refine TW.region ?_
    refine TO.y (Y.move rfl) rfl rfl rfl ?_
    refine TO.y (Y.move rfl) rfl rfl rfl ?_
    refine TO.y (Y.eql rfl rfl) rfl rfl rfl ?_
    refine TO.nil ?_
    refine TE.next ?_
    by_cases hin : I = s.length
    · have happ : app 48 s v = some (s ++ v) := by unfold app; rw [if_pos ⟨h2, by omega⟩]
      rw [show s.take I ++ (v ++ s.drop I) = s ++ v by rw [hin]; simp]
      refine TW.cond_t rfl (decide_eq_true (by omega)) ?_
      refine TW.seq ?_
      refine TW.region ?_
      refine TO.y (Y.move rfl) rfl rfl rfl ?_
      refine TO.y (Y.move rfl) rfl rfl rfl ?_
      refine TO.ef (Ef.appN (α := File) (is' := []) [0, 0] happ ke31 kz33 rfl rfl rfl rfl rfl) rfl rfl rfl (fun X => ?_)
      refine TO.y (Y.assign rfl) rfl rfl rfl ?_
      refine TO.nil ?_
      refine TE.next ?_
      refine TW.ret ?_
      refine TE.then_ret ?_
      exact TE.leaf fun _ _ hf_ hs_ => ret_any (rs := [.tmp 6]) (vs := [X]) (.inl rfl) rfl ⟨rfl, trivial⟩ hf_ hs_ ⟨X, rfl, hs_.pulls [0] rfl⟩
    · refine TW.cond_f rfl (decide_eq_false (by omega)) ?_
      refine TW.skip ?_
      refine TE.next ?_
      refine TW.openRows (α := File) (by omega) hm1 ?_
      intro b cap e cur b2 cap2 e2 cur2 hV hU hbb hc1 hc2 hc3 hc4 hl1 hl2 ho1 ho2
      subst hV hU
      have hsz : Enc.sz File = 4 := rfl
      rw [hsz] at hl1 hl2 ho1 ho2
      have e1 := wr2 s.length v.length h3
      refine TW.seq ?_
      refine TW.seq ?_
      refine TW.region ?_
      refine TO.y (Y.move rfl) rfl rfl rfl ?_
      refine TO.y (Y.move rfl) rfl rfl rfl ?_
      refine TO.y (Y.add rfl rfl) rfl rfl rfl ?_
      refine TO.y (Y.move rfl) rfl rfl rfl ?_
      refine TO.y (Y.capRaw ke31 rfl) rfl rfl rfl ?_
      refine TO.y (Y.gtr rfl rfl) rfl rfl rfl ?_
      refine TO.nil ?_
      refine TE.next ?_
      by_cases hroom : cap < s.length + v.length
      · refine TW.cond_t rfl (by rw [e1]; exact decide_eq_true (by omega)) ?_
        refine TW.seq ?_
        refine TW.region ?_
        refine TO.y (Y.move rfl) rfl rfl rfl ?_
        refine TO.y (Y.move rfl) rfl rfl rfl ?_
        refine TO.y (Y.toRaw (hi := I) ke31 (by omega) rfl rfl rfl) rfl rfl rfl ?_
        refine TO.y (Y.move rfl) rfl rfl rfl ?_
        refine TO.y (Y.move rfl) rfl rfl rfl ?_
        refine TO.y (Y.add rfl rfl) rfl rfl rfl ?_
        refine TO.y (Y.move rfl) rfl rfl rfl ?_
        refine TO.y (Y.sub rfl rfl) rfl rfl rfl ?_
        have e2 : IntKind.i64.wrap (IntKind.i64.wrap ((s.length : Int) + (v.length : Int)) - (I : Int)) = ((s.length + v.length - I : Nat) : Int) := by rw [e1, IntKind.wrap_i64]; omega
        refine TO.ef (Ef.rawGrow (N := s.length + v.length) (q := s.length + v.length - I) 0 ke31 ki3 kz33 rfl rfl rfl rfl rfl e2 (by omega) (by omega) hl1 (by omega) hroom (by omega) h2) rfl rfl rfl (fun X => ?_)
        refine TO.y (Y.assign rfl) rfl rfl rfl ?_
        refine TO.nil ?_
        refine TE.next ?_
        obtain ⟨⟨⟨g, gc⟩, ge, zs⟩, hz1, hz2, hz3⟩ := X
        dsimp only at hz1 hz2 hz3 ⊢
        obtain ⟨q1, q2, q3, q4, q5, q6⟩ := insA (G := gc) (zs := zs) h1n hc1 hc3 hl1 hl2 hz1 hz2
        have m1 : 0 + I * 4 + v.length * 4 ≤ gc * 4 := by omega
        have m2 : 0 + (I + v.length) * 4 + (s.length - I) * 4 ≤ gc * 4 := by omega
        have m3 : 0 + v.length * 4 ≤ cap2 * 4 := by omega
        have m4 : 0 + I * 4 + (s.length - I) * 4 ≤ cap * 4 := by omega
        refine TW.seq ?_
        refine TW.region ?_
        refine TO.y (Y.move rfl) rfl rfl rfl ?_
        refine TO.y (Y.move rfl) rfl rfl rfl ?_
        refine TO.y (Y.fromRaw (lo := I) ke31 (by omega) (by omega) rfl rfl rfl) rfl rfl rfl ?_
        refine TO.y (Y.move rfl) rfl rfl rfl ?_
        refine TO.ef (Ef.rawCopy (sl := v.length) 0 2 ke31 rfl rfl rfl rfl (by omega) (by rw [q3]; exact m1) (Nat.le_trans m3 hl2) (by rw [List.drop_zero]; exact ho2) rfl) rfl rfl rfl (fun _ => ?_)
        refine TO.nil ?_
        refine TE.next ?_
        refine TW.seq ?_
        refine TW.draw (isH := []) hMix ?_
        refine TA.y 0 [] rfl (Y.move rfl) rfl rfl rfl (by kernel_rfl) rfl ?_
        refine TA.y 1 [] rfl (Y.move rfl) rfl rfl rfl (by kernel_rfl) rfl ?_
        refine TA.y 2 [] rfl (Y.move rfl) rfl rfl rfl (by kernel_rfl) rfl ?_
        refine TA.y 3 [] rfl (Y.add rfl rfl) rfl rfl rfl (by kernel_rfl) rfl ?_
        refine TA.y 4 [] rfl (Y.fromRaw (lo := I + v.length) ke31 (by omega) (by omega) (wr2 I v.length (by omega)) rfl rfl) rfl rfl rfl (by kernel_rfl) rfl ?_
        refine TA.y 5 [] rfl (Y.move rfl) rfl rfl rfl (by kernel_rfl) rfl ?_
        refine TA.y 6 [] rfl (Y.move rfl) rfl rfl rfl (by kernel_rfl) rfl ?_
        refine TA.y 7 [] rfl (Y.fromRaw (lo := I) ke31 (by omega) (by omega) rfl rfl rfl) rfl rfl rfl (by kernel_rfl) rfl ?_
        refine TA.one 8 (by kernel_rfl) ?_
        refine TX.ef [] rfl (Ef.rawCopy (sl := s.length - I) 0 1 ke31 rfl rfl rfl rfl (by omega) (by rw [q4]; exact m2) (Nat.le_trans m4 hl1) (ins_one ho1 h1n) rfl) rfl rfl rfl (fun _ => rfl) (fun _ => ?_)
        refine TA.nil (by kernel_rfl) ?_
        refine TE.next ?_
        refine TW.seq ?_
        refine TW.region ?_
        refine TO.y (Y.move rfl) rfl rfl rfl ?_
        refine TO.y (Y.assign rfl) rfl rfl rfl ?_
        refine TO.nil ?_
        refine TE.next ?_
        refine TW.ret ?_
        refine TE.then_ret ?_
        refine TE.ghost (Gh.fold (α := File) (l := s) (k := v) (i := I) [0, 2, 2, 0, 0] rfl h1n hz2 hz3 (Nat.le_of_eq q5.symm) q6) (fun _ => ?_)
        exact TE.leaf fun _ _ hf_ hs_ => ret_any (rs := [.tmp 6]) (vs := [.slice (some ⟨g, 0, none⟩) (s.length + v.length) gc]) (.inl rfl) rfl ⟨rfl, trivial⟩ hf_ hs_ ⟨(.slice (some ⟨g, 0, none⟩) (s.length + v.length) gc), rfl, hs_.pulls [0] rfl⟩
      · refine TW.cond_f rfl (by rw [e1]; exact decide_eq_false (by omega)) ?_
        refine TW.skip ?_
        refine TE.next ?_
        refine TW.seq ?_
        refine TW.region ?_
        refine TO.y (Y.move rfl) rfl rfl rfl ?_
        refine TO.y (Y.move rfl) rfl rfl rfl ?_
        refine TO.y (Y.move rfl) rfl rfl rfl ?_
        refine TO.y (Y.add rfl rfl) rfl rfl rfl ?_
        refine TO.y (Y.toRaw (hi := s.length + v.length) ke31 (by omega) e1 rfl rfl) rfl rfl rfl ?_
        refine TO.y (Y.assign rfl) rfl rfl rfl ?_
        refine TO.nil ?_
        refine TE.next ?_
        obtain ⟨q1, q2, q3, q4, q5⟩ := insB h1n (by omega) hc3 hl1 hl2
        have m1 : 0 + I * 4 + v.length * 4 ≤ cap * 4 := by omega
        have m2 : 0 + (I + v.length) * 4 + (s.length - I) * 4 ≤ cap * 4 := by omega
        have m3 : 0 + v.length * 4 ≤ cap2 * 4 := by omega
        have m4 : 0 + I * 4 + (s.length - I) * 4 ≤ cap * 4 := by omega
        have hne : cur ≠ [] := by intro e; rw [e] at hl1; simp at hl1; omega
        refine TW.seq ?_
        refine TW.seq ?_
        refine TW.region ?_
        refine TO.y (Y.move rfl) rfl rfl rfl ?_
        refine TO.y (Y.move rfl) rfl rfl rfl ?_
        refine TO.y (Y.move rfl) rfl rfl rfl ?_
        refine TO.y (Y.move rfl) rfl rfl rfl ?_
        refine TO.y (Y.add rfl rfl) rfl rfl rfl ?_
        refine TO.y (Y.fromRaw (lo := I + v.length) ke31 (by omega) (by omega) (wr2 I v.length (by omega)) rfl rfl) rfl rfl rfl ?_
        refine TO.ef (Ef.overlaps (tr := 4) 1 0 Try.func49 (by kernel_rfl) (by kernel_rfl) (by kernel_rfl) (by kernel_rfl) ke31 rfl rfl (Ne.symm hbb) rfl rfl hne) rfl rfl rfl (fun _ => ?_)
        refine TO.y (Y.not rfl) rfl rfl rfl ?_
        refine TO.nil ?_
        refine TE.next ?_
        refine TW.cond_true rfl ?_
        refine TW.seq ?_
        refine TW.draw (isH := []) hMix ?_
        refine TA.y 0 [] rfl (Y.move rfl) rfl rfl rfl (by kernel_rfl) rfl ?_
        refine TA.y 1 [] rfl (Y.move rfl) rfl rfl rfl (by kernel_rfl) rfl ?_
        refine TA.y 2 [] rfl (Y.move rfl) rfl rfl rfl (by kernel_rfl) rfl ?_
        refine TA.y 3 [] rfl (Y.add rfl rfl) rfl rfl rfl (by kernel_rfl) rfl ?_
        refine TA.y 4 [] rfl (Y.fromRaw (lo := I + v.length) ke31 (by omega) (by omega) (wr2 I v.length (by omega)) rfl rfl) rfl rfl rfl (by kernel_rfl) rfl ?_
        refine TA.y 5 [] rfl (Y.move rfl) rfl rfl rfl (by kernel_rfl) rfl ?_
        refine TA.y 6 [] rfl (Y.move rfl) rfl rfl rfl (by kernel_rfl) rfl ?_
        refine TA.y 7 [] rfl (Y.fromRaw (lo := I) ke31 (by omega) (by omega) rfl rfl rfl) rfl rfl rfl (by kernel_rfl) rfl ?_
        refine TA.one 8 (by kernel_rfl) ?_
        refine TX.ef [] rfl (Ef.rawCopy (sl := s.length - I) 0 0 ke31 rfl rfl rfl rfl (by omega) (Nat.le_trans m2 hl1) (Nat.le_trans m4 hl1) (ins_one ho1 h1n) rfl) rfl rfl rfl (fun _ => rfl) (fun _ => ?_)
        refine TA.nil (by kernel_rfl) ?_
        refine TE.next ?_
        refine TW.seq ?_
        refine TW.region ?_
        refine TO.y (Y.move rfl) rfl rfl rfl ?_
        refine TO.y (Y.move rfl) rfl rfl rfl ?_
        refine TO.y (Y.fromRaw (lo := I) ke31 (by omega) (by omega) rfl rfl rfl) rfl rfl rfl ?_
        refine TO.y (Y.move rfl) rfl rfl rfl ?_
        refine TO.ef (Ef.rawCopy (sl := v.length) 0 1 ke31 rfl rfl rfl rfl (by omega) (by rw [q3]; exact Nat.le_trans m1 hl1) (Nat.le_trans m3 hl2) (by rw [List.drop_zero]; exact ho2) rfl) rfl rfl rfl (fun _ => ?_)
        refine TO.nil ?_
        refine TE.next ?_
        refine TW.seq ?_
        refine TW.region ?_
        refine TO.y (Y.move rfl) rfl rfl rfl ?_
        refine TO.y (Y.assign rfl) rfl rfl rfl ?_
        refine TO.nil ?_
        refine TE.next ?_
        refine TW.ret ?_
        refine TE.then_ret ?_
        refine TE.ghost (Gh.fold (α := File) (l := s) (k := v) (i := I) [0, 1, 1, 0] rfl h1n (by omega) hc2 (by rw [q4]; exact hl1) q5) (fun _ => ?_)
        exact TE.leaf fun _ _ hf_ hs_ => ret_any (rs := [.tmp 6]) (vs := [.slice (some ⟨b, 0, none⟩) (s.length + v.length) cap]) (.inl rfl) rfl ⟨rfl, trivial⟩ hf_ hs_ ⟨(.slice (some ⟨b, 0, none⟩) (s.length + v.length) cap), rfl, hs_.pulls [0] rfl⟩
theorem slices_Insert_68810_c {s : List File} {i : Int} {v : List File} {V_s0 V_v0 : Value} : Cn Try.prog 33 [V_s0, iv i, V_v0] [.own V_s0 (lc s), .own V_v0 (lc v)] [] (slices_Insert_68810 s i v) (fun _ (X : Value) => X) fun r X => [.own X (lc r)] := ⟨by kernel_rfl, fun _ h => slices_Insert_68810_con s i v _ _ _ h⟩

/-- loop.example/g00950/impl.FilesAdd -/
noncomputable def impl_FilesAdd (l : List File) (f : File) : Option (List File × Bool) :=
  (impl_FilesOk l).bind fun R2 =>
  if (!R2) = true then (some ([], false))
  else (bindC (loopO (fun (S7 : Int) => (if (decide (S7 < ((l.length : Nat) : Int))) = true then ((idx l S7).bind fun E14 =>
  (impl_compareFiles E14 f).bind fun R16 =>
  some (decide (R16 < (0 : Int))))
  else (some false)).bind (fun (T11 : Bool) =>
  if T11 = true then (some (.go (IntKind.i64.wrap (S7 + (1 : Int)))))
  else (some (.done (.go S7)))))
  (0 : Int))
  (fun (T9 : Int) => (slices_Clone_68810 l).bind fun R20 =>
  (slices_Insert_68810 R20 T9 ([f])).bind fun R25 =>
  (impl_FilesOk R25).bind fun R32 =>
  if (!R32) = true then (some (R20, false))
  else (some (R25, true))))

theorem impl_FilesAdd_c {l : List File} {f : File} {U0 : Value} : Cn Try.prog 12 [U0, .agg #[iv f.No, iv f.Level, strV f.Lo, strV f.Hi]] [] [(U0, lc l)] (impl_FilesAdd l f) (fun r (X : Value) => .tuple #[X, .bool r.2]) fun r X => [.own X (lc r.1)] := by
  unfold impl_FilesAdd
  refine Ci Try.func12 r r ?_
  rintro w S ⟨Z0,-⟩
  exact Sr<|Fo (Bx r (Cp r)) fun B1=>Qs 2 r<|Nx<|Sq<|Sr<|Qs 1 r<|Bi fun R2 H3=>Fo (Cl [] impl_FilesOk_c H3 r r1 ⟨(Bc Z0),⟨⟩⟩) fun _=>Qs 1 r<|Nx<|Wc r (fun H5=>Sr<|Qs 2 r<|Nx<|Wr<|Tr<|Ni 4<|Re (.slice none 0 0) [0]) fun H5=>Sn<|Sr<|Qs 1 r<|Nx<|Sq<|Ju [0,3] (fun T=>[(6, iv T)]) r1 (Wb<|Lu [0,3] (fun T=>[(6, iv T)]) r1 fun S7=>Sq<|Sq<|Jv [0,3,6] (fun T=>[(23, .bool T)]) r1 (Dr [0] r hMix<|Aq [0,1] [0] r<|Ay 2 [0] r (Ln ke31 (Bc Z0) r)<|Aq [3,4] [0] r<|Ia (fun H13=>Ag 5 [0] (gdA (beq_tt H13)) r (Y.move r)<|Ag 6 [0] (gdA (beq_tt H13)) r (Y.move r)<|Ai fun E14 H15=>Ag 7 [0] (gdA (beq_tt H13)) r (Ix ke31 (Bc Z0) H15 r)<|Ag 8 [0] (gdA (beq_tt H13)) r (Le kk33 (Bc Z0) H15 r)<|Ag 9 [0] (gdA (beq_tt H13)) r (Lb 0 kk33 r)<|Ai fun R16 H17=>A1 10<|Xeg [0] (gdA (beq_tt H13)) r (Cl [] impl_compareFiles_c H17 r r1) fun _=>Ag 11 [0] (gdA (beq_tt H13)) r (Y.lss r r)<|Ay 12 [0] r (Pt H13 r)<|Az<|Bg () [0]) fun H13=>Ax [5,6,7,8,9,10,11] [0] (beq_ft H13) r r<|Ay 12 [0] r (Pf H13 r)<|Az<|Bg () [0]) fun T11=>Ne<|Wc r (fun H19=>Sn<|Wb<|Rg<|Qs 3 r<|Nl<|Bn<|Lg () [0]) fun H19=>Wx<|Tx<|Ex<|Be<|Jg () [0]) fun T9=>Ne<|Sq<|Wi fun R20 H21=>Wi fun R25 H26=>Jw Value [0] [] (fun X=>[(7, X)]) (fun X=>[.own X (lc R25)]) r1 r1 (Dr [0] r hMix<|Aq [0,2] [0] r<|Ay 3 [0] r (Lb 0 kk33 r)<|A2 1 4 (Xe [1] r (Cl [] slices_Clone_68810_c H21 r r1 ⟨(Bc Z0),⟨⟩⟩) fun Y30=>A1 4<|Xe [2] r (Bs [f] ke31 kz33) fun B32=>A1 5<|Xe [1] r (Cl [1, 0] slices_Insert_68810_c H26 r r1) fun Y33=>Aq [6] [1] r<|Az<|Bg Y33 [0])<|Xe [1] r (Bs [f] ke31 kz33) fun B31=>A1 1<|Xe [2] r (Cl [] slices_Clone_68810_c H21 r r1 ⟨(Bc Z0),⟨⟩⟩) fun Y32=>A1 5<|Xe [1] r (Cl [0, 0] slices_Insert_68810_c H26 r r1) fun Y33=>Aq [6] [1] r<|Az<|Bg Y33 [0]) fun X29=>Ne<|Sq<|Sr<|Qs 1 r<|Bi fun R32 H33=>Fo (Cl [] impl_FilesOk_c H33 r r1 ⟨(Oc 0 r),⟨⟩⟩) fun _=>Qs 1 r<|Nx<|Wc r (fun H35=>Sr<|Qs 1 r<|Fo (Cl [] slices_Clone_68810_c H21 r r1 ⟨(Bc Z0),⟨⟩⟩) fun Y36=>Qs 2 r<|Nx<|Wr<|Tr<|Re Y36 [0]) fun H35=>Sn<|Sr<|Qs 3 r<|Nx<|Wr<|Re X29 [0]

/-- loop.example/g00950/laws.sameFiles -/
noncomputable def laws_sameFiles (a : List File) (b : List File) : Option Bool :=
  if (!(decide (((a.length : Nat) : Int) = ((b.length : Nat) : Int)))) = true then (some false)
  else (bindC (loopO (fun (S2 : Int) => if (decide (S2 < ((a.length : Nat) : Int))) = true then ((idx a S2).bind fun E7 =>
  (idx b S2).bind fun E9 =>
  if (!(decide (E7.No = E9.No) && (decide (E7.Level = E9.Level) && (decide (E7.Lo = E9.Lo) && (decide (E7.Hi = E9.Hi) && true))))) = true then (some (.done (.done false)))
  else (some (.go (IntKind.i64.wrap (S2 + (1 : Int))))))
  else (some (.done (.go ()))))
  (0 : Int))
  (fun (T4 : Unit) => some true))

theorem laws_sameFiles_c {a : List File} {b : List File} {U0 U1 : Value} : Cn Try.prog 15 [U0, U1] [] [(U0, lc a), (U1, lc b)] (laws_sameFiles a b) (fun r (_ : Unit) => .bool r) fun _ _ => [] := by
  unfold laws_sameFiles
  refine Ci Try.func15 r r ?_
  rintro w S ⟨Z0,Z1,-⟩
  exact Sr<|Qs 1 r<|Nx<|Sq<|Sr<|Qs 1 r<|Yo (Ln ke31 (Bc Z0) r)<|Qs 1 r<|Yo (Ln ke31 (Bc Z1) r)<|Qs 1 r<|Nx<|Wc r (fun H1=>Sr<|Qs 1 r<|Nx<|Wr<|Tr<|Re () []) fun H1=>Sn<|Sq<|Sr<|Qs 1 r<|Nx<|Ju [] (fun _=>[]) r1 (Wb<|Lu [0,1] (fun T=>[(5, iv T)]) r1 fun S2=>Sq<|Sr<|Qs 2 r<|Yo (Ln ke31 (Bc Z0) r)<|Qs 1 r<|Nx<|Wc r (fun H6=>Sn<|Sq<|Wb<|Sq<|Dr [] r hMix<|Aq [0,1] [] r<|Ai fun E7 H8=>Ay 2 [] r (Ix ke31 (Bc Z0) H8 r)<|Ay 3 [] r (Le kk33 (Bc Z0) H8 r)<|Aq [4,5] [] r<|Ai fun E9 H10=>Ay 6 [] r (Ix ke31 (Bc Z1) H10 r)<|Ay 7 [] r (Le kk33 (Bc Z1) H10 r)<|Ay 8 [] r (Y.neqA keq33 (EqA.int (EqA.int (EqA.str (EqA.str EqA.nil)))) r r)<|Az<|Ne<|Wc r (fun H11=>Sr<|Qs 1 r<|Nx<|Wr<|Br<|Tr<|Er<|Br<|Jd<|Tr<|Re () []) fun H11=>Sk<|Bn<|Ne<|Rg<|Qs 3 r<|Nl<|Lg () []) fun H6=>Wx<|Tx<|Ex<|Be<|Jg () []) fun T4=>Ne<|Sr<|Qs 1 r<|Nx<|Wr<|Re () []

/-- loop.example/g00950/spec.DrawFilesAt -/
noncomputable def spec_DrawFilesAt (code : List UInt8) : Option (List File × List UInt8) :=
  (spec_l1New code).bind fun R1 =>
  (spec_l16Some ({ b := code, i := R1.i, h := R1.h : L1Cur })).bind fun R4 =>
  (spec_l7Key ({ b := code, i := R4.2.i, h := R4.2.h : L1Cur })).bind fun R7 =>
  some (R4.1, R7.1)

theorem spec_DrawFilesAt_c {code : List UInt8} {U0 : Value} : Cn Try.prog 16 [U0] [] [(U0, lc code)] (spec_DrawFilesAt code) (fun r (X : Value) => .tuple #[X, strV r.2]) fun r X => [.own X (lc r.1)] := by
  unfold spec_DrawFilesAt
  refine Ci Try.func16 r r ?_
  rintro w S ⟨Z0,-⟩
  exact Sr<|Qs 2 r<|Nx<|Sr<|Qs 1 r<|Bi fun R1 H2=>Fo (Cl [] spec_l1New_c H2 r r1 ⟨(Bc Z0),⟨⟩⟩) fun Y3=>Qs 1 r<|Nx<|Sr<|Qs 1 r<|Bi fun R4 H5=>Fo (Cl [0] spec_l16Some_c H5 r r1 ⟨(Bc Z0),⟨⟩⟩) fun Y6=>Qs 1 r<|Nx<|Sr<|Qs 2 r<|Bi fun R7 H8=>Fo (Cl [0] spec_l7Key_c H8 r r1 ⟨(Bc Z0),⟨⟩⟩) fun _=>Qs 2 r<|Nx<|Wr<|Re Y6 [1]

/-- loop.example/g00950/impl.FilesAt -/
noncomputable def impl_FilesAt (l : List File) (key : List UInt8) : Option (List Int) :=
  (impl_FilesOk l).bind fun R1 =>
  if (!R1) = true then (some ([]))
  else (bindC (loopO (fun (S6 : Int × List Int) => if (decide (S6.1 < ((l.length : Nat) : Int))) = true then ((idx l S6.1).bind fun E11 =>
  (if (sLt E11.Lo key || decide (E11.Lo = key)) = true then (some (!(sLt E11.Hi key)))
  else (some false)).bind (fun (T14 : Bool) =>
  bindC (if T14 = true then ((app 8 S6.2 ([E11.No])).bind fun E22 =>
  some (.go E22))
  else (some (.go S6.2)))
  (fun (T17 : List Int) => some (.go (IntKind.i64.wrap (S6.1 + (1 : Int)), T17)))))
  else (some (.done (.go S6.2))))
  ((0 : Int), ([] : List Int)))
  (fun (T8 : List Int) => some T8))

theorem impl_FilesAt_c {l : List File} {key : List UInt8} {U0 : Value} : Cn Try.prog 17 [U0, strV key] [] [(U0, lc l)] (impl_FilesAt l key) (fun _ (X : Value) => X) fun r X => [.own X (lc r)] := by
  unfold impl_FilesAt
  refine Ci Try.func17 r r ?_
  rintro w S ⟨Z0,-⟩
  exact Sr<|Qs 1 r<|Nx<|Sq<|Sr<|Qs 1 r<|Bi fun R1 H2=>Fo (Cl [] impl_FilesOk_c H2 r r1 ⟨(Bc Z0),⟨⟩⟩) fun _=>Qs 1 r<|Nx<|Wc r (fun H4=>Sr<|Qs 1 r<|Nx<|Wr<|Tr<|Ni 1<|Re (.slice none 0 0) [0]) fun H4=>Sn<|Sr<|Qs 1 r<|Nx<|Sq<|Sr<|Qs 1 r<|Yo (Ln ke31 (Bc Z0) r)<|Qs 1 r<|Nx<|Jn Value [] [] (fun _ X=>[(5, X)]) (fun T X=>[.own X (lc T)]) r2 r2 (Wb<|Nw 1<|Lp Value [1,11,12] [] (fun T X=>[(5, X), (13, iv T.1)]) (fun T X=>[.own X (lc T.2)]) (.slice none 0 0) [0] r2 r2 fun S6 X7=>Sr<|Qs 1 r<|Nx<|Sq<|Wc r (fun H10=>Sn<|Sq<|Wb<|Sr<|Bi fun E11 H12=>Yo (Ix ke31 (Bc Z0) H12 r)<|Yo (Le kk33 (Bc Z0) H12 r)<|Fo (Al kz33 r) fun B13=>Fu (Sb 0 kk33 r (Cp r) r)<|Nx<|Sq<|Jv [1,5,7,11,12,13] (fun T=>[(26, .bool T)]) r1 (Rg<|Yo (Fb kf33_2 r)<|Yo (Lb 0 kk9 r)<|Qs 3 r<|It (fun H16=>Yg (gdA (beq_tt H16)) (Fb kf33_3 r)<|Yg (gdA (beq_tt H16)) (Lb 0 kk9 r)<|Qg 2 (beq_tt H16) r r<|Yo (Pt H16 r)<|Nl<|Bg () [0,0]) fun H16=>Of 4 (beq_ft H16) r r<|Yo (Pf H16 r)<|Nl<|Bg () [0,0]) fun T14=>Ne<|Jn Value [1,11,12,13] [] (fun _ X=>[(5, X)]) (fun T X=>[.own X (lc T)]) r2 r2 (Wc r (fun H19=>Rg<|Qs 1 r<|Yo (Fb kf33_0 r)<|Yo (Lb 0 kk3 r)<|Fo (Bs [E11.No] ke42 kz3) fun B20=>Bi fun E22 H23=>Fo (Ap [2] H23 ke42 kz3 r (Oc 0 r)) fun V21=>Qs 1 r<|Nl<|Jg V21 [0]) fun H19=>Sk<|Jg X7 [1]) fun T17 X18=>Bn<|Ne<|Rg<|Qs 2 r<|Nl<|Lg X18 [0]) fun H10=>Wx<|Tx<|Ex<|Be<|Jg X7 [0]) fun T8 X9=>Ne<|Sr<|Qs 2 r<|Nx<|Wr<|Re X9 [0]

/-- loop.example/g00950/spec.FilesAt -/
noncomputable def spec_FilesAt (l : List File) (key : List UInt8) : Option (List Int) :=
  bindC (loopO (fun (S2 : Int × List Int) => (if (decide (S2.1 < ((l.length : Nat) : Int))) = true then ((spec_FilesOk l).bind fun R9 =>
  some R9)
  else (some false)).bind (fun (T6 : Bool) =>
  if T6 = true then (((idx l S2.1).bind fun E15 =>
  if (sLt E15.Lo key || decide (E15.Lo = key)) = true then (some (sLt key E15.Hi || decide (key = E15.Hi)))
  else (some false)).bind (fun (T13 : Bool) =>
  bindC (if T13 = true then ((idx l S2.1).bind fun E21 =>
  (app 8 S2.2 ([E21.No])).bind fun E25 =>
  some (.go E25))
  else (some (.go S2.2)))
  (fun (T18 : List Int) => some (.go (IntKind.i64.wrap (S2.1 + (1 : Int)), T18)))))
  else (some (.done (.go S2.2)))))
  ((0 : Int), ([] : List Int)))
  (fun (T4 : List Int) => some T4)

theorem spec_FilesAt_c {l : List File} {key : List UInt8} {U0 : Value} : Cn Try.prog 19 [U0, strV key] [] [(U0, lc l)] (spec_FilesAt l key) (fun _ (X : Value) => X) fun r X => [.own X (lc r)] := by
  unfold spec_FilesAt
  refine Ci Try.func19 r r ?_
  rintro w S ⟨Z0,-⟩
  exact Sr<|Qs 1 r<|Nx<|Sr<|Fo (Bs ([] : List Int) ke42 kz3) fun B1=>Qs 1 r<|Nx<|Sq<|Sr<|Qs 1 r<|Nx<|Jn Value [] [] (fun _ X=>[(5, X)]) (fun T X=>[.own X (lc T)]) r2 r2 (Wb<|Lp Value [0,1] [] (fun T X=>[(5, X), (6, iv T.1)]) (fun T X=>[.own X (lc T.2)]) (.slice (some ⟨B1, 0, none⟩) 0 0) [0] r2 r2 fun S2 X3=>Sq<|Sq<|Jv [0,1,5,6] (fun T=>[(15, .bool T)]) r1 (Rg<|Qs 2 r<|Yo (Ln ke31 (Bc Z0) r)<|Qs 2 r<|It (fun H8=>Qg 1 (beq_tt H8) r r<|Bi fun R9 H10=>Fg (gdA (beq_tt H8)) (Cl [] spec_FilesOk_c H10 r r1 ⟨(Bc Z0),⟨⟩⟩) fun _=>Yo (Pt H8 r)<|Nl<|Bg () [0]) fun H8=>Of 2 (beq_ft H8) r r<|Yo (Pf H8 r)<|Nl<|Bg () [0]) fun T6=>Ne<|Wc r (fun H12=>Sn<|Sq<|Wb<|Sq<|Jv [0,1,5,6] (fun T=>[(33, .bool T)]) r1 (Rg<|Qs 2 r<|Bi fun E15 H16=>Yo (Ix ke31 (Bc Z0) H16 r)<|Yo (Fe kf33_2 (Bc Z0) H16 r)<|Yo (Le kk9 (Bc Z0) H16 r)<|Qs 3 r<|It (fun H17=>Qg 3 (beq_tt H17) r r<|Yg (gdA (beq_tt H17)) (Ix ke31 (Bc Z0) H16 r)<|Yg (gdA (beq_tt H17)) (Fe kf33_3 (Bc Z0) H16 r)<|Yg (gdA (beq_tt H17)) (Le kk9 (Bc Z0) H16 r)<|Qg 1 (beq_tt H17) r r<|Yo (Pt H17 r)<|Nl<|Bg () [0]) fun H17=>Of 7 (beq_ft H17) r r<|Yo (Pf H17 r)<|Nl<|Bg () [0]) fun T13=>Ne<|Jn Value [0,1,6] [] (fun _ X=>[(5, X)]) (fun T X=>[.own X (lc T)]) r2 r2 (Wc r (fun H20=>Rg<|Qs 3 r<|Bi fun E21 H22=>Yo (Ix ke31 (Bc Z0) H22 r)<|Yo (Fe kf33_0 (Bc Z0) H22 r)<|Yo (Le kk3 (Bc Z0) H22 r)<|Fo (Bs [E21.No] ke42 kz3) fun B23=>Bi fun E25 H26=>Fo (Ap [1] H26 ke42 kz3 r (Oc 0 r)) fun V24=>Qs 1 r<|Nl<|Jg V24 [0]) fun H20=>Sk<|Jg X3 [0]) fun T18 X19=>Bn<|Ne<|Rg<|Qs 3 r<|Nl<|Lg X19 [0]) fun H12=>Wx<|Tx<|Ex<|Be<|Jg X3 [0]) fun T4 X5=>Ne<|Sr<|Qs 2 r<|Nx<|Wr<|Re X5 [0]

/-- loop.example/g00950/laws.sameInts -/
noncomputable def laws_sameInts (a : List Int) (b : List Int) : Option Bool :=
  if (!(decide (((a.length : Nat) : Int) = ((b.length : Nat) : Int)))) = true then (some false)
  else (bindC (loopO (fun (S2 : Int) => if (decide (S2 < ((a.length : Nat) : Int))) = true then ((idx a S2).bind fun E7 =>
  (idx b S2).bind fun E9 =>
  if (!(decide (E7 = E9))) = true then (some (.done (.done false)))
  else (some (.go (IntKind.i64.wrap (S2 + (1 : Int))))))
  else (some (.done (.go ()))))
  (0 : Int))
  (fun (T4 : Unit) => some true))

theorem laws_sameInts_c {a : List Int} {b : List Int} {U0 U1 : Value} : Cn Try.prog 18 [U0, U1] [] [(U0, lc a), (U1, lc b)] (laws_sameInts a b) (fun r (_ : Unit) => .bool r) fun _ _ => [] := by
  unfold laws_sameInts
  refine Ci Try.func18 r r ?_
  rintro w S ⟨Z0,Z1,-⟩
  exact Sr<|Qs 1 r<|Nx<|Sq<|Sr<|Qs 1 r<|Yo (Ln ke42 (Bc Z0) r)<|Qs 1 r<|Yo (Ln ke42 (Bc Z1) r)<|Qs 1 r<|Nx<|Wc r (fun H1=>Sr<|Qs 1 r<|Nx<|Wr<|Tr<|Re () []) fun H1=>Sn<|Sq<|Sr<|Qs 1 r<|Nx<|Ju [] (fun _=>[]) r1 (Wb<|Lu [0,1] (fun T=>[(5, iv T)]) r1 fun S2=>Sq<|Sr<|Qs 2 r<|Yo (Ln ke42 (Bc Z0) r)<|Qs 1 r<|Nx<|Wc r (fun H6=>Sn<|Sq<|Wb<|Sq<|Dr [] r hMix<|Aq [0,1] [] r<|Ai fun E7 H8=>Ay 2 [] r (Ix ke42 (Bc Z0) H8 r)<|Ay 3 [] r (Le kk3 (Bc Z0) H8 r)<|Aq [4,5] [] r<|Ai fun E9 H10=>Ay 6 [] r (Ix ke42 (Bc Z1) H10 r)<|Ay 7 [] r (Le kk3 (Bc Z1) H10 r)<|Aq [8] [] r<|Az<|Ne<|Wc r (fun H11=>Sr<|Qs 1 r<|Nx<|Wr<|Br<|Tr<|Er<|Br<|Jd<|Tr<|Re () []) fun H11=>Sk<|Bn<|Ne<|Rg<|Qs 3 r<|Nl<|Lg () []) fun H6=>Wx<|Tx<|Ex<|Be<|Jg () []) fun T4=>Ne<|Sr<|Qs 1 r<|Nx<|Wr<|Re () []

/-- loop.example/g00950/spec.DrawFilesPick -/
noncomputable def spec_DrawFilesPick (code : List UInt8) : Option (List File × Int) :=
  (spec_l1New code).bind fun R1 =>
  (spec_l16Some ({ b := code, i := R1.i, h := R1.h : L1Cur })).bind fun R4 =>
  (spec_l1Below ({ b := code, i := R4.2.i, h := R4.2.h : L1Cur }) (4 : Int)).bind fun R7 =>
  some (R4.1, IntKind.i64.wrap (R7.1 - (1 : Int)))

theorem spec_DrawFilesPick_c {code : List UInt8} {U0 : Value} : Cn Try.prog 20 [U0] [] [(U0, lc code)] (spec_DrawFilesPick code) (fun r (X : Value) => .tuple #[X, iv r.2]) fun r X => [.own X (lc r.1)] := by
  unfold spec_DrawFilesPick
  refine Ci Try.func20 r r ?_
  rintro w S ⟨Z0,-⟩
  exact Sr<|Qs 2 r<|Nx<|Sr<|Qs 1 r<|Bi fun R1 H2=>Fo (Cl [] spec_l1New_c H2 r r1 ⟨(Bc Z0),⟨⟩⟩) fun Y3=>Qs 1 r<|Nx<|Sr<|Qs 1 r<|Bi fun R4 H5=>Fo (Cl [0] spec_l16Some_c H5 r r1 ⟨(Bc Z0),⟨⟩⟩) fun Y6=>Qs 1 r<|Nx<|Sr<|Qs 2 r<|Bi fun R7 H8=>Fo (Cl [0] spec_l1Below_c H8 r r1 ⟨(Bc Z0),⟨⟩⟩) fun _=>Qs 3 r<|Nx<|Wr<|Re Y6 [1]

/-- loop.example/g00950/impl.FilesPick -/
noncomputable def impl_FilesPick (l : List File) (level : Int) : Option (List Int) :=
  ((impl_inRange level (0 : Int) (1 : Int)).bind fun R3 =>
  if (!R3) = true then (some true)
  else ((impl_FilesOk l).bind fun R7 =>
  some (!R7))).bind (fun (T1 : Bool) =>
  if T1 = true then (some ([]))
  else (bindC (loopO (fun (S12 : List UInt8 × List UInt8 × Int × List Int) => if (decide (S12.2.2.1 < ((l.length : Nat) : Int))) = true then ((idx l S12.2.2.1).bind fun E17 =>
  (if (decide (E17.Level = level)) = true then (if (decide (level = (0 : Int))) = true then (some true)
  else (some (decide (((S12.2.2.2.length : Nat) : Int) = (0 : Int)))))
  else (some false)).bind (fun (T20 : Bool) =>
  bindC (if T20 = true then (bindC (if (decide (((S12.2.2.2.length : Nat) : Int) = (0 : Int))) = true then (some (.go (E17.Lo, E17.Hi)))
  else (some (.go (S12.1, S12.2.1))))
  (fun (T27 : List UInt8 × List UInt8) => (app 8 S12.2.2.2 ([E17.No])).bind fun E32 =>
  some (.go (sMin T27.1 E17.Lo, sMax T27.2 E17.Hi, E32))))
  else ((if (decide (E17.Level = IntKind.i64.wrap (level + (1 : Int)))) = true then (if (decide (((S12.2.2.2.length : Nat) : Int) > (0 : Int))) = true then (if (sLt E17.Lo S12.2.1 || decide (E17.Lo = S12.2.1)) = true then (some (!(sLt E17.Hi S12.1)))
  else (some false))
  else (some false))
  else (some false)).bind (fun (T34 : Bool) =>
  bindC (if T34 = true then ((app 8 S12.2.2.2 ([E17.No])).bind fun E44 =>
  some (.go E44))
  else (some (.go S12.2.2.2)))
  (fun (T39 : List Int) => some (.go (S12.1, S12.2.1, T39))))))
  (fun (T24 : List UInt8 × List UInt8 × List Int) => some (.go (T24.1, T24.2.1, IntKind.i64.wrap (S12.2.2.1 + (1 : Int)), T24.2.2)))))
  else (some (.done (.go S12.2.2.2))))
  ([], [], (0 : Int), ([] : List Int)))
  (fun (T14 : List Int) => some T14)))

theorem impl_FilesPick_c {l : List File} {level : Int} {U0 : Value} : Cn Try.prog 21 [U0, iv level] [] [(U0, lc l)] (impl_FilesPick l level) (fun _ (X : Value) => X) fun r X => [.own X (lc r)] := by
  unfold impl_FilesPick
  refine Ci Try.func21 r r ?_
  rintro w S ⟨Z0,-⟩
  exact Sr<|Qs 1 r<|Nx<|Sq<|Sq<|Jv [0,1] (fun T=>[(17, .bool T)]) r1 (Rg<|Qs 1 r<|Bi fun R3 H4=>Fo (Cl [] impl_inRange_c H4 r r1) fun _=>Qs 2 r<|It (fun H6=>Of 3 (beq_tf H6) r r<|Yo (Pt H6 r)<|Nl<|Bg () []) fun H6=>Qg 1 (beq_ff H6) r r<|Bi fun R7 H8=>Fg (gdA (beq_ff H6)) (Cl [] impl_FilesOk_c H8 r r1 ⟨(Bc Z0),⟨⟩⟩) fun _=>Qg 1 (beq_ff H6) r r<|Yo (Pf H6 r)<|Nl<|Bg () []) fun T1=>Ne<|Wc r (fun H10=>Sr<|Qs 1 r<|Nx<|Wr<|Tr<|Ni 1<|Re (.slice none 0 0) [0]) fun H10=>Sn<|Sr<|Qs 1 r<|Nx<|Sr<|Qs 2 r<|Nx<|Sq<|Sr<|Qs 1 r<|Yo (Ln ke31 (Bc Z0) r)<|Qs 1 r<|Nx<|Jn Value [] [] (fun _ X=>[(5, X)]) (fun T X=>[.own X (lc T)]) r2 r2 (Wb<|Nw 1<|Lp Value [1,18,19] [] (fun T X=>[(5, X), (6, strV T.1), (7, strV T.2.1), (20, iv T.2.2.1)]) (fun T X=>[.own X (lc T.2.2.2)]) (.slice none 0 0) [0] r2 r2 fun S12 X13=>Sr<|Qs 1 r<|Nx<|Sq<|Wc r (fun H16=>Sn<|Sq<|Wb<|Sr<|Bi fun E17 H18=>Yo (Ix ke31 (Bc Z0) H18 r)<|Yo (Le kk33 (Bc Z0) H18 r)<|Fo (Al kz33 r) fun B19=>Fu (Sb 0 kk33 r (Cp r) r)<|Nx<|Wb<|Sq<|Jv [1,5,6,7,9,18,19,20] (fun T=>[(24, .bool T)]) r1 (Rg<|Yo (Fb kf33_1 r)<|Yo (Lb 0 kk3 r)<|Qs 3 r<|It (fun H22=>Qg 3 (beq_tt H22) r r<|It (fun H23=>Of 3 (beq_tf H23) r r<|Yg (gdA (beq_tt H22)) (Pt H23 r)<|Yo (Pt H22 r)<|Qs 1 r<|Nl<|Bg () [0,0]) fun H23=>Qg 1 (beq_ff H23) r r<|Yg (gdA (beq_ff H23)) (Ln ke42 (Oc 1 r) r)<|Qg 1 (beq_ff H23) r r<|Yg (gdA (beq_tt H22)) (Pf H23 r)<|Yo (Pt H22 r)<|Qs 1 r<|Nl<|Bg () [0,0]) fun H22=>Of 3 (beq_ft H22) r r<|Ou 3 r r<|Of 1 (beq_ft H22) r r<|Yo (Pf H22 r)<|Qs 1 r<|Nl<|Bg () [0,0]) fun T20=>Ne<|Jn Value [1,18,19,20] [] (fun T X=>[(5, X), (6, strV T.1), (7, strV T.2.1)]) (fun T X=>[.own X (lc T.2.2)]) r2 r2 (Wc r (fun H26=>Sq<|Sr<|Qs 1 r<|Yo (Ln ke42 (Oc 1 r) r)<|Qs 1 r<|Nx<|Ju [1,5,9,18,19,20] (fun T=>[(6, strV T.1), (7, strV T.2)]) r1 (Wc r (fun H29=>Dr [0,0] r hMix<|Ay 0 [0,0] r (Fb kf33_2 r)<|Ay 1 [0,0] r (Lb 0 kk9 r)<|Ay 2 [0,0] r (Fb kf33_3 r)<|Ay 3 [0,0] r (Lb 0 kk9 r)<|Aq [4,5] [0,0] r<|Az<|Jg () [0,0]) fun H29=>Sk<|Jg () [0,0]) fun T27=>Ne<|Sq<|Dr [0,0] r hMix<|Aq [0] [0,0] r<|Ay 1 [0,0] r (Fb kf33_2 r)<|Ay 2 [0,0] r (Lb 0 kk9 r)<|Ay 3 [0,0] r (Y.smin2 r r)<|Aq [4] [0,0] r<|Ay 5 [0,0] r (Fb kf33_3 r)<|Ay 6 [0,0] r (Lb 0 kk9 r)<|Ay 7 [0,0] r (Y.smax2 r r)<|Aq [8,9] [0,0] r<|Az<|Ne<|Rg<|Qs 1 r<|Yo (Fb kf33_0 r)<|Yo (Lb 0 kk3 r)<|Fo (Bs [E17.No] ke42 kz3) fun B30=>Bi fun E32 H33=>Fo (Ap [2] H33 ke42 kz3 r (Oc 0 r)) fun V31=>Qs 1 r<|Nl<|Jg V31 [0]) fun H26=>Sq<|Jv [1,5,6,7,9,18,19,20] (fun T=>[(58, .bool T)]) r1 (Rg<|Yo (Fb kf33_1 r)<|Yo (Lb 0 kk3 r)<|Qs 4 r<|It (fun H36=>Qg 1 (beq_tt H36) r r<|Yg (gdA (beq_tt H36)) (Ln ke42 (Oc 1 r) r)<|Qg 1 (beq_tt H36) r r<|Yo (Pt H36 r)<|Qs 1 r<|It (fun H37=>Yg (gdA (beq_tt H37)) (Fb kf33_2 r)<|Yg (gdA (beq_tt H37)) (Lb 0 kk9 r)<|Qg 2 (beq_tt H37) r r<|Yo (Pt H37 r)<|Qs 1 r<|It (fun H38=>Yg (gdA (beq_tt H38)) (Fb kf33_3 r)<|Yg (gdA (beq_tt H38)) (Lb 0 kk9 r)<|Qg 2 (beq_tt H38) r r<|Yo (Pt H38 r)<|Qs 1 r<|Nl<|Bg () [0,0]) fun H38=>Of 4 (beq_ft H38) r r<|Yo (Pf H38 r)<|Qs 1 r<|Nl<|Bg () [0,0]) fun H37=>Of 4 (beq_ft H37) r r<|Yo (Pf H37 r)<|Qs 1 r<|Of 4 r r r<|Yo (Pf r r)<|Qs 1 r<|Nl<|Bg () [0,0]) fun H36=>Of 3 (beq_ft H36) r r<|Yo (Pf H36 r)<|Qs 1 r<|Of 4 r r r<|Yo (Pf r r)<|Qs 1 r<|Of 4 r r r<|Yo (Pf r r)<|Qs 1 r<|Nl<|Bg () [0,0]) fun T34=>Ne<|Jn Value [1,6,7,18,19,20] [] (fun _ X=>[(5, X)]) (fun T X=>[.own X (lc T)]) r2 r2 (Wc r (fun H41=>Rg<|Qs 1 r<|Yo (Fb kf33_0 r)<|Yo (Lb 0 kk3 r)<|Fo (Bs [E17.No] ke42 kz3) fun B42=>Bi fun E44 H45=>Fo (Ap [2] H45 ke42 kz3 r (Oc 0 r)) fun V43=>Qs 1 r<|Nl<|Jg V43 [0]) fun H41=>Sk<|Jg X13 [1]) fun T39 X40=>Jg X40 [0]) fun T24 X25=>Bn<|Bn<|Ne<|Rg<|Qs 2 r<|Nl<|Lg X25 [0]) fun H16=>Wx<|Tx<|Ex<|Be<|Jg X13 [0]) fun T14 X15=>Ne<|Sr<|Qs 2 r<|Nx<|Wr<|Re X15 [0]

/-- loop.example/g00950/spec.FilesPick -/
noncomputable def spec_FilesPick (l : List File) (level : Int) : Option (List Int) :=
  bindC (loopO (fun (S2 : List UInt8 × List UInt8 × Int × List Int) => (if (decide (S2.2.2.1 < ((l.length : Nat) : Int))) = true then ((spec_FilesOk l).bind fun R9 =>
  if R9 = true then ((spec_l1In level (0 : Int) (1 : Int)).bind fun R13 =>
  some R13)
  else (some false))
  else (some false)).bind (fun (T6 : Bool) =>
  if T6 = true then (bindC ((idx l S2.2.2.1).bind fun E19 =>
  (if (!(decide (E19.Level = level))) = true then (some true)
  else (if (decide (level = (1 : Int))) = true then (some (decide (((S2.2.2.2.length : Nat) : Int) > (0 : Int))))
  else (some false))).bind (fun (T22 : Bool) =>
  if T22 = true then (some (.go (S2.1, S2.2.1, S2.2.2.2)))
  else ((if (decide (((S2.2.2.2.length : Nat) : Int) = (0 : Int))) = true then (some true)
  else (some (sLt E19.Lo S2.1))).bind (fun (T27 : Bool) =>
  bindC (if T27 = true then (some (.go E19.Lo))
  else (some (.go S2.1)))
  (fun (T30 : List UInt8) => bindC (if (!(sLt E19.Hi S2.2.1 || decide (E19.Hi = S2.2.1))) = true then (some (.go E19.Hi))
  else (some (.go S2.2.1)))
  (fun (T33 : List UInt8) => (app 8 S2.2.2.2 ([E19.No])).bind fun E38 =>
  some (.go (T30, T33, E38))))))))
  (fun (T17 : List UInt8 × List UInt8 × List Int) => some (.go (T17.1, T17.2.1, IntKind.i64.wrap (S2.2.2.1 + (1 : Int)), T17.2.2))))
  else (some (.done (.go (S2.1, S2.2.1, S2.2.2.2))))))
  ([], [], (0 : Int), ([] : List Int)))
  (fun (T4 : List UInt8 × List UInt8 × List Int) => bindC (loopO (fun (S40 : Int × List Int) => (if (decide (S40.1 < ((l.length : Nat) : Int))) = true then (some (!(decide (T4.2.1 = ([])))))
  else (some false)).bind (fun (T44 : Bool) =>
  if T44 = true then (((idx l S40.1).bind fun E50 =>
  if (decide (E50.Level = IntKind.i64.wrap (level + (1 : Int)))) = true then (if (sLt E50.Lo T4.2.1 || decide (E50.Lo = T4.2.1)) = true then (some (!(sLt E50.Hi T4.1)))
  else (some false))
  else (some false)).bind (fun (T48 : Bool) =>
  bindC (if T48 = true then ((idx l S40.1).bind fun E57 =>
  (app 8 S40.2 ([E57.No])).bind fun E61 =>
  some (.go E61))
  else (some (.go S40.2)))
  (fun (T54 : List Int) => some (.go (IntKind.i64.wrap (S40.1 + (1 : Int)), T54)))))
  else (some (.done (.go S40.2)))))
  ((0 : Int), T4.2.2))
  (fun (T42 : List Int) => some T42))

theorem spec_FilesPick_c {l : List File} {level : Int} {U0 : Value} : Cn Try.prog 22 [U0, iv level] [] [(U0, lc l)] (spec_FilesPick l level) (fun _ (X : Value) => X) fun r X => [.own X (lc r)] := by
  unfold spec_FilesPick
  refine Ci Try.func22 r r ?_
  rintro w S ⟨Z0,-⟩
  exact Sr<|Qs 1 r<|Nx<|Sr<|Fo (Bs ([] : List Int) ke42 kz3) fun B1=>Qs 1 r<|Nx<|Sr<|Qs 1 r<|Nx<|Sr<|Qs 1 r<|Nx<|Sq<|Sr<|Qs 1 r<|Nx<|Jn Value [0,1] [] (fun T X=>[(5, X), (6, strV T.1), (7, strV T.2.1)]) (fun T X=>[.own X (lc T.2.2)]) r2 r2 (Wb<|Lp Value [0,1] [] (fun T X=>[(5, X), (6, strV T.1), (7, strV T.2.1), (8, iv T.2.2.1)]) (fun T X=>[.own X (lc T.2.2.2)]) (.slice (some ⟨B1, 0, none⟩) 0 0) [0] r2 r2 fun S2 X3=>Sq<|Sq<|Jv [0,1,5,6,7,8] (fun T=>[(23, .bool T)]) r1 (Rg<|Qs 2 r<|Yo (Ln ke31 (Bc Z0) r)<|Qs 2 r<|It (fun H8=>Qg 1 (beq_tt H8) r r<|Bi fun R9 H10=>Fg (gdA (beq_tt H8)) (Cl [] spec_FilesOk_c H10 r r1 ⟨(Bc Z0),⟨⟩⟩) fun _=>Yo (Pt H8 r)<|Qs 1 r<|It (fun H12=>Qg 1 (beq_tt H12) r r<|Bi fun R13 H14=>Fg (gdA (beq_tt H12)) (Cl [] spec_l1In_c H14 r r1) fun _=>Yo (Pt H12 r)<|Nl<|Bg () [0]) fun H12=>Of 2 (beq_ft H12) r r<|Yo (Pf H12 r)<|Nl<|Bg () [0]) fun H8=>Of 2 (beq_ft H8) r r<|Yo (Pf H8 r)<|Qs 1 r<|Of 2 r r r<|Yo (Pf r r)<|Nl<|Bg () [0]) fun T6=>Ne<|Wc r (fun H16=>Sn<|Sq<|Jn Value [0,1,8] [] (fun T X=>[(5, X), (6, strV T.1), (7, strV T.2.1)]) (fun T X=>[.own X (lc T.2.2)]) r2 r2 (Wb<|Sr<|Qs 2 r<|Bi fun E19 H20=>Yo (Ix ke31 (Bc Z0) H20 r)<|Yo (Le kk33 (Bc Z0) H20 r)<|Fo (Al kz33 r) fun B21=>Fu (Sb 0 kk33 r (Cp r) r)<|Nx<|Sq<|Sq<|Jv [0,1,5,6,7,8,9] (fun T=>[(42, .bool T)]) r1 (Rg<|Yo (Fb kf33_1 r)<|Yo (Lb 0 kk3 r)<|Qs 3 r<|It (fun H24=>Of 3 (beq_tf H24) r r<|Ou 3 r r<|Of 1 (beq_tf H24) r r<|Yo (Pt H24 r)<|Nl<|Bg () [0,0]) fun H24=>Qg 3 (beq_ff H24) r r<|It (fun H25=>Qg 1 (beq_tt H25) r r<|Yg (gdA (beq_tt H25)) (Ln ke42 (Oc 1 r) r)<|Qg 1 (beq_tt H25) r r<|Yg (gdA (beq_ff H24)) (Pt H25 r)<|Yo (Pf H24 r)<|Nl<|Bg () [0,0]) fun H25=>Of 3 (beq_ft H25) r r<|Yg (gdA (beq_ff H24)) (Pf H25 r)<|Yo (Pf H24 r)<|Nl<|Bg () [0,0]) fun T22=>Ne<|Wc r (fun H26=>Wx<|Tx<|Be<|Jg X3 [1]) fun H26=>Sn<|Sq<|Sq<|Jv [0,1,5,6,7,8,9] (fun T=>[(51, .bool T)]) r1 (Rg<|Qs 1 r<|Yo (Ln ke42 (Oc 1 r) r)<|Qs 2 r<|It (fun H29=>Of 4 (beq_tf H29) r r<|Yo (Pt H29 r)<|Nl<|Bg () [0,0]) fun H29=>Yg (gdA (beq_ff H29)) (Fb kf33_2 r)<|Yg (gdA (beq_ff H29)) (Lb 0 kk9 r)<|Qg 2 (beq_ff H29) r r<|Yo (Pf H29 r)<|Nl<|Bg () [0,0]) fun T27=>Ne<|Ju [0,1,5,7,8,9] (fun T=>[(6, strV T)]) r1 (Wc r (fun H32=>Rg<|Yo (Fb kf33_2 r)<|Yo (Lb 0 kk9 r)<|Qs 1 r<|Nl<|Jg () [0,0]) fun H32=>Sk<|Jg () [0,0]) fun T30=>Ne<|Sq<|Sr<|Yo (Fb kf33_3 r)<|Yo (Lb 0 kk9 r)<|Qs 2 r<|Nx<|Ju [0,1,5,6,8,9] (fun T=>[(7, strV T)]) r1 (Wc r (fun H35=>Rg<|Yo (Fb kf33_3 r)<|Yo (Lb 0 kk9 r)<|Qs 1 r<|Nl<|Jg () [0,0]) fun H35=>Sk<|Jg () [0,0]) fun T33=>Ne<|Rg<|Qs 1 r<|Yo (Fb kf33_0 r)<|Yo (Lb 0 kk3 r)<|Fo (Bs [E19.No] ke42 kz3) fun B36=>Bi fun E38 H39=>Fo (Ap [2] H39 ke42 kz3 r (Oc 0 r)) fun V37=>Qs 1 r<|Nl<|Bn<|Jg V37 [0]) fun T17 X18=>Ne<|Rg<|Qs 3 r<|Nl<|Lg X18 [0]) fun H16=>Wx<|Tx<|Ex<|Be<|Jg X3 [0]) fun T4 X5=>Ne<|Sq<|Sr<|Qs 1 r<|Nx<|Jn Value [] [] (fun _ X=>[(5, X)]) (fun T X=>[.own X (lc T)]) r2 r2 (Wb<|Lp Value [0,1,6,7] [] (fun T X=>[(5, X), (10, iv T.1)]) (fun T X=>[.own X (lc T.2)]) X5 [0] r2 r2 fun S40 X41=>Sq<|Sq<|Jv [0,1,5,6,7,10] (fun T=>[(72, .bool T)]) r1 (Rg<|Qs 2 r<|Yo (Ln ke31 (Bc Z0) r)<|Qs 2 r<|It (fun H46=>Qg 2 (beq_tt H46) r r<|Yo (Pt H46 r)<|Nl<|Bg () [0]) fun H46=>Of 2 (beq_ft H46) r r<|Yo (Pf H46 r)<|Nl<|Bg () [0]) fun T44=>Ne<|Wc r (fun H47=>Sn<|Sq<|Wb<|Sq<|Jv [0,1,5,6,7,10] (fun T=>[(100, .bool T)]) r1 (Rg<|Qs 2 r<|Bi fun E50 H51=>Yo (Ix ke31 (Bc Z0) H51 r)<|Yo (Fe kf33_1 (Bc Z0) H51 r)<|Yo (Le kk3 (Bc Z0) H51 r)<|Qs 4 r<|It (fun H52=>Qg 2 (beq_tt H52) r r<|Yg (gdA (beq_tt H52)) (Ix ke31 (Bc Z0) H51 r)<|Yg (gdA (beq_tt H52)) (Fe kf33_2 (Bc Z0) H51 r)<|Yg (gdA (beq_tt H52)) (Le kk9 (Bc Z0) H51 r)<|Qg 2 (beq_tt H52) r r<|Yo (Pt H52 r)<|Qs 1 r<|It (fun H53=>Qg 2 (beq_tt H53) r r<|Yg (gdA (beq_tt H53)) (Ix ke31 (Bc Z0) H51 r)<|Yg (gdA (beq_tt H53)) (Fe kf33_3 (Bc Z0) H51 r)<|Yg (gdA (beq_tt H53)) (Le kk9 (Bc Z0) H51 r)<|Qg 2 (beq_tt H53) r r<|Yo (Pt H53 r)<|Nl<|Bg () [0]) fun H53=>Of 7 (beq_ft H53) r r<|Yo (Pf H53 r)<|Nl<|Bg () [0]) fun H52=>Of 7 (beq_ft H52) r r<|Yo (Pf H52 r)<|Qs 1 r<|Of 7 r r r<|Yo (Pf r r)<|Nl<|Bg () [0]) fun T48=>Ne<|Jn Value [0,1,6,7,10] [] (fun _ X=>[(5, X)]) (fun T X=>[.own X (lc T)]) r2 r2 (Wc r (fun H56=>Rg<|Qs 3 r<|Bi fun E57 H58=>Yo (Ix ke31 (Bc Z0) H58 r)<|Yo (Fe kf33_0 (Bc Z0) H58 r)<|Yo (Le kk3 (Bc Z0) H58 r)<|Fo (Bs [E57.No] ke42 kz3) fun B59=>Bi fun E61 H62=>Fo (Ap [1] H62 ke42 kz3 r (Oc 0 r)) fun V60=>Qs 1 r<|Nl<|Jg V60 [0]) fun H56=>Sk<|Jg X41 [0]) fun T54 X55=>Bn<|Ne<|Rg<|Qs 3 r<|Nl<|Lg X55 [0]) fun H47=>Wx<|Tx<|Ex<|Be<|Jg X41 [0]) fun T42 X43=>Ne<|Sr<|Qs 2 r<|Nx<|Wr<|Re X43 [0]

/-- slices.Delete[[]loop.example/g00950/impl.File,loop.example/g00950/impl.File] -/
noncomputable def slices_Delete_68810 (s : List File) (i : Int) (j : Int) : Option (List File) :=
  (piece s i j).bind fun E1 =>
  if (decide (i = j)) = true then (some s)
  else ((piece s (0 : Int) i).bind fun E5 =>
  (piece s j ((s.length : Nat) : Int)).bind fun E7 =>
  some (E5 ++ E7))

theorem slices_Delete_68810_c {s : List File} {i : Int} {j : Int} {U0 : Value} : Cn Try.prog 42 [U0, iv i, iv j] [.own U0 (lc s)] [] (slices_Delete_68810 s i j) (fun _ (X : Value) => X) fun r X => [.own X (lc r)] := by
  unfold slices_Delete_68810
  refine Ci Try.func42 r r ?_
  rintro w S -
  exact Sr<|Qs 1 r<|Nx<|Sr<|Qs 4 r<|Yo (Ln ke31 (Oc 0 r) r)<|Bi fun E1 H2=>TO.fact (Can.cap (Can.own 0 r)) fun H3=>Yo (Y.subs3 H2 ke31 (Oc 0 r) r r r r)<|Nx<|Sq<|Sr<|Qs 3 r<|Nx<|Wc r (fun H4=>Sr<|Qs 2 r<|Nx<|Wr<|Tr<|Re U0 [0]) fun H4=>Sn<|Sr<|Qs 1 r<|Yo (Ln ke31 (Oc 0 r) r)<|Qs 1 r<|Nx<|Sq<|Wi fun E5 H6=>Wi fun E7 H8=>Jw Unit [7] [] (fun _=>[(0, delV U0 (E5 ++ E7).length)]) (fun _=>[.own (delV U0 (E5 ++ E7).length) (lc (E5 ++ E7))]) r1 r1 (Dr [] r hMix<|Aq [0,1,3,4] [] r<|A2 2 5 (Xy [] r (Y.subs H6 ke31 (Oc 0 r) r r ⟨_, r⟩)<|A1 5<|Xy [] r (Y.subs H8 ke31 (Oc 0 r) r ⟨_, r⟩ r)<|A1 6<|Xe [] r (Ef.del (α := File) (is' := []) [0] H2 H6 H8 ke31 r r r r) fun _=>Aq [7] [] r<|Az<|Bg () [0])<|Xy [] r (Y.subs H8 ke31 (Oc 0 r) r ⟨_, r⟩ r)<|A1 2<|Xy [] r (Y.subs H6 ke31 (Oc 0 r) r r ⟨_, r⟩)<|A1 6<|Xe [] r (Ef.del (α := File) (is' := []) [0] H2 H6 H8 ke31 r r r r) fun _=>Aq [7] [] r<|Az<|Bg () [0]) fun X10=>Ne<|Sr<|Qs 2 r<|Yo (Ln ke31 (Oc 0 r) r)<|Qs 1 r<|Yo (Y.tail (hi := s.length) H3 (del_le H2 H6 H8) ke31 r r r)<|Fu (Ef.clearTail (k := 0) H3 (del_le H2 H6 H8) ke31 kz33 r r r r)<|Nx<|Sr<|Qs 2 r<|Nx<|Wr<|Re (delV U0 (E5 ++ E7).length) [0]

/-- loop.example/g00950/impl.FilesDrop -/
noncomputable def impl_FilesDrop (l : List File) (no : Int) : Option (List File × Bool) :=
  (impl_FilesOk l).bind fun R1 =>
  if (!R1) = true then (some ([], false))
  else ((slices_Clone_68810 l).bind fun R6 =>
  (impl_fileAt l no).bind fun R9 =>
  if (decide (R9 < (0 : Int))) = true then (some (R6, false))
  else ((slices_Delete_68810 R6 R9 (IntKind.i64.wrap (R9 + (1 : Int)))).bind fun R13 =>
  some (R13, true)))

theorem impl_FilesDrop_c {l : List File} {no : Int} {U0 : Value} : Cn Try.prog 23 [U0, iv no] [] [(U0, lc l)] (impl_FilesDrop l no) (fun r (X : Value) => .tuple #[X, .bool r.2]) fun r X => [.own X (lc r.1)] := by
  unfold impl_FilesDrop
  refine Ci Try.func23 r r ?_
  rintro w S ⟨Z0,-⟩
  exact Sr<|Qs 2 r<|Nx<|Sq<|Sr<|Qs 1 r<|Bi fun R1 H2=>Fo (Cl [] impl_FilesOk_c H2 r r1 ⟨(Bc Z0),⟨⟩⟩) fun _=>Qs 1 r<|Nx<|Wc r (fun H4=>Sr<|Qs 2 r<|Nx<|Wr<|Tr<|Ni 4<|Re (.slice none 0 0) [0]) fun H4=>Sn<|Sr<|Qs 1 r<|Bi fun R6 H7=>Fo (Cl [] slices_Clone_68810_c H7 r r1 ⟨(Bc Z0),⟨⟩⟩) fun Y8=>Qs 1 r<|Nx<|Sr<|Qs 2 r<|Bi fun R9 H10=>Fo (Cl [] impl_fileAt_c H10 r r1 ⟨(Bc Z0),⟨⟩⟩) fun _=>Qs 1 r<|Nx<|Sq<|Sr<|Qs 2 r<|Nx<|Wc r (fun H12=>Sr<|Qs 3 r<|Nx<|Wr<|Tr<|Re Y8 [0]) fun H12=>Sn<|Sr<|Qs 4 r<|Bi fun R13 H14=>Fo (Cl [0] slices_Delete_68810_c H14 r r1) fun Y15=>Qs 2 r<|Nx<|Wr<|Re Y15 [0]

/-- loop.example/g00950/laws.levelZero -/
noncomputable def laws_levelZero (l : List File) : Option Int :=
  bindC (loopO (fun (S1 : Int × Int) => if (decide (S1.2 < ((l.length : Nat) : Int))) = true then ((idx l S1.2).bind fun E6 =>
  bindC (if (decide (E6.Level = (0 : Int))) = true then (some (.go (IntKind.i64.wrap (S1.1 + (1 : Int)))))
  else (some (.go S1.1)))
  (fun (T8 : Int) => some (.go (T8, IntKind.i64.wrap (S1.2 + (1 : Int))))))
  else (some (.done (.go S1.1))))
  ((0 : Int), (0 : Int)))
  (fun (T3 : Int) => some T3)

theorem laws_levelZero_c {l : List File} {U0 : Value} : Cn Try.prog 24 [U0] [] [(U0, lc l)] (laws_levelZero l) (fun r (_ : Unit) => iv r) fun _ _ => [] := by
  unfold laws_levelZero
  refine Ci Try.func24 r r ?_
  rintro w S ⟨Z0,-⟩
  exact Sr<|Qs 1 r<|Nx<|Sr<|Qs 1 r<|Nx<|Sq<|Sr<|Qs 1 r<|Nx<|Ju [] (fun T=>[(3, iv T)]) r1 (Wb<|Lu [0] (fun T=>[(3, iv T.1), (4, iv T.2)]) r1 fun S1=>Sq<|Sr<|Qs 2 r<|Yo (Ln ke31 (Bc Z0) r)<|Qs 1 r<|Nx<|Wc r (fun H5=>Sn<|Sq<|Wb<|Sr<|Qs 2 r<|Bi fun E6 H7=>Yo (Ix ke31 (Bc Z0) H7 r)<|Yo (Fe kf33_1 (Bc Z0) H7 r)<|Yo (Le kk3 (Bc Z0) H7 r)<|Qs 1 r<|Nx<|Ju [0,4] (fun T=>[(3, iv T)]) r1 (Wc r (fun H10=>Rg<|Qs 3 r<|Nl<|Jg () []) fun H10=>Sk<|Jg () []) fun T8=>Bn<|Ne<|Rg<|Qs 3 r<|Nl<|Lg () []) fun H5=>Wx<|Tx<|Ex<|Be<|Jg () []) fun T3=>Ne<|Sr<|Qs 2 r<|Nx<|Wr<|Re () []

/-- loop.example/g00950/laws.FnFiles -/
noncomputable def laws_FnFiles (code : List UInt8) : Option Bool :=
  (laws_big code).bind fun R1 =>
  if R1 = true then (some true)
  else ((spec_DrawFilesAdd code).bind fun R5 =>
  (impl_FilesAdd R5.1 R5.2).bind fun R9 =>
  (spec_FilesAdd R5.1 R5.2).bind fun R12 =>
  (if (!(decide (R9.2 = R12.2))) = true then (some true)
  else ((spec_FilesOk R5.1).bind fun R18 =>
  if R18 = true then (if (!R9.2) = true then ((laws_sameFiles R9.1 R5.1).bind fun R23 =>
  if (!R23) = true then (some true)
  else (if R9.2 = true then ((spec_FilesOk R9.1).bind fun R28 =>
  some (!R28))
  else (some false)))
  else (if R9.2 = true then ((spec_FilesOk R9.1).bind fun R32 =>
  some (!R32))
  else (some false)))
  else (if R9.2 = true then ((spec_FilesOk R9.1).bind fun R36 =>
  some (!R36))
  else (some false)))).bind (fun (T15 : Bool) =>
  if T15 = true then (some false)
  else ((spec_DrawFilesAt code).bind fun R40 =>
  (impl_FilesAt R40.1 R40.2).bind fun R43 =>
  (spec_FilesAt R40.1 R40.2).bind fun R46 =>
  (laws_sameInts R43 R46).bind fun R49 =>
  if (!R49) = true then (some false)
  else ((spec_DrawFilesPick code).bind fun R53 =>
  (impl_FilesPick R53.1 R53.2).bind fun R56 =>
  (spec_FilesPick R53.1 R53.2).bind fun R59 =>
  (laws_sameInts R56 R59).bind fun R62 =>
  if (!R62) = true then (some false)
  else ((if (decide (((R56.length : Nat) : Int) = (0 : Int))) = true then (some true)
  else ((spec_FilesOk R53.1).bind fun R69 =>
  some (!R69))).bind (fun (T66 : Bool) =>
  if T66 = true then (some (decide (((R56.length : Nat) : Int) = (0 : Int))))
  else (bindC (loopO (fun (S73 : List UInt8 × List UInt8 × Int × List File) => if (decide (S73.2.2.1 < ((R53.1.length : Nat) : Int))) = true then (bindC (bindC (loopO (fun (S80 : Bool × Int × List File) => if (decide (S80.2.1 < ((R56.length : Nat) : Int))) = true then ((if S80.1 = true then (some (true, S80.2.2))
  else ((idx R56 S80.2.1).bind fun E88 =>
  (idx R53.1 S73.2.2.1).bind fun E90 =>
  some (decide (E88 = E90.No), S80.2.2))).bind (fun (T85 : Bool × List File) =>
  some (.go (T85.1, IntKind.i64.wrap (S80.2.1 + (1 : Int)), T85.2))))
  else (some (.done (.go (S80.1, S80.2.2)))))
  (false, (0 : Int), S73.2.2.2))
  (fun (T82 : Bool × List File) => if (!T82.1) = true then (some (.go (S73.1, S73.2.1, T82.2)))
  else ((if (decide (S73.1 = ([]))) = true then (some (true, T82.2))
  else ((idx R53.1 S73.2.2.1).bind fun E96 =>
  some (sLt E96.Lo S73.1, T82.2))).bind (fun (T93 : Bool × List File) =>
  bindC (if T93.1 = true then ((idx R53.1 S73.2.2.1).bind fun E101 =>
  some (.go (E101.Lo, T93.2)))
  else (some (.go (S73.1, T93.2))))
  (fun (T98 : List UInt8 × List File) => (idx R53.1 S73.2.2.1).bind fun E103 =>
  bindC (if (!(sLt E103.Hi S73.2.1 || decide (E103.Hi = S73.2.1))) = true then (some (.go (E103.Hi, T98.2)))
  else (some (.go (S73.2.1, T98.2))))
  (fun (T105 : List UInt8 × List File) => (impl_FilesDrop T105.2 E103.No).bind fun R108 =>
  if (!R108.2) = true then (some (.done (.done (.done false))))
  else (some (.go (T98.1, T105.1, R108.1)))))))))
  (fun (T78 : List UInt8 × List UInt8 × List File) => some (.go (T78.1, T78.2.1, IntKind.i64.wrap (S73.2.2.1 + (1 : Int)), T78.2.2))))
  else (some (.done (.go (S73.1, S73.2.1, S73.2.2.2)))))
  ([], [], (0 : Int), R53.1))
  (fun (T75 : List UInt8 × List UInt8 × List File) => (if (!(decide (R53.2 = (0 : Int)))) = true then (some true)
  else ((laws_levelZero T75.2.2).bind fun R115 =>
  if (decide (R115 = (0 : Int))) = true then (some (sLt T75.1 T75.2.1 || decide (T75.1 = T75.2.1)))
  else (some false))).bind (fun (T112 : Bool) =>
  some T112)))))))))

theorem laws_FnFiles_c {code : List UInt8} {U0 : Value} : Cn Try.prog 4 [U0] [] [(U0, lc code)] (laws_FnFiles code) (fun r (_ : Unit) => .bool r) fun _ _ => [] := by
  unfold laws_FnFiles
  refine Ci Try.func4 r r ?_
  rintro w S ⟨Z0,-⟩
  exact Sr<|Qs 1 r<|Nx<|Sq<|Sr<|Qs 1 r<|Bi fun R1 H2=>Fo (Cl [] laws_big_c H2 r r1 ⟨(Bc Z0),⟨⟩⟩) fun _=>Nx<|Wc r (fun H4=>Sr<|Qs 1 r<|Nx<|Wr<|Tr<|Re () []) fun H4=>Sn<|Sr<|Qs 1 r<|Bi fun R5 H6=>Fo (Cl [] spec_DrawFilesAdd_c H6 r r1 ⟨(Bc Z0),⟨⟩⟩) fun Y7=>Qs 3 r<|Fo (Al kz33 r) fun B8=>Qs 1 r<|Fu (Sb 0 kk33 r (Cp r) r)<|Nx<|Sr<|Qs 1 r<|Yo (Lb 0 kk33 r)<|Bi fun R9 H10=>Fo (Cl [] impl_FilesAdd_c H10 r r1 ⟨(Oc 1 r),⟨⟩⟩) fun Y11=>Qs 5 r<|Nx<|Sr<|Qs 1 r<|Yo (Lb 1 kk33 r)<|Bi fun R12 H13=>Fo (Cl [] spec_FilesAdd_c H13 r r1 ⟨(Oc 2 r),⟨⟩⟩) fun Y14=>Qs 5 r<|Nx<|Sq<|Sq<|Jb Unit [0] [] (fun T _=>[(66, .bool T)]) (fun _ _=>[]) r2 r2 (Rg<|Qs 2 r<|Yo (Y.neb kb4 r r)<|Qs 1 r<|It (fun H17=>Of 3 (beq_tf H17) r r<|Ou 2 r r<|Of 2 (beq_tf H17) r r<|Ou 4 r r<|Of 1 (beq_tf H17) r r<|Yo (Pt H17 r)<|Qs 1 r<|Of 2 r r r<|Ou 3 r r<|Of 1 r r r<|Yo (Pt r r)<|Nl<|Bg () []) fun H17=>Qg 1 (beq_ff H17) r r<|Bi fun R18 H19=>Fg (gdA (beq_ff H17)) (Cl [] spec_FilesOk_c H19 r r1 ⟨(Oc 3 r),⟨⟩⟩) fun _=>Qg 1 (beq_ff H17) r r<|It (fun H21=>Qg 2 (beq_tt H21) r r<|Yg (gdA (beq_ff H17)) (Pt H21 r)<|Qg 1 (beq_ff H17) r r<|It (fun H22=>Qg 2 (beq_tt H22) r r<|Bi fun R23 H24=>Fg (gdA (beq_tt H22)) (Cl [] laws_sameFiles_c H24 r r1 ⟨(Oc 1 r),(Oc 3 r),⟨⟩⟩) fun _=>Qg 1 (beq_tt H22) r r<|Yg (gdA (beq_ff H17)) (Pt H22 r)<|Yo (Pf H17 r)<|Qs 1 r<|It (fun H26=>Of 2 (beq_tf H26) r r<|Ou 3 r r<|Of 1 (beq_tf H26) r r<|Yo (Pt H26 r)<|Nl<|Bg () []) fun H26=>Qg 2 (beq_ff H26) r r<|It (fun H27=>Qg 1 (beq_tt H27) r r<|Bi fun R28 H29=>Fg (gdA (beq_tt H27)) (Cl [] spec_FilesOk_c H29 r r1 ⟨(Oc 1 r),⟨⟩⟩) fun _=>Qg 1 (beq_tt H27) r r<|Yg (gdA (beq_ff H26)) (Pt H27 r)<|Yo (Pf H26 r)<|Nl<|Bg () []) fun H27=>Of 3 (beq_ft H27) r r<|Yg (gdA (beq_ff H26)) (Pf H27 r)<|Yo (Pf H26 r)<|Nl<|Bg () []) fun H22=>Of 4 (beq_ft H22) r r<|Yg (gdA (beq_ff H17)) (Pf H22 r)<|Yo (Pf H17 r)<|Qs 1 r<|Qg 2 r r r<|It (fun H31=>Qg 1 (beq_tt H31) r r<|Bi fun R32 H33=>Fg (gdA (beq_tt H31)) (Cl [] spec_FilesOk_c H33 r r1 ⟨(Oc 1 r),⟨⟩⟩) fun _=>Qg 1 (beq_tt H31) r r<|Yg (gdA r) (Pt H31 r)<|Yo (Pf r r)<|Nl<|Bg () []) fun H31=>Of 3 (beq_ft H31) r r<|Yg (gdA r) (Pf H31 r)<|Yo (Pf r r)<|Nl<|Bg () []) fun H21=>Of 2 (beq_ft H21) r r<|Yg (gdA (beq_ff H17)) (Pf H21 r)<|Qg 1 (beq_ff H17) r r<|Of 4 r r r<|Yg (gdA (beq_ff H17)) (Pf r r)<|Yo (Pf H17 r)<|Qs 1 r<|Qg 2 r r r<|It (fun H35=>Qg 1 (beq_tt H35) r r<|Bi fun R36 H37=>Fg (gdA (beq_tt H35)) (Cl [] spec_FilesOk_c H37 r r1 ⟨(Oc 1 r),⟨⟩⟩) fun _=>Qg 1 (beq_tt H35) r r<|Yg (gdA r) (Pt H35 r)<|Yo (Pf r r)<|Nl<|Bg () []) fun H35=>Of 3 (beq_ft H35) r r<|Yg (gdA r) (Pf H35 r)<|Yo (Pf r r)<|Nl<|Bg () []) fun T15 X16=>Ne<|Wc r (fun H39=>Sr<|Qs 1 r<|Nx<|Wr<|Tr<|Re () []) fun H39=>Sn<|Sr<|Qs 1 r<|Bi fun R40 H41=>Fo (Cl [] spec_DrawFilesAt_c H41 r r1 ⟨(Bc Z0),⟨⟩⟩) fun Y42=>Qs 5 r<|Nx<|Sr<|Qs 2 r<|Bi fun R43 H44=>Fo (Cl [] impl_FilesAt_c H44 r r1 ⟨(Oc 0 r),⟨⟩⟩) fun Y45=>Qs 1 r<|Nx<|Sq<|Sr<|Qs 3 r<|Bi fun R46 H47=>Fo (Cl [] spec_FilesAt_c H47 r r1 ⟨(Oc 1 r),⟨⟩⟩) fun Y48=>Bi fun R49 H50=>Fo (Cl [] laws_sameInts_c H50 r r1 ⟨(Oc 1 r),(Oc 0 r),⟨⟩⟩) fun _=>Qs 1 r<|Nx<|Wc r (fun H52=>Sr<|Qs 1 r<|Nx<|Wr<|Tr<|Re () []) fun H52=>Sn<|Sr<|Qs 1 r<|Bi fun R53 H54=>Fo (Cl [] spec_DrawFilesPick_c H54 r r1 ⟨(Bc Z0),⟨⟩⟩) fun Y55=>Qs 5 r<|Nx<|Sr<|Qs 2 r<|Bi fun R56 H57=>Fo (Cl [] impl_FilesPick_c H57 r r1 ⟨(Oc 0 r),⟨⟩⟩) fun Y58=>Qs 1 r<|Nx<|Sq<|Sr<|Qs 3 r<|Bi fun R59 H60=>Fo (Cl [] spec_FilesPick_c H60 r r1 ⟨(Oc 1 r),⟨⟩⟩) fun Y61=>Bi fun R62 H63=>Fo (Cl [] laws_sameInts_c H63 r r1 ⟨(Oc 1 r),(Oc 0 r),⟨⟩⟩) fun _=>Qs 1 r<|Nx<|Wc r (fun H65=>Sr<|Qs 1 r<|Nx<|Wr<|Tr<|Re () []) fun H65=>Sn<|Sq<|Sq<|Jb Unit [12,13,14] [2,1] (fun T _=>[(102, .bool T)]) (fun _ _=>[]) r2 r2 (Rg<|Qs 1 r<|Yo (Ln ke42 (Oc 1 r) r)<|Qs 2 r<|It (fun H68=>Of 3 (beq_tf H68) r r<|Yo (Pt H68 r)<|Nl<|Bg () [2,1]) fun H68=>Qg 1 (beq_ff H68) r r<|Bi fun R69 H70=>Fg (gdA (beq_ff H68)) (Cl [] spec_FilesOk_c H70 r r1 ⟨(Oc 2 r),⟨⟩⟩) fun _=>Qg 1 (beq_ff H68) r r<|Yo (Pf H68 r)<|Nl<|Bg () [2,1]) fun T66 X67=>Ne<|Wc r (fun H72=>Sr<|Qs 1 r<|Yo (Ln ke42 (Oc 1 r) r)<|Qs 2 r<|Nx<|Wr<|Tr<|Re () []) fun H72=>Sn<|Sr<|Qs 1 r<|Nx<|Sr<|Qs 1 r<|Nx<|Sr<|Qs 2 r<|Nx<|Sq<|Sr<|Qs 1 r<|Nx<|Jn Value [13] [0] (fun T X=>[(15, strV T.1), (16, strV T.2.1), (17, X)]) (fun T X=>[.alt X (lc T.2.2) Y55 (lc R53.1)]) r2 r2 (Wb<|TW.conv (St.alt_new Y55 (lc R53.1))<|Lp Value [12,13,14] [1,1] (fun T X=>[(15, strV T.1), (16, strV T.2.1), (17, X), (18, iv T.2.2.1)]) (fun T X=>[.alt X (lc T.2.2.2) Y55 (lc R53.1)]) Y55 [1,1,0] r2 r2 fun S73 X74=>Sq<|Sr<|Qs 2 r<|Yo (Ln ke31 (Oc 0 r) r)<|Qs 1 r<|Nx<|Wc r (fun H77=>Sn<|Sq<|Jn Value [12,13,14,18] [0,0] (fun T X=>[(15, strV T.1), (16, strV T.2.1), (17, X)]) (fun T X=>[.alt X (lc T.2.2) Y55 (lc R53.1)]) r2 r2 (Wb<|Sr<|Qs 1 r<|Nx<|Sq<|Sr<|Qs 1 r<|Nx<|Jn Value [12,13,14,15,16,18] [0,0] (fun T X=>[(17, X), (19, .bool T.1)]) (fun T X=>[.alt X (lc T.2) Y55 (lc R53.1)]) r2 r2 (Wb<|Lp Value [12,13,14,15,16,18] [0,0] (fun T X=>[(17, X), (19, .bool T.1), (20, iv T.2.1)]) (fun T X=>[.alt X (lc T.2.2) Y55 (lc R53.1)]) X74 [0,0,0] r2 r2 fun S80 X81=>Sq<|Sr<|Qs 2 r<|Yo (Ln ke42 (Oc 1 r) r)<|Qs 1 r<|Nx<|Wc r (fun H84=>Sn<|Sq<|Wb<|Jb Value [12,13,14,15,16,18,20] [0,0] (fun T X=>[(17, X), (19, .bool T.1)]) (fun T X=>[.alt X (lc T.2) Y55 (lc R53.1)]) r2 r2 (Dr [0,0,0] r hMix<|Aq [0,1] [0,0,0] r<|Ia (fun H87=>Ax [2,3,4,5,6,7,8,9,10,11] [0,0,0] (beq_tf H87) r r<|Ay 12 [0,0,0] r (Pt H87 r)<|Aq [13] [0,0,0] r<|Az<|Bg X81 [0,0,0]) fun H87=>Ag 2 [0,0,0] (gdA (beq_ff H87)) r (Y.move r)<|Ag 3 [0,0,0] (gdA (beq_ff H87)) r (Y.move r)<|Ai fun E88 H89=>Ag 4 [0,0,0] (gdA (beq_ff H87)) r (Ix ke42 (Oc 1 r) H89 r)<|Ag 5 [0,0,0] (gdA (beq_ff H87)) r (Le kk3 (Oc 1 r) H89 r)<|Ag 6 [0,0,0] (gdA (beq_ff H87)) r (Y.move r)<|Ag 7 [0,0,0] (gdA (beq_ff H87)) r (Y.move r)<|Ai fun E90 H91=>Ag 8 [0,0,0] (gdA (beq_ff H87)) r (Ix ke31 (Oc 0 r) H91 r)<|Ag 9 [0,0,0] (gdA (beq_ff H87)) r (Fe kf33_0 (Oc 0 r) H91 r)<|Ag 10 [0,0,0] (gdA (beq_ff H87)) r (Le kk3 (Oc 0 r) H91 r)<|Ag 11 [0,0,0] (gdA (beq_ff H87)) r (Y.eql r r)<|Ay 12 [0,0,0] r (Pf H87 r)<|Aq [13] [0,0,0] r<|Az<|Bg X81 [0,0,0]) fun T85 X86=>Bn<|Ne<|Rg<|Qs 3 r<|Nl<|Lg X86 [0,0,0]) fun H84=>Wx<|Tx<|Ex<|Be<|Jg X81 [0,0,0]) fun T82 X83=>Ne<|Sq<|Sr<|Qs 2 r<|Nx<|Wc r (fun H92=>Wx<|Tx<|Be<|Jg X83 [0,0,0]) fun H92=>Sn<|Sq<|Sq<|Jb Value [12,13,14,15,16,18] [0,0] (fun T X=>[(17, X), (144, .bool T.1)]) (fun T X=>[.alt X (lc T.2) Y55 (lc R53.1)]) r2 r2 (Rg<|Qs 3 r<|It (fun H95=>Of 7 (beq_tf H95) r r<|Yo (Pt H95 r)<|Nl<|Bg X83 [0,0,0]) fun H95=>Qg 2 (beq_ff H95) r r<|Bi fun E96 H97=>Yg (gdA (beq_ff H95)) (Ix ke31 (Oc 0 r) H97 r)<|Yg (gdA (beq_ff H95)) (Fe kf33_2 (Oc 0 r) H97 r)<|Yg (gdA (beq_ff H95)) (Le kk9 (Oc 0 r) H97 r)<|Qg 2 (beq_ff H95) r r<|Yo (Pf H95 r)<|Nl<|Bg X83 [0,0,0]) fun T93 X94=>Ne<|Jn Value [12,13,14,16,18] [0,0] (fun T X=>[(15, strV T.1), (17, X)]) (fun T X=>[.alt X (lc T.2) Y55 (lc R53.1)]) r2 r2 (Wc r (fun H100=>Rg<|Qs 2 r<|Bi fun E101 H102=>Yo (Ix ke31 (Oc 0 r) H102 r)<|Yo (Fe kf33_2 (Oc 0 r) H102 r)<|Yo (Le kk9 (Oc 0 r) H102 r)<|Qs 1 r<|Nl<|Jg X94 [0,0,0]) fun H100=>Sk<|Jg X94 [0,0,0]) fun T98 X99=>Ne<|Sq<|Sr<|Qs 2 r<|Bi fun E103 H104=>Yo (Ix ke31 (Oc 0 r) H104 r)<|Yo (Fe kf33_3 (Oc 0 r) H104 r)<|Yo (Le kk9 (Oc 0 r) H104 r)<|Qs 2 r<|Nx<|Jn Value [12,13,14,15,18] [0,0] (fun T X=>[(16, strV T.1), (17, X)]) (fun T X=>[.alt X (lc T.2) Y55 (lc R53.1)]) r2 r2 (Wc r (fun H107=>Rg<|Qs 2 r<|Yo (Ix ke31 (Oc 0 r) H104 r)<|Yo (Fe kf33_3 (Oc 0 r) H104 r)<|Yo (Le kk9 (Oc 0 r) H104 r)<|Qs 1 r<|Nl<|Jg X99 [0,0,0]) fun H107=>Sk<|Jg X99 [0,0,0]) fun T105 X106=>Ne<|Sr<|Qs 3 r<|Yo (Ix ke31 (Oc 0 r) H104 r)<|Yo (Fe kf33_0 (Oc 0 r) H104 r)<|Yo (Le kk3 (Oc 0 r) H104 r)<|Bi fun R108 H109=>Fo (Cl [] impl_FilesDrop_c H109 r r1 ⟨(Can.alt 2 0 rfl rfl),⟨⟩⟩) fun Y110=>Qs 5 r<|Nx<|Sq<|Sr<|Qs 2 r<|Nx<|Wc r (fun H111=>Sr<|Qs 1 r<|Nx<|Wr<|Tr<|Br<|Jd<|Tr<|Er<|Br<|Jd<|Tr<|Re () []) fun H111=>Sn<|Rg<|Qs 2 r<|Nl<|Bn<|TE.conv (is' := [.alt Y110 (lc R108.1) Y55 (lc R53.1), .own Y55 (lc R53.1), .own Y58 (lc R56), .alt X106 (lc T105.2) Y55 (lc R53.1)]) (St.alt_own (i := 0) Y55 (lc R53.1) r r)<|Jg Y110 [1,1,0]) fun T78 X79=>Ne<|Rg<|Qs 3 r<|Nl<|Lg X79 [0,0,0]) fun H77=>Wx<|Tx<|Ex<|Be<|Jg X74 [0,1]) fun T75 X76=>Ne<|Sq<|Jb Unit [] [] (fun T _=>[(2, .bool T)]) (fun _ _=>[]) r2 r2 (Rg<|Qs 3 r<|It (fun H114=>Of 4 (beq_tf H114) r r<|Ou 3 r r<|Of 1 (beq_tf H114) r r<|Yo (Pt H114 r)<|Qs 1 r<|Nl<|Bg () []) fun H114=>Qg 1 (beq_ff H114) r r<|Bi fun R115 H116=>Fg (gdA (beq_ff H114)) (Cl [] laws_levelZero_c H116 r r1 ⟨(Can.alt 1 0 rfl rfl),⟨⟩⟩) fun _=>Qg 2 (beq_ff H114) r r<|It (fun H118=>Qg 3 (beq_tt H118) r r<|Yg (gdA (beq_ff H114)) (Pt H118 r)<|Yo (Pf H114 r)<|Qs 1 r<|Nl<|Bg () []) fun H118=>Of 3 (beq_ft H118) r r<|Yg (gdA (beq_ff H114)) (Pf H118 r)<|Yo (Pf H114 r)<|Qs 1 r<|Nl<|Bg () []) fun T112 X113=>Ne<|Wr<|Re () []

end Go.Proofs.Ytfpbnddcbmfcaaa
