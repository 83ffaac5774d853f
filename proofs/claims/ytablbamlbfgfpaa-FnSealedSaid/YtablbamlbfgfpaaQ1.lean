/-
  The functions that a law reaches, each as a pure function, with the proof that the program computes it, and the step from a pure law to the given statement. Conditions: none.
-/
import Derived.Test.YtablbamlbfgfpaaSw
import Derived.Test.YtablbamlbfgfpaaSz
import Derived.Test.YtablbamlbfgfpaaRows
import Derived.Test.YtablbamlbfgfpaaRp
set_option linter.unusedVariables false
set_option maxRecDepth 100000
set_option maxHeartbeats 4000000
namespace Go.Proofs.Ytablbamlbfgfpaa
open Go Sl

structure L1Cur where
  b : List UInt8
  i : Int
  h : Int
  deriving DecidableEq
instance : Enc L1Cur := ⟨3, fun x => [lc x.b, .int .i64 x.i, .int .i64 x.h], fun _ => rfl, by decide⟩
instance : Dec L1Cur where
  sh := [.sl 1 (Dec.sh UInt8), .int .i64, .int .i64]
  ok x := okl x.b ∧ okI x.i ∧ okI x.h
  dec cs h := by
    obtain ⟨c0, r0, rfl, h0, h⟩ := h.cons_inv
    obtain ⟨c1, r1, rfl, h1, h⟩ := h.cons_inv
    obtain ⟨c2, r2, rfl, h2, h⟩ := h.cons_inv
    obtain rfl := h.nil_inv
    obtain ⟨y0, rfl, w0⟩ := h0.sl_inv (α := UInt8) rfl
    obtain ⟨y1, rfl, w1_⟩ := h1.int_inv
    have w1 := okI_of w1_
    obtain ⟨y2, rfl, w2_⟩ := h2.int_inv
    have w2 := okI_of w2_
    exact ⟨{ b := y0, i := y1, h := y2 : L1Cur }, rfl, w0, w1, w2⟩
structure Op where
  Key : List UInt8
  Del : Bool
  Val : List UInt8
  deriving DecidableEq
instance : Enc Op := ⟨3, fun x => [.str x.Key, .bool x.Del, .str x.Val], fun _ => rfl, by decide⟩
instance : Dec Op where
  sh := [.str, .bool, .str]
  ok x := x.Key.length ≤ 9223372036854775807 ∧ True ∧ x.Val.length ≤ 9223372036854775807
  dec cs h := by
    obtain ⟨c0, r0, rfl, h0, h⟩ := h.cons_inv
    obtain ⟨c1, r1, rfl, h1, h⟩ := h.cons_inv
    obtain ⟨c2, r2, rfl, h2, h⟩ := h.cons_inv
    obtain rfl := h.nil_inv
    obtain ⟨y0, rfl, w0⟩ := h0.str_inv
    obtain ⟨y1, rfl⟩ := h1.bool_inv
    have w1 := True.intro
    obtain ⟨y2, rfl, w2⟩ := h2.str_inv
    exact ⟨{ Key := y0, Del := y1, Val := y2 : Op }, rfl, w0, w1, w2⟩
instance : Flat Op := { vals := fun x => [strV x.Key, .bool x.Del, strV x.Val], flat := fun _ => rfl }
structure Reader where
  text : List UInt8
  at_ : Int
  bad : Bool
  deriving DecidableEq
instance : Enc Reader := ⟨3, fun x => [.str x.text, .int .i64 x.at_, .bool x.bad], fun _ => rfl, by decide⟩
instance : Dec Reader where
  sh := [.str, .int .i64, .bool]
  ok x := x.text.length ≤ 9223372036854775807 ∧ okI x.at_ ∧ True
  dec cs h := by
    obtain ⟨c0, r0, rfl, h0, h⟩ := h.cons_inv
    obtain ⟨c1, r1, rfl, h1, h⟩ := h.cons_inv
    obtain ⟨c2, r2, rfl, h2, h⟩ := h.cons_inv
    obtain rfl := h.nil_inv
    obtain ⟨y0, rfl, w0⟩ := h0.str_inv
    obtain ⟨y1, rfl, w1_⟩ := h1.int_inv
    have w1 := okI_of w1_
    obtain ⟨y2, rfl⟩ := h2.bool_inv
    have w2 := True.intro
    exact ⟨{ text := y0, at_ := y1, bad := y2 : Reader }, rfl, w0, w1, w2⟩
instance : Flat Reader := { vals := fun x => [strV x.text, .int .i64 x.at_, .bool x.bad], flat := fun _ => rfl }
structure LogRow where
  Tenant : Int
  Boot : Int
  Seq : Int
  Text : List UInt8
  Synced : Bool
  deriving DecidableEq
instance : Enc LogRow := ⟨5, fun x => [.int .i64 x.Tenant, .int .i64 x.Boot, .int .i64 x.Seq, .str x.Text, .bool x.Synced], fun _ => rfl, by decide⟩
instance : Dec LogRow where
  sh := [.int .i64, .int .i64, .int .i64, .str, .bool]
  ok x := okI x.Tenant ∧ okI x.Boot ∧ okI x.Seq ∧ x.Text.length ≤ 9223372036854775807 ∧ True
  dec cs h := by
    obtain ⟨c0, r0, rfl, h0, h⟩ := h.cons_inv
    obtain ⟨c1, r1, rfl, h1, h⟩ := h.cons_inv
    obtain ⟨c2, r2, rfl, h2, h⟩ := h.cons_inv
    obtain ⟨c3, r3, rfl, h3, h⟩ := h.cons_inv
    obtain ⟨c4, r4, rfl, h4, h⟩ := h.cons_inv
    obtain rfl := h.nil_inv
    obtain ⟨y0, rfl, w0_⟩ := h0.int_inv
    have w0 := okI_of w0_
    obtain ⟨y1, rfl, w1_⟩ := h1.int_inv
    have w1 := okI_of w1_
    obtain ⟨y2, rfl, w2_⟩ := h2.int_inv
    have w2 := okI_of w2_
    obtain ⟨y3, rfl, w3⟩ := h3.str_inv
    obtain ⟨y4, rfl⟩ := h4.bool_inv
    have w4 := True.intro
    exact ⟨{ Tenant := y0, Boot := y1, Seq := y2, Text := y3, Synced := y4 : LogRow }, rfl, w0, w1, w2, w3, w4⟩
instance : Flat LogRow := { vals := fun x => [.int .i64 x.Tenant, .int .i64 x.Boot, .int .i64 x.Seq, strV x.Text, .bool x.Synced], flat := fun _ => rfl }

theorem hMix : Try.prog.follows .mixedOrders = true := by kernel_rfl
theorem ke29 : elemB Try.prog 29 = some (5, 1, 1) := by kernel_rfl
theorem kk5 : kindB Try.prog 5 = some (false, 1) := by kernel_rfl
theorem ki5 : intB Try.prog 5 = some .u8 := by kernel_rfl
theorem ki3 : intB Try.prog 3 = some .i64 := by kernel_rfl
theorem kz72 : zeroB Try.prog 72 = some (.agg #[.slice none 0 0, .int .i64 (0 : Int), .int .i64 (0 : Int)]) := by kernel_rfl
theorem kp72 : placesB Try.prog 72 = some [(0, 1), (1, 1), (2, 1)] := by kernel_rfl
theorem kf72_2 : fieldB Try.prog 72 2 = some 2 := by kernel_rfl
theorem kk3 : kindB Try.prog 3 = some (false, 1) := by kernel_rfl
theorem kf72_1 : fieldB Try.prog 72 1 = some 1 := by kernel_rfl
theorem kf72_0 : fieldB Try.prog 72 0 = some 0 := by kernel_rfl
theorem kk29 : kindB Try.prog 29 = some (false, 1) := by kernel_rfl
theorem kz5 : zeroB Try.prog 5 = some (.int .u8 (0 : Int)) := by kernel_rfl
theorem ks9 : isStrB Try.prog 9 = true := by kernel_rfl
theorem ke46 : elemB Try.prog 46 = some (3, 1, 8) := by kernel_rfl
theorem ke78 : elemB Try.prog 78 = some (9, 1, 16) := by kernel_rfl
theorem kk9 : kindB Try.prog 9 = some (false, 1) := by kernel_rfl
theorem kz9 : zeroB Try.prog 9 = some (strV ([])) := by kernel_rfl
theorem kz52 : zeroB Try.prog 52 = some (.agg #[strV ([]), .bool false, strV ([])]) := by kernel_rfl
theorem ke31 : elemB Try.prog 31 = some (52, 3, 40) := by kernel_rfl
theorem kp52 : placesB Try.prog 52 = some [(0, 1), (1, 1), (2, 1)] := by kernel_rfl
theorem kk52 : kindB Try.prog 52 = some (true, 3) := by kernel_rfl
theorem kf52_1 : fieldB Try.prog 52 1 = some 1 := by kernel_rfl
theorem kk4 : kindB Try.prog 4 = some (false, 1) := by kernel_rfl
theorem kf52_2 : fieldB Try.prog 52 2 = some 2 := by kernel_rfl
theorem kf52_0 : fieldB Try.prog 52 0 = some 0 := by kernel_rfl
theorem kz3 : zeroB Try.prog 3 = some (.int .i64 (0 : Int)) := by kernel_rfl
theorem ki57 : intB Try.prog 57 = some .u64 := by kernel_rfl
theorem kz63 : zeroB Try.prog 63 = some (.agg #[.pointer none, .slice none 0 0]) := by kernel_rfl
theorem kf63_0 : fieldB Try.prog 63 0 = some 0 := by kernel_rfl
theorem kf63_1 : fieldB Try.prog 63 1 = some 1 := by kernel_rfl
theorem kk61 : kindB Try.prog 61 = some (false, 1) := by kernel_rfl
theorem kc68 : callB Try.prog 68 = true := by kernel_rfl
theorem kp61 : ptrB Try.prog 61 = some (63, 2) := by kernel_rfl
theorem kp96 : ptrB Try.prog 96 = some (5, 1) := by kernel_rfl
theorem ku105 : unsB Try.prog 105 = true := by kernel_rfl
theorem kl63 : liesAt Try.prog Try.prog.depth 63 (2 / Try.prog.cellsOf 63) 0 63 1 = true := by kernel_rfl
theorem kc42 : callB Try.prog 42 = true := by kernel_rfl
theorem kc44 : callB Try.prog 44 = true := by kernel_rfl
theorem ki86 : intB Try.prog 86 = some .u32 := by kernel_rfl
theorem kz87 : zeroB Try.prog 87 = some (arrV (List.replicate 16 (Wrd.mk 0))) := by kernel_rfl
theorem ka87 : arrB Try.prog 87 = some (16, 86, 1) := by kernel_rfl
theorem kk87 : kindB Try.prog 87 = some (true, 16) := by kernel_rfl
theorem kk86 : kindB Try.prog 86 = some (false, 1) := by kernel_rfl
theorem kf84_2 : fieldB Try.prog 84 2 = some 2 := by kernel_rfl
theorem kf84_0 : fieldB Try.prog 84 0 = some 0 := by kernel_rfl
theorem kf84_1 : fieldB Try.prog 84 1 = some 1 := by kernel_rfl
theorem kz84 : zeroB Try.prog 84 = some (.agg #[strV ([]), .int .i64 (0 : Int), .bool false]) := by kernel_rfl
theorem kp84 : placesB Try.prog 84 = some [(0, 1), (1, 1), (2, 1)] := by kernel_rfl
theorem kk84 : kindB Try.prog 84 = some (true, 3) := by kernel_rfl
theorem kf26_1 : fieldB Try.prog 26 1 = some 1 := by kernel_rfl
theorem kf26_2 : fieldB Try.prog 26 2 = some 2 := by kernel_rfl
theorem kf26_3 : fieldB Try.prog 26 3 = some 3 := by kernel_rfl
theorem kz26 : zeroB Try.prog 26 = some (.agg #[.int .i64 (0 : Int), .int .i64 (0 : Int), .int .i64 (0 : Int), strV ([]), .bool false]) := by kernel_rfl
theorem kp26 : placesB Try.prog 26 = some [(0, 1), (1, 1), (2, 1), (3, 1), (4, 1)] := by kernel_rfl
theorem hu29 : Try.prog.underlying 29 = some (.slice 5) := by kernel_rfl
theorem hs29 : shB Try.prog 20 29 = some ([.sl 1 (Dec.sh UInt8)]) := by kernel_rfl
theorem kb4 : Try.prog.underlying 4 = some .bool := by kernel_rfl

/-- loop.example/g00950/laws.big -/
noncomputable def laws_big (code : List UInt8) : Option Bool :=
  some (decide (((code.length : Nat) : Int) > (1048576 : Int)))

theorem laws_big_c {code : List UInt8} {U0 : Value} : Cn Try.prog 9 [U0] [] [(U0, lc code)] (laws_big code) (fun r (_ : Unit) => .bool r) fun _ _ => [] := by
  unfold laws_big
  refine Ci Try.func9 r r ?_
  rintro w S ⟨Z0,-⟩
  exact Sr<|Qs 1 r<|Nx<|Sr<|Qs 1 r<|Yo (Ln ke29 (Bc Z0) r)<|Qs 2 r<|Nx<|Wr<|Re () []

/-- loop.example/g00950/spec.l1New -/
noncomputable def spec_l1New (code : List UInt8) : Option L1Cur :=
  bindC (loopO (fun (S1 : Int × Int) => (if (decide (S1.2 < ((code.length : Nat) : Int))) = true then (some (decide (S1.2 < (4000 : Int))))
  else (some false)).bind (fun (T5 : Bool) =>
  if T5 = true then ((idx code S1.2).bind fun E9 =>
  some (.go (iand .i64 (IntKind.i64.wrap (IntKind.i64.wrap (IntKind.i64.wrap (S1.1 * (131 : Int)) + (IntKind.i64.wrap ((E9.toNat : Nat) : Int))) + (7 : Int))) (1073741823 : Int), IntKind.i64.wrap (S1.2 + (1 : Int)))))
  else (some (.done (.go S1.1)))))
  (IntKind.i64.wrap ((10101 : Int) + ((code.length : Nat) : Int)), (0 : Int)))
  (fun (T3 : Int) => some ({ b := code, i := (0 : Int), h := T3 : L1Cur }))

theorem spec_l1New_c {code : List UInt8} {U0 : Value} : Cn Try.prog 22 [U0] [] [(U0, lc code)] (spec_l1New code) (fun _ (X : Nat) => pt X) fun r X => [.box X 72 [U0, iv r.i, iv r.h]] := by
  unfold spec_l1New
  refine Ci Try.func22 r r ?_
  rintro w S ⟨Z0,-⟩
  refine Sr<|Qs 1 r<|Nx<|Sr<|Qs 1 r<|Yo (Ln ke29 (Bc Z0) r)<|Qs 2 r<|Nx<|Sq<|Sr<|Qs 1 r<|Nx<|Ju [0] (fun T=>[(3, iv T)]) r1 (?_) fun T3=>?_
  ·exact Wb<|Lu [0] (fun T=>[(3, iv T.1), (4, iv T.2)]) r1 fun S1=>Sq<|Sq<|Jv [0,3,4] (fun T=>[(15, .bool T)]) r1 (Rg<|Qs 2 r<|Yo (Ln ke29 (Bc Z0) r)<|Qs 2 r<|It (fun H7=>Qg 2 (beq_tt H7) r r<|Yo (Pt H7 r)<|Nl<|Bg () []) fun H7=>Of 2 (beq_ft H7) r r<|Yo (Pf H7 r)<|Nl<|Bg () []) fun T5=>Ne<|Wc r (fun H8=>Sn<|Sq<|Wb<|Rg<|Qs 4 r<|Bi fun E9 H10=>Yo (Ix ke29 (Bc Z0) H10 r)<|Yo (Le kk5 (Bc Z0) H10 r)<|Yo (Y.conv ki5 ki3 r)<|Qs 4 r<|Nl<|Bn<|Ne<|Rg<|Qs 3 r<|Nl<|Lg () []) fun H8=>Wx<|Tx<|Ex<|Be<|Jg () []
  exact Ne<|Sr<|Qs 2 r<|Yo (Bd kp72 kz72 (Pc r (Cb Z0)<|Pc r (Cp r)<|Pz) r)<|Fo (Bx r (Ca ⟨Ob Z0,Op',Op',⟨⟩⟩)) fun B11=>Qs 1 r<|Nx<|Wr<|Re B11 [0]

/-- loop.example/g00950/spec.l1Byte -/
noncomputable def spec_l1Byte (c : L1Cur) : Option (Int × L1Cur) :=
  bindC (if (decide (c.i < ((c.b.length : Nat) : Int))) = true then ((idx c.b c.i).bind fun E4 =>
  some (.go (iand .i64 (IntKind.i64.wrap (iand .i64 (ixor .i64 (ishr .i64 (IntKind.i64.wrap (IntKind.i64.wrap (c.h * (6364136223846793005 : Int)) + (1442695040888963407 : Int))) (33 : Int)) (ishr .i64 (IntKind.i64.wrap (IntKind.i64.wrap (c.h * (6364136223846793005 : Int)) + (1442695040888963407 : Int))) (45 : Int))) (255 : Int) + (IntKind.i64.wrap ((E4.toNat : Nat) : Int)))) (255 : Int), IntKind.i64.wrap (c.i + (1 : Int)))))
  else (some (.go (iand .i64 (ixor .i64 (ishr .i64 (IntKind.i64.wrap (IntKind.i64.wrap (c.h * (6364136223846793005 : Int)) + (1442695040888963407 : Int))) (33 : Int)) (ishr .i64 (IntKind.i64.wrap (IntKind.i64.wrap (c.h * (6364136223846793005 : Int)) + (1442695040888963407 : Int))) (45 : Int))) (255 : Int), c.i))))
  (fun (T1 : Int × Int) => some (T1.1, { b := c.b, i := T1.2, h := IntKind.i64.wrap (IntKind.i64.wrap (c.h * (6364136223846793005 : Int)) + (1442695040888963407 : Int)) : L1Cur }))

theorem spec_l1Byte_c {c : L1Cur} {U0 : Value} {U1 : Nat} : Cn Try.prog 45 [pt U1] [.box U1 72 [U0, iv c.i, iv c.h]] [(U0, lc c.b)] (spec_l1Byte c) (fun r (_ : Unit) => iv r.1) fun r _ => [.box U1 72 [U0, iv r.2.i, iv r.2.h]] := by
  unfold spec_l1Byte
  refine Ci Try.func45 r r ?_
  rintro w S ⟨Z0,-⟩
  refine Sr<|Qs 1 r<|Nx<|Sr<|Qs 3 r<|Yo (Fb kf72_2 r)<|Yo (Lb 0 kk3 r)<|Qs 3 r<|Yo (Fb kf72_2 r)<|Fu (Sb 0 kk3 r (Cp r) r)<|Nx<|Sq<|Dr [0] r hMix<|Aq [0,1] [0] r<|Ay 2 [0] r (Fb kf72_2 r)<|Ay 3 [0] r (Lb 0 kk3 r)<|Ay 4 [0] r (Y.shr (by decide) r r)<|Aq [5,6] [0] r<|Ay 7 [0] r (Fb kf72_2 r)<|Ay 8 [0] r (Lb 0 kk3 r)<|Ay 9 [0] r (Y.shr (by decide) r r)<|Aq [10,11,12] [0] r<|Az<|Ne<|Sq<|Sq<|Dr [0] r hMix<|Aq [0,1] [0] r<|Ay 2 [0] r (Fb kf72_1 r)<|Ay 3 [0] r (Lb 0 kk3 r)<|Aq [4,5] [0] r<|Ay 6 [0] r (Fb kf72_0 r)<|Ay 7 [0] r (Lb 0 kk29 r)<|Ay 8 [0] r (Ln ke29 (Bc Z0) r)<|Aq [9] [0] r<|Az<|Ne<|Jn Unit [] [] (fun T _=>[(3, iv T.1)]) (fun T _=>[.box U1 72 [U0, iv T.2, iv (IntKind.i64.wrap (IntKind.i64.wrap (c.h * (6364136223846793005 : Int)) + (1442695040888963407 : Int)))]]) r2 r2 (?_) fun T1 X2=>?_
  ·refine Wc r (fun H3=>?_) fun H3=>?_
   ·exact Sq<|Dr [0] r hMix<|Aq [0,1,2] [0] r<|Ay 3 [0] r (Fb kf72_0 r)<|Ay 4 [0] r (Lb 0 kk29 r)<|Aq [5,6] [0] r<|Ay 7 [0] r (Fb kf72_1 r)<|Ay 8 [0] r (Lb 0 kk3 r)<|Ai fun E4 H5=>Ay 9 [0] r (Ix ke29 (Bc Z0) H5 r)<|Ay 10 [0] r (Le kk5 (Bc Z0) H5 r)<|Ay 11 [0] r (Y.conv ki5 ki3 r)<|Aq [12,13,14] [0] r<|Az<|Ne<|Rg<|Qs 3 r<|Yo (Fb kf72_1 r)<|Yo (Lb 0 kk3 r)<|Qs 2 r<|Yo (Fb kf72_1 r)<|Fu (Sb 0 kk3 r (Cp r) r)<|Nl<|Jg () [0]
   exact Sk<|Jg () [0]
  exact Ne<|Sr<|Qs 2 r<|Nx<|Wr<|Re () [0]

/-- loop.example/g00950/spec.l1Below -/
noncomputable def spec_l1Below (c : L1Cur) (n : Int) : Option (Int × L1Cur) :=
  if (decide (n ≤ (0 : Int))) = true then (some ((0 : Int), c))
  else (if (decide (n ≤ (256 : Int))) = true then ((spec_l1Byte c).bind fun R3 =>
  (nz n).bind fun E6 =>
  some (Int.tmod R3.1 n, { b := c.b, i := R3.2.i, h := R3.2.h : L1Cur }))
  else ((spec_l1Byte c).bind fun R8 =>
  (spec_l1Byte ({ b := c.b, i := R8.2.i, h := R8.2.h : L1Cur })).bind fun R11 =>
  (spec_l1Byte ({ b := c.b, i := R11.2.i, h := R11.2.h : L1Cur })).bind fun R14 =>
  (spec_l1Byte ({ b := c.b, i := R14.2.i, h := R14.2.h : L1Cur })).bind fun R17 =>
  (nz n).bind fun E20 =>
  some (Int.tmod (IntKind.i64.wrap (IntKind.i64.wrap (IntKind.i64.wrap (IntKind.i64.wrap (R8.1 * (16777216 : Int)) + (IntKind.i64.wrap (R11.1 * (65536 : Int)))) + (IntKind.i64.wrap (R14.1 * (256 : Int)))) + R17.1)) n, { b := c.b, i := R17.2.i, h := R17.2.h : L1Cur })))

theorem spec_l1Below_c {c : L1Cur} {n : Int} {U0 : Value} {U1 : Nat} : Cn Try.prog 47 [pt U1, iv n] [.box U1 72 [U0, iv c.i, iv c.h]] [(U0, lc c.b)] (spec_l1Below c n) (fun r (_ : Unit) => iv r.1) fun r _ => [.box U1 72 [U0, iv r.2.i, iv r.2.h]] := by
  unfold spec_l1Below
  refine Ci Try.func47 r r ?_
  rintro w S ⟨Z0,-⟩
  refine Sr<|Qs 1 r<|Nx<|Sq<|Sr<|Qs 2 r<|Nx<|Wc r (fun H1=>Sr<|Qs 1 r<|Nx<|Wr<|Tr<|Re () [0]) fun H1=>Sn<|Sq<|Sr<|Qs 2 r<|Nx<|Wc r (fun H2=>Sr<|Qs 1 r<|Bi fun R3 H4=>Fo (Cl [0] spec_l1Byte_c H4 r r1 ⟨(Bc Z0),⟨⟩⟩) fun _=>Qs 1 r<|Bi fun E6 H7=>Yo (Y.rem (nz_ne H7) r r)<|Qs 1 r<|Nx<|Wr<|Tr<|Re () [0]) fun H2=>Sn<|Sr<|Qs 1 r<|Bi fun R8 H9=>Fo (Cl [0] spec_l1Byte_c H9 r r1 ⟨(Bc Z0),⟨⟩⟩) fun _=>Qs 1 r<|Nx<|Sr<|Qs 1 r<|Bi fun R11 H12=>Fo (Cl [0] spec_l1Byte_c H12 r r1 ⟨(Bc Z0),⟨⟩⟩) fun _=>Qs 1 r<|Nx<|Sr<|Qs 1 r<|Bi fun R14 H15=>?_
  exact Fo (Cl [0] spec_l1Byte_c H15 r r1 ⟨(Bc Z0),⟨⟩⟩) fun _=>Qs 1 r<|Nx<|Sr<|Qs 1 r<|Bi fun R17 H18=>Fo (Cl [0] spec_l1Byte_c H18 r r1 ⟨(Bc Z0),⟨⟩⟩) fun _=>Qs 1 r<|Nx<|Sr<|Qs 11 r<|Bi fun E20 H21=>Yo (Y.rem (nz_ne H21) r r)<|Qs 1 r<|Nx<|Wr<|Re () [0]

/-- loop.example/g00950/spec.l1Once -/
noncomputable def spec_l1Once (c : L1Cur) (n : Int) : Option (Bool × L1Cur) :=
  (spec_l1Below c n).bind fun R1 =>
  some (decide (R1.1 = (0 : Int)), { b := c.b, i := R1.2.i, h := R1.2.h : L1Cur })

theorem spec_l1Once_c {c : L1Cur} {n : Int} {U0 : Value} {U1 : Nat} : Cn Try.prog 46 [pt U1, iv n] [.box U1 72 [U0, iv c.i, iv c.h]] [(U0, lc c.b)] (spec_l1Once c n) (fun r (_ : Unit) => .bool r.1) fun r _ => [.box U1 72 [U0, iv r.2.i, iv r.2.h]] := by
  unfold spec_l1Once
  refine Ci Try.func46 r r ?_
  rintro w S ⟨Z0,-⟩
  exact Sr<|Qs 1 r<|Nx<|Sr<|Qs 2 r<|Bi fun R1 H2=>Fo (Cl [0] spec_l1Below_c H2 r r1 ⟨(Bc Z0),⟨⟩⟩) fun _=>Qs 2 r<|Nx<|Wr<|Re () [0]

/-- loop.example/g00950/spec.l3Key -/
noncomputable def spec_l3Key (c : L1Cur) : Option (List UInt8 × L1Cur) :=
  (spec_l1Byte c).bind fun R2 =>
  bindC (loopO (fun (S5 : Int × List UInt8) => if (decide (S5.1 < (32 : Int))) = true then ((app 1 S5.2 ([toU8 (IntKind.i64.wrap (IntKind.i64.wrap (R2.1 * S5.1) + (Int.tmod S5.1 (3 : Int))))])).bind fun E12 =>
  some (.go (IntKind.i64.wrap (S5.1 + (1 : Int)), E12)))
  else (some (.done (.go S5.2))))
  ((0 : Int), ([] : List UInt8)))
  (fun (T7 : List UInt8) => (spec_l1Once ({ b := c.b, i := R2.2.i, h := R2.2.h : L1Cur }) (15 : Int)).bind fun R14 =>
  if R14.1 = true then ((spec_l1Below ({ b := c.b, i := R14.2.i, h := R14.2.h : L1Cur }) (32 : Int)).bind fun R18 =>
  (piece T7 (0 : Int) R18.1).bind fun E21 =>
  some (E21, { b := c.b, i := R18.2.i, h := R18.2.h : L1Cur }))
  else (some (T7, { b := c.b, i := R14.2.i, h := R14.2.h : L1Cur })))

theorem spec_l3Key_c {c : L1Cur} {U0 : Value} {U1 : Nat} : Cn Try.prog 23 [pt U1] [.box U1 72 [U0, iv c.i, iv c.h]] [(U0, lc c.b)] (spec_l3Key c) (fun r (_ : Unit) => strV r.1) fun r _ => [.box U1 72 [U0, iv r.2.i, iv r.2.h]] := by
  unfold spec_l3Key
  refine Ci Try.func23 r r ?_
  rintro w S ⟨Z0,-⟩
  refine Sr<|Qs 1 r<|Nx<|Sr<|Fo (Bs ([] : List UInt8) ke29 kz5) fun B1=>Qs 1 r<|Nx<|Sr<|Qs 1 r<|Bi fun R2 H3=>Fo (Cl [1] spec_l1Byte_c H3 r r1 ⟨(Bc Z0),⟨⟩⟩) fun _=>Qs 1 r<|Nx<|Sq<|Sr<|Qs 1 r<|Nx<|Jn Value [0] [0] (fun _ X=>[(3, X)]) (fun T X=>[.own X (lc T)]) r2 r2 (?_) fun T7 X8=>?_
  ·refine Wb<|Lp Value [0,4] [0] (fun T X=>[(3, X), (5, iv T.1)]) (fun T X=>[.own X (lc T.2)]) (.slice (some ⟨B1, 0, none⟩) 0 0) [0,0] r2 r2 fun S5 X6=>Sq<|Sr<|Qs 2 r<|Nx<|Wc r (fun H9=>?_) fun H9=>?_
   ·exact Sn<|Sq<|Wb<|Rg<|Qs 5 r<|Yo (Y.rem (by decide) r r)<|Qs 1 r<|Yo (Y.conv8 ki3 ki5 r)<|Fo (Bs [toU8 (IntKind.i64.wrap (IntKind.i64.wrap (R2.1 * S5.1) + (Int.tmod S5.1 (3 : Int))))] ke29 kz5) fun B10=>Bi fun E12 H13=>Fo (Ap [2] H13 ke29 kz5 r (Oc 0 r)) fun V11=>Qs 1 r<|Nl<|Bn<|Ne<|Rg<|Qs 3 r<|Nl<|Lg V11 [2,0]
   exact Wx<|Tx<|Ex<|Be<|Jg X6 [0,0]
  exact Ne<|Sq<|Sr<|Qs 1 r<|Bi fun R14 H15=>Fo (Cl [0] spec_l1Once_c H15 r r1 ⟨(Bc Z0),⟨⟩⟩) fun _=>Nx<|Wc r (fun H17=>Sr<|Qs 2 r<|Bi fun R18 H19=>Fo (Cl [0] spec_l1Below_c H19 r r1 ⟨(Bc Z0),⟨⟩⟩) fun _=>Bi fun E21 H22=>Yo (Y.subs H22 ke29 (Oc 1 r) r r ⟨_, r⟩)<|Yo (Y.toStr ke29 ki5 ks9 (Can.sub H22 r (Oc 1 r)) r)<|Qs 1 r<|Nx<|Wr<|Tr<|Re () [0]) fun H17=>Sn<|Sr<|Qs 1 r<|Yo (Y.toStr ke29 ki5 ks9 (Oc 1 r) r)<|Qs 1 r<|Nx<|Wr<|Re () [0]

/-- loop.example/g00950/spec.l1PickInt -/
noncomputable def spec_l1PickInt (c : L1Cur) (list : List Int) : Option (Int × L1Cur) :=
  (spec_l1Below c ((list.length : Nat) : Int)).bind fun R1 =>
  (idx list R1.1).bind fun E4 =>
  some (E4, { b := c.b, i := R1.2.i, h := R1.2.h : L1Cur })

theorem spec_l1PickInt_c {c : L1Cur} {list : List Int} {U0 U2 : Value} {U1 : Nat} : Cn Try.prog 24 [pt U1, U2] [.box U1 72 [U0, iv c.i, iv c.h]] [(U0, lc c.b), (U2, lc list)] (spec_l1PickInt c list) (fun r (_ : Unit) => iv r.1) fun r _ => [.box U1 72 [U0, iv r.2.i, iv r.2.h]] := by
  unfold spec_l1PickInt
  refine Ci Try.func24 r r ?_
  rintro w S ⟨Z0,Z1,-⟩
  exact Sr<|Qs 1 r<|Nx<|Sr<|Qs 3 r<|Yo (Ln ke46 (Bc Z1) r)<|Bi fun R1 H2=>Fo (Cl [0] spec_l1Below_c H2 r r1 ⟨(Bc Z0),⟨⟩⟩) fun _=>Bi fun E4 H5=>Yo (Ix ke46 (Bc Z1) H5 r)<|Yo (Le kk3 (Bc Z1) H5 r)<|Qs 1 r<|Nx<|Wr<|Re () [0]

/-- loop.example/g00950/spec.l1Pick -/
noncomputable def spec_l1Pick (c : L1Cur) (list : List (List UInt8)) : Option (List UInt8 × L1Cur) :=
  (spec_l1Below c ((list.length : Nat) : Int)).bind fun R1 =>
  (idx list R1.1).bind fun E4 =>
  some (E4, { b := c.b, i := R1.2.i, h := R1.2.h : L1Cur })

theorem spec_l1Pick_c {c : L1Cur} {list : List (List UInt8)} {U0 U2 : Value} {U1 : Nat} : Cn Try.prog 50 [pt U1, U2] [.box U1 72 [U0, iv c.i, iv c.h]] [(U0, lc c.b), (U2, lc list)] (spec_l1Pick c list) (fun r (_ : Unit) => strV r.1) fun r _ => [.box U1 72 [U0, iv r.2.i, iv r.2.h]] := by
  unfold spec_l1Pick
  refine Ci Try.func50 r r ?_
  rintro w S ⟨Z0,Z1,-⟩
  exact Sr<|Qs 1 r<|Nx<|Sr<|Qs 3 r<|Yo (Ln ke78 (Bc Z1) r)<|Bi fun R1 H2=>Fo (Cl [0] spec_l1Below_c H2 r r1 ⟨(Bc Z0),⟨⟩⟩) fun _=>Bi fun E4 H5=>Yo (Ix ke78 (Bc Z1) H5 r)<|Yo (Le kk9 (Bc Z1) H5 r)<|Qs 1 r<|Nx<|Wr<|Re () [0]

/-- loop.example/g00950/spec.l7Key -/
noncomputable def spec_l7Key (c : L1Cur) : Option (List UInt8 × L1Cur) :=
  (spec_l1Pick c ([[97], [98], [97, 98], [97, 98, 99], [98, 48], [99], [0], [122, 122]])).bind fun R2 =>
  some (R2.1, { b := c.b, i := R2.2.i, h := R2.2.h : L1Cur })

theorem spec_l7Key_c {c : L1Cur} {U0 : Value} {U1 : Nat} : Cn Try.prog 48 [pt U1] [.box U1 72 [U0, iv c.i, iv c.h]] [(U0, lc c.b)] (spec_l7Key c) (fun r (_ : Unit) => strV r.1) fun r _ => [.box U1 72 [U0, iv r.2.i, iv r.2.h]] := by
  unfold spec_l7Key
  refine Ci Try.func48 r r ?_
  rintro w S ⟨Z0,-⟩
  exact Sr<|Qs 1 r<|Nx<|Sr<|Qs 1 r<|Fo (Bs [[97], [98], [97, 98], [97, 98, 99], [98, 48], [99], [0], [122, 122]] ke78 kz9) fun B1=>Bi fun R2 H3=>Fo (Cl [1] spec_l1Pick_c H3 r r1 ⟨(Bc Z0),(Oc 0 r),⟨⟩⟩) fun _=>Qs 1 r<|Nx<|Wr<|Re () [0]

/-- loop.example/g00950/spec.l1Text -/
noncomputable def spec_l1Text (c : L1Cur) (most : Int) : Option (List UInt8 × L1Cur) :=
  (spec_l1Below c (4 : Int)).bind fun R2 =>
  (spec_l1Below ({ b := c.b, i := R2.2.i, h := R2.2.h : L1Cur }) (IntKind.i64.wrap (most + (1 : Int)))).bind fun R5 =>
  bindC (loopO (fun (S8 : Int × Int × Int × List UInt8) => if (decide (S8.2.2.1 > (0 : Int))) = true then ((spec_l1Byte ({ b := c.b, i := S8.1, h := S8.2.1 : L1Cur })).bind fun R13 =>
  bindC (if (decide (R2.1 = (1 : Int))) = true then (some (.go (Int.tmod R13.1 (2 : Int))))
  else (some (.go R13.1)))
  (fun (T16 : Int) => bindC (if (decide (R2.1 = (2 : Int))) = true then (some (.go (IntKind.i64.wrap ((97 : Int) + (Int.tmod T16 (4 : Int))))))
  else (some (.go T16)))
  (fun (T19 : Int) => (app 1 S8.2.2.2 ([toU8 T19])).bind fun E24 =>
  some (.go (R13.2.i, R13.2.h, IntKind.i64.wrap (S8.2.2.1 - (1 : Int)), E24)))))
  else (some (.done (.go (S8.1, S8.2.1, S8.2.2.2)))))
  (R5.2.i, R5.2.h, R5.1, ([] : List UInt8)))
  (fun (T10 : Int × Int × List UInt8) => some (T10.2.2, { b := c.b, i := T10.1, h := T10.2.1 : L1Cur }))

theorem spec_l1Text_c {c : L1Cur} {most : Int} {U0 : Value} {U1 : Nat} : Cn Try.prog 49 [pt U1, iv most] [.box U1 72 [U0, iv c.i, iv c.h]] [(U0, lc c.b)] (spec_l1Text c most) (fun r (_ : Unit) => strV r.1) fun r _ => [.box U1 72 [U0, iv r.2.i, iv r.2.h]] := by
  unfold spec_l1Text
  refine Ci Try.func49 r r ?_
  rintro w S ⟨Z0,-⟩
  refine Sr<|Qs 1 r<|Nx<|Sr<|Fo (Bs ([] : List UInt8) ke29 kz5) fun B1=>Qs 1 r<|Nx<|Sr<|Qs 1 r<|Bi fun R2 H3=>Fo (Cl [1] spec_l1Below_c H3 r r1 ⟨(Bc Z0),⟨⟩⟩) fun _=>Qs 1 r<|Nx<|Sq<|Sr<|Qs 3 r<|Bi fun R5 H6=>Fo (Cl [0] spec_l1Below_c H6 r r1 ⟨(Bc Z0),⟨⟩⟩) fun _=>Qs 1 r<|Nx<|Jn Value [] [] (fun _ X=>[(5, X)]) (fun T X=>[.box U1 72 [U0, iv T.1, iv T.2.1], .own X (lc T.2.2)]) r2 r2 (?_) fun T10 X11=>?_
  ·refine Wb<|Lp Value [0,6] [] (fun T X=>[(5, X), (7, iv T.2.2.1)]) (fun T X=>[.box U1 72 [U0, iv T.1, iv T.2.1], .own X (lc T.2.2.2)]) (.slice (some ⟨B1, 0, none⟩) 0 0) [0,0] r2 r2 fun S8 X9=>Sq<|Sr<|Qs 2 r<|Nx<|Wc r (fun H12=>?_) fun H12=>?_
   ·refine Sn<|Sq<|Wb<|Sr<|Qs 1 r<|Bi fun R13 H14=>Fo (Cl [0] spec_l1Byte_c H14 r r1 ⟨(Bc Z0),⟨⟩⟩) fun _=>Qs 1 r<|Nx<|Sq<|Sr<|Qs 2 r<|Nx<|Ju [0,5,6,7] (fun T=>[(8, iv T)]) r1 (Wc r (fun H18=>Rg<|Qs 1 r<|Yo (Y.rem (by decide) r r)<|Qs 1 r<|Nl<|Jg () [0,0]) fun H18=>Sk<|Jg () [0,0]) fun T16=>Ne<|Sq<|Sr<|Qs 2 r<|Nx<|Ju [0,5,6,7] (fun T=>[(8, iv T)]) r1 (Wc r (fun H21=>Rg<|Qs 1 r<|Yo (Y.rem (by decide) r r)<|Qs 2 r<|Nl<|Jg () [0,0]) fun H21=>Sk<|Jg () [0,0]) fun T19=>Ne<|Rg<|Qs 2 r<|Yo (Y.conv8 ki3 ki5 r)<|Fo (Bs [toU8 T19] ke29 kz5) fun B22=>?_
    exact Bi fun E24 H25=>Fo (Ap [2] H25 ke29 kz5 r (Oc 0 r)) fun V23=>Qs 1 r<|Nl<|Bn<|Ne<|Rg<|Qs 3 r<|Nl<|Lg V23 [2,0]
   exact Wx<|Tx<|Ex<|Be<|Jg X9 [0,0]
  exact Ne<|Sr<|Qs 1 r<|Yo (Y.toStr ke29 ki5 ks9 (Oc 1 r) r)<|Qs 1 r<|Nx<|Wr<|Re () [0]

/-- loop.example/g00950/spec.l7Batch -/
noncomputable def spec_l7Batch (c : L1Cur) : Option (List Op × L1Cur) :=
  (spec_l1Below c (4 : Int)).bind fun R2 =>
  bindC (loopO (fun (S5 : Int × Int × Int × List Op) => if (decide (S5.2.2.1 > (0 : Int))) = true then ((spec_l7Key ({ b := c.b, i := S5.1, h := S5.2.1 : L1Cur })).bind fun R10 =>
  (spec_l1Once ({ b := c.b, i := R10.2.i, h := R10.2.h : L1Cur }) (3 : Int)).bind fun R14 =>
  bindC (if R14.1 = true then (some (.go (R14.2.i, R14.2.h, true, [])))
  else ((spec_l1Text ({ b := c.b, i := R14.2.i, h := R14.2.h : L1Cur }) (5 : Int)).bind fun R20 =>
  some (.go (R20.2.i, R20.2.h, false, R20.1))))
  (fun (T17 : Int × Int × Bool × List UInt8) => (app 40 S5.2.2.2 ([{ Key := R10.1, Del := T17.2.2.1, Val := T17.2.2.2 : Op }])).bind fun E25 =>
  some (.go (T17.1, T17.2.1, IntKind.i64.wrap (S5.2.2.1 - (1 : Int)), E25))))
  else (some (.done (.go (S5.1, S5.2.1, S5.2.2.2)))))
  (R2.2.i, R2.2.h, IntKind.i64.wrap ((1 : Int) + R2.1), ([] : List Op)))
  (fun (T7 : Int × Int × List Op) => (spec_l1Once ({ b := c.b, i := T7.1, h := T7.2.1 : L1Cur }) (10 : Int)).bind fun R27 =>
  bindC (if R27.1 = true then ((spec_l1Below ({ b := c.b, i := R27.2.i, h := R27.2.h : L1Cur }) ((T7.2.2.length : Nat) : Int)).bind fun R33 =>
  (spec_l1Below ({ b := c.b, i := R33.2.i, h := R33.2.h : L1Cur }) (4 : Int)).bind fun R36 =>
  bindC (if (decide (R36.1 = (0 : Int))) = true then ((spec_l1Pick ({ b := c.b, i := R36.2.i, h := R36.2.h : L1Cur }) ([[], [97, 97, 97, 97, 97, 97, 97, 97, 97, 97], [97, 97, 97, 97, 97, 97, 97, 97, 97, 97, 97]])).bind fun R43 =>
  (idx T7.2.2 R33.1).bind fun E46 =>
  some (.go (R43.2.i, R43.2.h, (T7.2.2.set R33.1.toNat ({ Key := R43.1, Del := E46.Del, Val := E46.Val : Op })))))
  else (bindC (if (decide (R36.1 = (1 : Int))) = true then ((spec_l1Text ({ b := c.b, i := R36.2.i, h := R36.2.h : L1Cur }) (1 : Int)).bind fun R51 =>
  (cat ([97, 97, 97, 97, 97, 97, 97, 97, 97, 97, 97, 97, 97, 97, 97, 97]) R51.1).bind fun E54 =>
  (idx T7.2.2 R33.1).bind fun E56 =>
  some (.go (R51.2.i, R51.2.h, (T7.2.2.set R33.1.toNat ({ Key := E56.Key, Del := E56.Del, Val := E54 : Op })))))
  else (bindC (if (decide (R36.1 = (2 : Int))) = true then ((app 40 T7.2.2 T7.2.2).bind fun E62 =>
  some (.go E62))
  else (some (.go ([] : List Op))))
  (fun (T58 : List Op) => some (.go (R36.2.i, R36.2.h, T58)))))
  (fun (T48 : Int × Int × List Op) => some (.go (T48.1, T48.2.1, T48.2.2)))))
  (fun (T39 : Int × Int × List Op) => some (.go (T39.1, T39.2.1, T39.2.2))))
  else (some (.go (R27.2.i, R27.2.h, T7.2.2))))
  (fun (T30 : Int × Int × List Op) => some (T30.2.2, { b := c.b, i := T30.1, h := T30.2.1 : L1Cur })))

theorem spec_l7Batch_c {c : L1Cur} {U0 : Value} {U1 : Nat} : Cn Try.prog 25 [pt U1] [.box U1 72 [U0, iv c.i, iv c.h]] [(U0, lc c.b)] (spec_l7Batch c) (fun _ (X : Value) => X) fun r X => [.box U1 72 [U0, iv r.2.i, iv r.2.h], .own X (lc r.1)] := by
  unfold spec_l7Batch
  refine Ci Try.func25 r r ?_
  rintro w S ⟨Z0,-⟩
  refine Sr<|Qs 1 r<|Nx<|Sr<|Fo (Bs ([] : List Op) ke31 kz52) fun B1=>Qs 1 r<|Nx<|Sq<|Sr<|Qs 1 r<|Bi fun R2 H3=>Fo (Cl [1] spec_l1Below_c H3 r r1 ⟨(Bc Z0),⟨⟩⟩) fun _=>Qs 2 r<|Nx<|Jn Value [0] [] (fun _ X=>[(3, X)]) (fun T X=>[.box U1 72 [U0, iv T.1, iv T.2.1], .own X (lc T.2.2)]) r2 r2 (?_) fun T7 X8=>?_
  ·refine Wb<|Lp Value [0] [] (fun T X=>[(3, X), (4, iv T.2.2.1)]) (fun T X=>[.box U1 72 [U0, iv T.1, iv T.2.1], .own X (lc T.2.2.2)]) (.slice (some ⟨B1, 0, none⟩) 0 0) [0,0] r2 r2 fun S5 X6=>Sq<|Sr<|Qs 2 r<|Nx<|Wc r (fun H9=>?_) fun H9=>?_
   ·refine Sn<|Sq<|Wb<|Sr<|Qs 1 r<|Bi fun R10 H11=>Fo (Cl [0] spec_l7Key_c H11 r r1 ⟨(Bc Z0),⟨⟩⟩) fun _=>Yo (Bd kp52 kz52 (Pc r (Cp r)<|Pz) r)<|Fo (Al kz52 r) fun B13=>Fu (Sb 0 kk52 r (Cp r) r)<|Nx<|Sq<|Sr<|Qs 1 r<|Bi fun R14 H15=>Fo (Cl [1] spec_l1Once_c H15 r r1 ⟨(Bc Z0),⟨⟩⟩) fun _=>Nx<|Jn Unit [0,3,4,5] [2] (fun _ _=>[]) (fun T _=>[.box U1 72 [U0, iv T.1, iv T.2.1], .box B13 52 [strV R10.1, .bool T.2.2.1, strV T.2.2.2]]) r2 r2 (Wc r (fun H19=>Rg<|Yo (Fb kf52_1 r)<|Fu (Sb 1 kk4 r (Cp r) r)<|Nl<|Jg () [2,0,0]) fun H19=>Rg<|Qs 1 r<|Bi fun R20 H21=>Fo (Cl [0] spec_l1Text_c H21 r r1 ⟨(Bc Z0),⟨⟩⟩) fun _=>Yo (Fb kf52_2 r)<|Fu (Sb 1 kk9 r (Cp r) r)<|Nl<|Jg () [2,0,0]) fun T17 X18=>?_
    exact Ne<|Rg<|Qs 1 r<|Yo (Lb 2 kk52 r)<|Fo (Bs [{ Key := R10.1, Del := T17.2.2.1, Val := T17.2.2.2 : Op }] ke31 kz52) fun B23=>Bi fun E25 H26=>Fo (Ap [1] H26 ke31 kz52 r (Oc 0 r)) fun V24=>Qs 1 r<|Nl<|Bn<|Ne<|Rg<|Qs 3 r<|Nl<|Lg V24 [2,0]
   exact Wx<|Tx<|Ex<|Be<|Jg X6 [0,0]
  refine Ne<|Sq<|Sr<|Qs 1 r<|Bi fun R27 H28=>Fo (Cl [0] spec_l1Once_c H28 r r1 ⟨(Bc Z0),⟨⟩⟩) fun _=>Nx<|Jn Value [] [] (fun _ X=>[(3, X)]) (fun T X=>[.box U1 72 [U0, iv T.1, iv T.2.1], .own X (lc T.2.2)]) r2 r2 (?_) fun T30 X31=>?_
  ·refine Wc r (fun H32=>?_) fun H32=>?_
   ·refine Sr<|Qs 2 r<|Yo (Ln ke31 (Oc 1 r) r)<|Bi fun R33 H34=>Fo (Cl [0] spec_l1Below_c H34 r r1 ⟨(Bc Z0),⟨⟩⟩) fun _=>Qs 1 r<|Nx<|Sr<|Qs 1 r<|Bi fun R36 H37=>Fo (Cl [0] spec_l1Below_c H37 r r1 ⟨(Bc Z0),⟨⟩⟩) fun _=>Nx<|Wb<|Sr<|Qs 2 r<|Nx<|Jn Value [] [] (fun _ X=>[(3, X)]) (fun T X=>[.box U1 72 [U0, iv T.1, iv T.2.1], .own X (lc T.2.2)]) r2 r2 (?_) fun T39 X40=>?_
    ·refine Wc r (fun H41=>?_) fun H41=>?_
     ·exact Rg<|Qs 3 r<|Fo (Bs [[], [97, 97, 97, 97, 97, 97, 97, 97, 97, 97], [97, 97, 97, 97, 97, 97, 97, 97, 97, 97, 97]] ke78 kz9) fun B42=>Bi fun R43 H44=>Fo (Cl [1] spec_l1Pick_c H44 r r1 ⟨(Bc Z0),(Oc 0 r),⟨⟩⟩) fun _=>Bi fun E46 H47=>Yo (Ix ke31 (Oc 2 r) H47 r)<|Yo (Fe kf52_0 (Oc 2 r) H47 r)<|Fu (Se ({ Key := R43.1, Del := E46.Del, Val := E46.Val : Op }) 2 kk9 H47 r (Cp r) r)<|Nl<|Jg X8 [0,1]
     refine Sr<|Qs 2 r<|Nx<|Jn Value [] [] (fun _ X=>[(3, X)]) (fun T X=>[.box U1 72 [U0, iv T.1, iv T.2.1], .own X (lc T.2.2)]) r2 r2 (?_) fun T48 X49=>?_
     ·refine Wc r (fun H50=>?_) fun H50=>?_
      ·exact Rg<|Qs 3 r<|Bi fun R51 H52=>Fo (Cl [0] spec_l1Text_c H52 r r1 ⟨(Bc Z0),⟨⟩⟩) fun _=>Bi fun E54 H55=>Yo (Y.cat H55 r r)<|Bi fun E56 H57=>Yo (Ix ke31 (Oc 1 r) H57 r)<|Yo (Fe kf52_2 (Oc 1 r) H57 r)<|Fu (Se ({ Key := E56.Key, Del := E56.Del, Val := E54 : Op }) 1 kk9 H57 r (Cp r) r)<|Nl<|Jg X8 [0,0]
      exact Sr<|Qs 2 r<|Nx<|Jn Value [] [0] (fun _ X=>[(3, X)]) (fun T X=>[.own X (lc T)]) r2 r2 (Wc r (fun H60=>Rg<|Qs 2 r<|Bi fun E62 H63=>Fo (Ap [1] H63 ke31 kz52 r (Oc 1 r)) fun V61=>Qs 1 r<|Nl<|Jg V61 [1,0]) fun H60=>Rg<|Fo (Bs ([] : List Op) ke31 kz52) fun B64=>Qs 1 r<|Nl<|Jg (.slice (some ⟨B64, 0, none⟩) 0 0) [1,0]) fun T58 X59=>Jg X59 [0,0]
     exact Jg X49 [0,0]
    exact Bn<|Jg X40 [0,0]
   exact Sk<|Jg X8 [0,0]
  exact Ne<|Sr<|Qs 2 r<|Nx<|Wr<|Re X31 [0,0]

/-- loop.example/g00950/spec.DrawSealBatch -/
noncomputable def spec_DrawSealBatch (code : List UInt8) : Option (List UInt8 × Int × Int × List Op) :=
  (spec_l1New code).bind fun R1 =>
  (spec_l3Key ({ b := code, i := R1.i, h := R1.h : L1Cur })).bind fun R4 =>
  (spec_l1PickInt ({ b := code, i := R4.2.i, h := R4.2.h : L1Cur }) ([(0 : Int), (1 : Int), (1000 : Int), (1001 : Int), (-1 : Int)])).bind fun R8 =>
  (spec_l1PickInt ({ b := code, i := R8.2.i, h := R8.2.h : L1Cur }) ([(0 : Int), (7 : Int), (999999 : Int), (1000000 : Int)])).bind fun R12 =>
  (spec_l7Batch ({ b := code, i := R12.2.i, h := R12.2.h : L1Cur })).bind fun R15 =>
  some (R4.1, R8.1, R12.1, R15.1)

theorem spec_DrawSealBatch_c {code : List UInt8} {U0 : Value} : Cn Try.prog 10 [U0] [] [(U0, lc code)] (spec_DrawSealBatch code) (fun r (X : Value) => .tuple #[strV r.1, iv r.2.1, iv r.2.2.1, X]) fun r X => [.own X (lc r.2.2.2)] := by
  unfold spec_DrawSealBatch
  refine Ci Try.func10 r r ?_
  rintro w S ⟨Z0,-⟩
  refine Sr<|Qs 4 r<|Nx<|Sr<|Qs 1 r<|Bi fun R1 H2=>Fo (Cl [] spec_l1New_c H2 r r1 ⟨(Bc Z0),⟨⟩⟩) fun Y3=>Qs 1 r<|Nx<|Sr<|Qs 1 r<|Bi fun R4 H5=>Fo (Cl [0] spec_l3Key_c H5 r r1 ⟨(Bc Z0),⟨⟩⟩) fun _=>Qs 1 r<|Nx<|Sr<|Qs 1 r<|Fo (Bs [(0 : Int), (1 : Int), (1000 : Int), (1001 : Int), (-1 : Int)] ke46 kz3) fun B7=>Bi fun R8 H9=>Fo (Cl [1] spec_l1PickInt_c H9 r r1 ⟨(Bc Z0),(Oc 0 r),⟨⟩⟩) fun _=>Qs 1 r<|Nx<|Sr<|Qs 1 r<|Fo (Bs [(0 : Int), (7 : Int), (999999 : Int), (1000000 : Int)] ke46 kz3) fun B11=>Bi fun R12 H13=>?_
  exact Fo (Cl [1] spec_l1PickInt_c H13 r r1 ⟨(Bc Z0),(Oc 0 r),⟨⟩⟩) fun _=>Qs 1 r<|Nx<|Sr<|Qs 4 r<|Bi fun R15 H16=>Fo (Cl [0] spec_l7Batch_c H16 r r1 ⟨(Bc Z0),⟨⟩⟩) fun Y17=>Qs 4 r<|Nx<|Wr<|Re Y17 [1]

/-- loop.example/g00950/impl.inRange -/
noncomputable def impl_inRange (n : Int) (least : Int) (most : Int) : Option Bool :=
  (if (decide (n ≥ least)) = true then (some (decide (n ≤ most)))
  else (some false)).bind (fun (T1 : Bool) =>
  some T1)

theorem impl_inRange_c {n : Int} {least : Int} {most : Int} : Cn Try.prog 35 [iv n, iv least, iv most] [] [] (impl_inRange n least most) (fun r (_ : Unit) => .bool r) fun _ _ => [] := by
  unfold impl_inRange
  refine Ci Try.func35 r r ?_
  rintro w S -
  exact Sr<|Qs 1 r<|Nx<|Sq<|Jv [] (fun T=>[(6, .bool T)]) r1 (Rg<|Qs 4 r<|It (fun H3=>Qg 3 (beq_tt H3) r r<|Yo (Pt H3 r)<|Qs 1 r<|Nl<|Bg () []) fun H3=>Of 3 (beq_ft H3) r r<|Yo (Pf H3 r)<|Qs 1 r<|Nl<|Bg () []) fun T1=>Ne<|Wr<|Re () []

/-- loop.example/g00950/impl.isPlace -/
noncomputable def impl_isPlace (boot : Int) (seq : Int) : Option Bool :=
  ((impl_inRange boot (0 : Int) (1000 : Int)).bind fun R3 =>
  if R3 = true then ((impl_inRange seq (0 : Int) (999999 : Int)).bind fun R7 =>
  some R7)
  else (some false)).bind (fun (T1 : Bool) =>
  some T1)

theorem impl_isPlace_c {boot : Int} {seq : Int} : Cn Try.prog 18 [iv boot, iv seq] [] [] (impl_isPlace boot seq) (fun r (_ : Unit) => .bool r) fun _ _ => [] := by
  unfold impl_isPlace
  refine Ci Try.func18 r r ?_
  rintro w S -
  refine Sr<|Qs 1 r<|Nx<|Sq<|Jv [] (fun T=>[(4, .bool T)]) r1 (?_) fun T1=>?_
  ·exact Rg<|Qs 1 r<|Bi fun R3 H4=>Fo (Cl [] impl_inRange_c H4 r r1) fun _=>Qs 1 r<|It (fun H6=>Qg 1 (beq_tt H6) r r<|Bi fun R7 H8=>Fg (gdA (beq_tt H6)) (Cl [] impl_inRange_c H8 r r1) fun _=>Yo (Pt H6 r)<|Qs 1 r<|Nl<|Bg () []) fun H6=>Of 2 (beq_ft H6) r r<|Yo (Pf H6 r)<|Qs 1 r<|Nl<|Bg () []
  exact Ne<|Wr<|Re () []

/-- loop.example/g00950/impl.isKey -/
noncomputable def impl_isKey (s : List UInt8) : Option Bool :=
  (impl_inRange ((s.length : Nat) : Int) (1 : Int) (10 : Int)).bind fun R1 =>
  some R1

theorem impl_isKey_c {s : List UInt8} : Cn Try.prog 51 [strV s] [] [] (impl_isKey s) (fun r (_ : Unit) => .bool r) fun _ _ => [] := by
  unfold impl_isKey
  refine Ci Try.func51 r r ?_
  rintro w S -
  exact Sr<|Qs 1 r<|Nx<|Sr<|Qs 1 r<|Yo (Y.slen ks9 r)<|Bi fun R1 H2=>Fo (Cl [] impl_inRange_c H2 r r1) fun _=>Qs 1 r<|Nx<|Wr<|Re () []

/-- loop.example/g00950/impl.isVal -/
noncomputable def impl_isVal (del : Bool) (val : List UInt8) : Option Bool :=
  (if (decide (((val.length : Nat) : Int) ≤ (16 : Int))) = true then (if del = true then (some (!(!(decide (val = ([]))))))
  else (some (!false)))
  else (some false)).bind (fun (T1 : Bool) =>
  some T1)

theorem impl_isVal_c {del : Bool} {val : List UInt8} : Cn Try.prog 52 [.bool del, strV val] [] [] (impl_isVal del val) (fun r (_ : Unit) => .bool r) fun _ _ => [] := by
  unfold impl_isVal
  refine Ci Try.func52 r r ?_
  rintro w S -
  refine Sr<|Qs 1 r<|Nx<|Sq<|Jv [] (fun T=>[(4, .bool T)]) r1 (?_) fun T1=>?_
  ·exact Rg<|Qs 1 r<|Yo (Y.slen ks9 r)<|Qs 2 r<|It (fun H3=>Qg 2 (beq_tt H3) r r<|It (fun H4=>Qg 2 (beq_tt H4) r r<|Yg (gdA (beq_tt H3)) (Pt H4 r)<|Qg 1 (beq_tt H3) r r<|Yo (Pt H3 r)<|Qs 1 r<|Nl<|Bg () []) fun H4=>Of 2 (beq_ft H4) r r<|Yg (gdA (beq_tt H3)) (Pf H4 r)<|Qg 1 (beq_tt H3) r r<|Yo (Pt H3 r)<|Qs 1 r<|Nl<|Bg () []) fun H3=>Of 2 (beq_ft H3) r r<|Ou 2 r r<|Of 2 (beq_ft H3) r r<|Yo (Pf H3 r)<|Qs 1 r<|Nl<|Bg () []
  exact Ne<|Wr<|Re () []

/-- loop.example/g00950/impl.BatchOk -/
noncomputable def impl_BatchOk (l : List Op) : Option Bool :=
  bindC (loopO (fun (S1 : Int) => if (decide (S1 < ((l.length : Nat) : Int))) = true then ((idx l S1).bind fun E6 =>
  ((impl_isKey E6.Key).bind fun R11 =>
  if (!R11) = true then (some true)
  else ((impl_isVal E6.Del E6.Val).bind fun R15 =>
  some (!R15))).bind (fun (T9 : Bool) =>
  if T9 = true then (some (.done (.done false)))
  else (some (.go (IntKind.i64.wrap (S1 + (1 : Int)))))))
  else (some (.done (.go ()))))
  (0 : Int))
  (fun (T3 : Unit) => (impl_inRange ((l.length : Nat) : Int) (1 : Int) (6 : Int)).bind fun R19 =>
  some R19)

theorem impl_BatchOk_c {l : List Op} {U0 : Value} : Cn Try.prog 26 [U0] [] [(U0, lc l)] (impl_BatchOk l) (fun r (_ : Unit) => .bool r) fun _ _ => [] := by
  unfold impl_BatchOk
  refine Ci Try.func26 r r ?_
  rintro w S ⟨Z0,-⟩
  refine Sr<|Qs 1 r<|Nx<|Sq<|Sr<|Qs 1 r<|Yo (Ln ke31 (Bc Z0) r)<|Qs 1 r<|Nx<|Ju [0] (fun _=>[]) r1 (?_) fun T3=>?_
  ·refine Wb<|Lu [0,5,6] (fun T=>[(7, iv T)]) r1 fun S1=>Sr<|Qs 1 r<|Nx<|Sq<|Wc r (fun H5=>?_) fun H5=>?_
   ·refine Sn<|Sq<|Wb<|Sr<|Bi fun E6 H7=>Yo (Ix ke31 (Bc Z0) H7 r)<|Yo (Le kk52 (Bc Z0) H7 r)<|Fo (Al kz52 r) fun B8=>Fu (Sb 0 kk52 r (Cp r) r)<|Nx<|Sq<|Jb Unit [0,5,6,7] [] (fun T _=>[(22, .bool T)]) (fun _ _=>[]) r2 r2 (?_) fun T9 X10=>?_
    ·exact Rg<|Yo (Fb kf52_0 r)<|Yo (Lb 0 kk9 r)<|Bi fun R11 H12=>Fo (Cl [] impl_isKey_c H12 r r1) fun _=>Qs 2 r<|It (fun H14=>Of 6 (beq_tf H14) r r<|Yo (Pt H14 r)<|Nl<|Bg () []) fun H14=>Yg (gdA (beq_ff H14)) (Fb kf52_1 r)<|Yg (gdA (beq_ff H14)) (Lb 0 kk4 r)<|Yg (gdA (beq_ff H14)) (Fb kf52_2 r)<|Yg (gdA (beq_ff H14)) (Lb 0 kk9 r)<|Bi fun R15 H16=>Fg (gdA (beq_ff H14)) (Cl [] impl_isVal_c H16 r r1) fun _=>Qg 1 (beq_ff H14) r r<|Yo (Pf H14 r)<|Nl<|Bg () []
    exact Ne<|Wc r (fun H18=>Sr<|Qs 1 r<|Nx<|Wr<|Br<|Tr<|Er<|Br<|Jd<|Tr<|Re () []) fun H18=>Sk<|Bn<|Ne<|Rg<|Qs 2 r<|Nl<|Lg () []
   exact Wx<|Tx<|Ex<|Be<|Jg () []
  exact Ne<|Sr<|Qs 1 r<|Yo (Ln ke31 (Bc Z0) r)<|Bi fun R19 H20=>Fo (Cl [] impl_inRange_c H20 r r1) fun _=>Qs 1 r<|Nx<|Wr<|Re () []

/-- loop.example/g00950/impl.Fixed -/
noncomputable def impl_Fixed (n : Int) (width : Int) : Option (List UInt8) :=
  ((impl_inRange width (1 : Int) (7 : Int)).bind fun R3 =>
  if (!R3) = true then (some true)
  else (if (decide (n < (0 : Int))) = true then (some true)
  else (some (!(decide (ishr .i64 n (IntKind.u64.wrap (IntKind.i64.wrap ((8 : Int) * width))) = (0 : Int))))))).bind (fun (T1 : Bool) =>
  if T1 = true then (some ([]))
  else ((mkLen 1 width).bind fun E10 =>
  bindC (loopO (fun (S12 : Int × Int × List UInt8) => if (decide (S12.2.1 ≥ (0 : Int))) = true then ((idx S12.2.2 S12.2.1).bind fun E17 =>
  some (.go (ishr .i64 S12.1 (8 : Int), IntKind.i64.wrap (S12.2.1 - (1 : Int)), (S12.2.2.set S12.2.1.toNat (toU8 S12.1)))))
  else (some (.done (.go S12.2.2))))
  (n, IntKind.i64.wrap (width - (1 : Int)), (List.replicate E10 (0 : UInt8))))
  (fun (T14 : List UInt8) => some T14)))

theorem impl_Fixed_c {n : Int} {width : Int} : Cn Try.prog 64 [iv n, iv width] [] [] (impl_Fixed n width) (fun r (_ : Unit) => strV r) fun _ _ => [] := by
  unfold impl_Fixed
  refine Ci Try.func64 r r ?_
  rintro w S -
  refine Sr<|Qs 1 r<|Nx<|Sq<|Sq<|Jv [0,1] (fun T=>[(21, .bool T)]) r1 (?_) fun T1=>?_
  ·exact Rg<|Qs 1 r<|Bi fun R3 H4=>Fo (Cl [] impl_inRange_c H4 r r1) fun _=>Qs 2 r<|It (fun H6=>Of 2 (beq_tf H6) r r<|Yo (Pt H6 r)<|Qs 1 r<|Of 6 r r r<|Yo (Pt r r)<|Nl<|Bg () []) fun H6=>Qg 2 (beq_ff H6) r r<|Yo (Pf H6 r)<|Qs 1 r<|It (fun H7=>Of 6 (beq_tf H7) r r<|Yo (Pt H7 r)<|Nl<|Bg () []) fun H7=>Qg 3 (beq_ff H7) r r<|Yg (gdA (beq_ff H7)) (Y.conv ki3 ki57 r)<|Yg (gdA (beq_ff H7)) (Y.shr (wrap_u_nonneg r _) r r)<|Qg 1 (beq_ff H7) r r<|Yo (Pf H7 r)<|Nl<|Bg () []
  refine Ne<|Wc r (fun H8=>Sr<|Qs 1 r<|Nx<|Wr<|Tr<|Re () []) fun H8=>Sn<|Sr<|Qs 1 r<|Bi fun E10 H11=>Fo (Mk (0 : UInt8) H11 ke29 kz5) fun V9=>Qs 1 r<|Nx<|Sq<|Sr<|Qs 3 r<|Nx<|Jn Unit [5] [] (fun _ _=>[]) (fun T _=>[.own V9 (lc T)]) r2 r2 (?_) fun T14 X15=>?_
  ·exact Wb<|Lp Unit [5] [] (fun T _=>[(0, iv T.1), (6, iv T.2.1)]) (fun T _=>[.own V9 (lc T.2.2)]) () [0] r2 r2 fun S12 X13=>Sq<|Sr<|Qs 2 r<|Nx<|Wc r (fun H16=>Sn<|Sq<|Wb<|Sr<|Qs 3 r<|Yo (Y.conv8 ki3 ki5 r)<|Bi fun E17 H18=>Yo (Ix ke29 (Oc 0 r) H18 r)<|Fu (Se (toU8 S12.1) 0 kk5 H18 r (Cp r) r)<|Nx<|Rg<|Qs 1 r<|Yo (Y.shr (by decide) r r)<|Qs 1 r<|Nl<|Bn<|Ne<|Rg<|Qs 3 r<|Nl<|Lg () [0]) fun H16=>Wx<|Tx<|Ex<|Be<|Jg () [0]
  exact Ne<|Sr<|Qs 1 r<|Yo (Y.toStr ke29 ki5 ks9 (Oc 0 r) r)<|Qs 1 r<|Nx<|Wr<|Re () []

/-- loop.example/g00950/impl.NonceOf -/
noncomputable def impl_NonceOf (kind : Int) (n : Int) : Option (List UInt8) :=
  ((impl_inRange kind (0 : Int) (255 : Int)).bind fun R3 =>
  if (!R3) = true then (some true)
  else ((impl_inRange n (0 : Int) (562949953421311 : Int)).bind fun R7 =>
  some (!R7))).bind (fun (T1 : Bool) =>
  if T1 = true then (some ([]))
  else ((impl_Fixed n (7 : Int)).bind fun R12 =>
  (cat ([toU8 kind, (0 : UInt8), (0 : UInt8), (0 : UInt8), (0 : UInt8)]) R12).bind fun E17 =>
  some E17))

theorem impl_NonceOf_c {kind : Int} {n : Int} : Cn Try.prog 38 [iv kind, iv n] [] [] (impl_NonceOf kind n) (fun r (_ : Unit) => strV r) fun _ _ => [] := by
  unfold impl_NonceOf
  refine Ci Try.func38 r r ?_
  rintro w S -
  refine Sr<|Qs 1 r<|Nx<|Sq<|Sq<|Jv [0,1] (fun T=>[(12, .bool T)]) r1 (?_) fun T1=>?_
  ·exact Rg<|Qs 1 r<|Bi fun R3 H4=>Fo (Cl [] impl_inRange_c H4 r r1) fun _=>Qs 2 r<|It (fun H6=>Of 3 (beq_tf H6) r r<|Yo (Pt H6 r)<|Nl<|Bg () []) fun H6=>Qg 1 (beq_ff H6) r r<|Bi fun R7 H8=>Fg (gdA (beq_ff H6)) (Cl [] impl_inRange_c H8 r r1) fun _=>Qg 1 (beq_ff H6) r r<|Yo (Pf H6 r)<|Nl<|Bg () []
  refine Ne<|Wc r (fun H10=>Sr<|Qs 1 r<|Nx<|Wr<|Tr<|Re () []) fun H10=>Sn<|Sq<|Wi fun R12 H13=>Wi fun E17 H18=>Jw Unit [] [] (fun _=>[(4, strV E17)]) (fun _=>[]) r1 r1 (?_) fun X20=>?_
  ·refine Dr [] r hMix<|Aq [0] [] r<|Ay 1 [] r (Y.conv8 ki3 ki5 r)<|Aq [4] [] r<|A2 2 5 (?_)<|?_
   ·exact Xe [] r (Bs [toU8 kind, (0 : UInt8), (0 : UInt8), (0 : UInt8), (0 : UInt8)] ke29 kz5) fun B21=>A2 3 5 (Xy [] r (Y.toStr ke29 ki5 ks9 (Oc 0 r) r)<|A1 5<|Xe [] r (Cl [] impl_Fixed_c H13 r r1) fun _=>Ay 6 [] r (Y.cat H18 r r)<|Aq [7] [] r<|Az<|Bg () [])<|Xe [] r (Cl [] impl_Fixed_c H13 r r1) fun _=>A1 3<|Xy [] r (Y.toStr ke29 ki5 ks9 (Oc 0 r) r)<|Ay 6 [] r (Y.cat H18 r r)<|Aq [7] [] r<|Az<|Bg () []
   exact Xe [] r (Cl [] impl_Fixed_c H13 r r1) fun _=>A1 2<|Xe [] r (Bs [toU8 kind, (0 : UInt8), (0 : UInt8), (0 : UInt8), (0 : UInt8)] ke29 kz5) fun B23=>A1 3<|Xy [] r (Y.toStr ke29 ki5 ks9 (Oc 0 r) r)<|Ay 6 [] r (Y.cat H18 r r)<|Aq [7] [] r<|Az<|Bg () []
  exact Ne<|Wr<|Re () []

/-- loop.example/g00950/impl.rowNonce -/
noncomputable def impl_rowNonce (boot : Int) (seq : Int) : Option (List UInt8) :=
  (impl_NonceOf (3 : Int) (IntKind.i64.wrap (IntKind.i64.wrap (boot * (1000000 : Int)) + seq))).bind fun R1 =>
  some R1

theorem impl_rowNonce_c {boot : Int} {seq : Int} : Cn Try.prog 20 [iv boot, iv seq] [] [] (impl_rowNonce boot seq) (fun r (_ : Unit) => strV r) fun _ _ => [] := by
  unfold impl_rowNonce
  refine Ci Try.func20 r r ?_
  rintro w S -
  exact Sr<|Qs 1 r<|Nx<|Sr<|Qs 4 r<|Bi fun R1 H2=>Fo (Cl [] impl_NonceOf_c H2 r r1) fun _=>Qs 1 r<|Nx<|Wr<|Re () []

/-- loop.example/g00950/impl.Var -/
noncomputable def impl_Var (n : Int) : Option (List UInt8) :=
  (impl_inRange n (0 : Int) (562949953421311 : Int)).bind fun R1 =>
  if (!R1) = true then (some ([]))
  else (bindC (loopO (fun (S5 : Int × List UInt8) => if (decide (S5.1 > (127 : Int))) = true then ((app 1 S5.2 ([toU8 (ior .i64 (128 : Int) (iand .i64 S5.1 (127 : Int)))])).bind fun E12 =>
  some (.go (ishr .i64 S5.1 (7 : Int), E12)))
  else (some (.done (.go (S5.1, S5.2)))))
  (n, ([] : List UInt8)))
  (fun (T7 : Int × List UInt8) => (app 1 T7.2 ([toU8 T7.1])).bind fun E16 =>
  some E16))

theorem impl_Var_c {n : Int} : Cn Try.prog 53 [iv n] [] [] (impl_Var n) (fun r (_ : Unit) => strV r) fun _ _ => [] := by
  unfold impl_Var
  refine Ci Try.func53 r r ?_
  rintro w S -
  refine Sr<|Qs 1 r<|Nx<|Sq<|Sr<|Qs 1 r<|Bi fun R1 H2=>Fo (Cl [] impl_inRange_c H2 r r1) fun _=>Qs 1 r<|Nx<|Wc r (fun H4=>Sr<|Qs 1 r<|Nx<|Wr<|Tr<|Re () []) fun H4=>Sn<|Sr<|Qs 1 r<|Nx<|Sq<|Jn Value [] [] (fun T X=>[(0, iv T.1), (3, X)]) (fun T X=>[.own X (lc T.2)]) r2 r2 (?_) fun T7 X8=>?_
  ·refine Wb<|Nw 1<|Lp Value [] [] (fun T X=>[(0, iv T.1), (3, X)]) (fun T X=>[.own X (lc T.2)]) (.slice none 0 0) [0] r2 r2 fun S5 X6=>Sq<|Sr<|Qs 2 r<|Nx<|Wc r (fun H9=>?_) fun H9=>?_
   ·exact Sn<|Wb<|Sr<|Qs 4 r<|Yo (Y.conv8 ki3 ki5 r)<|Fo (Bs [toU8 (ior .i64 (128 : Int) (iand .i64 S5.1 (127 : Int)))] ke29 kz5) fun B10=>Bi fun E12 H13=>Fo (Ap [1] H13 ke29 kz5 r (Oc 0 r)) fun V11=>Qs 1 r<|Nx<|Rg<|Qs 1 r<|Yo (Y.shr (by decide) r r)<|Qs 1 r<|Nl<|Bn<|Lg V11 [0]
   exact Wx<|Tx<|Ex<|Be<|Jg X6 [0]
  exact Ne<|Sr<|Qs 2 r<|Yo (Y.conv8 ki3 ki5 r)<|Fo (Bs [toU8 T7.1] ke29 kz5) fun B14=>Bi fun E16 H17=>Fo (Ap [1] H17 ke29 kz5 r (Oc 0 r)) fun V15=>Yo (Y.toStr ke29 ki5 ks9 (Oc 0 r) r)<|Qs 1 r<|Nx<|Wr<|Re () []

/-- loop.example/g00950/impl.flag -/
noncomputable def impl_flag (on : Bool) : Option (List UInt8) :=
  if on = true then (some ([1]))
  else (some ([0]))

theorem impl_flag_c {on : Bool} : Cn Try.prog 54 [.bool on] [] [] (impl_flag on) (fun r (_ : Unit) => strV r) fun _ _ => [] := by
  unfold impl_flag
  refine Ci Try.func54 r r ?_
  rintro w S -
  exact Sr<|Qs 1 r<|Nx<|Sq<|Sr<|Qs 1 r<|Nx<|Wc r (fun H1=>Sr<|Qs 1 r<|Nx<|Wr<|Tr<|Re () []) fun H1=>Sn<|Sr<|Qs 1 r<|Nx<|Wr<|Re () []

/-- loop.example/g00950/impl.short -/
noncomputable def impl_short (s : List UInt8) : Option (List UInt8) :=
  (impl_Var ((s.length : Nat) : Int)).bind fun R1 =>
  (cat R1 s).bind fun E4 =>
  some E4

theorem impl_short_c {s : List UInt8} : Cn Try.prog 55 [strV s] [] [] (impl_short s) (fun r (_ : Unit) => strV r) fun _ _ => [] := by
  unfold impl_short
  refine Ci Try.func55 r r ?_
  rintro w S -
  exact Sr<|Qs 1 r<|Nx<|Sr<|Qs 1 r<|Yo (Y.slen ks9 r)<|Bi fun R1 H2=>Fo (Cl [] impl_Var_c H2 r r1) fun _=>Qs 1 r<|Bi fun E4 H5=>Yo (Y.cat H5 r r)<|Qs 1 r<|Nx<|Wr<|Re () []

/-- strings.Builder -/
theorem strings_Builder_copyCheck_new (B : Nat) : Con Try.prog 68 [.pointer (some ⟨B, 0, none⟩)] [.box B 63 [.pointer none, .slice none 0 0]] [] (fun _ : Unit => .tuple #[]) (fun _ => [.box B 63 [.pointer (some ⟨B, 0, none⟩), .slice none 0 0]]) := by
  refine Con.intro (args := [.pointer (some ⟨B, 0, none⟩)]) (n := 20) (val := fun _ (_ : Unit) => .tuple #[]) (post := fun _ _ => [.box B 63 [.pointer (some ⟨B, 0, none⟩), .slice none 0 0]]) (m := some ()) (r := ()) Try.func68 rfl rfl rfl rfl ?_
  intro w S _
  refine TW.seq ?_
  refine TW.region ?_
  refine TO.y (Y.move rfl) rfl rfl rfl ?_
  refine TO.y (Y.nilCheck rfl) rfl rfl rfl ?_
  refine TO.y (Y.field_box kf63_0 rfl rfl) rfl rfl rfl ?_
  refine TO.y (Y.load_box (v := .pointer none) 0 kk61 rfl rfl rfl) rfl rfl rfl ?_
  refine TO.y (Y.ptr_nil kp61 rfl rfl) rfl rfl rfl ?_
  refine TO.nil ?_
  refine TE.next ?_
  refine TW.cond_true rfl ?_
  refine TW.region ?_
  refine TO.y (Y.move rfl) rfl rfl rfl ?_
  refine TO.y (Y.move rfl) rfl rfl rfl ?_
  refine TO.y (Y.toUnsafe 0 kp61 rfl ku105 rfl rfl rfl) rfl rfl rfl ?_
  refine TO.y (Y.noEscape Try.func77 (by kernel_rfl) (by kernel_rfl) (by kernel_rfl) (by kernel_rfl) rfl) rfl rfl rfl ?_
  refine TO.y (Y.fromUnsafe 0 kp61 ku105 rfl kl63 rfl) rfl rfl rfl ?_
  refine TO.y (Y.nilCheck rfl) rfl rfl rfl ?_
  refine TO.y (Y.field_box kf63_0 rfl rfl) rfl rfl rfl ?_
  refine TO.ef0 (Ef.store_box (us := [.pointer (some ⟨B, 0, none⟩)]) (vs' := [.pointer (some ⟨B, 0, none⟩), .slice none 0 0]) (is' := [.box B 63 [.pointer (some ⟨B, 0, none⟩), .slice none 0 0]]) 0 kk61 rfl rfl rfl (Cel.plain rfl rfl) rfl rfl rfl rfl) rfl rfl (fun _ => ?_)
  refine TO.nil ?_
  exact TE.leaf fun _ _ hf_ hs_ => ret_any (rs := []) (vs := []) (.inr rfl) rfl trivial hf_ hs_ ⟨(), rfl, hs_.pulls [0] rfl⟩

theorem strings_Builder_copyCheck_old (B : Nat) (V : Value) : Con Try.prog 68 [.pointer (some ⟨B, 0, none⟩)] [.box B 63 [.pointer (some ⟨B, 0, none⟩), V]] [] (fun _ : Unit => .tuple #[]) (fun _ => [.box B 63 [.pointer (some ⟨B, 0, none⟩), V]]) := by
  refine Con.intro (args := [.pointer (some ⟨B, 0, none⟩)]) (n := 20) (val := fun _ (_ : Unit) => .tuple #[]) (post := fun _ _ => [.box B 63 [.pointer (some ⟨B, 0, none⟩), V]]) (m := some ()) (r := ()) Try.func68 rfl rfl rfl rfl ?_
  intro w S _
  refine TW.seq ?_
  refine TW.region ?_
  refine TO.y (Y.move rfl) rfl rfl rfl ?_
  refine TO.y (Y.nilCheck rfl) rfl rfl rfl ?_
  refine TO.y (Y.field_box kf63_0 rfl rfl) rfl rfl rfl ?_
  refine TO.y (Y.load_box (v := .pointer (some ⟨B, 0, none⟩)) 0 kk61 rfl rfl rfl) rfl rfl rfl ?_
  refine TO.y (Y.ptr_some kp61 rfl rfl) rfl rfl rfl ?_
  refine TO.nil ?_
  refine TE.next ?_
  refine TW.cond_false rfl ?_
  refine TW.seq ?_
  refine TW.region ?_
  refine TO.y (Y.move rfl) rfl rfl rfl ?_
  refine TO.y (Y.nilCheck rfl) rfl rfl rfl ?_
  refine TO.y (Y.field_box kf63_0 rfl rfl) rfl rfl rfl ?_
  refine TO.y (Y.load_box (v := .pointer (some ⟨B, 0, none⟩)) 0 kk61 rfl rfl rfl) rfl rfl rfl ?_
  refine TO.y (Y.move rfl) rfl rfl rfl ?_
  refine TO.y (Y.ptr_self kp61 rfl rfl) rfl rfl rfl ?_
  refine TO.nil ?_
  refine TE.next ?_
  refine TW.cond_false rfl ?_
  refine TW.skip ?_
  exact TE.leaf fun _ _ hf_ hs_ => ret_any (rs := []) (vs := []) (.inr rfl) rfl trivial hf_ hs_ ⟨(), rfl, hs_.pulls [0] rfl⟩

theorem strings_Builder_WriteString_new (s r : List UInt8) (B : Nat) (hm : app 1 ([] : List UInt8) s = some r) : Con Try.prog 42 [.pointer (some ⟨B, 0, none⟩), strV s] [.box B 63 [.pointer none, .slice none 0 0]] [] (fun _ : Value => .tuple #[.int .i64 s.length, .nilIface]) (fun X => [.box B 63 [.pointer (some ⟨B, 0, none⟩), X], .buf X 5 r]) := by
  refine Con.intro (args := [.pointer (some ⟨B, 0, none⟩), strV s]) (n := 19) (val := fun _ (_ : Value) => .tuple #[.int .i64 s.length, .nilIface]) (post := fun r X => [.box B 63 [.pointer (some ⟨B, 0, none⟩), X], .buf X 5 r]) (m := some r) (r := r) Try.func42 rfl rfl rfl rfl ?_
  intro w S _
  refine TW.seq ?_
  refine TW.region ?_
  refine TO.y (Y.assign rfl) rfl rfl rfl ?_
  refine TO.y (Y.assign rfl) rfl rfl rfl ?_
  refine TO.nil ?_
  refine TE.next ?_
  refine TW.seq ?_
  refine TW.region ?_
  refine TO.y (Y.move rfl) rfl rfl rfl ?_
  refine TO.ef (Ef.call (rest := []) [0] (strings_Builder_copyCheck_new B) kc68 rfl rfl trivial) rfl rfl rfl (fun _ => ?_)
  refine TO.nil ?_
  refine TE.next ?_
  refine TW.seq ?_
  refine TW.region ?_
  refine TO.y (Y.move rfl) rfl rfl rfl ?_
  refine TO.y (Y.move rfl) rfl rfl rfl ?_
  refine TO.y (Y.nilCheck rfl) rfl rfl rfl ?_
  refine TO.y (Y.field_box kf63_1 rfl rfl) rfl rfl rfl ?_
  refine TO.y (Y.load_box (v := .slice none 0 0) 0 kk29 rfl rfl rfl) rfl rfl rfl ?_
  refine TO.y (Y.move rfl) rfl rfl rfl ?_
  refine TO.ef (Ef.bufNew hm ke29 ks9 kz5 rfl rfl) rfl rfl rfl (fun X => ?_)
  refine TO.y (Y.nilCheck rfl) rfl rfl rfl ?_
  refine TO.y (Y.field_box kf63_1 rfl rfl) rfl rfl rfl ?_
  refine TO.ef0 (Ef.store_box (us := [X]) (vs' := [.pointer (some ⟨B, 0, none⟩), X]) (is' := [.buf X 5 r, .box B 63 [.pointer (some ⟨B, 0, none⟩), X]]) 1 kk29 rfl rfl rfl (Cel.one (One.buf (i := 0) rfl)) rfl rfl rfl rfl) rfl rfl (fun _ => ?_)
  refine TO.nil ?_
  refine TE.next ?_
  refine TW.seq ?_
  refine TW.region ?_
  refine TO.y (Y.move rfl) rfl rfl rfl ?_
  refine TO.y (Y.slen ks9 rfl) rfl rfl rfl ?_
  refine TO.y (Y.assign rfl) rfl rfl rfl ?_
  refine TO.y (Y.assign rfl) rfl rfl rfl ?_
  refine TO.nil ?_
  refine TE.next ?_
  refine TW.ret ?_
  exact TE.leaf fun _ _ hf_ hs_ => ret_any (rs := [.tmp 4, .tmp 5]) (vs := [.int .i64 s.length, .nilIface]) (.inl rfl) rfl ⟨rfl, rfl, trivial⟩ hf_ hs_ ⟨X, rfl, hs_.pulls [1, 0] rfl⟩

theorem strings_Builder_WriteString_old (l s r : List UInt8) (B : Nat) (V : Value) (hm : app 1 l s = some r) : Con Try.prog 42 [.pointer (some ⟨B, 0, none⟩), strV s] [.box B 63 [.pointer (some ⟨B, 0, none⟩), V], .buf V 5 l] [] (fun _ : Value => .tuple #[.int .i64 s.length, .nilIface]) (fun X => [.box B 63 [.pointer (some ⟨B, 0, none⟩), X], .buf X 5 r]) := by
  refine Con.intro (args := [.pointer (some ⟨B, 0, none⟩), strV s]) (n := 19) (val := fun _ (_ : Value) => .tuple #[.int .i64 s.length, .nilIface]) (post := fun r X => [.box B 63 [.pointer (some ⟨B, 0, none⟩), X], .buf X 5 r]) (m := some r) (r := r) Try.func42 rfl rfl rfl rfl ?_
  intro w S _
  refine TW.seq ?_
  refine TW.region ?_
  refine TO.y (Y.assign rfl) rfl rfl rfl ?_
  refine TO.y (Y.assign rfl) rfl rfl rfl ?_
  refine TO.nil ?_
  refine TE.next ?_
  refine TW.seq ?_
  refine TW.region ?_
  refine TO.y (Y.move rfl) rfl rfl rfl ?_
  refine TO.ef (Ef.call (rest := [.buf V 5 l]) [0, 0] (strings_Builder_copyCheck_old B V) kc68 rfl rfl trivial) rfl rfl rfl (fun _ => ?_)
  refine TO.nil ?_
  refine TE.next ?_
  refine TW.seq ?_
  refine TW.region ?_
  refine TO.y (Y.move rfl) rfl rfl rfl ?_
  refine TO.y (Y.move rfl) rfl rfl rfl ?_
  refine TO.y (Y.nilCheck rfl) rfl rfl rfl ?_
  refine TO.y (Y.field_box kf63_1 rfl rfl) rfl rfl rfl ?_
  refine TO.y (Y.load_box (v := V) 0 kk29 rfl rfl rfl) rfl rfl rfl ?_
  refine TO.y (Y.move rfl) rfl rfl rfl ?_
  refine TO.ef (Ef.bufAppend [1, 0] hm ke29 ks9 kz5 rfl rfl rfl) rfl rfl rfl (fun X => ?_)
  refine TO.y (Y.nilCheck rfl) rfl rfl rfl ?_
  refine TO.y (Y.field_box kf63_1 rfl rfl) rfl rfl rfl ?_
  refine TO.ef0 (Ef.store_box (us := [X]) (vs' := [.pointer (some ⟨B, 0, none⟩), X]) (is' := [.buf X 5 r, .box B 63 [.pointer (some ⟨B, 0, none⟩), X]]) 1 kk29 rfl rfl rfl (Cel.one (One.buf (i := 0) rfl)) rfl rfl rfl rfl) rfl rfl (fun _ => ?_)
  refine TO.nil ?_
  refine TE.next ?_
  refine TW.seq ?_
  refine TW.region ?_
  refine TO.y (Y.move rfl) rfl rfl rfl ?_
  refine TO.y (Y.slen ks9 rfl) rfl rfl rfl ?_
  refine TO.y (Y.assign rfl) rfl rfl rfl ?_
  refine TO.y (Y.assign rfl) rfl rfl rfl ?_
  refine TO.nil ?_
  refine TE.next ?_
  refine TW.ret ?_
  exact TE.leaf fun _ _ hf_ hs_ => ret_any (rs := [.tmp 4, .tmp 5]) (vs := [.int .i64 s.length, .nilIface]) (.inl rfl) rfl ⟨rfl, rfl, trivial⟩ hf_ hs_ ⟨X, rfl, hs_.pulls [1, 0] rfl⟩

theorem strings_Builder_String_con (l : List UInt8) (B : Nat) (V : Value) (r : List UInt8) (hm : strOf l = some r) : Con Try.prog 44 [.pointer (some ⟨B, 0, none⟩)] [.box B 63 [.pointer (some ⟨B, 0, none⟩), V], .buf V 5 l] [] (fun _ : Unit => strV r) (fun _ => [.box B 63 [.pointer (some ⟨B, 0, none⟩), V]]) := by
  obtain ⟨hl, hr_⟩ := strOf_eq hm
  subst hr_
  refine Con.intro (args := [.pointer (some ⟨B, 0, none⟩)]) (n := 14) (val := fun _ (_ : Unit) => strV l) (post := fun _ _ => [.box B 63 [.pointer (some ⟨B, 0, none⟩), V]]) (m := some ()) (r := ()) Try.func44 rfl rfl rfl rfl ?_
  intro w S _
  refine TW.fact (buf_place (i := 1) rfl hl) fun hpl => ?_
  obtain ⟨g, c, rfl, hc⟩ := hpl
  refine TW.seq ?_
  refine TW.region ?_
  refine TO.y (Y.assign rfl) rfl rfl rfl ?_
  refine TO.nil ?_
  refine TE.next ?_
  refine TW.seq ?_
  refine TW.draw (isH := [.box B 63 [.pointer (some ⟨B, 0, none⟩), .slice (some ⟨g, 0, none⟩) l.length c]]) hMix ?_
  refine TA.y 0 [0] rfl (Y.move rfl) rfl rfl rfl (by kernel_rfl) rfl ?_
  refine TA.y 1 [0] rfl (Y.nilCheck rfl) rfl rfl rfl (by kernel_rfl) rfl ?_
  refine TA.y 2 [0] rfl (Y.field_box kf63_1 rfl rfl) rfl rfl rfl (by kernel_rfl) rfl ?_
  refine TA.y 3 [0] rfl (Y.load_box (v := .slice (some ⟨g, 0, none⟩) l.length c) 0 kk29 rfl rfl rfl) rfl rfl rfl (by kernel_rfl) rfl ?_
  refine TA.y 4 [0] rfl (Y.sliceData hc rfl) rfl rfl rfl (by kernel_rfl) rfl ?_
  refine TA.y 5 [0] rfl (Y.move rfl) rfl rfl rfl (by kernel_rfl) rfl ?_
  refine TA.y 6 [0] rfl (Y.nilCheck rfl) rfl rfl rfl (by kernel_rfl) rfl ?_
  refine TA.y 7 [0] rfl (Y.field_box kf63_1 rfl rfl) rfl rfl rfl (by kernel_rfl) rfl ?_
  refine TA.y 8 [0] rfl (Y.load_box (v := .slice (some ⟨g, 0, none⟩) l.length c) 0 kk29 rfl rfl rfl) rfl rfl rfl (by kernel_rfl) rfl ?_
  refine TA.y 9 [0] rfl (Y.lenV ke29 rfl) rfl rfl rfl (by kernel_rfl) rfl ?_
  refine TA.one 10 (by kernel_rfl) ?_
  refine TX.ef [0] rfl (Ef.takeStr [1, 0] hl kp96 rfl rfl rfl rfl) rfl rfl rfl (fun _ => rfl) (fun _ => ?_)
  refine TA.y 11 [0] rfl (Y.assign rfl) rfl rfl rfl (by kernel_rfl) rfl ?_
  refine TA.nil (by kernel_rfl) ?_
  refine TE.next ?_
  refine TW.ret ?_
  exact TE.leaf fun _ _ hf_ hs_ => ret_any (rs := [.tmp 2]) (vs := [strV l]) (.inl rfl) rfl ⟨rfl, trivial⟩ hf_ hs_ ⟨(), rfl, hs_.pulls [0] rfl⟩

/-- loop.example/g00950/impl.ShowBatch -/
noncomputable def impl_ShowBatch (l : List Op) : Option (List UInt8) :=
  (impl_BatchOk l).bind fun R1 =>
  if (!R1) = true then (some ([]))
  else ((impl_Var ((l.length : Nat) : Int)).bind fun R6 =>
  (app 1 ([] : List UInt8) R6).bind fun R10 =>
  bindC (loopO (fun (S12 : Int × List UInt8) => if (decide (S12.1 < ((l.length : Nat) : Int))) = true then ((idx l S12.1).bind fun E17 =>
  (impl_flag E17.Del).bind fun R20 =>
  (impl_short E17.Key).bind fun R23 =>
  (cat R20 R23).bind fun E26 =>
  (app 1 S12.2 E26).bind fun R29 =>
  bindC (if (!E17.Del) = true then ((impl_short E17.Val).bind fun R34 =>
  (app 1 R29 R34).bind fun R38 =>
  some (.go R38))
  else (some (.go R29)))
  (fun (T31 : List UInt8) => some (.go (IntKind.i64.wrap (S12.1 + (1 : Int)), T31))))
  else (some (.done (.go S12.2))))
  ((0 : Int), R10))
  (fun (T14 : List UInt8) => (strOf T14).bind fun R40 =>
  some R40))

theorem impl_ShowBatch_c {l : List Op} {U0 : Value} : Cn Try.prog 27 [U0] [] [(U0, lc l)] (impl_ShowBatch l) (fun r (_ : Unit) => strV r) fun _ _ => [] := by
  unfold impl_ShowBatch
  refine Ci Try.func27 r r ?_
  rintro w S ⟨Z0,-⟩
  refine Sr<|Qs 1 r<|Nx<|Sq<|Sr<|Qs 1 r<|Bi fun R1 H2=>Fo (Cl [] impl_BatchOk_c H2 r r1 ⟨(Bc Z0),⟨⟩⟩) fun _=>Qs 1 r<|Nx<|Wc r (fun H4=>Sr<|Qs 1 r<|Nx<|Wr<|Tr<|Re () []) fun H4=>Sn<|Sr<|Fo (Al kz63 r) fun B5=>Nx<|Sr<|Qs 1 r<|Yo (Ln ke31 (Bc Z0) r)<|Bi fun R6 H7=>Fo (Cl [] impl_Var_c H7 r r1) fun _=>Bi fun R10 H11=>Fo (Cm [0] (strings_Builder_WriteString_new R6 R10 B5 H11) kc42 r r1) fun Y9=>Nx<|Sq<|Sr<|Qs 1 r<|Yo (Ln ke31 (Bc Z0) r)<|Qs 1 r<|Nx<|Jn Value [3] [] (fun _ _=>[]) (fun T X=>[.box B5 63 [pt B5, X], .buf X 5 T]) r2 r2 (?_) fun T14 X15=>?_
  ·refine Wb<|Lp Value [3,13,14] [] (fun T _=>[(15, iv T.1)]) (fun T X=>[.box B5 63 [pt B5, X], .buf X 5 T.2]) Y9 [0,0] r2 r2 fun S12 X13=>Sr<|Qs 1 r<|Nx<|Sq<|Wc r (fun H16=>?_) fun H16=>?_
   ·refine Sn<|Sq<|Wb<|Sr<|Bi fun E17 H18=>Yo (Ix ke31 (Bc Z0) H18 r)<|Yo (Le kk52 (Bc Z0) H18 r)<|Fo (Al kz52 r) fun B19=>Fu (Sb 0 kk52 r (Cp r) r)<|Nx<|Sq<|Dr [0] r hMix<|Ay 0 [0] r (Fb kf52_1 r)<|Ay 1 [0] r (Lb 0 kk4 r)<|Ay 3 [0] r (Fb kf52_0 r)<|Ay 4 [0] r (Lb 0 kk9 r)<|Ai fun R20 H21=>A1 2<|Xe [0] r (Cl [] impl_flag_c H21 r r1) fun _=>Ai fun R23 H24=>A1 5<|Xe [0] r (Cl [] impl_short_c H24 r r1) fun _=>Ai fun E26 H27=>Ay 6 [0] r (Y.cat H27 r r)<|Ai fun R29 H30=>A1 7<|Xe [2] r (Cm [1, 1] (strings_Builder_WriteString_old S12.2 E26 R29 B5 X13 H30) kc42 r r1) fun Y28=>?_
    exact Az<|Ne<|Sr<|Yo (Fb kf52_1 r)<|Yo (Lb 2 kk4 r)<|Qs 1 r<|Nx<|Jn Value [3,13,14,15] [] (fun _ _=>[]) (fun T X=>[.box B5 63 [pt B5, X], .buf X 5 T]) r2 r2 (Wc r (fun H33=>Rg<|Yo (Fb kf52_2 r)<|Yo (Lb 2 kk9 r)<|Bi fun R34 H35=>Fo (Cl [] impl_short_c H35 r r1) fun _=>Bi fun R38 H39=>Fo (Cm [0, 0] (strings_Builder_WriteString_old R29 R34 R38 B5 Y28 H39) kc42 r r1) fun Y37=>Nl<|Jg Y37 [0,0]) fun H33=>Sk<|Jg Y28 [0,0]) fun T31 X32=>Bn<|Ne<|Rg<|Qs 2 r<|Nl<|Lg X32 [0,0]
   exact Wx<|Tx<|Ex<|Be<|Jg X13 [0,0]
  exact Ne<|Sr<|Bi fun R40 H41=>Fo (Cm [0, 0] (strings_Builder_String_con T14 B5 X15 R40 H41) kc44 r r1) fun _=>Qs 1 r<|Nx<|Wr<|Re () []

/-- loop.example/g00950/impl.isCha -/
noncomputable def impl_isCha (key : List UInt8) (counter : Int) (nonce : List UInt8) : Option Bool :=
  (if (decide (((key.length : Nat) : Int) = (32 : Int))) = true then ((impl_inRange counter (0 : Int) (4294967295 : Int)).bind fun R4 =>
  if R4 = true then (some (decide (((nonce.length : Nat) : Int) = (12 : Int))))
  else (some false))
  else (some false)).bind (fun (T1 : Bool) =>
  some T1)

theorem impl_isCha_c {key : List UInt8} {counter : Int} {nonce : List UInt8} : Cn Try.prog 36 [strV key, iv counter, strV nonce] [] [] (impl_isCha key counter nonce) (fun r (_ : Unit) => .bool r) fun _ _ => [] := by
  unfold impl_isCha
  refine Ci Try.func36 r r ?_
  rintro w S -
  refine Sr<|Qs 1 r<|Nx<|Sq<|Jv [] (fun T=>[(6, .bool T)]) r1 (?_) fun T1=>?_
  ·refine Rg<|Qs 1 r<|Yo (Y.slen ks9 r)<|Qs 2 r<|It (fun H3=>?_) fun H3=>?_
   ·exact Qg 1 (beq_tt H3) r r<|Bi fun R4 H5=>Fg (gdA (beq_tt H3)) (Cl [] impl_inRange_c H5 r r1) fun _=>Yo (Pt H3 r)<|Qs 1 r<|It (fun H7=>Qg 1 (beq_tt H7) r r<|Yg (gdA (beq_tt H7)) (Y.slen ks9 r)<|Qg 1 (beq_tt H7) r r<|Yo (Pt H7 r)<|Qs 1 r<|Nl<|Bg () []) fun H7=>Of 3 (beq_ft H7) r r<|Yo (Pf H7 r)<|Qs 1 r<|Nl<|Bg () []
   exact Of 2 (beq_ft H3) r r<|Yo (Pf H3 r)<|Qs 1 r<|Of 3 r r r<|Yo (Pf r r)<|Qs 1 r<|Nl<|Bg () []
  exact Ne<|Wr<|Re () []

/-- loop.example/g00950/impl.little -/
noncomputable def impl_little (s : List UInt8) (at_ : Int) : Option Int :=
  (sidx s at_).bind fun E1 =>
  (sidx s (IntKind.i64.wrap (at_ + (1 : Int)))).bind fun E3 =>
  (sidx s (IntKind.i64.wrap (at_ + (2 : Int)))).bind fun E5 =>
  (sidx s (IntKind.i64.wrap (at_ + (3 : Int)))).bind fun E7 =>
  some (ior .u32 (ior .u32 (ior .u32 (IntKind.u32.wrap ((E1.toNat : Nat) : Int)) (ishl .u32 (IntKind.u32.wrap ((E3.toNat : Nat) : Int)) (8 : Int))) (ishl .u32 (IntKind.u32.wrap ((E5.toNat : Nat) : Int)) (16 : Int))) (ishl .u32 (IntKind.u32.wrap ((E7.toNat : Nat) : Int)) (24 : Int)))

theorem impl_little_c {s : List UInt8} {at_ : Int} : Cn Try.prog 75 [strV s, iv at_] [] [] (impl_little s at_) (fun r (_ : Unit) => .int .u32 r) fun _ _ => [] := by
  unfold impl_little
  refine Ci Try.func75 r r ?_
  rintro w S -
  exact Sr<|Qs 1 r<|Nx<|Sq<|Dr [] r hMix<|Aq [0,1] [] r<|Ai fun E1 H2=>Ay 2 [] r (Y.sidx H2 ks9 r r)<|Ay 3 [] r (Y.conv ki5 ki86 r)<|Aq [4,5,6] [] r<|Ai fun E3 H4=>Ay 7 [] r (Y.sidx H4 ks9 r r)<|Ay 8 [] r (Y.conv ki5 ki86 r)<|Ay 9 [] r (Y.shl (by decide) r r)<|Aq [10,11,12,13] [] r<|Ai fun E5 H6=>Ay 14 [] r (Y.sidx H6 ks9 r r)<|Ay 15 [] r (Y.conv ki5 ki86 r)<|Ay 16 [] r (Y.shl (by decide) r r)<|Aq [17,18,19,20] [] r<|Ai fun E7 H8=>Ay 21 [] r (Y.sidx H8 ks9 r r)<|Ay 22 [] r (Y.conv ki5 ki86 r)<|Ay 23 [] r (Y.shl (by decide) r r)<|Aq [24,25] [] r<|Az<|Ne<|Wr<|Re () []

/-- loop.example/g00950/impl.firstWords -/
noncomputable def impl_firstWords (key : List UInt8) (counter : Int) (nonce : List UInt8) : Option (List Wrd) :=
  (lenIs 16 ([(Wrd.mk (1634760805 : Int)), (Wrd.mk (857760878 : Int)), (Wrd.mk (2036477234 : Int)), (Wrd.mk (1797285236 : Int)), (Wrd.mk (0 : Int)), (Wrd.mk (0 : Int)), (Wrd.mk (0 : Int)), (Wrd.mk (0 : Int)), (Wrd.mk (0 : Int)), (Wrd.mk (0 : Int)), (Wrd.mk (0 : Int)), (Wrd.mk (0 : Int)), (Wrd.mk (0 : Int)), (Wrd.mk (0 : Int)), (Wrd.mk (0 : Int)), (Wrd.mk (0 : Int))])).bind fun E3 =>
  bindC (loopO (fun (S5 : Int × List Wrd) => if (decide (S5.1 < (8 : Int))) = true then ((impl_little key (IntKind.i64.wrap ((4 : Int) * S5.1))).bind fun R10 =>
  (idx S5.2 (IntKind.i64.wrap ((4 : Int) + S5.1))).bind fun E13 =>
  some (.go (IntKind.i64.wrap (S5.1 + (1 : Int)), (S5.2.set ((IntKind.i64.wrap ((4 : Int) + S5.1)).toNat) (Wrd.mk R10)))))
  else (some (.done (.go S5.2))))
  ((0 : Int), ([(Wrd.mk (1634760805 : Int)), (Wrd.mk (857760878 : Int)), (Wrd.mk (2036477234 : Int)), (Wrd.mk (1797285236 : Int)), (Wrd.mk (0 : Int)), (Wrd.mk (0 : Int)), (Wrd.mk (0 : Int)), (Wrd.mk (0 : Int)), (Wrd.mk (0 : Int)), (Wrd.mk (0 : Int)), (Wrd.mk (0 : Int)), (Wrd.mk (0 : Int)), (Wrd.mk (0 : Int)), (Wrd.mk (0 : Int)), (Wrd.mk (0 : Int)), (Wrd.mk (0 : Int))])))
  (fun (T7 : List Wrd) => (idx T7 (12 : Int)).bind fun E15 =>
  bindC (loopO (fun (S17 : Int × List Wrd) => if (decide (S17.1 < (3 : Int))) = true then ((impl_little nonce (IntKind.i64.wrap ((4 : Int) * S17.1))).bind fun R22 =>
  (idx S17.2 (IntKind.i64.wrap ((13 : Int) + S17.1))).bind fun E25 =>
  some (.go (IntKind.i64.wrap (S17.1 + (1 : Int)), (S17.2.set ((IntKind.i64.wrap ((13 : Int) + S17.1)).toNat) (Wrd.mk R22)))))
  else (some (.done (.go S17.2))))
  ((0 : Int), (T7.set ((12 : Int).toNat) (Wrd.mk (IntKind.u32.wrap counter)))))
  (fun (T19 : List Wrd) => (lenIs 16 T19).bind fun E27 =>
  some T19))

theorem impl_firstWords_c {key : List UInt8} {counter : Int} {nonce : List UInt8} : Cn Try.prog 62 [strV key, iv counter, strV nonce] [] [] (impl_firstWords key counter nonce) (fun r (_ : Unit) => arrV r) fun _ _ => [] := by
  unfold impl_firstWords
  refine Ci Try.func62 r r ?_
  rintro w S -
  refine Sr<|Fo (Ef.allocArr (α := Wrd) (List.replicate 16 (Wrd.mk 0)) kz87 r (by decide)) fun B1=>Nx<|Sr<|Yo (Y.build_arr (cells := [.int .u32 (1634760805 : Int), .int .u32 (857760878 : Int), .int .u32 (2036477234 : Int), .int .u32 (1797285236 : Int), .int .u32 (0 : Int), .int .u32 (0 : Int), .int .u32 (0 : Int), .int .u32 (0 : Int), .int .u32 (0 : Int), .int .u32 (0 : Int), .int .u32 (0 : Int), .int .u32 (0 : Int), .int .u32 (0 : Int), .int .u32 (0 : Int), .int .u32 (0 : Int), .int .u32 (0 : Int)]) (v := arrV ([(Wrd.mk (1634760805 : Int)), (Wrd.mk (857760878 : Int)), (Wrd.mk (2036477234 : Int)), (Wrd.mk (1797285236 : Int)), (Wrd.mk (0 : Int)), (Wrd.mk (0 : Int)), (Wrd.mk (0 : Int)), (Wrd.mk (0 : Int)), (Wrd.mk (0 : Int)), (Wrd.mk (0 : Int)), (Wrd.mk (0 : Int)), (Wrd.mk (0 : Int)), (Wrd.mk (0 : Int)), (Wrd.mk (0 : Int)), (Wrd.mk (0 : Int)), (Wrd.mk (0 : Int))])) [(0, [.int .u32 (1634760805 : Int)]), (1, [.int .u32 (857760878 : Int)]), (2, [.int .u32 (2036477234 : Int)]), (3, [.int .u32 (1797285236 : Int)])] ka87 kz87 ⟨r, ⟨_, r, (Cp r)⟩, ⟨r, ⟨_, r, (Cp r)⟩, ⟨r, ⟨_, r, (Cp r)⟩, ⟨r, ⟨_, r, (Cp r)⟩, ⟨⟩⟩⟩⟩⟩ r r r)<|Fo (Ef.allocArr (α := Wrd) (List.replicate 16 (Wrd.mk 0)) kz87 r (by decide)) fun B2=>?_
  refine Bi fun E3 H4=>Fu (Ef.store_arr (α := Wrd) (is' := [.own (arrS B2 16) (lc ([(Wrd.mk (1634760805 : Int)), (Wrd.mk (857760878 : Int)), (Wrd.mk (2036477234 : Int)), (Wrd.mk (1797285236 : Int)), (Wrd.mk (0 : Int)), (Wrd.mk (0 : Int)), (Wrd.mk (0 : Int)), (Wrd.mk (0 : Int)), (Wrd.mk (0 : Int)), (Wrd.mk (0 : Int)), (Wrd.mk (0 : Int)), (Wrd.mk (0 : Int)), (Wrd.mk (0 : Int)), (Wrd.mk (0 : Int)), (Wrd.mk (0 : Int)), (Wrd.mk (0 : Int))])), .own (arrS B1 16) (lc (List.replicate 16 (Wrd.mk 0)))]) 0 kk87 r (by decide) (lenIs_eq H4) r r r r)<|Nx<|Sq<|Sr<|Qs 1 r<|Nx<|Jn Unit [1,2,6,7] [1] (fun _ _=>[]) (fun T _=>[.own (arrS B2 16) (lc T)]) r2 r2 (?_) fun T7 X8=>?_
  ·exact Wb<|Lp Unit [0,1,2,6,7] [1] (fun T _=>[(11, iv T.1)]) (fun T _=>[.own (arrS B2 16) (lc T.2)]) () [1,0] r2 r2 fun S5 X6=>Sr<|Qs 1 r<|Nx<|Sq<|Wc r (fun H9=>Sn<|Sq<|Wb<|Sr<|Qs 2 r<|Nx<|Rg<|Qs 5 r<|Bi fun R10 H11=>Fo (Cl [] impl_little_c H11 r r1) fun _=>Bi fun E13 H14=>Yo (Y.index_arr (α := Wrd) ka87 (Oc 1 r) H14 r r)<|Fu (Se (Wrd.mk R10) 1 kk86 H14 r (Cp r) r)<|Nl<|Bn<|Ne<|Rg<|Qs 2 r<|Nl<|Lg () [0,0]) fun H9=>Wx<|Tx<|Ex<|Be<|Jg () [0,0]
  refine Ne<|Sr<|Qs 1 r<|Yo (Y.conv ki3 ki86 r)<|Bi fun E15 H16=>Yo (Y.index_arr (α := Wrd) ka87 (Oc 1 r) H16 r r)<|Fu (Se (Wrd.mk (IntKind.u32.wrap counter)) 1 kk86 H16 r (Cp r) r)<|Nx<|Sq<|Sr<|Qs 1 r<|Nx<|Jn Unit [6,7] [0] (fun _ _=>[]) (fun T _=>[.own (arrS B2 16) (lc T)]) r2 r2 (?_) fun T19 X20=>?_
  ·exact Wb<|Lp Unit [2,6,7] [0] (fun T _=>[(25, iv T.1)]) (fun T _=>[.own (arrS B2 16) (lc T.2)]) () [0,0] r2 r2 fun S17 X18=>Sr<|Qs 1 r<|Nx<|Sq<|Wc r (fun H21=>Sn<|Sq<|Wb<|Sr<|Qs 2 r<|Nx<|Rg<|Qs 5 r<|Bi fun R22 H23=>Fo (Cl [] impl_little_c H23 r r1) fun _=>Bi fun E25 H26=>Yo (Y.index_arr (α := Wrd) ka87 (Oc 1 r) H26 r r)<|Fu (Se (Wrd.mk R22) 1 kk86 H26 r (Cp r) r)<|Nl<|Bn<|Ne<|Rg<|Qs 2 r<|Nl<|Lg () [0,0]) fun H21=>Wx<|Tx<|Ex<|Be<|Jg () [0,0]
  exact Ne<|Sr<|Yo (Y.load_arr (α := Wrd) kk87 r (by decide) (Oc 1 r) r)<|Bi fun E27 H28=>Fu (Ef.store_arr (α := Wrd) (is' := [.own (arrS B1 16) (lc T19), .own (arrS B2 16) (lc T19)]) 0 kk87 r (by decide) (lenIs_eq H28) r r r r)<|Nx<|Wr<|TE.leaf fun _ _ hf_ hs_ => ret_any (rs := [.cell 6 87]) (vs := [arrV T19]) (.inl r) r (RV.cell_arr (α := Wrd) (i := 0) r r kk87 r (by decide) ⟨⟩) hf_ hs_ ⟨(), r, hs_.pulls [] r⟩

/-- math/bits.RotateLeft32 -/
noncomputable def math_bits_RotateLeft32 (x : Int) (k : Int) : Option Int :=
  (nn (iand .u64 (IntKind.u64.wrap k) (31 : Int))).bind fun E1 =>
  some (ior .u32 (ishl .u32 x (iand .u64 (IntKind.u64.wrap k) (31 : Int))) (ishr .u32 x (IntKind.u64.wrap ((32 : Int) - (iand .u64 (IntKind.u64.wrap k) (31 : Int))))))

theorem math_bits_RotateLeft32_c {x : Int} {k : Int} : Cn Try.prog 76 [.int .u32 x, iv k] [] [] (math_bits_RotateLeft32 x k) (fun r (_ : Unit) => .int .u32 r) fun _ _ => [] := by
  unfold math_bits_RotateLeft32
  refine Ci Try.func76 r r ?_
  rintro w S -
  exact Sr<|Qs 1 r<|Nx<|Sr<|Qs 1 r<|Yo (Y.conv ki3 ki57 r)<|Qs 2 r<|Nx<|Sr<|Qs 2 r<|Bi fun E1 H2=>Yo (Y.shl (nn_ge H2) r r)<|Qs 3 r<|Yo (Y.shr (wrap_u_nonneg r _) r r)<|Qs 2 r<|Nx<|Wr<|Re () []

/-- loop.example/g00950/impl.quarter -/
noncomputable def impl_quarter (w_ : List Wrd) (a : Int) (b : Int) (c : Int) (d : Int) : Option (List Wrd) :=
  (idx w_ a).bind fun E1 =>
  (idx w_ b).bind fun E3 =>
  (idx (w_.set a.toNat (Wrd.mk (IntKind.u32.wrap (E1.v + E3.v)))) d).bind fun E7 =>
  (idx (w_.set a.toNat (Wrd.mk (IntKind.u32.wrap (E1.v + E3.v)))) a).bind fun E9 =>
  (math_bits_RotateLeft32 (ixor .u32 E7.v E9.v) (16 : Int)).bind fun R11 =>
  (idx ((w_.set a.toNat (Wrd.mk (IntKind.u32.wrap (E1.v + E3.v)))).set d.toNat (Wrd.mk R11)) c).bind fun E16 =>
  (idx ((w_.set a.toNat (Wrd.mk (IntKind.u32.wrap (E1.v + E3.v)))).set d.toNat (Wrd.mk R11)) d).bind fun E18 =>
  (idx (((w_.set a.toNat (Wrd.mk (IntKind.u32.wrap (E1.v + E3.v)))).set d.toNat (Wrd.mk R11)).set c.toNat (Wrd.mk (IntKind.u32.wrap (E16.v + E18.v)))) b).bind fun E22 =>
  (idx (((w_.set a.toNat (Wrd.mk (IntKind.u32.wrap (E1.v + E3.v)))).set d.toNat (Wrd.mk R11)).set c.toNat (Wrd.mk (IntKind.u32.wrap (E16.v + E18.v)))) c).bind fun E24 =>
  (math_bits_RotateLeft32 (ixor .u32 E22.v E24.v) (12 : Int)).bind fun R26 =>
  (idx ((((w_.set a.toNat (Wrd.mk (IntKind.u32.wrap (E1.v + E3.v)))).set d.toNat (Wrd.mk R11)).set c.toNat (Wrd.mk (IntKind.u32.wrap (E16.v + E18.v)))).set b.toNat (Wrd.mk R26)) a).bind fun E31 =>
  (idx ((((w_.set a.toNat (Wrd.mk (IntKind.u32.wrap (E1.v + E3.v)))).set d.toNat (Wrd.mk R11)).set c.toNat (Wrd.mk (IntKind.u32.wrap (E16.v + E18.v)))).set b.toNat (Wrd.mk R26)) b).bind fun E33 =>
  (idx (((((w_.set a.toNat (Wrd.mk (IntKind.u32.wrap (E1.v + E3.v)))).set d.toNat (Wrd.mk R11)).set c.toNat (Wrd.mk (IntKind.u32.wrap (E16.v + E18.v)))).set b.toNat (Wrd.mk R26)).set a.toNat (Wrd.mk (IntKind.u32.wrap (E31.v + E33.v)))) d).bind fun E37 =>
  (idx (((((w_.set a.toNat (Wrd.mk (IntKind.u32.wrap (E1.v + E3.v)))).set d.toNat (Wrd.mk R11)).set c.toNat (Wrd.mk (IntKind.u32.wrap (E16.v + E18.v)))).set b.toNat (Wrd.mk R26)).set a.toNat (Wrd.mk (IntKind.u32.wrap (E31.v + E33.v)))) a).bind fun E39 =>
  (math_bits_RotateLeft32 (ixor .u32 E37.v E39.v) (8 : Int)).bind fun R41 =>
  (idx ((((((w_.set a.toNat (Wrd.mk (IntKind.u32.wrap (E1.v + E3.v)))).set d.toNat (Wrd.mk R11)).set c.toNat (Wrd.mk (IntKind.u32.wrap (E16.v + E18.v)))).set b.toNat (Wrd.mk R26)).set a.toNat (Wrd.mk (IntKind.u32.wrap (E31.v + E33.v)))).set d.toNat (Wrd.mk R41)) c).bind fun E46 =>
  (idx ((((((w_.set a.toNat (Wrd.mk (IntKind.u32.wrap (E1.v + E3.v)))).set d.toNat (Wrd.mk R11)).set c.toNat (Wrd.mk (IntKind.u32.wrap (E16.v + E18.v)))).set b.toNat (Wrd.mk R26)).set a.toNat (Wrd.mk (IntKind.u32.wrap (E31.v + E33.v)))).set d.toNat (Wrd.mk R41)) d).bind fun E48 =>
  (idx (((((((w_.set a.toNat (Wrd.mk (IntKind.u32.wrap (E1.v + E3.v)))).set d.toNat (Wrd.mk R11)).set c.toNat (Wrd.mk (IntKind.u32.wrap (E16.v + E18.v)))).set b.toNat (Wrd.mk R26)).set a.toNat (Wrd.mk (IntKind.u32.wrap (E31.v + E33.v)))).set d.toNat (Wrd.mk R41)).set c.toNat (Wrd.mk (IntKind.u32.wrap (E46.v + E48.v)))) b).bind fun E52 =>
  (idx (((((((w_.set a.toNat (Wrd.mk (IntKind.u32.wrap (E1.v + E3.v)))).set d.toNat (Wrd.mk R11)).set c.toNat (Wrd.mk (IntKind.u32.wrap (E16.v + E18.v)))).set b.toNat (Wrd.mk R26)).set a.toNat (Wrd.mk (IntKind.u32.wrap (E31.v + E33.v)))).set d.toNat (Wrd.mk R41)).set c.toNat (Wrd.mk (IntKind.u32.wrap (E46.v + E48.v)))) c).bind fun E54 =>
  (math_bits_RotateLeft32 (ixor .u32 E52.v E54.v) (7 : Int)).bind fun R56 =>
  some ((((((((w_.set a.toNat (Wrd.mk (IntKind.u32.wrap (E1.v + E3.v)))).set d.toNat (Wrd.mk R11)).set c.toNat (Wrd.mk (IntKind.u32.wrap (E16.v + E18.v)))).set b.toNat (Wrd.mk R26)).set a.toNat (Wrd.mk (IntKind.u32.wrap (E31.v + E33.v)))).set d.toNat (Wrd.mk R41)).set c.toNat (Wrd.mk (IntKind.u32.wrap (E46.v + E48.v)))).set b.toNat (Wrd.mk R56))

theorem impl_quarter_c {w_ : List Wrd} {a : Int} {b : Int} {c : Int} {d : Int} {U0 : Nat} : Cn Try.prog 63 [pt U0, iv a, iv b, iv c, iv d] [.own (arrS U0 16) (lc w_)] [] (impl_quarter w_ a b c d) (fun _ (_ : Unit) => .tuple #[]) fun r _ => [.own (arrS U0 16) (lc r)] := by
  unfold impl_quarter
  refine Ci Try.func63 r r ?_
  rintro w S -
  refine Sq<|Wi fun E1 H2=>Wi fun E3 H4=>Jw Unit [0,1,2,3,4] [] (fun _=>[]) (fun _=>[.own (arrS U0 16) (lc (w_.set a.toNat (Wrd.mk (IntKind.u32.wrap (E1.v + E3.v)))))]) r1 r1 (?_) fun X6=>?_
  ·refine Dr [] r hMix<|Aq [0,1,2,5,6,7,11] [] r<|A2 3 8 (?_)<|?_
   ·refine Xy [] r (Y.index_arr (α := Wrd) ka87 (Oc 0 r) H2 r r)<|A2 4 8 (?_)<|?_
    ·exact Xy [] r (Le kk86 (Oc 0 r) H2 r)<|A1 8<|Xy [] r (Y.index_arr (α := Wrd) ka87 (Oc 0 r) H4 r r)<|A1 9<|Xy [] r (Le kk86 (Oc 0 r) H4 r)<|Aq [10] [] r<|A1 12<|Xy [] r (Y.index_arr (α := Wrd) ka87 (Oc 0 r) H2 r r)<|A1 13<|Xu [] r (Se (Wrd.mk (IntKind.u32.wrap (E1.v + E3.v))) 0 kk86 H2 r (Cp r) r)<|Az<|Bg () [0]
    exact Xy [] r (Y.index_arr (α := Wrd) ka87 (Oc 0 r) H4 r r)<|A2 4 9 (Xy [] r (Le kk86 (Oc 0 r) H2 r)<|A1 9<|Xy [] r (Le kk86 (Oc 0 r) H4 r)<|Aq [10] [] r<|A1 12<|Xy [] r (Y.index_arr (α := Wrd) ka87 (Oc 0 r) H2 r r)<|A1 13<|Xu [] r (Se (Wrd.mk (IntKind.u32.wrap (E1.v + E3.v))) 0 kk86 H2 r (Cp r) r)<|Az<|Bg () [0])<|Xy [] r (Le kk86 (Oc 0 r) H4 r)<|A1 4<|Xy [] r (Le kk86 (Oc 0 r) H2 r)<|Aq [10] [] r<|A1 12<|Xy [] r (Y.index_arr (α := Wrd) ka87 (Oc 0 r) H2 r r)<|A1 13<|Xu [] r (Se (Wrd.mk (IntKind.u32.wrap (E1.v + E3.v))) 0 kk86 H2 r (Cp r) r)<|Az<|Bg () [0]
   refine Xy [] r (Y.index_arr (α := Wrd) ka87 (Oc 0 r) H4 r r)<|A2 3 9 (?_)<|?_
   ·exact Xy [] r (Y.index_arr (α := Wrd) ka87 (Oc 0 r) H2 r r)<|A2 4 9 (Xy [] r (Le kk86 (Oc 0 r) H2 r)<|A1 9<|Xy [] r (Le kk86 (Oc 0 r) H4 r)<|Aq [10] [] r<|A1 12<|Xy [] r (Y.index_arr (α := Wrd) ka87 (Oc 0 r) H2 r r)<|A1 13<|Xu [] r (Se (Wrd.mk (IntKind.u32.wrap (E1.v + E3.v))) 0 kk86 H2 r (Cp r) r)<|Az<|Bg () [0])<|Xy [] r (Le kk86 (Oc 0 r) H4 r)<|A1 4<|Xy [] r (Le kk86 (Oc 0 r) H2 r)<|Aq [10] [] r<|A1 12<|Xy [] r (Y.index_arr (α := Wrd) ka87 (Oc 0 r) H2 r r)<|A1 13<|Xu [] r (Se (Wrd.mk (IntKind.u32.wrap (E1.v + E3.v))) 0 kk86 H2 r (Cp r) r)<|Az<|Bg () [0]
   exact Xy [] r (Le kk86 (Oc 0 r) H4 r)<|A1 3<|Xy [] r (Y.index_arr (α := Wrd) ka87 (Oc 0 r) H2 r r)<|A1 4<|Xy [] r (Le kk86 (Oc 0 r) H2 r)<|Aq [10] [] r<|A1 12<|Xy [] r (Y.index_arr (α := Wrd) ka87 (Oc 0 r) H2 r r)<|A1 13<|Xu [] r (Se (Wrd.mk (IntKind.u32.wrap (E1.v + E3.v))) 0 kk86 H2 r (Cp r) r)<|Az<|Bg () [0]
  refine Ne<|Sq<|Wi fun E7 H8=>Wi fun E9 H10=>Wi fun R11 H12=>Jw Unit [0,1,2,3,4] [] (fun _=>[]) (fun _=>[.own (arrS U0 16) (lc ((w_.set a.toNat (Wrd.mk (IntKind.u32.wrap (E1.v + E3.v)))).set d.toNat (Wrd.mk R11)))]) r1 r1 (?_) fun X15=>?_
  ·refine Dr [] r hMix<|Aq [0,1,2,3,4,7,8,9,14] [] r<|A2 5 10 (?_)<|?_
   ·refine Xy [] r (Y.index_arr (α := Wrd) ka87 (Oc 0 r) H8 r r)<|A2 6 10 (?_)<|?_
    ·exact Xy [] r (Le kk86 (Oc 0 r) H8 r)<|A1 10<|Xy [] r (Y.index_arr (α := Wrd) ka87 (Oc 0 r) H10 r r)<|A1 11<|Xy [] r (Le kk86 (Oc 0 r) H10 r)<|Aq [12] [] r<|A1 13<|Xe [] r (Cl [] math_bits_RotateLeft32_c H12 r r1) fun _=>A1 15<|Xy [] r (Y.index_arr (α := Wrd) ka87 (Oc 0 r) H8 r r)<|A1 16<|Xu [] r (Se (Wrd.mk R11) 0 kk86 H8 r (Cp r) r)<|Az<|Bg () [0]
    refine Xy [] r (Y.index_arr (α := Wrd) ka87 (Oc 0 r) H10 r r)<|A2 6 11 (?_)<|?_
    ·exact Xy [] r (Le kk86 (Oc 0 r) H8 r)<|A1 11<|Xy [] r (Le kk86 (Oc 0 r) H10 r)<|Aq [12] [] r<|A1 13<|Xe [] r (Cl [] math_bits_RotateLeft32_c H12 r r1) fun _=>A1 15<|Xy [] r (Y.index_arr (α := Wrd) ka87 (Oc 0 r) H8 r r)<|A1 16<|Xu [] r (Se (Wrd.mk R11) 0 kk86 H8 r (Cp r) r)<|Az<|Bg () [0]
    exact Xy [] r (Le kk86 (Oc 0 r) H10 r)<|A1 6<|Xy [] r (Le kk86 (Oc 0 r) H8 r)<|Aq [12] [] r<|A1 13<|Xe [] r (Cl [] math_bits_RotateLeft32_c H12 r r1) fun _=>A1 15<|Xy [] r (Y.index_arr (α := Wrd) ka87 (Oc 0 r) H8 r r)<|A1 16<|Xu [] r (Se (Wrd.mk R11) 0 kk86 H8 r (Cp r) r)<|Az<|Bg () [0]
   refine Xy [] r (Y.index_arr (α := Wrd) ka87 (Oc 0 r) H10 r r)<|A2 5 11 (?_)<|?_
   ·refine Xy [] r (Y.index_arr (α := Wrd) ka87 (Oc 0 r) H8 r r)<|A2 6 11 (?_)<|?_
    ·exact Xy [] r (Le kk86 (Oc 0 r) H8 r)<|A1 11<|Xy [] r (Le kk86 (Oc 0 r) H10 r)<|Aq [12] [] r<|A1 13<|Xe [] r (Cl [] math_bits_RotateLeft32_c H12 r r1) fun _=>A1 15<|Xy [] r (Y.index_arr (α := Wrd) ka87 (Oc 0 r) H8 r r)<|A1 16<|Xu [] r (Se (Wrd.mk R11) 0 kk86 H8 r (Cp r) r)<|Az<|Bg () [0]
    exact Xy [] r (Le kk86 (Oc 0 r) H10 r)<|A1 6<|Xy [] r (Le kk86 (Oc 0 r) H8 r)<|Aq [12] [] r<|A1 13<|Xe [] r (Cl [] math_bits_RotateLeft32_c H12 r r1) fun _=>A1 15<|Xy [] r (Y.index_arr (α := Wrd) ka87 (Oc 0 r) H8 r r)<|A1 16<|Xu [] r (Se (Wrd.mk R11) 0 kk86 H8 r (Cp r) r)<|Az<|Bg () [0]
   exact Xy [] r (Le kk86 (Oc 0 r) H10 r)<|A1 5<|Xy [] r (Y.index_arr (α := Wrd) ka87 (Oc 0 r) H8 r r)<|A1 6<|Xy [] r (Le kk86 (Oc 0 r) H8 r)<|Aq [12] [] r<|A1 13<|Xe [] r (Cl [] math_bits_RotateLeft32_c H12 r r1) fun _=>A1 15<|Xy [] r (Y.index_arr (α := Wrd) ka87 (Oc 0 r) H8 r r)<|A1 16<|Xu [] r (Se (Wrd.mk R11) 0 kk86 H8 r (Cp r) r)<|Az<|Bg () [0]
  refine Ne<|Sq<|Wi fun E16 H17=>Wi fun E18 H19=>Jw Unit [0,1,2,3,4] [] (fun _=>[]) (fun _=>[.own (arrS U0 16) (lc (((w_.set a.toNat (Wrd.mk (IntKind.u32.wrap (E1.v + E3.v)))).set d.toNat (Wrd.mk R11)).set c.toNat (Wrd.mk (IntKind.u32.wrap (E16.v + E18.v)))))]) r1 r1 (?_) fun X21=>?_
  ·refine Dr [] r hMix<|Aq [0,1,2,5,6,7,11] [] r<|A2 3 8 (?_)<|?_
   ·refine Xy [] r (Y.index_arr (α := Wrd) ka87 (Oc 0 r) H17 r r)<|A2 4 8 (?_)<|?_
    ·exact Xy [] r (Le kk86 (Oc 0 r) H17 r)<|A1 8<|Xy [] r (Y.index_arr (α := Wrd) ka87 (Oc 0 r) H19 r r)<|A1 9<|Xy [] r (Le kk86 (Oc 0 r) H19 r)<|Aq [10] [] r<|A1 12<|Xy [] r (Y.index_arr (α := Wrd) ka87 (Oc 0 r) H17 r r)<|A1 13<|Xu [] r (Se (Wrd.mk (IntKind.u32.wrap (E16.v + E18.v))) 0 kk86 H17 r (Cp r) r)<|Az<|Bg () [0]
    exact Xy [] r (Y.index_arr (α := Wrd) ka87 (Oc 0 r) H19 r r)<|A2 4 9 (Xy [] r (Le kk86 (Oc 0 r) H17 r)<|A1 9<|Xy [] r (Le kk86 (Oc 0 r) H19 r)<|Aq [10] [] r<|A1 12<|Xy [] r (Y.index_arr (α := Wrd) ka87 (Oc 0 r) H17 r r)<|A1 13<|Xu [] r (Se (Wrd.mk (IntKind.u32.wrap (E16.v + E18.v))) 0 kk86 H17 r (Cp r) r)<|Az<|Bg () [0])<|Xy [] r (Le kk86 (Oc 0 r) H19 r)<|A1 4<|Xy [] r (Le kk86 (Oc 0 r) H17 r)<|Aq [10] [] r<|A1 12<|Xy [] r (Y.index_arr (α := Wrd) ka87 (Oc 0 r) H17 r r)<|A1 13<|Xu [] r (Se (Wrd.mk (IntKind.u32.wrap (E16.v + E18.v))) 0 kk86 H17 r (Cp r) r)<|Az<|Bg () [0]
   refine Xy [] r (Y.index_arr (α := Wrd) ka87 (Oc 0 r) H19 r r)<|A2 3 9 (?_)<|?_
   ·exact Xy [] r (Y.index_arr (α := Wrd) ka87 (Oc 0 r) H17 r r)<|A2 4 9 (Xy [] r (Le kk86 (Oc 0 r) H17 r)<|A1 9<|Xy [] r (Le kk86 (Oc 0 r) H19 r)<|Aq [10] [] r<|A1 12<|Xy [] r (Y.index_arr (α := Wrd) ka87 (Oc 0 r) H17 r r)<|A1 13<|Xu [] r (Se (Wrd.mk (IntKind.u32.wrap (E16.v + E18.v))) 0 kk86 H17 r (Cp r) r)<|Az<|Bg () [0])<|Xy [] r (Le kk86 (Oc 0 r) H19 r)<|A1 4<|Xy [] r (Le kk86 (Oc 0 r) H17 r)<|Aq [10] [] r<|A1 12<|Xy [] r (Y.index_arr (α := Wrd) ka87 (Oc 0 r) H17 r r)<|A1 13<|Xu [] r (Se (Wrd.mk (IntKind.u32.wrap (E16.v + E18.v))) 0 kk86 H17 r (Cp r) r)<|Az<|Bg () [0]
   exact Xy [] r (Le kk86 (Oc 0 r) H19 r)<|A1 3<|Xy [] r (Y.index_arr (α := Wrd) ka87 (Oc 0 r) H17 r r)<|A1 4<|Xy [] r (Le kk86 (Oc 0 r) H17 r)<|Aq [10] [] r<|A1 12<|Xy [] r (Y.index_arr (α := Wrd) ka87 (Oc 0 r) H17 r r)<|A1 13<|Xu [] r (Se (Wrd.mk (IntKind.u32.wrap (E16.v + E18.v))) 0 kk86 H17 r (Cp r) r)<|Az<|Bg () [0]
  refine Ne<|Sq<|Wi fun E22 H23=>Wi fun E24 H25=>Wi fun R26 H27=>Jw Unit [0,1,2,3,4] [] (fun _=>[]) (fun _=>[.own (arrS U0 16) (lc ((((w_.set a.toNat (Wrd.mk (IntKind.u32.wrap (E1.v + E3.v)))).set d.toNat (Wrd.mk R11)).set c.toNat (Wrd.mk (IntKind.u32.wrap (E16.v + E18.v)))).set b.toNat (Wrd.mk R26)))]) r1 r1 (?_) fun X30=>?_
  ·refine Dr [] r hMix<|Aq [0,1,2,3,4,7,8,9,14] [] r<|A2 5 10 (?_)<|?_
   ·refine Xy [] r (Y.index_arr (α := Wrd) ka87 (Oc 0 r) H23 r r)<|A2 6 10 (?_)<|?_
    ·exact Xy [] r (Le kk86 (Oc 0 r) H23 r)<|A1 10<|Xy [] r (Y.index_arr (α := Wrd) ka87 (Oc 0 r) H25 r r)<|A1 11<|Xy [] r (Le kk86 (Oc 0 r) H25 r)<|Aq [12] [] r<|A1 13<|Xe [] r (Cl [] math_bits_RotateLeft32_c H27 r r1) fun _=>A1 15<|Xy [] r (Y.index_arr (α := Wrd) ka87 (Oc 0 r) H23 r r)<|A1 16<|Xu [] r (Se (Wrd.mk R26) 0 kk86 H23 r (Cp r) r)<|Az<|Bg () [0]
    refine Xy [] r (Y.index_arr (α := Wrd) ka87 (Oc 0 r) H25 r r)<|A2 6 11 (?_)<|?_
    ·exact Xy [] r (Le kk86 (Oc 0 r) H23 r)<|A1 11<|Xy [] r (Le kk86 (Oc 0 r) H25 r)<|Aq [12] [] r<|A1 13<|Xe [] r (Cl [] math_bits_RotateLeft32_c H27 r r1) fun _=>A1 15<|Xy [] r (Y.index_arr (α := Wrd) ka87 (Oc 0 r) H23 r r)<|A1 16<|Xu [] r (Se (Wrd.mk R26) 0 kk86 H23 r (Cp r) r)<|Az<|Bg () [0]
    exact Xy [] r (Le kk86 (Oc 0 r) H25 r)<|A1 6<|Xy [] r (Le kk86 (Oc 0 r) H23 r)<|Aq [12] [] r<|A1 13<|Xe [] r (Cl [] math_bits_RotateLeft32_c H27 r r1) fun _=>A1 15<|Xy [] r (Y.index_arr (α := Wrd) ka87 (Oc 0 r) H23 r r)<|A1 16<|Xu [] r (Se (Wrd.mk R26) 0 kk86 H23 r (Cp r) r)<|Az<|Bg () [0]
   refine Xy [] r (Y.index_arr (α := Wrd) ka87 (Oc 0 r) H25 r r)<|A2 5 11 (?_)<|?_
   ·refine Xy [] r (Y.index_arr (α := Wrd) ka87 (Oc 0 r) H23 r r)<|A2 6 11 (?_)<|?_
    ·exact Xy [] r (Le kk86 (Oc 0 r) H23 r)<|A1 11<|Xy [] r (Le kk86 (Oc 0 r) H25 r)<|Aq [12] [] r<|A1 13<|Xe [] r (Cl [] math_bits_RotateLeft32_c H27 r r1) fun _=>A1 15<|Xy [] r (Y.index_arr (α := Wrd) ka87 (Oc 0 r) H23 r r)<|A1 16<|Xu [] r (Se (Wrd.mk R26) 0 kk86 H23 r (Cp r) r)<|Az<|Bg () [0]
    exact Xy [] r (Le kk86 (Oc 0 r) H25 r)<|A1 6<|Xy [] r (Le kk86 (Oc 0 r) H23 r)<|Aq [12] [] r<|A1 13<|Xe [] r (Cl [] math_bits_RotateLeft32_c H27 r r1) fun _=>A1 15<|Xy [] r (Y.index_arr (α := Wrd) ka87 (Oc 0 r) H23 r r)<|A1 16<|Xu [] r (Se (Wrd.mk R26) 0 kk86 H23 r (Cp r) r)<|Az<|Bg () [0]
   exact Xy [] r (Le kk86 (Oc 0 r) H25 r)<|A1 5<|Xy [] r (Y.index_arr (α := Wrd) ka87 (Oc 0 r) H23 r r)<|A1 6<|Xy [] r (Le kk86 (Oc 0 r) H23 r)<|Aq [12] [] r<|A1 13<|Xe [] r (Cl [] math_bits_RotateLeft32_c H27 r r1) fun _=>A1 15<|Xy [] r (Y.index_arr (α := Wrd) ka87 (Oc 0 r) H23 r r)<|A1 16<|Xu [] r (Se (Wrd.mk R26) 0 kk86 H23 r (Cp r) r)<|Az<|Bg () [0]
  refine Ne<|Sq<|Wi fun E31 H32=>Wi fun E33 H34=>Jw Unit [0,1,2,3,4] [] (fun _=>[]) (fun _=>[.own (arrS U0 16) (lc (((((w_.set a.toNat (Wrd.mk (IntKind.u32.wrap (E1.v + E3.v)))).set d.toNat (Wrd.mk R11)).set c.toNat (Wrd.mk (IntKind.u32.wrap (E16.v + E18.v)))).set b.toNat (Wrd.mk R26)).set a.toNat (Wrd.mk (IntKind.u32.wrap (E31.v + E33.v)))))]) r1 r1 (?_) fun X36=>?_
  ·refine Dr [] r hMix<|Aq [0,1,2,5,6,7,11] [] r<|A2 3 8 (?_)<|?_
   ·refine Xy [] r (Y.index_arr (α := Wrd) ka87 (Oc 0 r) H32 r r)<|A2 4 8 (?_)<|?_
    ·exact Xy [] r (Le kk86 (Oc 0 r) H32 r)<|A1 8<|Xy [] r (Y.index_arr (α := Wrd) ka87 (Oc 0 r) H34 r r)<|A1 9<|Xy [] r (Le kk86 (Oc 0 r) H34 r)<|Aq [10] [] r<|A1 12<|Xy [] r (Y.index_arr (α := Wrd) ka87 (Oc 0 r) H32 r r)<|A1 13<|Xu [] r (Se (Wrd.mk (IntKind.u32.wrap (E31.v + E33.v))) 0 kk86 H32 r (Cp r) r)<|Az<|Bg () [0]
    exact Xy [] r (Y.index_arr (α := Wrd) ka87 (Oc 0 r) H34 r r)<|A2 4 9 (Xy [] r (Le kk86 (Oc 0 r) H32 r)<|A1 9<|Xy [] r (Le kk86 (Oc 0 r) H34 r)<|Aq [10] [] r<|A1 12<|Xy [] r (Y.index_arr (α := Wrd) ka87 (Oc 0 r) H32 r r)<|A1 13<|Xu [] r (Se (Wrd.mk (IntKind.u32.wrap (E31.v + E33.v))) 0 kk86 H32 r (Cp r) r)<|Az<|Bg () [0])<|Xy [] r (Le kk86 (Oc 0 r) H34 r)<|A1 4<|Xy [] r (Le kk86 (Oc 0 r) H32 r)<|Aq [10] [] r<|A1 12<|Xy [] r (Y.index_arr (α := Wrd) ka87 (Oc 0 r) H32 r r)<|A1 13<|Xu [] r (Se (Wrd.mk (IntKind.u32.wrap (E31.v + E33.v))) 0 kk86 H32 r (Cp r) r)<|Az<|Bg () [0]
   refine Xy [] r (Y.index_arr (α := Wrd) ka87 (Oc 0 r) H34 r r)<|A2 3 9 (?_)<|?_
   ·exact Xy [] r (Y.index_arr (α := Wrd) ka87 (Oc 0 r) H32 r r)<|A2 4 9 (Xy [] r (Le kk86 (Oc 0 r) H32 r)<|A1 9<|Xy [] r (Le kk86 (Oc 0 r) H34 r)<|Aq [10] [] r<|A1 12<|Xy [] r (Y.index_arr (α := Wrd) ka87 (Oc 0 r) H32 r r)<|A1 13<|Xu [] r (Se (Wrd.mk (IntKind.u32.wrap (E31.v + E33.v))) 0 kk86 H32 r (Cp r) r)<|Az<|Bg () [0])<|Xy [] r (Le kk86 (Oc 0 r) H34 r)<|A1 4<|Xy [] r (Le kk86 (Oc 0 r) H32 r)<|Aq [10] [] r<|A1 12<|Xy [] r (Y.index_arr (α := Wrd) ka87 (Oc 0 r) H32 r r)<|A1 13<|Xu [] r (Se (Wrd.mk (IntKind.u32.wrap (E31.v + E33.v))) 0 kk86 H32 r (Cp r) r)<|Az<|Bg () [0]
   exact Xy [] r (Le kk86 (Oc 0 r) H34 r)<|A1 3<|Xy [] r (Y.index_arr (α := Wrd) ka87 (Oc 0 r) H32 r r)<|A1 4<|Xy [] r (Le kk86 (Oc 0 r) H32 r)<|Aq [10] [] r<|A1 12<|Xy [] r (Y.index_arr (α := Wrd) ka87 (Oc 0 r) H32 r r)<|A1 13<|Xu [] r (Se (Wrd.mk (IntKind.u32.wrap (E31.v + E33.v))) 0 kk86 H32 r (Cp r) r)<|Az<|Bg () [0]
  refine Ne<|Sq<|Wi fun E37 H38=>Wi fun E39 H40=>Wi fun R41 H42=>Jw Unit [0,2,3,4] [] (fun _=>[]) (fun _=>[.own (arrS U0 16) (lc ((((((w_.set a.toNat (Wrd.mk (IntKind.u32.wrap (E1.v + E3.v)))).set d.toNat (Wrd.mk R11)).set c.toNat (Wrd.mk (IntKind.u32.wrap (E16.v + E18.v)))).set b.toNat (Wrd.mk R26)).set a.toNat (Wrd.mk (IntKind.u32.wrap (E31.v + E33.v)))).set d.toNat (Wrd.mk R41)))]) r1 r1 (?_) fun X45=>?_
  ·refine Dr [] r hMix<|Aq [0,1,2,3,4,7,8,9,14] [] r<|A2 5 10 (?_)<|?_
   ·refine Xy [] r (Y.index_arr (α := Wrd) ka87 (Oc 0 r) H38 r r)<|A2 6 10 (?_)<|?_
    ·exact Xy [] r (Le kk86 (Oc 0 r) H38 r)<|A1 10<|Xy [] r (Y.index_arr (α := Wrd) ka87 (Oc 0 r) H40 r r)<|A1 11<|Xy [] r (Le kk86 (Oc 0 r) H40 r)<|Aq [12] [] r<|A1 13<|Xe [] r (Cl [] math_bits_RotateLeft32_c H42 r r1) fun _=>A1 15<|Xy [] r (Y.index_arr (α := Wrd) ka87 (Oc 0 r) H38 r r)<|A1 16<|Xu [] r (Se (Wrd.mk R41) 0 kk86 H38 r (Cp r) r)<|Az<|Bg () [0]
    refine Xy [] r (Y.index_arr (α := Wrd) ka87 (Oc 0 r) H40 r r)<|A2 6 11 (?_)<|?_
    ·exact Xy [] r (Le kk86 (Oc 0 r) H38 r)<|A1 11<|Xy [] r (Le kk86 (Oc 0 r) H40 r)<|Aq [12] [] r<|A1 13<|Xe [] r (Cl [] math_bits_RotateLeft32_c H42 r r1) fun _=>A1 15<|Xy [] r (Y.index_arr (α := Wrd) ka87 (Oc 0 r) H38 r r)<|A1 16<|Xu [] r (Se (Wrd.mk R41) 0 kk86 H38 r (Cp r) r)<|Az<|Bg () [0]
    exact Xy [] r (Le kk86 (Oc 0 r) H40 r)<|A1 6<|Xy [] r (Le kk86 (Oc 0 r) H38 r)<|Aq [12] [] r<|A1 13<|Xe [] r (Cl [] math_bits_RotateLeft32_c H42 r r1) fun _=>A1 15<|Xy [] r (Y.index_arr (α := Wrd) ka87 (Oc 0 r) H38 r r)<|A1 16<|Xu [] r (Se (Wrd.mk R41) 0 kk86 H38 r (Cp r) r)<|Az<|Bg () [0]
   refine Xy [] r (Y.index_arr (α := Wrd) ka87 (Oc 0 r) H40 r r)<|A2 5 11 (?_)<|?_
   ·refine Xy [] r (Y.index_arr (α := Wrd) ka87 (Oc 0 r) H38 r r)<|A2 6 11 (?_)<|?_
    ·exact Xy [] r (Le kk86 (Oc 0 r) H38 r)<|A1 11<|Xy [] r (Le kk86 (Oc 0 r) H40 r)<|Aq [12] [] r<|A1 13<|Xe [] r (Cl [] math_bits_RotateLeft32_c H42 r r1) fun _=>A1 15<|Xy [] r (Y.index_arr (α := Wrd) ka87 (Oc 0 r) H38 r r)<|A1 16<|Xu [] r (Se (Wrd.mk R41) 0 kk86 H38 r (Cp r) r)<|Az<|Bg () [0]
    exact Xy [] r (Le kk86 (Oc 0 r) H40 r)<|A1 6<|Xy [] r (Le kk86 (Oc 0 r) H38 r)<|Aq [12] [] r<|A1 13<|Xe [] r (Cl [] math_bits_RotateLeft32_c H42 r r1) fun _=>A1 15<|Xy [] r (Y.index_arr (α := Wrd) ka87 (Oc 0 r) H38 r r)<|A1 16<|Xu [] r (Se (Wrd.mk R41) 0 kk86 H38 r (Cp r) r)<|Az<|Bg () [0]
   exact Xy [] r (Le kk86 (Oc 0 r) H40 r)<|A1 5<|Xy [] r (Y.index_arr (α := Wrd) ka87 (Oc 0 r) H38 r r)<|A1 6<|Xy [] r (Le kk86 (Oc 0 r) H38 r)<|Aq [12] [] r<|A1 13<|Xe [] r (Cl [] math_bits_RotateLeft32_c H42 r r1) fun _=>A1 15<|Xy [] r (Y.index_arr (α := Wrd) ka87 (Oc 0 r) H38 r r)<|A1 16<|Xu [] r (Se (Wrd.mk R41) 0 kk86 H38 r (Cp r) r)<|Az<|Bg () [0]
  refine Ne<|Sq<|Wi fun E46 H47=>Wi fun E48 H49=>Jw Unit [0,2,3] [] (fun _=>[]) (fun _=>[.own (arrS U0 16) (lc (((((((w_.set a.toNat (Wrd.mk (IntKind.u32.wrap (E1.v + E3.v)))).set d.toNat (Wrd.mk R11)).set c.toNat (Wrd.mk (IntKind.u32.wrap (E16.v + E18.v)))).set b.toNat (Wrd.mk R26)).set a.toNat (Wrd.mk (IntKind.u32.wrap (E31.v + E33.v)))).set d.toNat (Wrd.mk R41)).set c.toNat (Wrd.mk (IntKind.u32.wrap (E46.v + E48.v)))))]) r1 r1 (?_) fun X51=>?_
  ·refine Dr [] r hMix<|Aq [0,1,2,5,6,7,11] [] r<|A2 3 8 (?_)<|?_
   ·refine Xy [] r (Y.index_arr (α := Wrd) ka87 (Oc 0 r) H47 r r)<|A2 4 8 (?_)<|?_
    ·exact Xy [] r (Le kk86 (Oc 0 r) H47 r)<|A1 8<|Xy [] r (Y.index_arr (α := Wrd) ka87 (Oc 0 r) H49 r r)<|A1 9<|Xy [] r (Le kk86 (Oc 0 r) H49 r)<|Aq [10] [] r<|A1 12<|Xy [] r (Y.index_arr (α := Wrd) ka87 (Oc 0 r) H47 r r)<|A1 13<|Xu [] r (Se (Wrd.mk (IntKind.u32.wrap (E46.v + E48.v))) 0 kk86 H47 r (Cp r) r)<|Az<|Bg () [0]
    exact Xy [] r (Y.index_arr (α := Wrd) ka87 (Oc 0 r) H49 r r)<|A2 4 9 (Xy [] r (Le kk86 (Oc 0 r) H47 r)<|A1 9<|Xy [] r (Le kk86 (Oc 0 r) H49 r)<|Aq [10] [] r<|A1 12<|Xy [] r (Y.index_arr (α := Wrd) ka87 (Oc 0 r) H47 r r)<|A1 13<|Xu [] r (Se (Wrd.mk (IntKind.u32.wrap (E46.v + E48.v))) 0 kk86 H47 r (Cp r) r)<|Az<|Bg () [0])<|Xy [] r (Le kk86 (Oc 0 r) H49 r)<|A1 4<|Xy [] r (Le kk86 (Oc 0 r) H47 r)<|Aq [10] [] r<|A1 12<|Xy [] r (Y.index_arr (α := Wrd) ka87 (Oc 0 r) H47 r r)<|A1 13<|Xu [] r (Se (Wrd.mk (IntKind.u32.wrap (E46.v + E48.v))) 0 kk86 H47 r (Cp r) r)<|Az<|Bg () [0]
   refine Xy [] r (Y.index_arr (α := Wrd) ka87 (Oc 0 r) H49 r r)<|A2 3 9 (?_)<|?_
   ·exact Xy [] r (Y.index_arr (α := Wrd) ka87 (Oc 0 r) H47 r r)<|A2 4 9 (Xy [] r (Le kk86 (Oc 0 r) H47 r)<|A1 9<|Xy [] r (Le kk86 (Oc 0 r) H49 r)<|Aq [10] [] r<|A1 12<|Xy [] r (Y.index_arr (α := Wrd) ka87 (Oc 0 r) H47 r r)<|A1 13<|Xu [] r (Se (Wrd.mk (IntKind.u32.wrap (E46.v + E48.v))) 0 kk86 H47 r (Cp r) r)<|Az<|Bg () [0])<|Xy [] r (Le kk86 (Oc 0 r) H49 r)<|A1 4<|Xy [] r (Le kk86 (Oc 0 r) H47 r)<|Aq [10] [] r<|A1 12<|Xy [] r (Y.index_arr (α := Wrd) ka87 (Oc 0 r) H47 r r)<|A1 13<|Xu [] r (Se (Wrd.mk (IntKind.u32.wrap (E46.v + E48.v))) 0 kk86 H47 r (Cp r) r)<|Az<|Bg () [0]
   exact Xy [] r (Le kk86 (Oc 0 r) H49 r)<|A1 3<|Xy [] r (Y.index_arr (α := Wrd) ka87 (Oc 0 r) H47 r r)<|A1 4<|Xy [] r (Le kk86 (Oc 0 r) H47 r)<|Aq [10] [] r<|A1 12<|Xy [] r (Y.index_arr (α := Wrd) ka87 (Oc 0 r) H47 r r)<|A1 13<|Xu [] r (Se (Wrd.mk (IntKind.u32.wrap (E46.v + E48.v))) 0 kk86 H47 r (Cp r) r)<|Az<|Bg () [0]
  refine Ne<|Wi fun E52 H53=>Wi fun E54 H55=>Wi fun R56 H57=>Jw Unit [] [] (fun _=>[]) (fun _=>[.own (arrS U0 16) (lc ((((((((w_.set a.toNat (Wrd.mk (IntKind.u32.wrap (E1.v + E3.v)))).set d.toNat (Wrd.mk R11)).set c.toNat (Wrd.mk (IntKind.u32.wrap (E16.v + E18.v)))).set b.toNat (Wrd.mk R26)).set a.toNat (Wrd.mk (IntKind.u32.wrap (E31.v + E33.v)))).set d.toNat (Wrd.mk R41)).set c.toNat (Wrd.mk (IntKind.u32.wrap (E46.v + E48.v)))).set b.toNat (Wrd.mk R56)))]) r1 r1 (?_) fun X60=>?_
  ·refine Dr [] r hMix<|Aq [0,1,2,3,4,7,8,9,14] [] r<|A2 5 10 (?_)<|?_
   ·refine Xy [] r (Y.index_arr (α := Wrd) ka87 (Oc 0 r) H53 r r)<|A2 6 10 (?_)<|?_
    ·exact Xy [] r (Le kk86 (Oc 0 r) H53 r)<|A1 10<|Xy [] r (Y.index_arr (α := Wrd) ka87 (Oc 0 r) H55 r r)<|A1 11<|Xy [] r (Le kk86 (Oc 0 r) H55 r)<|Aq [12] [] r<|A1 13<|Xe [] r (Cl [] math_bits_RotateLeft32_c H57 r r1) fun _=>A1 15<|Xy [] r (Y.index_arr (α := Wrd) ka87 (Oc 0 r) H53 r r)<|A1 16<|Xu [] r (Se (Wrd.mk R56) 0 kk86 H53 r (Cp r) r)<|Az<|Bg () [0]
    refine Xy [] r (Y.index_arr (α := Wrd) ka87 (Oc 0 r) H55 r r)<|A2 6 11 (?_)<|?_
    ·exact Xy [] r (Le kk86 (Oc 0 r) H53 r)<|A1 11<|Xy [] r (Le kk86 (Oc 0 r) H55 r)<|Aq [12] [] r<|A1 13<|Xe [] r (Cl [] math_bits_RotateLeft32_c H57 r r1) fun _=>A1 15<|Xy [] r (Y.index_arr (α := Wrd) ka87 (Oc 0 r) H53 r r)<|A1 16<|Xu [] r (Se (Wrd.mk R56) 0 kk86 H53 r (Cp r) r)<|Az<|Bg () [0]
    exact Xy [] r (Le kk86 (Oc 0 r) H55 r)<|A1 6<|Xy [] r (Le kk86 (Oc 0 r) H53 r)<|Aq [12] [] r<|A1 13<|Xe [] r (Cl [] math_bits_RotateLeft32_c H57 r r1) fun _=>A1 15<|Xy [] r (Y.index_arr (α := Wrd) ka87 (Oc 0 r) H53 r r)<|A1 16<|Xu [] r (Se (Wrd.mk R56) 0 kk86 H53 r (Cp r) r)<|Az<|Bg () [0]
   refine Xy [] r (Y.index_arr (α := Wrd) ka87 (Oc 0 r) H55 r r)<|A2 5 11 (?_)<|?_
   ·refine Xy [] r (Y.index_arr (α := Wrd) ka87 (Oc 0 r) H53 r r)<|A2 6 11 (?_)<|?_
    ·exact Xy [] r (Le kk86 (Oc 0 r) H53 r)<|A1 11<|Xy [] r (Le kk86 (Oc 0 r) H55 r)<|Aq [12] [] r<|A1 13<|Xe [] r (Cl [] math_bits_RotateLeft32_c H57 r r1) fun _=>A1 15<|Xy [] r (Y.index_arr (α := Wrd) ka87 (Oc 0 r) H53 r r)<|A1 16<|Xu [] r (Se (Wrd.mk R56) 0 kk86 H53 r (Cp r) r)<|Az<|Bg () [0]
    exact Xy [] r (Le kk86 (Oc 0 r) H55 r)<|A1 6<|Xy [] r (Le kk86 (Oc 0 r) H53 r)<|Aq [12] [] r<|A1 13<|Xe [] r (Cl [] math_bits_RotateLeft32_c H57 r r1) fun _=>A1 15<|Xy [] r (Y.index_arr (α := Wrd) ka87 (Oc 0 r) H53 r r)<|A1 16<|Xu [] r (Se (Wrd.mk R56) 0 kk86 H53 r (Cp r) r)<|Az<|Bg () [0]
   exact Xy [] r (Le kk86 (Oc 0 r) H55 r)<|A1 5<|Xy [] r (Y.index_arr (α := Wrd) ka87 (Oc 0 r) H53 r r)<|A1 6<|Xy [] r (Le kk86 (Oc 0 r) H53 r)<|Aq [12] [] r<|A1 13<|Xe [] r (Cl [] math_bits_RotateLeft32_c H57 r r1) fun _=>A1 15<|Xy [] r (Y.index_arr (α := Wrd) ka87 (Oc 0 r) H53 r r)<|A1 16<|Xu [] r (Se (Wrd.mk R56) 0 kk86 H53 r (Cp r) r)<|Az<|Bg () [0]
  exact Re () [0]

/-- loop.example/g00950/impl.ChaBlock -/
noncomputable def impl_ChaBlock (key : List UInt8) (counter : Int) (nonce : List UInt8) : Option (List UInt8) :=
  (impl_isCha key counter nonce).bind fun R1 =>
  if (!R1) = true then (some ([]))
  else ((impl_firstWords key counter nonce).bind fun R5 =>
  (lenIs 16 R5).bind fun E9 =>
  bindC (loopO (fun (S12 : Int × List Wrd) => if (decide (S12.1 < (10 : Int))) = true then (bindC (loopO (fun (S17 : Int × List Wrd) => if (decide (S17.1 < (4 : Int))) = true then ((impl_quarter S17.2 S17.1 (IntKind.i64.wrap ((4 : Int) + S17.1)) (IntKind.i64.wrap ((8 : Int) + S17.1)) (IntKind.i64.wrap ((12 : Int) + S17.1))).bind fun R22 =>
  some (.go (IntKind.i64.wrap (S17.1 + (1 : Int)), R22)))
  else (some (.done (.go S17.2))))
  ((0 : Int), S12.2))
  (fun (T19 : List Wrd) => bindC (loopO (fun (S25 : Int × List Wrd) => if (decide (S25.1 < (4 : Int))) = true then ((impl_quarter S25.2 S25.1 (IntKind.i64.wrap ((4 : Int) + (Int.tmod (IntKind.i64.wrap (S25.1 + (1 : Int))) (4 : Int)))) (IntKind.i64.wrap ((8 : Int) + (Int.tmod (IntKind.i64.wrap (S25.1 + (2 : Int))) (4 : Int)))) (IntKind.i64.wrap ((12 : Int) + (Int.tmod (IntKind.i64.wrap (S25.1 + (3 : Int))) (4 : Int))))).bind fun R30 =>
  some (.go (IntKind.i64.wrap (S25.1 + (1 : Int)), R30)))
  else (some (.done (.go S25.2))))
  ((0 : Int), T19))
  (fun (T27 : List Wrd) => some (.go (IntKind.i64.wrap (S12.1 + (1 : Int)), T27)))))
  else (some (.done (.go S12.2))))
  ((0 : Int), R5))
  (fun (T14 : List Wrd) => (mkLen 1 (64 : Int)).bind fun E34 =>
  bindC (loopO (fun (S36 : Int × List UInt8) => if (decide (S36.1 < (16 : Int))) = true then ((lenIs 16 T14).bind fun E41 =>
  (idx T14 S36.1).bind fun E43 =>
  (idx R5 S36.1).bind fun E45 =>
  (app 1 S36.2 ([toU8 (IntKind.u32.wrap (E43.v + E45.v)), toU8 (ishr .u32 (IntKind.u32.wrap (E43.v + E45.v)) (8 : Int)), toU8 (ishr .u32 (IntKind.u32.wrap (E43.v + E45.v)) (16 : Int)), toU8 (ishr .u32 (IntKind.u32.wrap (E43.v + E45.v)) (24 : Int))])).bind fun E49 =>
  some (.go (IntKind.i64.wrap (S36.1 + (1 : Int)), E49)))
  else (some (.done (.go S36.2))))
  ((0 : Int), ([] : List UInt8)))
  (fun (T38 : List UInt8) => some T38)))

theorem impl_ChaBlock_c {key : List UInt8} {counter : Int} {nonce : List UInt8} : Cn Try.prog 37 [strV key, iv counter, strV nonce] [] [] (impl_ChaBlock key counter nonce) (fun r (_ : Unit) => strV r) fun _ _ => [] := by
  unfold impl_ChaBlock
  refine Ci Try.func37 r r ?_
  rintro w S -
  refine Sr<|Qs 1 r<|Nx<|Sq<|Sr<|Qs 3 r<|Bi fun R1 H2=>Fo (Cl [] impl_isCha_c H2 r r1) fun _=>Qs 1 r<|Nx<|Wc r (fun H4=>Sr<|Qs 1 r<|Nx<|Wr<|Tr<|Re () []) fun H4=>Sn<|Sr<|Qs 3 r<|Bi fun R5 H6=>Fo (Cl [] impl_firstWords_c H6 r r1) fun _=>Fo (Ef.allocArr (α := Wrd) (List.replicate 16 (Wrd.mk 0)) kz87 r (by decide)) fun B8=>Bi fun E9 H10=>Fu (Ef.store_arr (α := Wrd) (is' := [.own (arrS B8 16) (lc R5)]) 0 kk87 r (by decide) (lenIs_eq H10) r r r r)<|Nx<|Sr<|Yo (Y.load_arr (α := Wrd) kk87 r (by decide) (Oc 0 r) r)<|Fo (Ef.allocArr (α := Wrd) (List.replicate 16 (Wrd.mk 0)) kz87 r (by decide)) fun B11=>?_
  refine Fu (Ef.store_arr (α := Wrd) (is' := [.own (arrS B11 16) (lc R5), .own (arrS B8 16) (lc R5)]) 0 kk87 r (by decide) (lenIs_eq H10) r r r r)<|Nx<|Sq<|Sr<|Qs 1 r<|Nx<|Jn Unit [7,8] [1] (fun _ _=>[]) (fun T _=>[.own (arrS B11 16) (lc T)]) r2 r2 (?_) fun T14 X15=>?_
  ·refine Wb<|Lp Unit [7,8] [1] (fun T _=>[(24, iv T.1)]) (fun T _=>[.own (arrS B11 16) (lc T.2)]) () [1,0] r2 r2 fun S12 X13=>Sr<|Qs 1 r<|Nx<|Sq<|Wc r (fun H16=>?_) fun H16=>?_
   ·refine Sn<|Sq<|Wb<|Sq<|Sr<|Qs 1 r<|Nx<|Jn Unit [7,8,24] [0] (fun _ _=>[]) (fun T _=>[.own (arrS B11 16) (lc T)]) r2 r2 (?_) fun T19 X20=>?_
    ·exact Wb<|Lp Unit [7,8,24] [0] (fun T _=>[(26, iv T.1)]) (fun T _=>[.own (arrS B11 16) (lc T.2)]) () [0,0] r2 r2 fun S17 X18=>Sr<|Qs 1 r<|Nx<|Sq<|Wc r (fun H21=>Sn<|Sq<|Wb<|Sr<|Qs 2 r<|Nx<|Rg<|Qs 7 r<|Bi fun R22 H23=>Fo (Cl [1] impl_quarter_c H23 r r1) fun _=>Nl<|Bn<|Ne<|Rg<|Qs 2 r<|Nl<|Lg () [1,0]) fun H21=>Wx<|Tx<|Ex<|Be<|Jg () [0,0]
    refine Ne<|Sr<|Qs 1 r<|Nx<|Jn Unit [7,8,24] [0] (fun _ _=>[]) (fun T _=>[.own (arrS B11 16) (lc T)]) r2 r2 (?_) fun T27 X28=>?_
    ·exact Wb<|Lp Unit [7,8,24] [0] (fun T _=>[(38, iv T.1)]) (fun T _=>[.own (arrS B11 16) (lc T.2)]) () [0,0] r2 r2 fun S25 X26=>Sr<|Qs 1 r<|Nx<|Sq<|Wc r (fun H29=>Sn<|Sq<|Wb<|Sr<|Qs 2 r<|Nx<|Rg<|Qs 3 r<|Yo (Y.rem (by decide) r r)<|Qs 3 r<|Yo (Y.rem (by decide) r r)<|Qs 3 r<|Yo (Y.rem (by decide) r r)<|Qs 1 r<|Bi fun R30 H31=>Fo (Cl [1] impl_quarter_c H31 r r1) fun _=>Nl<|Bn<|Ne<|Rg<|Qs 2 r<|Nl<|Lg () [1,0]) fun H29=>Wx<|Tx<|Ex<|Be<|Jg () [0,0]
    exact Bn<|Ne<|Rg<|Qs 2 r<|Nl<|Lg () [0,0]
   exact Wx<|Tx<|Ex<|Be<|Jg () [0,0]
  refine Ne<|Sr<|Bi fun E34 H35=>Fo (M0 (0 : UInt8) H35 ke29 kz5) fun V33=>Qs 1 r<|Nx<|Sq<|Sr<|Yo (Y.load_arr (α := Wrd) kk87 r (by decide) (Oc 2 r) r)<|Qs 1 r<|Nx<|Jn Value [] [] (fun _ X=>[(11, X)]) (fun T X=>[.own X (lc T)]) r2 r2 (?_) fun T38 X39=>?_
  ·refine Wb<|Lp Value [7,58] [1] (fun T X=>[(11, X), (59, iv T.1)]) (fun T X=>[.own X (lc T.2)]) V33 [1,0] r2 r2 fun S36 X37=>Sr<|Qs 1 r<|Nx<|Sq<|Wc r (fun H40=>?_) fun H40=>?_
   ·refine Sn<|Sq<|Wb<|Sr<|Qs 1 r<|Bi fun E41 H42=>Bi fun E43 H44=>Yo (Y.idx_arr ka87 kk86 (lenIs_eq H42) H44 r r)<|Qs 2 r<|Nx<|Sr<|Qs 2 r<|Bi fun E45 H46=>Yo (Y.index_arr (α := Wrd) ka87 (Oc 0 r) H46 r r)<|Yo (Le kk86 (Oc 0 r) H46 r)<|Qs 2 r<|Nx<|Rg<|Qs 2 r<|Yo (Y.conv8 ki86 ki5 r)<|Qs 1 r<|Yo (Y.shr (by decide) r r)<|Yo (Y.conv8 ki86 ki5 r)<|Qs 1 r<|Yo (Y.shr (by decide) r r)<|Yo (Y.conv8 ki86 ki5 r)<|Qs 1 r<|Yo (Y.shr (by decide) r r)<|Yo (Y.conv8 ki86 ki5 r)<|Fo (Bs [toU8 (IntKind.u32.wrap (E43.v + E45.v)), toU8 (ishr .u32 (IntKind.u32.wrap (E43.v + E45.v)) (8 : Int)), toU8 (ishr .u32 (IntKind.u32.wrap (E43.v + E45.v)) (16 : Int)), toU8 (ishr .u32 (IntKind.u32.wrap (E43.v + E45.v)) (24 : Int))] ke29 kz5) fun B47=>?_
    exact Bi fun E49 H50=>Fo (Ap [2] H50 ke29 kz5 r (Oc 0 r)) fun V48=>Qs 1 r<|Nl<|Bn<|Ne<|Rg<|Qs 2 r<|Nl<|Lg V48 [2,0]
   exact Wx<|Tx<|Ex<|Be<|Jg X37 [1]
  exact Ne<|Sr<|Qs 1 r<|Yo (Y.toStr ke29 ki5 ks9 (Oc 0 r) r)<|Qs 1 r<|Nx<|Wr<|Re () []

/-- loop.example/g00950/impl.ChaStream -/
noncomputable def impl_ChaStream (key : List UInt8) (counter : Int) (nonce : List UInt8) (text : List UInt8) : Option (List UInt8) :=
  (impl_isCha key counter nonce).bind fun R1 =>
  if (!R1) = true then (some ([]))
  else ((byteRoom text).bind fun E6 =>
  (if (decide (IntKind.i64.wrap (Int.tdiv (IntKind.i64.wrap (((text.length : Nat) : Int) + (63 : Int))) (64 : Int)) > (0 : Int))) = true then (some (decide (IntKind.i64.wrap (IntKind.i64.wrap (counter + (IntKind.i64.wrap (Int.tdiv (IntKind.i64.wrap (((text.length : Nat) : Int) + (63 : Int))) (64 : Int)))) - (1 : Int)) > (4294967295 : Int))))
  else (some false)).bind (fun (T8 : Bool) =>
  if T8 = true then (some ([]))
  else (bindC (loopO (fun (S12 : Int × Int × List UInt8) => if (decide (S12.2.1 < ((S12.2.2.length : Nat) : Int))) = true then ((impl_ChaBlock key S12.1 nonce).bind fun R17 =>
  bindC (loopO (fun (S20 : Int × List UInt8) => (if (decide (S20.1 < (64 : Int))) = true then (some (decide (IntKind.i64.wrap (S12.2.1 + S20.1) < ((S20.2.length : Nat) : Int))))
  else (some false)).bind (fun (T24 : Bool) =>
  if T24 = true then ((sidx R17 S20.1).bind fun E28 =>
  (idx S20.2 (IntKind.i64.wrap (S12.2.1 + S20.1))).bind fun E30 =>
  some (.go (IntKind.i64.wrap (S20.1 + (1 : Int)), (S20.2.set ((IntKind.i64.wrap (S12.2.1 + S20.1)).toNat) (E30 ^^^ E28)))))
  else (some (.done (.go S20.2)))))
  ((0 : Int), S12.2.2))
  (fun (T22 : List UInt8) => some (.go (IntKind.i64.wrap (S12.1 + (1 : Int)), IntKind.i64.wrap (S12.2.1 + (64 : Int)), T22))))
  else (some (.done (.go S12.2.2))))
  (counter, (0 : Int), text))
  (fun (T14 : List UInt8) => some T14))))

theorem impl_ChaStream_c {key : List UInt8} {counter : Int} {nonce : List UInt8} {text : List UInt8} : Cn Try.prog 19 [strV key, iv counter, strV nonce, strV text] [] [] (impl_ChaStream key counter nonce text) (fun r (_ : Unit) => strV r) fun _ _ => [] := by
  unfold impl_ChaStream
  refine Ci Try.func19 r r ?_
  rintro w S -
  refine Sr<|Qs 1 r<|Nx<|Sq<|Sr<|Qs 3 r<|Bi fun R1 H2=>Fo (Cl [] impl_isCha_c H2 r r1) fun _=>Qs 1 r<|Nx<|Wc r (fun H4=>Sr<|Qs 1 r<|Nx<|Wr<|Tr<|Re () []) fun H4=>Sn<|Sr<|Qs 1 r<|Bi fun E6 H7=>Fo (Ef.toBytes H7 ks9 ke29 ki5 r) fun V5=>Qs 1 r<|Nx<|Sq<|Sr<|Qs 1 r<|Yo (Ln ke29 (Can.frz 0 r) r)<|Qs 1 r<|Yo (Y.quo (by decide) r r)<|Qs 1 r<|Nx<|Sq<|Jv [0,1,2,9] (fun T=>[(33, .bool T)]) r1 (Rg<|Qs 3 r<|It (fun H10=>Qg 5 (beq_tt H10) r r<|Yo (Pt H10 r)<|Nl<|Bg () [0]) fun H10=>Of 5 (beq_ft H10) r r<|Yo (Pf H10 r)<|Nl<|Bg () [0]) fun T8=>Ne<|Wc r (fun H11=>Sr<|Qs 1 r<|Nx<|Wr<|Tr<|Re () []) fun H11=>?_
  refine Sn<|Sq<|Sr<|Qs 1 r<|Nx<|Jn Unit [9] [] (fun _ _=>[]) (fun T _=>[.frz V5 5 T]) r2 r2 (?_) fun T14 X15=>?_
  ·refine Wb<|Lp Unit [0,2,9] [] (fun T _=>[(1, iv T.1), (11, iv T.2.1)]) (fun T _=>[.frz V5 5 T.2.2]) () [0] r2 r2 fun S12 X13=>Sq<|Sr<|Qs 2 r<|Yo (Ln ke29 (Can.frz 0 r) r)<|Qs 1 r<|Nx<|Wc r (fun H16=>?_) fun H16=>?_
   ·refine Sn<|Sq<|Wb<|Sr<|Qs 3 r<|Bi fun R17 H18=>Fo (Cl [] impl_ChaBlock_c H18 r r1) fun _=>Qs 1 r<|Nx<|Sr<|Qs 3 r<|Nx<|Sr<|Qs 1 r<|Nx<|Jn Unit [0,1,2,9,11] [] (fun _ _=>[]) (fun T _=>[.frz V5 5 T]) r2 r2 (?_) fun T22 X23=>?_
    ·refine Wb<|Lp Unit [0,1,2,9,11,12] [] (fun T _=>[(13, iv T.1)]) (fun T _=>[.frz V5 5 T.2]) () [0] r2 r2 fun S20 X21=>Sq<|Sq<|Jv [0,1,2,9,11,12,13] (fun T=>[(55, .bool T)]) r1 (Rg<|Qs 3 r<|It (fun H26=>Qg 4 (beq_tt H26) r r<|Yg (gdA (beq_tt H26)) (Ln ke29 (Can.frz 0 r) r)<|Qg 1 (beq_tt H26) r r<|Yo (Pt H26 r)<|Nl<|Bg () [0]) fun H26=>Of 6 (beq_ft H26) r r<|Yo (Pf H26 r)<|Nl<|Bg () [0]) fun T24=>Ne<|Wc r (fun H27=>?_) fun H27=>?_
     ·exact Sn<|Sq<|Wb<|Dr [] r hMix<|Aq [0,1,2,3,6,7] [] r<|Ai fun E28 H29=>Ay 8 [] r (Y.sidx H29 ks9 r r)<|Ai fun E30 H31=>A1 4<|Xy [] r (Ix ke29 (Can.frz 0 r) H31 r)<|A1 5<|Xy [] r (Le kk5 (Can.frz 0 r) H31 r)<|Ay 9 [] r (Y.xor8 r r)<|A1 10<|Xy [] r (Ix ke29 (Can.frz 0 r) H31 r)<|A1 11<|Xu [] r (Ef.store_frz (is' := [.frz V5 5 (S20.2.set ((IntKind.i64.wrap (S12.2.1 + S20.1)).toNat) (E30 ^^^ E28))]) (E30 ^^^ E28) 0 kk5 r (idx_get H31).2.2 r r r r r)<|Az<|Bn<|Ne<|Rg<|Qs 3 r<|Nl<|Lg () [0]
     exact Wx<|Tx<|Ex<|Be<|Jg () [0]
    exact Bn<|Ne<|Rg<|Qs 3 r<|Nl<|Lg () [0]
   exact Wx<|Tx<|Ex<|Be<|Jg () [0]
  exact Ne<|Sr<|Qs 1 r<|Yo (Y.toStr ke29 ki5 ks9 (Can.frz 0 r) r)<|Qs 1 r<|Nx<|Wr<|Re () []

/-- loop.example/g00950/impl.SealBatch -/
noncomputable def impl_SealBatch (key : List UInt8) (boot : Int) (seq : Int) (l : List Op) : Option (List UInt8) :=
  (if (!(decide (((key.length : Nat) : Int) = (32 : Int)))) = true then (some true)
  else ((impl_isPlace boot seq).bind fun R4 =>
  if (!R4) = true then (some true)
  else ((impl_BatchOk l).bind fun R8 =>
  some (!R8)))).bind (fun (T1 : Bool) =>
  if T1 = true then (some ([]))
  else ((impl_rowNonce boot seq).bind fun R12 =>
  (impl_ShowBatch l).bind fun R15 =>
  (impl_ChaStream key (0 : Int) R12 R15).bind fun R18 =>
  some R18))

theorem impl_SealBatch_c {key : List UInt8} {boot : Int} {seq : Int} {l : List Op} {U0 : Value} : Cn Try.prog 11 [strV key, iv boot, iv seq, U0] [] [(U0, lc l)] (impl_SealBatch key boot seq l) (fun r (_ : Unit) => strV r) fun _ _ => [] := by
  unfold impl_SealBatch
  refine Ci Try.func11 r r ?_
  rintro w S ⟨Z0,-⟩
  refine Sr<|Qs 1 r<|Nx<|Sq<|Sq<|Jv [0,1,2,3] (fun T=>[(22, .bool T)]) r1 (?_) fun T1=>?_
  ·exact Rg<|Qs 1 r<|Yo (Y.slen ks9 r)<|Qs 2 r<|It (fun H3=>Of 4 (beq_tf H3) r r<|Yo (Pt H3 r)<|Qs 1 r<|Of 3 r r r<|Yo (Pt r r)<|Nl<|Bg () []) fun H3=>Qg 2 (beq_ff H3) r r<|Bi fun R4 H5=>Fg (gdA (beq_ff H3)) (Cl [] impl_isPlace_c H5 r r1) fun _=>Qg 1 (beq_ff H3) r r<|Yo (Pf H3 r)<|Qs 1 r<|It (fun H7=>Of 3 (beq_tf H7) r r<|Yo (Pt H7 r)<|Nl<|Bg () []) fun H7=>Qg 1 (beq_ff H7) r r<|Bi fun R8 H9=>Fg (gdA (beq_ff H7)) (Cl [] impl_BatchOk_c H9 r r1 ⟨(Bc Z0),⟨⟩⟩) fun _=>Qg 1 (beq_ff H7) r r<|Yo (Pf H7 r)<|Nl<|Bg () []
  exact Ne<|Wc r (fun H11=>Sr<|Qs 1 r<|Nx<|Wr<|Tr<|Re () []) fun H11=>Sn<|Sr<|Qs 3 r<|Bi fun R12 H13=>Fo (Cl [] impl_rowNonce_c H13 r r1) fun _=>Qs 1 r<|Bi fun R15 H16=>Fo (Cl [] impl_ShowBatch_c H16 r r1 ⟨(Bc Z0),⟨⟩⟩) fun _=>Bi fun R18 H19=>Fo (Cl [] impl_ChaStream_c H19 r r1) fun _=>Qs 1 r<|Nx<|Wr<|Re () []

/-- loop.example/g00950/spec.l1In -/
noncomputable def spec_l1In (x : Int) (low : Int) (high : Int) : Option Bool :=
  (if (decide (x ≥ low)) = true then (some (decide (x ≤ high)))
  else (some false)).bind (fun (T1 : Bool) =>
  some T1)

theorem spec_l1In_c {x : Int} {low : Int} {high : Int} : Cn Try.prog 32 [iv x, iv low, iv high] [] [] (spec_l1In x low high) (fun r (_ : Unit) => .bool r) fun _ _ => [] := by
  unfold spec_l1In
  refine Ci Try.func32 r r ?_
  rintro w S -
  exact Sr<|Qs 1 r<|Nx<|Sq<|Jv [] (fun T=>[(6, .bool T)]) r1 (Rg<|Qs 4 r<|It (fun H3=>Qg 3 (beq_tt H3) r r<|Yo (Pt H3 r)<|Qs 1 r<|Nl<|Bg () []) fun H3=>Of 3 (beq_ft H3) r r<|Yo (Pf H3 r)<|Qs 1 r<|Nl<|Bg () []) fun T1=>Ne<|Wr<|Re () []

/-- loop.example/g00950/spec.l7Op -/
noncomputable def spec_l7Op (o : Op) : Option Bool :=
  ((spec_l1In ((o.Key.length : Nat) : Int) (1 : Int) (10 : Int)).bind fun R4 =>
  if R4 = true then (if (decide (((o.Val.length : Nat) : Int) ≤ (16 : Int))) = true then (if (!o.Del) = true then (some true)
  else (some (decide (o.Val = ([])))))
  else (some false))
  else (some false)).bind (fun (T2 : Bool) =>
  some T2)

theorem spec_l7Op_c {o : Op} : Cn Try.prog 56 [.agg #[strV o.Key, .bool o.Del, strV o.Val]] [] [] (spec_l7Op o) (fun r (_ : Unit) => .bool r) fun _ _ => [] := by
  unfold spec_l7Op
  refine Ci Try.func56 r r ?_
  rintro w S -
  refine Sr<|Fo (Bx r (Cp r)) fun B1=>Qs 1 r<|Nx<|Sq<|Jb Unit [] [] (fun T _=>[(2, .bool T)]) (fun _ _=>[]) r2 r2 (?_) fun T2 X3=>?_
  ·refine Rg<|Yo (Fb kf52_0 r)<|Yo (Lb 0 kk9 r)<|Yo (Y.slen ks9 r)<|Bi fun R4 H5=>Fo (Cl [] spec_l1In_c H5 r r1) fun _=>Qs 1 r<|It (fun H7=>?_) fun H7=>?_
   ·refine Yg (gdA (beq_tt H7)) (Fb kf52_2 r)<|Yg (gdA (beq_tt H7)) (Lb 0 kk9 r)<|Yg (gdA (beq_tt H7)) (Y.slen ks9 r)<|Qg 1 (beq_tt H7) r r<|Yo (Pt H7 r)<|Qs 1 r<|It (fun H8=>?_) fun H8=>?_
    ·exact Yg (gdA (beq_tt H8)) (Fb kf52_1 r)<|Yg (gdA (beq_tt H8)) (Lb 0 kk4 r)<|Qg 2 (beq_tt H8) r r<|It (fun H9=>Of 3 (beq_tf H9) r r<|Yg (gdA (beq_tt H8)) (Pt H9 r)<|Yo (Pt H8 r)<|Qs 1 r<|Nl<|Bg () []) fun H9=>Yg (gdA (beq_ff H9)) (Fb kf52_2 r)<|Yg (gdA (beq_ff H9)) (Lb 0 kk9 r)<|Qg 1 (beq_ff H9) r r<|Yg (gdA (beq_tt H8)) (Pf H9 r)<|Yo (Pt H8 r)<|Qs 1 r<|Nl<|Bg () []
    exact Of 4 (beq_ft H8) r r<|Ou 3 r r<|Of 1 (beq_ft H8) r r<|Yo (Pf H8 r)<|Qs 1 r<|Nl<|Bg () []
   exact Of 4 (beq_ft H7) r r<|Yo (Pf H7 r)<|Qs 1 r<|Of 4 r r r<|Ou 3 r r<|Of 1 r r r<|Yo (Pf r r)<|Qs 1 r<|Nl<|Bg () []
  exact Ne<|Wr<|Re () []

/-- loop.example/g00950/spec.BatchOk -/
noncomputable def spec_BatchOk (l : List Op) : Option Bool :=
  (spec_l1In ((l.length : Nat) : Int) (1 : Int) (6 : Int)).bind fun R1 =>
  if (!R1) = true then (some false)
  else (bindC (loopO (fun (S5 : Int) => if (decide (S5 < ((l.length : Nat) : Int))) = true then ((idx l S5).bind fun E10 =>
  (spec_l7Op E10).bind fun R12 =>
  if (!R12) = true then (some (.done (.done false)))
  else (some (.go (IntKind.i64.wrap (S5 + (1 : Int))))))
  else (some (.done (.go ()))))
  (0 : Int))
  (fun (T7 : Unit) => some true))

theorem spec_BatchOk_c {l : List Op} {U0 : Value} : Cn Try.prog 28 [U0] [] [(U0, lc l)] (spec_BatchOk l) (fun r (_ : Unit) => .bool r) fun _ _ => [] := by
  unfold spec_BatchOk
  refine Ci Try.func28 r r ?_
  rintro w S ⟨Z0,-⟩
  refine Sr<|Qs 1 r<|Nx<|Sq<|Sr<|Qs 1 r<|Yo (Ln ke31 (Bc Z0) r)<|Bi fun R1 H2=>Fo (Cl [] spec_l1In_c H2 r r1) fun _=>Qs 1 r<|Nx<|Wc r (fun H4=>Sr<|Qs 1 r<|Nx<|Wr<|Tr<|Re () []) fun H4=>Sn<|Sq<|Sr<|Qs 1 r<|Nx<|Ju [] (fun _=>[]) r1 (?_) fun T7=>?_
  ·refine Wb<|Lu [0] (fun T=>[(3, iv T)]) r1 fun S5=>Sq<|Sr<|Qs 2 r<|Yo (Ln ke31 (Bc Z0) r)<|Qs 1 r<|Nx<|Wc r (fun H9=>?_) fun H9=>?_
   ·exact Sn<|Sq<|Wb<|Sr<|Qs 2 r<|Bi fun E10 H11=>Yo (Ix ke31 (Bc Z0) H11 r)<|Yo (Le kk52 (Bc Z0) H11 r)<|Bi fun R12 H13=>Fo (Cl [] spec_l7Op_c H13 r r1) fun _=>Qs 1 r<|Nx<|Wc r (fun H15=>Sr<|Qs 1 r<|Nx<|Wr<|Br<|Tr<|Er<|Br<|Jd<|Tr<|Re () []) fun H15=>Sk<|Bn<|Ne<|Rg<|Qs 3 r<|Nl<|Lg () []
   exact Wx<|Tx<|Ex<|Be<|Jg () []
  exact Ne<|Sr<|Qs 1 r<|Nx<|Wr<|Re () []

/-- loop.example/g00950/spec.l8At -/
noncomputable def spec_l8At (boot : Int) (seq : Int) : Option Bool :=
  ((spec_l1In boot (0 : Int) (1000 : Int)).bind fun R3 =>
  if R3 = true then ((spec_l1In seq (0 : Int) (999999 : Int)).bind fun R7 =>
  some R7)
  else (some false)).bind (fun (T1 : Bool) =>
  some T1)

theorem spec_l8At_c {boot : Int} {seq : Int} : Cn Try.prog 15 [iv boot, iv seq] [] [] (spec_l8At boot seq) (fun r (_ : Unit) => .bool r) fun _ _ => [] := by
  unfold spec_l8At
  refine Ci Try.func15 r r ?_
  rintro w S -
  refine Sr<|Qs 1 r<|Nx<|Sq<|Jv [] (fun T=>[(4, .bool T)]) r1 (?_) fun T1=>?_
  ·exact Rg<|Qs 1 r<|Bi fun R3 H4=>Fo (Cl [] spec_l1In_c H4 r r1) fun _=>Qs 1 r<|It (fun H6=>Qg 1 (beq_tt H6) r r<|Bi fun R7 H8=>Fg (gdA (beq_tt H6)) (Cl [] spec_l1In_c H8 r r1) fun _=>Yo (Pt H6 r)<|Qs 1 r<|Nl<|Bg () []) fun H6=>Of 2 (beq_ft H6) r r<|Yo (Pf H6 r)<|Qs 1 r<|Nl<|Bg () []
  exact Ne<|Wr<|Re () []

/-- loop.example/g00950/spec.Fixed -/
noncomputable def spec_Fixed (n : Int) (width : Int) : Option (List UInt8) :=
  ((spec_l1In width (1 : Int) (7 : Int)).bind fun R3 =>
  if (!R3) = true then (some true)
  else (some (decide (n < (0 : Int))))).bind (fun (T1 : Bool) =>
  if T1 = true then (some ([]))
  else (bindC (loopO (fun (S8 : Int × List UInt8 × Int) => if (decide (S8.2.2 < width)) = true then ((cat ([toU8 (Int.tmod S8.1 (256 : Int))]) S8.2.1).bind fun E14 =>
  some (.go (IntKind.i64.wrap (Int.tdiv S8.1 (256 : Int)), E14, IntKind.i64.wrap (S8.2.2 + (1 : Int)))))
  else (some (.done (.go (S8.1, S8.2.1)))))
  (n, [], (0 : Int)))
  (fun (T10 : Int × List UInt8) => if (decide (T10.1 > (0 : Int))) = true then (some ([]))
  else (some T10.2))))

theorem spec_Fixed_c {n : Int} {width : Int} : Cn Try.prog 34 [iv n, iv width] [] [] (spec_Fixed n width) (fun r (_ : Unit) => strV r) fun _ _ => [] := by
  unfold spec_Fixed
  refine Ci Try.func34 r r ?_
  rintro w S -
  refine Sr<|Qs 1 r<|Nx<|Sq<|Sq<|Jv [0,1] (fun T=>[(13, .bool T)]) r1 (Rg<|Qs 1 r<|Bi fun R3 H4=>Fo (Cl [] spec_l1In_c H4 r r1) fun _=>Qs 2 r<|It (fun H6=>Of 2 (beq_tf H6) r r<|Yo (Pt H6 r)<|Nl<|Bg () []) fun H6=>Qg 2 (beq_ff H6) r r<|Yo (Pf H6 r)<|Nl<|Bg () []) fun T1=>Ne<|Wc r (fun H7=>Sr<|Qs 1 r<|Nx<|Wr<|Tr<|Re () []) fun H7=>Sn<|Sr<|Qs 1 r<|Nx<|Sq<|Sr<|Qs 1 r<|Nx<|Ju [] (fun T=>[(0, iv T.1), (5, strV T.2)]) r1 (?_) fun T10=>?_
  ·refine Wb<|Lu [1] (fun T=>[(0, iv T.1), (5, strV T.2.1), (6, iv T.2.2)]) r1 fun S8=>Sq<|Sr<|Qs 3 r<|Nx<|Wc r (fun H12=>?_) fun H12=>?_
   ·exact Sn<|Sq<|Wb<|Sr<|Qs 1 r<|Yo (Y.rem (by decide) r r)<|Yo (Y.conv8 ki3 ki5 r)<|Fo (Bs [toU8 (Int.tmod S8.1 (256 : Int))] ke29 kz5) fun B13=>Yo (Y.toStr ke29 ki5 ks9 (Oc 0 r) r)<|Qs 1 r<|Bi fun E14 H15=>Yo (Y.cat H15 r r)<|Qs 1 r<|Nx<|Rg<|Qs 1 r<|Yo (Y.quo (by decide) r r)<|Qs 1 r<|Nl<|Bn<|Ne<|Rg<|Qs 3 r<|Nl<|Lg () []
   exact Wx<|Tx<|Ex<|Be<|Jg () []
  exact Ne<|Sq<|Sr<|Qs 2 r<|Nx<|Wc r (fun H16=>Sr<|Qs 1 r<|Nx<|Wr<|Tr<|Re () []) fun H16=>Sn<|Sr<|Qs 2 r<|Nx<|Wr<|Re () []

/-- loop.example/g00950/spec.NonceOf -/
noncomputable def spec_NonceOf (kind : Int) (n : Int) : Option (List UInt8) :=
  ((spec_l1In kind (0 : Int) (255 : Int)).bind fun R3 =>
  if (!R3) = true then (some true)
  else ((spec_l1In n (0 : Int) (562949953421311 : Int)).bind fun R7 =>
  some (!R7))).bind (fun (T1 : Bool) =>
  if T1 = true then (some ([]))
  else ((spec_Fixed n (7 : Int)).bind fun R12 =>
  (cat ([toU8 kind, (0 : UInt8), (0 : UInt8), (0 : UInt8), (0 : UInt8)]) R12).bind fun E17 =>
  some E17))

theorem spec_NonceOf_c {kind : Int} {n : Int} : Cn Try.prog 17 [iv kind, iv n] [] [] (spec_NonceOf kind n) (fun r (_ : Unit) => strV r) fun _ _ => [] := by
  unfold spec_NonceOf
  refine Ci Try.func17 r r ?_
  rintro w S -
  refine Sr<|Qs 1 r<|Nx<|Sq<|Sq<|Jv [0,1] (fun T=>[(12, .bool T)]) r1 (?_) fun T1=>?_
  ·exact Rg<|Qs 1 r<|Bi fun R3 H4=>Fo (Cl [] spec_l1In_c H4 r r1) fun _=>Qs 2 r<|It (fun H6=>Of 3 (beq_tf H6) r r<|Yo (Pt H6 r)<|Nl<|Bg () []) fun H6=>Qg 1 (beq_ff H6) r r<|Bi fun R7 H8=>Fg (gdA (beq_ff H6)) (Cl [] spec_l1In_c H8 r r1) fun _=>Qg 1 (beq_ff H6) r r<|Yo (Pf H6 r)<|Nl<|Bg () []
  refine Ne<|Wc r (fun H10=>Sr<|Qs 1 r<|Nx<|Wr<|Tr<|Re () []) fun H10=>Sn<|Sq<|Wi fun R12 H13=>Wi fun E17 H18=>Jw Unit [] [] (fun _=>[(4, strV E17)]) (fun _=>[]) r1 r1 (?_) fun X20=>?_
  ·refine Dr [] r hMix<|Aq [0] [] r<|Ay 1 [] r (Y.conv8 ki3 ki5 r)<|Aq [4] [] r<|A2 2 5 (?_)<|?_
   ·exact Xe [] r (Bs [toU8 kind, (0 : UInt8), (0 : UInt8), (0 : UInt8), (0 : UInt8)] ke29 kz5) fun B21=>A2 3 5 (Xy [] r (Y.toStr ke29 ki5 ks9 (Oc 0 r) r)<|A1 5<|Xe [] r (Cl [] spec_Fixed_c H13 r r1) fun _=>Ay 6 [] r (Y.cat H18 r r)<|Aq [7] [] r<|Az<|Bg () [])<|Xe [] r (Cl [] spec_Fixed_c H13 r r1) fun _=>A1 3<|Xy [] r (Y.toStr ke29 ki5 ks9 (Oc 0 r) r)<|Ay 6 [] r (Y.cat H18 r r)<|Aq [7] [] r<|Az<|Bg () []
   exact Xe [] r (Cl [] spec_Fixed_c H13 r r1) fun _=>A1 2<|Xe [] r (Bs [toU8 kind, (0 : UInt8), (0 : UInt8), (0 : UInt8), (0 : UInt8)] ke29 kz5) fun B23=>A1 3<|Xy [] r (Y.toStr ke29 ki5 ks9 (Oc 0 r) r)<|Ay 6 [] r (Y.cat H18 r r)<|Aq [7] [] r<|Az<|Bg () []
  exact Ne<|Wr<|Re () []

/-- loop.example/g00950/spec.Var -/
noncomputable def spec_Var (n : Int) : Option (List UInt8) :=
  (spec_l1In n (0 : Int) (562949953421311 : Int)).bind fun R1 =>
  if (!R1) = true then (some ([]))
  else (bindC (loopO (fun (S6 : Int × List UInt8) => if (decide (S6.1 ≥ (128 : Int))) = true then ((app 1 S6.2 ([toU8 (IntKind.i64.wrap ((128 : Int) + (Int.tmod S6.1 (128 : Int))))])).bind fun E13 =>
  some (.go (IntKind.i64.wrap (Int.tdiv S6.1 (128 : Int)), E13)))
  else (some (.done (.go (S6.1, S6.2)))))
  (n, ([] : List UInt8)))
  (fun (T8 : Int × List UInt8) => (app 1 T8.2 ([toU8 T8.1])).bind fun E17 =>
  some E17))

theorem spec_Var_c {n : Int} : Cn Try.prog 30 [iv n] [] [] (spec_Var n) (fun r (_ : Unit) => strV r) fun _ _ => [] := by
  unfold spec_Var
  refine Ci Try.func30 r r ?_
  rintro w S -
  refine Sr<|Qs 1 r<|Nx<|Sq<|Sr<|Qs 1 r<|Bi fun R1 H2=>Fo (Cl [] spec_l1In_c H2 r r1) fun _=>Qs 1 r<|Nx<|Wc r (fun H4=>Sr<|Qs 1 r<|Nx<|Wr<|Tr<|Re () []) fun H4=>Sn<|Sr<|Fo (Bs ([] : List UInt8) ke29 kz5) fun B5=>Qs 1 r<|Nx<|Sq<|Jn Value [] [] (fun T X=>[(0, iv T.1), (3, X)]) (fun T X=>[.own X (lc T.2)]) r2 r2 (?_) fun T8 X9=>?_
  ·refine Wb<|Lp Value [] [] (fun T X=>[(0, iv T.1), (3, X)]) (fun T X=>[.own X (lc T.2)]) (.slice (some ⟨B5, 0, none⟩) 0 0) [0] r2 r2 fun S6 X7=>Sq<|Sr<|Qs 2 r<|Nx<|Wc r (fun H10=>?_) fun H10=>?_
   ·exact Sn<|Wb<|Sr<|Qs 2 r<|Yo (Y.rem (by decide) r r)<|Qs 1 r<|Yo (Y.conv8 ki3 ki5 r)<|Fo (Bs [toU8 (IntKind.i64.wrap ((128 : Int) + (Int.tmod S6.1 (128 : Int))))] ke29 kz5) fun B11=>Bi fun E13 H14=>Fo (Ap [1] H14 ke29 kz5 r (Oc 0 r)) fun V12=>Qs 1 r<|Nx<|Rg<|Qs 1 r<|Yo (Y.quo (by decide) r r)<|Qs 1 r<|Nl<|Bn<|Lg V12 [0]
   exact Wx<|Tx<|Ex<|Be<|Jg X7 [0]
  exact Ne<|Sr<|Qs 2 r<|Yo (Y.conv8 ki3 ki5 r)<|Fo (Bs [toU8 T8.1] ke29 kz5) fun B15=>Bi fun E17 H18=>Fo (Ap [1] H18 ke29 kz5 r (Oc 0 r)) fun V16=>Yo (Y.toStr ke29 ki5 ks9 (Oc 0 r) r)<|Qs 1 r<|Nx<|Wr<|Re () []

/-- loop.example/g00950/spec.l6Piece -/
noncomputable def spec_l6Piece (s : List UInt8) : Option (List UInt8) :=
  (spec_Var ((s.length : Nat) : Int)).bind fun R1 =>
  (cat R1 s).bind fun E4 =>
  some E4

theorem spec_l6Piece_c {s : List UInt8} : Cn Try.prog 31 [strV s] [] [] (spec_l6Piece s) (fun r (_ : Unit) => strV r) fun _ _ => [] := by
  unfold spec_l6Piece
  refine Ci Try.func31 r r ?_
  rintro w S -
  exact Sr<|Qs 1 r<|Nx<|Sr<|Qs 1 r<|Yo (Y.slen ks9 r)<|Bi fun R1 H2=>Fo (Cl [] spec_Var_c H2 r r1) fun _=>Qs 1 r<|Bi fun E4 H5=>Yo (Y.cat H5 r r)<|Qs 1 r<|Nx<|Wr<|Re () []

/-- loop.example/g00950/spec.ShowBatch -/
noncomputable def spec_ShowBatch (l : List Op) : Option (List UInt8) :=
  (spec_BatchOk l).bind fun R1 =>
  if (!R1) = true then (some ([]))
  else ((spec_Var ((l.length : Nat) : Int)).bind fun R5 =>
  bindC (loopO (fun (S8 : List UInt8 × Int) => if (decide (S8.2 < ((l.length : Nat) : Int))) = true then ((idx l S8.2).bind fun E13 =>
  bindC (if E13.Del = true then ((cat S8.1 ([1])).bind fun E18 =>
  (spec_l6Piece E13.Key).bind fun R20 =>
  (cat E18 R20).bind fun E23 =>
  some (.go E23))
  else ((cat S8.1 ([0])).bind fun E25 =>
  (spec_l6Piece E13.Key).bind fun R27 =>
  (cat E25 R27).bind fun E30 =>
  (spec_l6Piece E13.Val).bind fun R32 =>
  (cat E30 R32).bind fun E35 =>
  some (.go E35)))
  (fun (T15 : List UInt8) => some (.go (T15, IntKind.i64.wrap (S8.2 + (1 : Int))))))
  else (some (.done (.go S8.1))))
  (R5, (0 : Int)))
  (fun (T10 : List UInt8) => some T10))

theorem spec_ShowBatch_c {l : List Op} {U0 : Value} : Cn Try.prog 14 [U0] [] [(U0, lc l)] (spec_ShowBatch l) (fun r (_ : Unit) => strV r) fun _ _ => [] := by
  unfold spec_ShowBatch
  refine Ci Try.func14 r r ?_
  rintro w S ⟨Z0,-⟩
  refine Sr<|Qs 1 r<|Nx<|Sq<|Sr<|Qs 1 r<|Bi fun R1 H2=>Fo (Cl [] spec_BatchOk_c H2 r r1 ⟨(Bc Z0),⟨⟩⟩) fun _=>Qs 1 r<|Nx<|Wc r (fun H4=>Sr<|Qs 1 r<|Nx<|Wr<|Tr<|Re () []) fun H4=>Sn<|Sr<|Qs 1 r<|Yo (Ln ke31 (Bc Z0) r)<|Bi fun R5 H6=>Fo (Cl [] spec_Var_c H6 r r1) fun _=>Qs 1 r<|Nx<|Sq<|Sr<|Qs 1 r<|Nx<|Ju [] (fun T=>[(3, strV T)]) r1 (?_) fun T10=>?_
  ·refine Wb<|Lu [0] (fun T=>[(3, strV T.1), (4, iv T.2)]) r1 fun S8=>Sq<|Sr<|Qs 2 r<|Yo (Ln ke31 (Bc Z0) r)<|Qs 1 r<|Nx<|Wc r (fun H12=>?_) fun H12=>?_
   ·refine Sn<|Sq<|Wb<|Sr<|Qs 2 r<|Bi fun E13 H14=>Yo (Ix ke31 (Bc Z0) H14 r)<|Yo (Fe kf52_1 (Bc Z0) H14 r)<|Yo (Le kk4 (Bc Z0) H14 r)<|Nx<|Ju [0,4] (fun T=>[(3, strV T)]) r1 (?_) fun T15=>?_
    ·refine Wc r (fun H17=>?_) fun H17=>?_
     ·exact Rg<|Qs 1 r<|Bi fun E18 H19=>Yo (Y.cat H19 r r)<|Qs 2 r<|Yo (Ix ke31 (Bc Z0) H14 r)<|Yo (Fe kf52_0 (Bc Z0) H14 r)<|Yo (Le kk9 (Bc Z0) H14 r)<|Bi fun R20 H21=>Fo (Cl [] spec_l6Piece_c H21 r r1) fun _=>Bi fun E23 H24=>Yo (Y.cat H24 r r)<|Qs 1 r<|Nl<|Jg () []
     refine Dr [] r hMix<|Aq [0] [] r<|Ai fun E25 H26=>Ay 1 [] r (Y.cat H26 r r)<|Aq [2,3] [] r<|Ay 4 [] r (Ix ke31 (Bc Z0) H14 r)<|Ay 5 [] r (Fe kf52_0 (Bc Z0) H14 r)<|Ay 6 [] r (Le kk9 (Bc Z0) H14 r)<|Aq [9,10] [] r<|Ay 11 [] r (Ix ke31 (Bc Z0) H14 r)<|Ay 12 [] r (Fe kf52_2 (Bc Z0) H14 r)<|Ay 13 [] r (Le kk9 (Bc Z0) H14 r)<|Ai fun R27 H28=>A1 7<|Xe [] r (Cl [] spec_l6Piece_c H28 r r1) fun _=>Ai fun E30 H31=>Ay 8 [] r (Y.cat H31 r r)<|Ai fun R32 H33=>A1 14<|Xe [] r (Cl [] spec_l6Piece_c H33 r r1) fun _=>Ai fun E35 H36=>?_
     exact Ay 15 [] r (Y.cat H36 r r)<|Aq [16] [] r<|Az<|Jg () []
    exact Bn<|Ne<|Rg<|Qs 3 r<|Nl<|Lg () []
   exact Wx<|Tx<|Ex<|Be<|Jg () []
  exact Ne<|Sr<|Qs 2 r<|Nx<|Wr<|Re () []

end Go.Proofs.Ytablbamlbfgfpaa
