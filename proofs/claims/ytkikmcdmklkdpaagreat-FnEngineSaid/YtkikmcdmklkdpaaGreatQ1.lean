/-
  The functions that a law reaches, each as a pure function, with the proof that the program computes it, and the step from a pure law to the given statement. Conditions: none.
-/
import Derived.Test.YtkikmcdmklkdpaaGreatSw
import Derived.Test.YtkikmcdmklkdpaaGreatSz
import Derived.Test.YtkikmcdmklkdpaaGreatRows
import Derived.Test.YtkikmcdmklkdpaaGreatSy
set_option linter.unusedVariables false
set_option maxRecDepth 100000
set_option maxHeartbeats 4000000
namespace Go.Proofs.YtkikmcdmklkdpaaGreat
open Go Sl
structure Ent where
  Key : List UInt8
  Seq : Int
  Del : Bool
  Val : List UInt8
  deriving DecidableEq
instance : Enc Ent := ⟨4, fun x => [.str x.Key, .int .i64 x.Seq, .bool x.Del, .str x.Val], fun _ => rfl, by decide⟩
instance : Dec Ent where
  sh := [.str, .int .i64, .bool, .str]
  ok x := x.Key.length ≤ 9223372036854775807 ∧ okI x.Seq ∧ True ∧ x.Val.length ≤ 9223372036854775807
  dec cs h := by
    obtain ⟨c0, r0, rfl, h0, h⟩ := h.cons_inv
    obtain ⟨c1, r1, rfl, h1, h⟩ := h.cons_inv
    obtain ⟨c2, r2, rfl, h2, h⟩ := h.cons_inv
    obtain ⟨c3, r3, rfl, h3, h⟩ := h.cons_inv
    obtain rfl := h.nil_inv
    obtain ⟨y0, rfl, w0⟩ := h0.str_inv
    obtain ⟨y1, rfl, w1_⟩ := h1.int_inv
    have w1 := okI_of w1_
    obtain ⟨y2, rfl⟩ := h2.bool_inv
    have w2 := True.intro
    obtain ⟨y3, rfl, w3⟩ := h3.str_inv
    exact ⟨{ Key := y0, Seq := y1, Del := y2, Val := y3 : Ent }, rfl, w0, w1, w2, w3⟩
instance : Flat Ent := { vals := fun x => [strV x.Key, .int .i64 x.Seq, .bool x.Del, strV x.Val], flat := fun _ => rfl }
instance : Enc (List Ent) := ⟨1, fun l => [lc l], fun _ => rfl, Nat.one_pos⟩
instance : Dec (List Ent) where
  sh := [.sl 4 (Dec.sh Ent)]
  ok l := okl l
  dec cs h := by
    obtain ⟨c0, r0, rfl, h0, h⟩ := h.cons_inv
    obtain rfl := h.nil_inv
    obtain ⟨y0, rfl, w0⟩ := h0.sl_inv (α := Ent) rfl
    exact ⟨y0, rfl, w0⟩
structure Eng where
  Mem : List Ent
  Tables : List (List Ent)
  Seq : Int
  Snaps : List Int
  deriving DecidableEq
instance : Enc Eng := ⟨4, fun x => [lc x.Mem, lc x.Tables, .int .i64 x.Seq, lc x.Snaps], fun _ => rfl, by decide⟩
instance : Dec Eng where
  sh := [.sl 4 (Dec.sh Ent), .sl 1 (Dec.sh (List Ent)), .int .i64, .sl 1 (Dec.sh Int)]
  ok x := okl x.Mem ∧ okl x.Tables ∧ okI x.Seq ∧ okl x.Snaps
  dec cs h := by
    obtain ⟨c0, r0, rfl, h0, h⟩ := h.cons_inv
    obtain ⟨c1, r1, rfl, h1, h⟩ := h.cons_inv
    obtain ⟨c2, r2, rfl, h2, h⟩ := h.cons_inv
    obtain ⟨c3, r3, rfl, h3, h⟩ := h.cons_inv
    obtain rfl := h.nil_inv
    obtain ⟨y0, rfl, w0⟩ := h0.sl_inv (α := Ent) rfl
    obtain ⟨y1, rfl, w1⟩ := h1.sl_inv (α := List Ent) rfl
    obtain ⟨y2, rfl, w2_⟩ := h2.int_inv
    have w2 := okI_of w2_
    obtain ⟨y3, rfl, w3⟩ := h3.sl_inv (α := Int) rfl
    exact ⟨{ Mem := y0, Tables := y1, Seq := y2, Snaps := y3 : Eng }, rfl, w0, w1, w2, w3⟩
structure L1Cur where
  b : List UInt8
  i : Int
  h : Int
  deriving DecidableEq
instance : Enc L1Cur := ⟨3, fun x => [lc x.b, .int .i64 x.i, .int .i64 x.h], fun _ => rfl, by decide⟩
instance : Dec L1Cur where
  sh := [.sl 1 (Dec.sh UInt8), .int .i64, .int .i64]
  ok x := okl x.b ∧ okI x.i ∧ okI x.h
  dec cs h := by
    obtain ⟨c0, r0, rfl, h0, h⟩ := h.cons_inv
    obtain ⟨c1, r1, rfl, h1, h⟩ := h.cons_inv
    obtain ⟨c2, r2, rfl, h2, h⟩ := h.cons_inv
    obtain rfl := h.nil_inv
    obtain ⟨y0, rfl, w0⟩ := h0.sl_inv (α := UInt8) rfl
    obtain ⟨y1, rfl, w1_⟩ := h1.int_inv
    have w1 := okI_of w1_
    obtain ⟨y2, rfl, w2_⟩ := h2.int_inv
    have w2 := okI_of w2_
    exact ⟨{ b := y0, i := y1, h := y2 : L1Cur }, rfl, w0, w1, w2⟩
structure Op where
  Key : List UInt8
  Del : Bool
  Val : List UInt8
  deriving DecidableEq
instance : Enc Op := ⟨3, fun x => [.str x.Key, .bool x.Del, .str x.Val], fun _ => rfl, by decide⟩
instance : Dec Op where
  sh := [.str, .bool, .str]
  ok x := x.Key.length ≤ 9223372036854775807 ∧ True ∧ x.Val.length ≤ 9223372036854775807
  dec cs h := by
    obtain ⟨c0, r0, rfl, h0, h⟩ := h.cons_inv
    obtain ⟨c1, r1, rfl, h1, h⟩ := h.cons_inv
    obtain ⟨c2, r2, rfl, h2, h⟩ := h.cons_inv
    obtain rfl := h.nil_inv
    obtain ⟨y0, rfl, w0⟩ := h0.str_inv
    obtain ⟨y1, rfl⟩ := h1.bool_inv
    have w1 := True.intro
    obtain ⟨y2, rfl, w2⟩ := h2.str_inv
    exact ⟨{ Key := y0, Del := y1, Val := y2 : Op }, rfl, w0, w1, w2⟩
instance : Flat Op := { vals := fun x => [strV x.Key, .bool x.Del, strV x.Val], flat := fun _ => rfl }
structure KV where
  Key : List UInt8
  Val : List UInt8
  deriving DecidableEq
instance : Enc KV := ⟨2, fun x => [.str x.Key, .str x.Val], fun _ => rfl, by decide⟩
instance : Dec KV where
  sh := [.str, .str]
  ok x := x.Key.length ≤ 9223372036854775807 ∧ x.Val.length ≤ 9223372036854775807
  dec cs h := by
    obtain ⟨c0, r0, rfl, h0, h⟩ := h.cons_inv
    obtain ⟨c1, r1, rfl, h1, h⟩ := h.cons_inv
    obtain rfl := h.nil_inv
    obtain ⟨y0, rfl, w0⟩ := h0.str_inv
    obtain ⟨y1, rfl, w1⟩ := h1.str_inv
    exact ⟨{ Key := y0, Val := y1 : KV }, rfl, w0, w1⟩
instance : Flat KV := { vals := fun x => [strV x.Key, strV x.Val], flat := fun _ => rfl }
instance : Enc (List KV) := ⟨1, fun l => [lc l], fun _ => rfl, Nat.one_pos⟩
instance : Dec (List KV) where
  sh := [.sl 2 (Dec.sh KV)]
  ok l := okl l
  dec cs h := by
    obtain ⟨c0, r0, rfl, h0, h⟩ := h.cons_inv
    obtain rfl := h.nil_inv
    obtain ⟨y0, rfl, w0⟩ := h0.sl_inv (α := KV) rfl
    exact ⟨y0, rfl, w0⟩
theorem hMix : Tryz.prog.follows .mixedOrders = true := by kernel_rfl
theorem ke22 : elemB Tryz.prog 22 = some (5, 1, 1) := by kernel_rfl
theorem kk5 : kindB Tryz.prog 5 = some (false, 1) := by kernel_rfl
theorem ki5 : intB Tryz.prog 5 = some .u8 := by kernel_rfl
theorem ki3 : intB Tryz.prog 3 = some .i64 := by kernel_rfl
theorem ke25 : elemB Tryz.prog 25 = some (24, 1, 24) := by kernel_rfl
theorem kk24 : kindB Tryz.prog 24 = some (false, 1) := by kernel_rfl
theorem ke24 : elemB Tryz.prog 24 = some (72, 4, 48) := by kernel_rfl
theorem ks9 : isStrB Tryz.prog 9 = true := by kernel_rfl
theorem kf72_0 : fieldB Tryz.prog 72 0 = some 0 := by kernel_rfl
theorem kk9 : kindB Tryz.prog 9 = some (false, 1) := by kernel_rfl
theorem kf72_1 : fieldB Tryz.prog 72 1 = some 1 := by kernel_rfl
theorem kk3 : kindB Tryz.prog 3 = some (false, 1) := by kernel_rfl
theorem kf72_2 : fieldB Tryz.prog 72 2 = some 2 := by kernel_rfl
theorem kk4 : kindB Tryz.prog 4 = some (false, 1) := by kernel_rfl
theorem kf72_3 : fieldB Tryz.prog 72 3 = some 3 := by kernel_rfl
theorem ke26 : elemB Tryz.prog 26 = some (3, 1, 8) := by kernel_rfl
theorem kz3 : zeroB Tryz.prog 3 = some (.int .i64 (0 : Int)) := by kernel_rfl
theorem kk72 : kindB Tryz.prog 72 = some (true, 4) := by kernel_rfl
theorem kz72 : zeroB Tryz.prog 72 = some (.agg #[strV ([]), .int .i64 (0 : Int), .bool false, strV ([])]) := by kernel_rfl
theorem kf28_1 : fieldB Tryz.prog 28 1 = some 1 := by kernel_rfl
theorem kk25 : kindB Tryz.prog 25 = some (false, 1) := by kernel_rfl
theorem kf28_0 : fieldB Tryz.prog 28 0 = some 0 := by kernel_rfl
theorem kf28_2 : fieldB Tryz.prog 28 2 = some 2 := by kernel_rfl
theorem kf28_3 : fieldB Tryz.prog 28 3 = some 3 := by kernel_rfl
theorem kk26 : kindB Tryz.prog 26 = some (false, 1) := by kernel_rfl
theorem kk28 : kindB Tryz.prog 28 = some (true, 4) := by kernel_rfl
theorem kz28 : zeroB Tryz.prog 28 = some (.agg #[.slice none 0 0, .slice none 0 0, .int .i64 (0 : Int), .slice none 0 0]) := by kernel_rfl
theorem kp28 : placesB Tryz.prog 28 = some [(0, 1), (1, 1), (2, 1), (3, 1)] := by kernel_rfl
theorem kz24 : zeroB Tryz.prog 24 = some (.slice none 0 0) := by kernel_rfl
theorem ki120 : intB Tryz.prog 120 = some .u64 := by kernel_rfl
theorem kz5 : zeroB Tryz.prog 5 = some (.int .u8 (0 : Int)) := by kernel_rfl
theorem kz80 : zeroB Tryz.prog 80 = some (.agg #[.slice none 0 0, .int .i64 (0 : Int), .int .i64 (0 : Int)]) := by kernel_rfl
theorem kp80 : placesB Tryz.prog 80 = some [(0, 1), (1, 1), (2, 1)] := by kernel_rfl
theorem kf80_2 : fieldB Tryz.prog 80 2 = some 2 := by kernel_rfl
theorem kf80_1 : fieldB Tryz.prog 80 1 = some 1 := by kernel_rfl
theorem kf80_0 : fieldB Tryz.prog 80 0 = some 0 := by kernel_rfl
theorem kk22 : kindB Tryz.prog 22 = some (false, 1) := by kernel_rfl
theorem kf61_0 : fieldB Tryz.prog 61 0 = some 0 := by kernel_rfl
theorem kf61_2 : fieldB Tryz.prog 61 2 = some 2 := by kernel_rfl
theorem kf61_1 : fieldB Tryz.prog 61 1 = some 1 := by kernel_rfl
theorem kz61 : zeroB Tryz.prog 61 = some (.agg #[strV ([]), .bool false, strV ([])]) := by kernel_rfl
theorem kp61 : placesB Tryz.prog 61 = some [(0, 1), (1, 1), (2, 1)] := by kernel_rfl
theorem kp72 : placesB Tryz.prog 72 = some [(0, 1), (1, 1), (2, 1), (3, 1)] := by kernel_rfl
theorem ke89 : elemB Tryz.prog 89 = some (9, 1, 16) := by kernel_rfl
theorem kz9 : zeroB Tryz.prog 9 = some (strV ([])) := by kernel_rfl
theorem ke36 : elemB Tryz.prog 36 = some (61, 3, 40) := by kernel_rfl
theorem kk61 : kindB Tryz.prog 61 = some (true, 3) := by kernel_rfl
theorem ke29 : elemB Tryz.prog 29 = some (49, 2, 32) := by kernel_rfl
theorem kf49_0 : fieldB Tryz.prog 49 0 = some 0 := by kernel_rfl
theorem kf49_1 : fieldB Tryz.prog 49 1 = some 1 := by kernel_rfl
theorem kz49 : zeroB Tryz.prog 49 = some (.agg #[strV ([]), strV ([])]) := by kernel_rfl
theorem kp49 : placesB Tryz.prog 49 = some [(0, 1), (1, 1)] := by kernel_rfl
theorem kk49 : kindB Tryz.prog 49 = some (true, 2) := by kernel_rfl
theorem keq49 : eqTB Tryz.prog 49 = some [2, 2] := by kernel_rfl
theorem kz29 : zeroB Tryz.prog 29 = some (.slice none 0 0) := by kernel_rfl
theorem ke30 : elemB Tryz.prog 30 = some (29, 1, 24) := by kernel_rfl
theorem kb4 : Tryz.prog.underlying 4 = some .bool := by kernel_rfl
theorem kk29 : kindB Tryz.prog 29 = some (false, 1) := by kernel_rfl
theorem hu22 : Tryz.prog.underlying 22 = some (.slice 5) := by kernel_rfl
theorem hs22 : shB Tryz.prog 20 22 = some ([.sl 1 (Dec.sh UInt8)]) := by kernel_rfl
noncomputable def laws_big (code : List UInt8) : Option Bool :=
  some (decide (((code.length : Nat) : Int) > (1048576 : Int)))
theorem laws_big_c {code : List UInt8} {U0 : Value} : Cn Tryz.prog 4 [U0] [] [(U0, lc code)] (laws_big code) (fun r (_ : Unit) => .bool r) fun _ _ => [] := by
  unfold laws_big
  refine Ci Tryz.func4 r r ?_
  rintro w S ⟨Z0,-⟩
  exact Sr<|Qs 1 r<|Nx<|Sr<|Qs 1 r<|Yo (Ln ke22 (Bc Z0) r)<|Qs 2 r<|Nx<|Wr<|Re () []
noncomputable def laws_at (code : List UInt8) (i : Int) : Option Int :=
  if (decide (i < ((code.length : Nat) : Int))) = true then ((idx code i).bind fun E2 =>
  some (IntKind.i64.wrap ((E2.toNat : Nat) : Int)))
  else (some (Int.tmod (IntKind.i64.wrap (IntKind.i64.wrap (i * (37 : Int)) + (IntKind.i64.wrap (((code.length : Nat) : Int) * (11 : Int))))) (256 : Int)))
theorem laws_at_c {code : List UInt8} {i : Int} {U0 : Value} : Cn Tryz.prog 5 [U0, iv i] [] [(U0, lc code)] (laws_at code i) (fun r (_ : Unit) => iv r) fun _ _ => [] := by
  unfold laws_at
  refine Ci Tryz.func5 r r ?_
  rintro w S ⟨Z0,-⟩
  exact Sr<|Qs 1 r<|Nx<|Sq<|Sr<|Qs 2 r<|Yo (Ln ke22 (Bc Z0) r)<|Qs 1 r<|Nx<|Wc r (fun H1=>Sr<|Qs 2 r<|Bi fun E2 H3=>Yo (Ix ke22 (Bc Z0) H3 r)<|Yo (Le kk5 (Bc Z0) H3 r)<|Yo (Y.conv ki5 ki3 r)<|Qs 1 r<|Nx<|Wr<|Tr<|Re () []) fun H1=>Sn<|Sr<|Qs 3 r<|Yo (Ln ke22 (Bc Z0) r)<|Qs 2 r<|Yo (Y.rem (by decide) r r)<|Qs 1 r<|Nx<|Wr<|Re () []
noncomputable def impl_inRange (n : Int) (least : Int) (most : Int) : Option Bool :=
  (if (decide (n ≥ least)) = true then (some (decide (n ≤ most)))
  else (some false)).bind (fun (T1 : Bool) =>
  some T1)
theorem impl_inRange_c {n : Int} {least : Int} {most : Int} : Cn Tryz.prog 41 [iv n, iv least, iv most] [] [] (impl_inRange n least most) (fun r (_ : Unit) => .bool r) fun _ _ => [] := by
  unfold impl_inRange
  refine Ci Tryz.func41 r r ?_
  rintro w S -
  exact Sr<|Qs 1 r<|Nx<|Sq<|Jv [] (fun T=>[(6, .bool T)]) r1 (Rg<|Qs 4 r<|It (fun H3=>Qg 3 (beq_tt H3) r r<|Yo (Pt H3 r)<|Qs 1 r<|Nl<|Bg () []) fun H3=>Of 3 (beq_ft H3) r r<|Yo (Pf H3 r)<|Qs 1 r<|Nl<|Bg () []) fun T1=>Ne<|Wr<|Re () []
noncomputable def impl_isNumber (n : Int) : Option Bool :=
  (impl_inRange n (0 : Int) (1000000 : Int)).bind fun R1 =>
  some R1
theorem impl_isNumber_c {n : Int} : Cn Tryz.prog 39 [iv n] [] [] (impl_isNumber n) (fun r (_ : Unit) => .bool r) fun _ _ => [] := by
  unfold impl_isNumber
  refine Ci Tryz.func39 r r ?_
  rintro w S -
  exact Sr<|Qs 1 r<|Nx<|Sr<|Qs 1 r<|Bi fun R1 H2=>Fo (Cl [] impl_inRange_c H2 r r1) fun _=>Qs 1 r<|Nx<|Wr<|Re () []
noncomputable def impl_totalOf (l : List (List Ent)) : Option Int :=
  bindC (loopO (fun (S1 : Int × Int) => if (decide (S1.2 < ((l.length : Nat) : Int))) = true then ((idx l S1.2).bind fun E6 =>
  some (.go (IntKind.i64.wrap (S1.1 + ((E6.length : Nat) : Int)), IntKind.i64.wrap (S1.2 + (1 : Int)))))
  else (some (.done (.go S1.1))))
  ((0 : Int), (0 : Int)))
  (fun (T3 : Int) => some T3)
theorem impl_totalOf_c {l : List (List Ent)} {U0 : Value} : Cn Tryz.prog 65 [U0] [] [(U0, lc l)] (impl_totalOf l) (fun r (_ : Unit) => iv r) fun _ _ => [] := by
  unfold impl_totalOf
  refine Ci Tryz.func65 r r ?_
  rintro w S ⟨Z0,-⟩
  refine Sr<|Qs 1 r<|Nx<|Sr<|Qs 1 r<|Nx<|Sq<|Sr<|Qs 1 r<|Yo (Ln ke25 (Bc Z0) r)<|Qs 1 r<|Nx<|Ju [] (fun T=>[(3, iv T)]) r1 (?_) fun T3=>?_
  ·refine Wb<|Lu [6,7] (fun T=>[(3, iv T.1), (8, iv T.2)]) r1 fun S1=>Sr<|Qs 1 r<|Nx<|Sq<|Wc r (fun H5=>?_) fun H5=>?_
   ·refine Sn<|Sq<|Wb<|Sr<|Bi fun E6 H7=>Yo (Ix ke25 (Bc Z0) H7 r)<|?_
    have Q8 : Base w S (elv w U0 (S1.2.toNat * 1 + 0)) (lc E6):=Base.el Z0 (idx_get H7).2.2 r r
    exact Yo (Lz kk24 Z0 H7 r)<|Qs 1 r<|Nx<|Rg<|Qs 2 r<|Yo (Ln ke24 (Bc Q8) r)<|Qs 2 r<|Nl<|Bn<|Ne<|Rg<|Qs 2 r<|Nl<|Lg () []
   exact Wx<|Tx<|Ex<|Be<|Jg () []
  exact Ne<|Sr<|Qs 2 r<|Nx<|Wr<|Re () []
noncomputable def impl_isKey (s : List UInt8) : Option Bool :=
  (impl_inRange ((s.length : Nat) : Int) (1 : Int) (10 : Int)).bind fun R1 =>
  some R1
theorem impl_isKey_c {s : List UInt8} : Cn Tryz.prog 60 [strV s] [] [] (impl_isKey s) (fun r (_ : Unit) => .bool r) fun _ _ => [] := by
  unfold impl_isKey
  refine Ci Tryz.func60 r r ?_
  rintro w S -
  exact Sr<|Qs 1 r<|Nx<|Sr<|Qs 1 r<|Yo (Y.slen ks9 r)<|Bi fun R1 H2=>Fo (Cl [] impl_inRange_c H2 r r1) fun _=>Qs 1 r<|Nx<|Wr<|Re () []
noncomputable def impl_isVal (del : Bool) (val : List UInt8) : Option Bool :=
  (if (decide (((val.length : Nat) : Int) ≤ (16 : Int))) = true then (if del = true then (some (!(!(decide (val = ([]))))))
  else (some (!false)))
  else (some false)).bind (fun (T1 : Bool) =>
  some T1)
theorem impl_isVal_c {del : Bool} {val : List UInt8} : Cn Tryz.prog 61 [.bool del, strV val] [] [] (impl_isVal del val) (fun r (_ : Unit) => .bool r) fun _ _ => [] := by
  unfold impl_isVal
  refine Ci Tryz.func61 r r ?_
  rintro w S -
  refine Sr<|Qs 1 r<|Nx<|Sq<|Jv [] (fun T=>[(4, .bool T)]) r1 (?_) fun T1=>?_
  ·exact Rg<|Qs 1 r<|Yo (Y.slen ks9 r)<|Qs 2 r<|It (fun H3=>Qg 2 (beq_tt H3) r r<|It (fun H4=>Qg 2 (beq_tt H4) r r<|Yg (gdA (beq_tt H3)) (Pt H4 r)<|Qg 1 (beq_tt H3) r r<|Yo (Pt H3 r)<|Qs 1 r<|Nl<|Bg () []) fun H4=>Of 2 (beq_ft H4) r r<|Yg (gdA (beq_tt H3)) (Pf H4 r)<|Qg 1 (beq_tt H3) r r<|Yo (Pt H3 r)<|Qs 1 r<|Nl<|Bg () []) fun H3=>Of 2 (beq_ft H3) r r<|Ou 2 r r<|Of 2 (beq_ft H3) r r<|Yo (Pf H3 r)<|Qs 1 r<|Nl<|Bg () []
  exact Ne<|Wr<|Re () []
noncomputable def impl_entOk (e : Ent) : Option Bool :=
  ((impl_isKey e.Key).bind fun R4 =>
  if R4 = true then ((impl_isNumber e.Seq).bind fun R8 =>
  if R8 = true then ((impl_isVal e.Del e.Val).bind fun R12 =>
  some R12)
  else (some false))
  else (some false)).bind (fun (T2 : Bool) =>
  some T2)
theorem impl_entOk_c {e : Ent} : Cn Tryz.prog 92 [.agg #[strV e.Key, iv e.Seq, .bool e.Del, strV e.Val]] [] [] (impl_entOk e) (fun r (_ : Unit) => .bool r) fun _ _ => [] := by
  unfold impl_entOk
  refine Ci Tryz.func92 r r ?_
  rintro w S -
  refine Sr<|Fo (Bx r (Cp r)) fun B1=>Qs 1 r<|Nx<|Sq<|Jb Unit [] [] (fun T _=>[(2, .bool T)]) (fun _ _=>[]) r2 r2 (?_) fun T2 X3=>?_
  ·refine Rg<|Yo (Fb kf72_0 r)<|Yo (Lb 0 kk9 r)<|Bi fun R4 H5=>Fo (Cl [] impl_isKey_c H5 r r1) fun _=>Qs 1 r<|It (fun H7=>?_) fun H7=>?_
   ·exact Yg (gdA (beq_tt H7)) (Fb kf72_1 r)<|Yg (gdA (beq_tt H7)) (Lb 0 kk3 r)<|Bi fun R8 H9=>Fg (gdA (beq_tt H7)) (Cl [] impl_isNumber_c H9 r r1) fun _=>Yo (Pt H7 r)<|Qs 1 r<|It (fun H11=>Yg (gdA (beq_tt H11)) (Fb kf72_2 r)<|Yg (gdA (beq_tt H11)) (Lb 0 kk4 r)<|Yg (gdA (beq_tt H11)) (Fb kf72_3 r)<|Yg (gdA (beq_tt H11)) (Lb 0 kk9 r)<|Bi fun R12 H13=>Fg (gdA (beq_tt H11)) (Cl [] impl_isVal_c H13 r r1) fun _=>Yo (Pt H11 r)<|Qs 1 r<|Nl<|Bg () []) fun H11=>Of 5 (beq_ft H11) r r<|Yo (Pf H11 r)<|Qs 1 r<|Nl<|Bg () []
   exact Of 3 (beq_ft H7) r r<|Yo (Pf H7 r)<|Qs 1 r<|Of 5 r r r<|Yo (Pf r r)<|Qs 1 r<|Nl<|Bg () []
  exact Ne<|Wr<|Re () []
noncomputable def cmp_isNaN_83645 (x : List UInt8) : Option Bool :=
  some (!(decide (x = x)))
theorem cmp_isNaN_83645_c {x : List UInt8} : Cn Tryz.prog 107 [strV x] [] [] (cmp_isNaN_83645 x) (fun r (_ : Unit) => .bool r) fun _ _ => [] := by
  unfold cmp_isNaN_83645
  refine Ci Tryz.func107 r r ?_
  rintro w S -
  exact Sr<|Qs 1 r<|Nx<|Sr<|Qs 4 r<|Nx<|Wr<|Re () []
noncomputable def cmp_Compare_83645 (x : List UInt8) (y : List UInt8) : Option Int :=
  (cmp_isNaN_83645 x).bind fun R1 =>
  (cmp_isNaN_83645 y).bind fun R4 =>
  if R1 = true then (if R4 = true then (some (0 : Int))
  else (some (-1 : Int)))
  else (if R4 = true then (some (1 : Int))
  else (if (sLt x y) = true then (some (-1 : Int))
  else (if (!(sLt x y || decide (x = y))) = true then (some (1 : Int))
  else (some (0 : Int)))))
theorem cmp_Compare_83645_c {x : List UInt8} {y : List UInt8} : Cn Tryz.prog 97 [strV x, strV y] [] [] (cmp_Compare_83645 x y) (fun r (_ : Unit) => iv r) fun _ _ => [] := by
  unfold cmp_Compare_83645
  refine Ci Tryz.func97 r r ?_
  rintro w S -
  refine Sr<|Qs 1 r<|Nx<|Sr<|Qs 1 r<|Bi fun R1 H2=>Fo (Cl [] cmp_isNaN_83645_c H2 r r1) fun _=>Qs 1 r<|Nx<|Sr<|Qs 1 r<|Bi fun R4 H5=>Fo (Cl [] cmp_isNaN_83645_c H5 r r1) fun _=>Qs 1 r<|Nx<|Sq<|Sr<|Qs 1 r<|Nx<|Wc r (fun H7=>Sq<|Sr<|Qs 1 r<|Nx<|Wc r (fun H8=>Sr<|Qs 1 r<|Nx<|Wr<|Tr<|Tr<|Re () []) fun H8=>Sn<|Sr<|Qs 1 r<|Nx<|Wr<|Tr<|Re () []) fun H7=>Sn<|Sq<|Sr<|Qs 1 r<|Nx<|Wc r (fun H9=>Sr<|Qs 1 r<|Nx<|Wr<|Tr<|Re () []) fun H9=>Sn<|Sq<|Sr<|Qs 3 r<|Nx<|Wc r (fun H10=>Sr<|Qs 1 r<|Nx<|Wr<|Tr<|Re () []) fun H10=>Sn<|Sq<|Sr<|Qs 3 r<|Nx<|Wc r (fun H11=>Sr<|Qs 1 r<|Nx<|Wr<|Tr<|Re () []) fun H11=>?_
  exact Sn<|Sr<|Qs 1 r<|Nx<|Wr<|Re () []
noncomputable def cmp_isNaN_26527 (x : Int) : Option Bool :=
  some (!(decide (x = x)))
theorem cmp_isNaN_26527_c {x : Int} : Cn Tryz.prog 108 [iv x] [] [] (cmp_isNaN_26527 x) (fun r (_ : Unit) => .bool r) fun _ _ => [] := by
  unfold cmp_isNaN_26527
  refine Ci Tryz.func108 r r ?_
  rintro w S -
  exact Sr<|Qs 1 r<|Nx<|Sr<|Qs 4 r<|Nx<|Wr<|Re () []
noncomputable def cmp_Compare_26527 (x : Int) (y : Int) : Option Int :=
  (cmp_isNaN_26527 x).bind fun R1 =>
  (cmp_isNaN_26527 y).bind fun R4 =>
  if R1 = true then (if R4 = true then (some (0 : Int))
  else (some (-1 : Int)))
  else (if R4 = true then (some (1 : Int))
  else (if (decide (x < y)) = true then (some (-1 : Int))
  else (if (decide (x > y)) = true then (some (1 : Int))
  else (some (0 : Int)))))
theorem cmp_Compare_26527_c {x : Int} {y : Int} : Cn Tryz.prog 98 [iv x, iv y] [] [] (cmp_Compare_26527 x y) (fun r (_ : Unit) => iv r) fun _ _ => [] := by
  unfold cmp_Compare_26527
  refine Ci Tryz.func98 r r ?_
  rintro w S -
  refine Sr<|Qs 1 r<|Nx<|Sr<|Qs 1 r<|Bi fun R1 H2=>Fo (Cl [] cmp_isNaN_26527_c H2 r r1) fun _=>Qs 1 r<|Nx<|Sr<|Qs 1 r<|Bi fun R4 H5=>Fo (Cl [] cmp_isNaN_26527_c H5 r r1) fun _=>Qs 1 r<|Nx<|Sq<|Sr<|Qs 1 r<|Nx<|Wc r (fun H7=>Sq<|Sr<|Qs 1 r<|Nx<|Wc r (fun H8=>Sr<|Qs 1 r<|Nx<|Wr<|Tr<|Tr<|Re () []) fun H8=>Sn<|Sr<|Qs 1 r<|Nx<|Wr<|Tr<|Re () []) fun H7=>Sn<|Sq<|Sr<|Qs 1 r<|Nx<|Wc r (fun H9=>Sr<|Qs 1 r<|Nx<|Wr<|Tr<|Re () []) fun H9=>Sn<|Sq<|Sr<|Qs 3 r<|Nx<|Wc r (fun H10=>Sr<|Qs 1 r<|Nx<|Wr<|Tr<|Re () []) fun H10=>Sn<|Sq<|Sr<|Qs 3 r<|Nx<|Wc r (fun H11=>Sr<|Qs 1 r<|Nx<|Wr<|Tr<|Re () []) fun H11=>?_
  exact Sn<|Sr<|Qs 1 r<|Nx<|Wr<|Re () []
noncomputable def cmp_Or_26527 (vals : List Int) : Option Int :=
  bindC (loopO (fun (S1 : Int) => if (decide (S1 < ((vals.length : Nat) : Int))) = true then ((idx vals S1).bind fun E6 =>
  if (!(decide (E6 = (0 : Int)))) = true then (some (.done (.done E6)))
  else (some (.go (IntKind.i64.wrap (S1 + (1 : Int))))))
  else (some (.done (.go ()))))
  (0 : Int))
  (fun (T3 : Unit) => some (0 : Int))
theorem cmp_Or_26527_c {vals : List Int} {U0 : Value} : Cn Tryz.prog 96 [U0] [] [(U0, lc vals)] (cmp_Or_26527 vals) (fun r (_ : Unit) => iv r) fun _ _ => [] := by
  unfold cmp_Or_26527
  refine Ci Tryz.func96 r r ?_
  rintro w S ⟨Z0,-⟩
  refine Sr<|Qs 1 r<|Nx<|Sr<|Qs 1 r<|Nx<|Sq<|Sr<|Qs 1 r<|Yo (Ln ke26 (Bc Z0) r)<|Qs 1 r<|Nx<|Ju [3] (fun _=>[]) r1 (?_) fun T3=>?_
  ·exact Wb<|Lu [3,6,7] (fun T=>[(8, iv T)]) r1 fun S1=>Sr<|Qs 1 r<|Nx<|Sq<|Wc r (fun H5=>Sn<|Sq<|Wb<|Sr<|Bi fun E6 H7=>Yo (Ix ke26 (Bc Z0) H7 r)<|Yo (Le kk3 (Bc Z0) H7 r)<|Qs 1 r<|Nx<|Sr<|Qs 3 r<|Nx<|Wc r (fun H8=>Sr<|Qs 2 r<|Nx<|Wr<|Br<|Tr<|Er<|Br<|Jd<|Tr<|Re () []) fun H8=>Sk<|Bn<|Ne<|Rg<|Qs 2 r<|Nl<|Lg () []) fun H5=>Wx<|Tx<|Ex<|Be<|Jg () []
  exact Ne<|Sr<|Qs 2 r<|Nx<|Wr<|Re () []
noncomputable def impl_compareEnts (a : Ent) (b : Ent) : Option Int :=
  (cmp_Compare_83645 a.Key b.Key).bind fun R3 =>
  (cmp_Compare_26527 b.Seq a.Seq).bind fun R6 =>
  (cmp_Or_26527 ([R3, R6])).bind fun R10 =>
  some R10
theorem impl_compareEnts_c {a : Ent} {b : Ent} : Cn Tryz.prog 79 [.agg #[strV a.Key, iv a.Seq, .bool a.Del, strV a.Val], .agg #[strV b.Key, iv b.Seq, .bool b.Del, strV b.Val]] [] [] (impl_compareEnts a b) (fun r (_ : Unit) => iv r) fun _ _ => [] := by
  unfold impl_compareEnts
  refine Ci Tryz.func79 r r ?_
  rintro w S -
  refine Sr<|Fo (Bx r (Cp r)) fun B1=>Fo (Bx r (Cp r)) fun B2=>Qs 1 r<|Nx<|Sq<|Dr [0,0] r hMix<|Ay 0 [0,0] r (Fb kf72_0 r)<|Ay 1 [0,0] r (Lb 1 kk9 r)<|Ay 2 [0,0] r (Fb kf72_0 r)<|Ay 3 [0,0] r (Lb 0 kk9 r)<|Ay 5 [0,0] r (Fb kf72_1 r)<|Ay 6 [0,0] r (Lb 0 kk3 r)<|Ay 7 [0,0] r (Fb kf72_1 r)<|Ay 8 [0,0] r (Lb 1 kk3 r)<|Ai fun R3 H4=>A1 4<|Xe [0,0] r (Cl [] cmp_Compare_83645_c H4 r r1) fun _=>Ai fun R6 H7=>A1 9<|Xe [0,0] r (Cl [] cmp_Compare_26527_c H7 r r1) fun _=>A1 10<|Xe [1,1] r (Bs [R3, R6] ke26 kz3) fun B9=>Ai fun R10 H11=>A1 11<|Xe [1,1] r (Cl [] cmp_Or_26527_c H11 r r1 ⟨(Oc 0 r),⟨⟩⟩) fun _=>?_
  exact Aq [12] [1,1] r<|Az<|Ne<|Wr<|Re () []
noncomputable def impl_inOrder (l : List Ent) : Option Bool :=
  bindC (loopO (fun (S1 : Int) => if (decide (S1 < ((l.length : Nat) : Int))) = true then ((idx l S1).bind fun E6 =>
  ((impl_entOk E6).bind fun R11 =>
  if (!R11) = true then (some true)
  else (if (decide (S1 > (0 : Int))) = true then ((idx l (IntKind.i64.wrap (S1 - (1 : Int)))).bind fun E16 =>
  (impl_compareEnts E16 E6).bind fun R18 =>
  some (decide (R18 ≥ (0 : Int))))
  else (some false))).bind (fun (T9 : Bool) =>
  if T9 = true then (some (.done (.done false)))
  else (some (.go (IntKind.i64.wrap (S1 + (1 : Int)))))))
  else (some (.done (.go ()))))
  (0 : Int))
  (fun (T3 : Unit) => some true)
theorem impl_inOrder_c {l : List Ent} {U0 : Value} : Cn Tryz.prog 72 [U0] [] [(U0, lc l)] (impl_inOrder l) (fun r (_ : Unit) => .bool r) fun _ _ => [] := by
  unfold impl_inOrder
  refine Ci Tryz.func72 r r ?_
  rintro w S ⟨Z0,-⟩
  refine Sr<|Qs 1 r<|Nx<|Sq<|Sr<|Qs 1 r<|Yo (Ln ke24 (Bc Z0) r)<|Qs 1 r<|Nx<|Ju [] (fun _=>[]) r1 (?_) fun T3=>?_
  ·refine Wb<|Lu [0,5,6] (fun T=>[(7, iv T)]) r1 fun S1=>Sr<|Qs 1 r<|Nx<|Sq<|Wc r (fun H5=>?_) fun H5=>?_
   ·refine Sn<|Sq<|Wb<|Sr<|Qs 1 r<|Bi fun E6 H7=>Yo (Ix ke24 (Bc Z0) H7 r)<|Yo (Le kk72 (Bc Z0) H7 r)<|Fo (Al kz72 r) fun B8=>Qs 1 r<|Fu (Sb 0 kk72 r (Cp r) r)<|Nx<|Sq<|Jb Unit [0,5,6,7] [] (fun T _=>[(28, .bool T)]) (fun _ _=>[]) r2 r2 (?_) fun T9 X10=>?_
    ·refine Dr [0] r hMix<|Ay 0 [0] r (Lb 0 kk72 r)<|Ai fun R11 H12=>A1 1<|Xe [0] r (Cl [] impl_entOk_c H12 r r1) fun _=>Aq [2,3] [0] r<|Ia (fun H14=>Ax [4,5,6] [0] (beq_tf H14) r r<|Au [7,8,9,10,11,12,13,14] [0] r r<|Ax [15] [0] (beq_tf H14) r r<|Ay 16 [0] r (Pt H14 r)<|Az<|Bg () []) fun H14=>Ag 4 [0] (gdA (beq_ff H14)) r (Y.move r)<|Ag 5 [0] (gdA (beq_ff H14)) r (Y.gtr r r)<|Ag 6 [0] (gdA (beq_ff H14)) r (Y.move r)<|Ia (fun H15=>?_) fun H15=>?_
     ·exact Ag 7 [0] (gdA (beq_tt H15)) r (Y.move r)<|Ag 8 [0] (gdA (beq_tt H15)) r (Y.move r)<|Ag 9 [0] (gdA (beq_tt H15)) r (Y.sub r r)<|Ai fun E16 H17=>Ag 10 [0] (gdA (beq_tt H15)) r (Ix ke24 (Bc Z0) H17 r)<|Ag 11 [0] (gdA (beq_tt H15)) r (Le kk72 (Bc Z0) H17 r)<|Ag 12 [0] (gdA (beq_tt H15)) r (Lb 0 kk72 r)<|Ai fun R18 H19=>A1 13<|Xeg [0] (gdA (beq_tt H15)) r (Cl [] impl_compareEnts_c H19 r r1) fun _=>Ag 14 [0] (gdA (beq_tt H15)) r (Y.geq r r)<|Ag 15 [0] (gdA (beq_ff H14)) r (Pt H15 r)<|Ay 16 [0] r (Pf H14 r)<|Az<|Bg () []
     exact Ax [7,8,9,10,11,12,13,14] [0] (beq_ft H15) r r<|Ag 15 [0] (gdA (beq_ff H14)) r (Pf H15 r)<|Ay 16 [0] r (Pf H14 r)<|Az<|Bg () []
    exact Ne<|Wc r (fun H21=>Sr<|Qs 1 r<|Nx<|Wr<|Br<|Tr<|Er<|Br<|Jd<|Tr<|Re () []) fun H21=>Sk<|Bn<|Ne<|Rg<|Qs 2 r<|Nl<|Lg () []
   exact Wx<|Tx<|Ex<|Be<|Jg () []
  exact Ne<|Sr<|Qs 1 r<|Nx<|Wr<|Re () []
noncomputable def impl_MemOk (l : List Ent) : Option Bool :=
  (if (decide (((l.length : Nat) : Int) ≤ (60 : Int))) = true then ((impl_inOrder l).bind fun R4 =>
  some R4)
  else (some false)).bind (fun (T1 : Bool) =>
  some T1)
theorem impl_MemOk_c {l : List Ent} {U0 : Value} : Cn Tryz.prog 70 [U0] [] [(U0, lc l)] (impl_MemOk l) (fun r (_ : Unit) => .bool r) fun _ _ => [] := by
  unfold impl_MemOk
  refine Ci Tryz.func70 r r ?_
  rintro w S ⟨Z0,-⟩
  refine Sr<|Qs 1 r<|Nx<|Sq<|Jv [] (fun T=>[(2, .bool T)]) r1 (?_) fun T1=>?_
  ·exact Rg<|Qs 1 r<|Yo (Ln ke24 (Bc Z0) r)<|Qs 2 r<|It (fun H3=>Qg 1 (beq_tt H3) r r<|Bi fun R4 H5=>Fg (gdA (beq_tt H3)) (Cl [] impl_inOrder_c H5 r r1 ⟨(Bc Z0),⟨⟩⟩) fun _=>Yo (Pt H3 r)<|Qs 1 r<|Nl<|Bg () []) fun H3=>Of 2 (beq_ft H3) r r<|Yo (Pf H3 r)<|Qs 1 r<|Nl<|Bg () []
  exact Ne<|Wr<|Re () []
noncomputable def impl_seqRange (l : List Ent) : Option (Int × Int) :=
  bindC (loopO (fun (S1 : Int × Int × Int) => if (decide (S1.2.2 < ((l.length : Nat) : Int))) = true then ((idx l S1.2.2).bind fun E6 =>
  some (.go (goMin S1.1 E6.Seq, goMax S1.2.1 E6.Seq, IntKind.i64.wrap (S1.2.2 + (1 : Int)))))
  else (some (.done (.go (S1.1, S1.2.1)))))
  ((1000001 : Int), (-1 : Int), (0 : Int)))
  (fun (T3 : Int × Int) => some (T3.1, T3.2))
theorem impl_seqRange_c {l : List Ent} {U0 : Value} : Cn Tryz.prog 71 [U0] [] [(U0, lc l)] (impl_seqRange l) (fun r (_ : Unit) => .tuple #[iv r.1, iv r.2]) fun _ _ => [] := by
  unfold impl_seqRange
  refine Ci Tryz.func71 r r ?_
  rintro w S ⟨Z0,-⟩
  refine Sr<|Qs 2 r<|Nx<|Sr<|Qs 2 r<|Nx<|Sq<|Sr<|Qs 1 r<|Yo (Ln ke24 (Bc Z0) r)<|Qs 1 r<|Nx<|Ju [] (fun T=>[(4, iv T.1), (5, iv T.2)]) r1 (?_) fun T3=>?_
  ·refine Wb<|Lu [8,9] (fun T=>[(4, iv T.1), (5, iv T.2.1), (10, iv T.2.2)]) r1 fun S1=>Sr<|Qs 1 r<|Nx<|Sq<|Wc r (fun H5=>?_) fun H5=>?_
   ·exact Sn<|Sq<|Wb<|Sr<|Bi fun E6 H7=>Yo (Ix ke24 (Bc Z0) H7 r)<|Yo (Le kk72 (Bc Z0) H7 r)<|Fo (Al kz72 r) fun B8=>Fu (Sb 0 kk72 r (Cp r) r)<|Nx<|Dr [0] r hMix<|Aq [0] [0] r<|Ay 1 [0] r (Fb kf72_1 r)<|Ay 2 [0] r (Lb 0 kk3 r)<|Ay 3 [0] r (Y.min2 r r)<|Aq [4] [0] r<|Ay 5 [0] r (Fb kf72_1 r)<|Ay 6 [0] r (Lb 0 kk3 r)<|Ay 7 [0] r (Y.max2 r r)<|Aq [8,9] [0] r<|Az<|Bn<|Ne<|Rg<|Qs 2 r<|Nl<|Lg () []
   exact Wx<|Tx<|Ex<|Be<|Jg () []
  exact Ne<|Sr<|Qs 4 r<|Nx<|Wr<|Re () []
noncomputable def impl_tablesOk (e : Eng) : Option Bool :=
  (if (decide (((e.Tables.length : Nat) : Int) > (6 : Int))) = true then (some true)
  else ((impl_totalOf e.Tables).bind fun R5 =>
  if (decide (IntKind.i64.wrap (R5 + ((e.Mem.length : Nat) : Int)) > (400 : Int))) = true then (some true)
  else ((impl_MemOk e.Mem).bind fun R9 =>
  some (!R9)))).bind (fun (T2 : Bool) =>
  if T2 = true then (some false)
  else ((impl_seqRange e.Mem).bind fun R13 =>
  if (decide (R13.2 > e.Seq)) = true then (some false)
  else (bindC (loopO (fun (S17 : Int × Int) => if (decide (S17.2 < ((e.Tables.length : Nat) : Int))) = true then ((idx e.Tables S17.2).bind fun E22 =>
  (impl_seqRange E22).bind fun R25 =>
  (if (decide (((E22.length : Nat) : Int) = (0 : Int))) = true then (some true)
  else ((impl_inOrder E22).bind fun R31 =>
  if (!R31) = true then (some true)
  else (if (decide (R25.2 ≥ S17.1)) = true then (some true)
  else (some (decide (R25.2 > e.Seq)))))).bind (fun (T28 : Bool) =>
  if T28 = true then (some (.done (.done false)))
  else (some (.go (R25.1, IntKind.i64.wrap (S17.2 + (1 : Int)))))))
  else (some (.done (.go ()))))
  (R13.1, (0 : Int)))
  (fun (T19 : Unit) => some true))))
theorem impl_tablesOk_c {e : Eng} {U0 U1 U2 : Value} : Cn Tryz.prog 40 [.agg #[U0, U1, iv e.Seq, U2]] [] [(U0, lc e.Mem), (U1, lc e.Tables), (U2, lc e.Snaps)] (impl_tablesOk e) (fun r (_ : Unit) => .bool r) fun _ _ => [] := by
  unfold impl_tablesOk
  refine Ci Tryz.func40 r r ?_
  rintro w S ⟨Z0,Z1,Z2,-⟩
  refine Sr<|Fo (Bx r (Ca ⟨Ob Z0,Ob Z1,Op',Ob Z2,⟨⟩⟩)) fun B1=>Qs 1 r<|Nx<|Sq<|Sq<|Jv [1] (fun T=>[(28, .bool T)]) r1 (?_) fun T2=>?_
  ·refine Dr [0] r hMix<|Ay 0 [0] r (Fb kf28_1 r)<|Ay 1 [0] r (Lb 0 kk25 r)<|Ay 2 [0] r (Ln ke25 (Bc Z1) r)<|Aq [3,4] [0] r<|Ia (fun H4=>Ax [5,6,7,8,9,10,11,12] [0] (beq_tf H4) r r<|Ay 13 [0] r (Pt H4 r)<|Aq [14] [0] r<|Ax [15,16,17,18] [0] r r r<|Ay 19 [0] r (Pt r r)<|Az<|Bg () [0]) fun H4=>Ag 5 [0] (gdA (beq_ff H4)) r (Fb kf28_1 r)<|Ag 6 [0] (gdA (beq_ff H4)) r (Lb 0 kk25 r)<|Ag 8 [0] (gdA (beq_ff H4)) r (Fb kf28_0 r)<|Ag 9 [0] (gdA (beq_ff H4)) r (Lb 0 kk24 r)<|Ag 10 [0] (gdA (beq_ff H4)) r (Ln ke24 (Bc Z0) r)<|Ai fun R5 H6=>A1 7<|Xeg [0] (gdA (beq_ff H4)) r (Cl [] impl_totalOf_c H6 r r1 ⟨(Bc Z1),⟨⟩⟩) fun _=>?_
   exact Ag 11 [0] (gdA (beq_ff H4)) r (Y.add r r)<|Ag 12 [0] (gdA (beq_ff H4)) r (Y.gtr r r)<|Ay 13 [0] r (Pf H4 r)<|Aq [14] [0] r<|Ia (fun H8=>Ax [15,16,17,18] [0] (beq_tf H8) r r<|Ay 19 [0] r (Pt H8 r)<|Az<|Bg () [0]) fun H8=>Ag 15 [0] (gdA (beq_ff H8)) r (Fb kf28_0 r)<|Ag 16 [0] (gdA (beq_ff H8)) r (Lb 0 kk24 r)<|Ai fun R9 H10=>A1 17<|Xeg [0] (gdA (beq_ff H8)) r (Cl [] impl_MemOk_c H10 r r1 ⟨(Bc Z0),⟨⟩⟩) fun _=>Ag 18 [0] (gdA (beq_ff H8)) r (Y.not r)<|Ay 19 [0] r (Pf H8 r)<|Az<|Bg () [0]
  refine Ne<|Wc r (fun H12=>Sr<|Qs 1 r<|Nx<|Wr<|Tr<|Re () []) fun H12=>Sn<|Sr<|Yo (Fb kf28_0 r)<|Yo (Lb 0 kk24 r)<|Bi fun R13 H14=>Fo (Cl [] impl_seqRange_c H14 r r1 ⟨(Bc Z0),⟨⟩⟩) fun _=>Qs 5 r<|Nx<|Sq<|Sr<|Qs 1 r<|Yo (Fb kf28_2 r)<|Yo (Lb 0 kk3 r)<|Qs 1 r<|Nx<|Wc r (fun H16=>Sr<|Qs 1 r<|Nx<|Wr<|Tr<|Re () []) fun H16=>Sn<|Sq<|Sr<|Yo (Fb kf28_1 r)<|Yo (Lb 0 kk25 r)<|Yo (Ln ke25 (Bc Z1) r)<|Qs 1 r<|Nx<|Jn Unit [] [] (fun _ _=>[]) (fun _ _=>[]) r2 r2 (?_) fun T19 X20=>?_
  ·refine Wb<|Lu [1,40,41] (fun T=>[(3, iv T.1), (42, iv T.2)]) r1 fun S17=>Sr<|Qs 1 r<|Nx<|Sq<|Wc r (fun H21=>?_) fun H21=>?_
   ·refine Sn<|Sq<|Wb<|Sr<|Bi fun E22 H23=>Yo (Ix ke25 (Bc Z1) H23 r)<|?_
    have Q24 : Base w S (elv w U1 (S17.2.toNat * 1 + 0)) (lc E22):=Base.el Z1 (idx_get H23).2.2 r r
    refine Yo (Lz kk24 Z1 H23 r)<|Qs 1 r<|Nx<|Sr<|Qs 1 r<|Bi fun R25 H26=>Fo (Cl [] impl_seqRange_c H26 r r1 ⟨(Bc Q24),⟨⟩⟩) fun _=>Qs 5 r<|Nx<|Sq<|Sq<|Jv [1,7,40,41,42] (fun T=>[(69, .bool T)]) r1 (?_) fun T28=>?_
    ·refine Rg<|Qs 1 r<|Yo (Ln ke24 (Bc Q24) r)<|Qs 2 r<|It (fun H30=>Of 3 (beq_tf H30) r r<|Yo (Pt H30 r)<|Qs 1 r<|Of 3 r r r<|Yo (Pt r r)<|Qs 1 r<|Of 4 r r r<|Yo (Pt r r)<|Nl<|Bg () [0]) fun H30=>Qg 1 (beq_ff H30) r r<|Bi fun R31 H32=>Fg (gdA (beq_ff H30)) (Cl [] impl_inOrder_c H32 r r1 ⟨(Bc Q24),⟨⟩⟩) fun _=>Qg 1 (beq_ff H30) r r<|Yo (Pf H30 r)<|Qs 1 r<|It (fun H34=>Of 3 (beq_tf H34) r r<|Yo (Pt H34 r)<|Qs 1 r<|Of 4 r r r<|Yo (Pt r r)<|Nl<|Bg () [0]) fun H34=>Qg 3 (beq_ff H34) r r<|Yo (Pf H34 r)<|Qs 1 r<|It (fun H35=>Of 4 (beq_tf H35) r r<|Yo (Pt H35 r)<|Nl<|Bg () [0]) fun H35=>?_
     exact Qg 1 (beq_ff H35) r r<|Yg (gdA (beq_ff H35)) (Fb kf28_2 r)<|Yg (gdA (beq_ff H35)) (Lb 0 kk3 r)<|Qg 1 (beq_ff H35) r r<|Yo (Pf H35 r)<|Nl<|Bg () [0]
    exact Ne<|Wc r (fun H36=>Sr<|Qs 1 r<|Nx<|Wr<|Tr<|Br<|Tr<|Er<|Br<|Jd<|Tr<|Re () []) fun H36=>Sn<|Rg<|Qs 2 r<|Nl<|Bn<|Ne<|Rg<|Qs 2 r<|Nl<|Lg () [0]
   exact Wx<|Tx<|Ex<|Be<|Jg () []
  exact Ne<|Sr<|Qs 1 r<|Nx<|Wr<|Re () []
noncomputable def impl_EngOk (e : Eng) : Option Bool :=
  ((impl_isNumber e.Seq).bind fun R4 =>
  if (!R4) = true then (some true)
  else (if (decide (((e.Snaps.length : Nat) : Int) > (4 : Int))) = true then (some true)
  else ((impl_tablesOk e).bind fun R9 =>
  some (!R9)))).bind (fun (T2 : Bool) =>
  if T2 = true then (some false)
  else (bindC (loopO (fun (S13 : Int) => if (decide (S13 < ((e.Snaps.length : Nat) : Int))) = true then ((idx e.Snaps S13).bind fun E18 =>
  ((impl_inRange E18 (0 : Int) e.Seq).bind fun R22 =>
  if (!R22) = true then (some true)
  else (if (decide (S13 > (0 : Int))) = true then ((idx e.Snaps (IntKind.i64.wrap (S13 - (1 : Int)))).bind fun E27 =>
  some (decide (E18 ≤ E27)))
  else (some false))).bind (fun (T20 : Bool) =>
  if T20 = true then (some (.done (.done false)))
  else (some (.go (IntKind.i64.wrap (S13 + (1 : Int)))))))
  else (some (.done (.go ()))))
  (0 : Int))
  (fun (T15 : Unit) => some true)))
theorem impl_EngOk_c {e : Eng} {U0 U1 U2 : Value} : Cn Tryz.prog 18 [.agg #[U0, U1, iv e.Seq, U2]] [] [(U0, lc e.Mem), (U1, lc e.Tables), (U2, lc e.Snaps)] (impl_EngOk e) (fun r (_ : Unit) => .bool r) fun _ _ => [] := by
  unfold impl_EngOk
  refine Ci Tryz.func18 r r ?_
  rintro w S ⟨Z0,Z1,Z2,-⟩
  refine Sr<|Fo (Bx r (Ca ⟨Ob Z0,Ob Z1,Op',Ob Z2,⟨⟩⟩)) fun B1=>Qs 1 r<|Nx<|Sq<|Sq<|Jv [1] (fun T=>[(19, .bool T)]) r1 (?_) fun T2=>?_
  ·refine Rg<|Yo (Fb kf28_2 r)<|Yo (Lb 0 kk3 r)<|Bi fun R4 H5=>Fo (Cl [] impl_isNumber_c H5 r r1) fun _=>Qs 2 r<|It (fun H7=>Of 4 (beq_tf H7) r r<|Yo (Pt H7 r)<|Qs 1 r<|Of 3 r r r<|Yo (Pt r r)<|Nl<|Bg () [0]) fun H7=>Yg (gdA (beq_ff H7)) (Fb kf28_3 r)<|Yg (gdA (beq_ff H7)) (Lb 0 kk26 r)<|Yg (gdA (beq_ff H7)) (Ln ke26 (Bc Z2) r)<|Qg 1 (beq_ff H7) r r<|Yo (Pf H7 r)<|Qs 1 r<|It (fun H8=>Of 3 (beq_tf H8) r r<|Yo (Pt H8 r)<|Nl<|Bg () [0]) fun H8=>Yg (gdA (beq_ff H8)) (Lb 0 kk28 r)<|Bi fun R9 H10=>Fg (gdA (beq_ff H8)) (Cl [] impl_tablesOk_c H10 r r1 ⟨(Bc Z0),(Bc Z1),(Bc Z2),⟨⟩⟩) fun _=>?_
   exact Qg 1 (beq_ff H8) r r<|Yo (Pf H8 r)<|Nl<|Bg () [0]
  refine Ne<|Wc r (fun H12=>Sr<|Qs 1 r<|Nx<|Wr<|Tr<|Re () []) fun H12=>Sn<|Sq<|Sr<|Yo (Fb kf28_3 r)<|Yo (Lb 0 kk26 r)<|Yo (Ln ke26 (Bc Z2) r)<|Qs 1 r<|Nx<|Jn Unit [] [] (fun _ _=>[]) (fun _ _=>[]) r2 r2 (?_) fun T15 X16=>?_
  ·refine Wb<|Lu [1,21,22] (fun T=>[(23, iv T)]) r1 fun S13=>Sr<|Qs 1 r<|Nx<|Sq<|Wc r (fun H17=>?_) fun H17=>?_
   ·refine Sn<|Sq<|Wb<|Sr<|Qs 1 r<|Bi fun E18 H19=>Yo (Ix ke26 (Bc Z2) H19 r)<|Yo (Le kk3 (Bc Z2) H19 r)<|Qs 2 r<|Nx<|Sq<|Jv [1,21,22,23] (fun T=>[(46, .bool T)]) r1 (?_) fun T20=>?_
    ·refine Rg<|Qs 1 r<|Yo (Fb kf28_2 r)<|Yo (Lb 0 kk3 r)<|Bi fun R22 H23=>Fo (Cl [] impl_inRange_c H23 r r1) fun _=>Qs 2 r<|It (fun H25=>Of 3 (beq_tf H25) r r<|Ou 8 r r<|Of 1 (beq_tf H25) r r<|Yo (Pt H25 r)<|Nl<|Bg () [0]) fun H25=>Qg 3 (beq_ff H25) r r<|It (fun H26=>?_) fun H26=>?_
     ·exact Qg 1 (beq_tt H26) r r<|Yg (gdA (beq_tt H26)) (Fb kf28_3 r)<|Yg (gdA (beq_tt H26)) (Lb 0 kk26 r)<|Qg 2 (beq_tt H26) r r<|Bi fun E27 H28=>Yg (gdA (beq_tt H26)) (Ix ke26 (Bc Z2) H28 r)<|Yg (gdA (beq_tt H26)) (Le kk3 (Bc Z2) H28 r)<|Qg 1 (beq_tt H26) r r<|Yg (gdA (beq_ff H25)) (Pt H26 r)<|Yo (Pf H25 r)<|Nl<|Bg () [0]
     exact Of 8 (beq_ft H26) r r<|Yg (gdA (beq_ff H25)) (Pf H26 r)<|Yo (Pf H25 r)<|Nl<|Bg () [0]
    exact Ne<|Wc r (fun H29=>Sr<|Qs 1 r<|Nx<|Wr<|Br<|Tr<|Er<|Br<|Jd<|Tr<|Re () []) fun H29=>Sk<|Bn<|Ne<|Rg<|Qs 2 r<|Nl<|Lg () [0]
   exact Wx<|Tx<|Ex<|Be<|Jg () []
  exact Ne<|Sr<|Qs 1 r<|Nx<|Wr<|Re () []
noncomputable def slices_Clone_94167 (s : List Ent) : Option (List Ent) :=
  (app 48 ([] : List Ent) s).bind fun E4 =>
  some E4
theorem slices_Clone_94167_c {s : List Ent} {U0 : Value} : Cn Tryz.prog 42 [U0] [] [(U0, lc s)] (slices_Clone_94167 s) (fun _ (X : Value) => X) fun r X => [.own X (lc r)] := by
  unfold slices_Clone_94167
  refine Ci Tryz.func42 r r ?_
  rintro w S ⟨Z0,-⟩
  exact Sr<|Qs 1 r<|Nx<|Sq<|Sr<|Qs 1 r<|Yo (Y.nileq ke24 (Bc Z0) r r)<|Nx<|TW.cond_nil (Bc Z0) r (fun hnil_=>by subst hnil_;show TW _ _ _ (some ([])) _ _ _ _ _;exact (Sr<|Qs 1 r<|Nx<|Wr<|Tr<|Ni 4<|Re (.slice none 0 0) [0]))<|Sn<|Sr<|Fo (Bs ([] : List Ent) ke24 kz72) fun B2=>Qs 1 r<|Bi fun E4 H5=>Fo (Ap [0] H5 ke24 kz72 r (Bc Z0)) fun V3=>Qs 1 r<|Nx<|Wr<|Re V3 [0]
noncomputable def slices_Clone_88240 (s : List Int) : Option (List Int) :=
  (app 8 ([] : List Int) s).bind fun E4 =>
  some E4
theorem slices_Clone_88240_c {s : List Int} {U0 : Value} : Cn Tryz.prog 43 [U0] [] [(U0, lc s)] (slices_Clone_88240 s) (fun _ (X : Value) => X) fun r X => [.own X (lc r)] := by
  unfold slices_Clone_88240
  refine Ci Tryz.func43 r r ?_
  rintro w S ⟨Z0,-⟩
  exact Sr<|Qs 1 r<|Nx<|Sq<|Sr<|Qs 1 r<|Yo (Y.nileq ke26 (Bc Z0) r r)<|Nx<|TW.cond_nil (Bc Z0) r (fun hnil_=>by subst hnil_;show TW _ _ _ (some ([])) _ _ _ _ _;exact (Sr<|Qs 1 r<|Nx<|Wr<|Tr<|Ni 1<|Re (.slice none 0 0) [0]))<|Sn<|Sr<|Fo (Bs ([] : List Int) ke26 kz3) fun B2=>Qs 1 r<|Bi fun E4 H5=>Fo (Ap [0] H5 ke26 kz3 r (Bc Z0)) fun V3=>Qs 1 r<|Nx<|Wr<|Re V3 [0]
noncomputable def impl_copyEng (e : Eng) : Option Eng :=
  (slices_Clone_94167 e.Mem).bind fun R3 =>
  (slices_Clone_88240 e.Snaps).bind fun R7 =>
  bindC (loopO (fun (S17 : Int × List (List Ent)) => if (decide (S17.1 < ((e.Tables.length : Nat) : Int))) = true then ((idx e.Tables S17.1).bind fun E22 =>
  (slices_Clone_94167 E22).bind fun R25 =>
  (app 24 S17.2 ([R25])).bind fun E31 =>
  some (.go (IntKind.i64.wrap (S17.1 + (1 : Int)), E31)))
  else (some (.done (.go S17.2))))
  ((0 : Int), ([] : List (List Ent))))
  (fun (T19 : List (List Ent)) => some ({ Mem := R3, Tables := T19, Seq := e.Seq, Snaps := R7 : Eng }))
theorem impl_copyEng_c {e : Eng} {U0 U1 U2 : Value} : Cn Tryz.prog 19 [.agg #[U0, U1, iv e.Seq, U2]] [] [(U0, lc e.Mem), (U1, lc e.Tables), (U2, lc e.Snaps)] (impl_copyEng e) (fun r (X : Value × Value × Value) => .agg #[X.1, X.2.1, iv r.Seq, X.2.2]) fun r X => [.own X.1 (lc r.Mem), .own X.2.1 (lc r.Tables), .own X.2.2 (lc r.Snaps)] := by
  unfold impl_copyEng
  refine Ci Tryz.func19 r r ?_
  rintro w S ⟨Z0,Z1,Z2,-⟩
  refine Sr<|Fo (Bx r (Ca ⟨Ob Z0,Ob Z1,Op',Ob Z2,⟨⟩⟩)) fun B1=>Fo (Al kz28 r) fun B2=>Nx<|Sq<|Wi fun R3 H4=>Wi fun R7 H8=>Jw (Nat × Value × Value) [1,2] [1,0] (fun X=>[(3, pt X.1)]) (fun X=>[.box X.1 28 [X.2.1, .slice none 0 0, iv e.Seq, X.2.2], .own X.2.1 (lc R3), .own X.2.2 (lc R7)]) r1 r1 (?_) fun X14=>?_
  ·refine Dr [0,0] r hMix<|Ay 0 [0,0] r (Fb kf28_0 r)<|Ay 1 [0,0] r (Lb 1 kk24 r)<|Ay 3 [0,0] r (Fb kf28_2 r)<|Ay 4 [0,0] r (Lb 1 kk3 r)<|Ay 5 [0,0] r (Fb kf28_3 r)<|Ay 6 [0,0] r (Lb 1 kk26 r)<|A2 2 9 (?_)<|?_
   ·refine Xe [1,1] r (Cl [] slices_Clone_94167_c H4 r r1 ⟨(Bc Z0),⟨⟩⟩) fun Y15=>A2 7 9 (?_)<|?_
    ·exact Xe [2,2] r (Cl [] slices_Clone_88240_c H8 r r1 ⟨(Bc Z2),⟨⟩⟩) fun Y17=>A2 8 9 (Xy [2,2] r (Bd kp28 kz28 (Pc r (Co 1)<|Pc r (Cp r)<|Pc r (Co 0)<|Pz) r)<|A1 9<|Xe [3,3] r (Al kz28 r) fun B20=>A1 10<|Xu [3,3] r (Sb 0 kk28 r (Ca ⟨Ow' 2,Op',Op',Ow' 1,⟨⟩⟩) r)<|Az<|Bg (B20, Y15, Y17) [4,3,0,1,0])<|Xe [3,3] r (Al kz28 r) fun B19=>A1 8<|Xy [3,3] r (Bd kp28 kz28 (Pc r (Co 2)<|Pc r (Cp r)<|Pc r (Co 1)<|Pz) r)<|A1 10<|Xu [3,3] r (Sb 0 kk28 r (Ca ⟨Ow' 2,Op',Op',Ow' 1,⟨⟩⟩) r)<|Az<|Bg (B19, Y15, Y17) [4,3,0,1,0]
    exact Xe [2,2] r (Al kz28 r) fun B18=>A1 7<|Xe [3,3] r (Cl [] slices_Clone_88240_c H8 r r1 ⟨(Bc Z2),⟨⟩⟩) fun Y19=>A1 8<|Xy [3,3] r (Bd kp28 kz28 (Pc r (Co 2)<|Pc r (Cp r)<|Pc r (Co 0)<|Pz) r)<|A1 10<|Xu [3,3] r (Sb 1 kk28 r (Ca ⟨Ow' 2,Op',Op',Ow' 0,⟨⟩⟩) r)<|Az<|Bg (B18, Y15, Y19) [4,3,1,1,0]
   exact Xe [1,1] r (Al kz28 r) fun B16=>A1 2<|Xe [2,2] r (Cl [] slices_Clone_94167_c H4 r r1 ⟨(Bc Z0),⟨⟩⟩) fun Y17=>A1 7<|Xe [3,3] r (Cl [] slices_Clone_88240_c H8 r r1 ⟨(Bc Z2),⟨⟩⟩) fun Y18=>A1 8<|Xy [3,3] r (Bd kp28 kz28 (Pc r (Co 1)<|Pc r (Cp r)<|Pc r (Co 0)<|Pz) r)<|A1 10<|Xu [3,3] r (Sb 2 kk28 r (Ca ⟨Ow' 1,Op',Op',Ow' 0,⟨⟩⟩) r)<|Az<|Bg (B16, Y17, Y18) [4,3,2,1,0]
  refine Ne<|Sq<|Sr<|Yo (Fb kf28_1 r)<|Yo (Lb 0 kk25 r)<|Yo (Ln ke25 (Bc Z1) r)<|Qs 1 r<|Nx<|Jn Value [2,3] [1,2,2] (fun _ _=>[]) (fun T X=>[.box X14.1 28 [X14.2.1, X, iv e.Seq, X14.2.2], .own X (lc T)]) r2 r2 (?_) fun T19 X20=>?_
  ·refine Wb<|Nw 1<|Lp Value [2,3,16,17] [2,3,3] (fun T _=>[(18, iv T.1)]) (fun T X=>[.box X14.1 28 [X14.2.1, X, iv e.Seq, X14.2.2], .own X (lc T.2)]) (.slice none 0 0) [2,3,3,2,0] r2 r2 fun S17 X18=>Sr<|Qs 1 r<|Nx<|Sq<|Wc r (fun H21=>?_) fun H21=>?_
   ·refine Sn<|Sq<|Wb<|Sr<|Bi fun E22 H23=>Yo (Ix ke25 (Bc Z1) H23 r)<|?_
    have Q24 : Base w S (elv w U1 (S17.1.toNat * 1 + 0)) (lc E22):=Base.el Z1 (idx_get H23).2.2 r r
    refine Yo (Lz kk24 Z1 H23 r)<|Qs 1 r<|Nx<|Wi fun R25 H26=>Wi fun E31 H32=>Jw Value [2,3,16,17,18] [0,0,0] (fun _=>[]) (fun X=>[.box X14.1 28 [X14.2.1, X, iv e.Seq, X14.2.2], .own X (lc E31)]) r1 r1 (?_) fun X34=>?_
    ·refine Dr [0,0,0] r hMix<|Ay 0 [0,0,0] r (Fb kf28_1 r)<|Aq [2] [0,0,0] r<|A2 1 3 (?_)<|?_
     ·exact Xy [0,0,0] r (Lb 3 kk25 r)<|A1 3<|Xe [1,1,1] r (Cl [] slices_Clone_94167_c H26 r r1 ⟨(Bc Q24),⟨⟩⟩) fun Y36=>A1 4<|Xe [2,2,2] r (Bk [.raw Y36] ke25 kz24 r (Qc (Co 0)<|Qz)) fun B37=>Ka (Ha [0, 0] ([R25] : List (List Ent)) r (Cf Cz))<|A1 5<|Xe [1,1,1] r (Aw [5, 0] H32 ke25 kz24 r) fun V38=>Ay 6 [1,1,1] r (Fb kf28_1 r)<|A1 7<|Xu [1,1,1] r (Sb 4 kk25 r (Co 0) r)<|Az<|Bg V38 [1,1,1,1,0]
     refine Xe [1,1,1] r (Cl [] slices_Clone_94167_c H26 r r1 ⟨(Bc Q24),⟨⟩⟩) fun Y35=>A2 1 4 (?_)<|?_
     ·exact Xy [1,1,1] r (Lb 4 kk25 r)<|A1 4<|Xe [2,2,2] r (Bk [.raw Y35] ke25 kz24 r (Qc (Co 0)<|Qz)) fun B37=>Ka (Ha [0, 0] ([R25] : List (List Ent)) r (Cf Cz))<|A1 5<|Xe [1,1,1] r (Aw [5, 0] H32 ke25 kz24 r) fun V38=>Ay 6 [1,1,1] r (Fb kf28_1 r)<|A1 7<|Xu [1,1,1] r (Sb 4 kk25 r (Co 0) r)<|Az<|Bg V38 [1,1,1,1,0]
     exact Xe [2,2,2] r (Bk [.raw Y35] ke25 kz24 r (Qc (Co 0)<|Qz)) fun B36=>Ka (Ha [0, 0] ([R25] : List (List Ent)) r (Cf Cz))<|A1 1<|Xy [1,1,1] r (Lb 4 kk25 r)<|A1 5<|Xe [1,1,1] r (Aw [5, 0] H32 ke25 kz24 r) fun V37=>Ay 6 [1,1,1] r (Fb kf28_1 r)<|A1 7<|Xu [1,1,1] r (Sb 4 kk25 r (Co 0) r)<|Az<|Bg V37 [1,1,1,1,0]
    exact Bn<|Ne<|Rg<|Qs 2 r<|Nl<|Lg X34 [0,0,0,0,0]
   exact Wx<|Tx<|Ex<|Be<|Jg X18 [0,0,0,0,0]
  exact Ne<|Sr<|Yo (Lb 3 kk28 r)<|Fu (Sb 0 kk28 r (Ca ⟨Ow' 1,Ow' 4,Op',Ow' 2,⟨⟩⟩) r)<|Nx<|Wr<|Rf (X14.2.1, X20, X14.2.2) [1,3,1] (RV.cell 0 r r kk28 r Rz)
noncomputable def slices_Insert_87572 (s : List (List Ent)) (i : Int) (v : List (List Ent)) : Option (List (List Ent)) := ins 24 s i v
theorem slices_Insert_87572_con (s : List (List Ent)) (i : Int) (v : List (List Ent)) (V_s0 V_v0 : Value) (r : List (List Ent)) (hm : slices_Insert_87572 s i v = some r) :
    Con Tryz.prog 44 [V_s0, .int .i64 i, V_v0] [.own V_s0 (lc s), .own V_v0 (lc v)] [] (fun X : Value => X) (fun X => [.own X (lc r)]) := by
  refine Con.intro (args := [V_s0, .int .i64 i, V_v0]) (n := 95) (val := fun _ (X : Value) => X) (post := fun r X => [.own X (lc r)]) (m := slices_Insert_87572 s i v) Tryz.func44 rfl rfl rfl hm ?_
  intro w S _
  unfold slices_Insert_87572
  refine TW.known fun r0 hr0 => ?_
  obtain ⟨h0, h1, h2, h3, rfl⟩ := ins_eq hr0
  obtain ⟨I, rfl⟩ := Int.eq_ofNat_of_zero_le h0
  rw [Int.toNat_natCast]
  have h1n : I ≤ s.length := by omega
  clear hr0 hm
  have wr : ∀ q : Nat, q ≤ 4611686018427387904 → IntKind.i64.wrap (q : Int) = (q : Int) := fun q hq => by rw [IntKind.wrap_i64]; omega
  have wr2 : ∀ a b : Nat, a + b ≤ 4611686018427387904 → IntKind.i64.wrap ((a : Int) + (b : Int)) = ((a + b : Nat) : Int) := fun a b hq => by rw [IntKind.wrap_i64]; omega
  obtain ⟨z0, hpc⟩ : ∃ z, piece s (I : Int) ((s.length : Nat) : Int) = some z := ⟨_, if_pos ⟨by omega, by omega, by omega⟩⟩
  refine TW.seq ?_
  refine TW.region ?_
  refine TO.y (Y.assign rfl) rfl rfl rfl ?_
  refine TO.nil ?_
  refine TE.next ?_
  refine TW.seq ?_
  refine TW.region ?_
  refine TO.y (Y.move rfl) rfl rfl rfl ?_
  refine TO.y (Y.move rfl) rfl rfl rfl ?_
  refine TO.y (Y.subs hpc ke25 (Can.own 0 rfl) rfl ⟨_, rfl⟩ rfl) rfl rfl rfl ?_
  refine TO.nil ?_
  refine TE.next ?_
  refine TW.seq ?_
  refine TW.region ?_
  refine TO.y (Y.move rfl) rfl rfl rfl ?_
  refine TO.y (Y.len (l := v) ke25 (Can.own 1 rfl) rfl) rfl rfl rfl ?_
  refine TO.y (Y.assign rfl) rfl rfl rfl ?_
  refine TO.nil ?_
  refine TE.next ?_
  refine TW.seq ?_
  refine TW.seq ?_
  refine TW.region ?_
  refine TO.y (Y.move rfl) rfl rfl rfl ?_
  refine TO.y (Y.eql rfl rfl) rfl rfl rfl ?_
  refine TO.nil ?_
  refine TE.next ?_
  by_cases hm0 : v = []
  · subst hm0
    rw [show s.take I ++ ([] ++ s.drop I) = s by simp]
    refine TW.cond_t rfl (by simp) ?_
    refine TW.seq ?_
    refine TW.region ?_
    refine TO.y (Y.move rfl) rfl rfl rfl ?_
    refine TO.y (Y.assign rfl) rfl rfl rfl ?_
    refine TO.nil ?_
    refine TE.next ?_
    refine TW.ret ?_
    refine TE.then_ret ?_
    exact TE.leaf fun _ _ hf_ hs_ => ret_any (rs := [.tmp 6]) (vs := [V_s0]) (.inl rfl) rfl ⟨rfl, trivial⟩ hf_ hs_ ⟨V_s0, rfl, hs_.pulls [0] rfl⟩
  · have hm1 : 0 < v.length := List.length_pos_iff.2 hm0
    refine TW.cond_f rfl (decide_eq_false (by omega)) ?_
    refine TW.skip ?_
    refine TE.next ?_
    refine TW.seq ?_
    refine TW.region ?_
    refine TO.y (Y.move rfl) rfl rfl rfl ?_
    refine TO.y (Y.len (l := s) ke25 (Can.own 0 rfl) rfl) rfl rfl rfl ?_
    refine TO.y (Y.assign rfl) rfl rfl rfl ?_
    refine TO.nil ?_
    refine TE.next ?_
    refine TW.seq ?_
    refine TW.seq ?_
    refine TW.region ?_
    refine TO.y (Y.move rfl) rfl rfl rfl ?_
    refine TO.y (Y.move rfl) rfl rfl rfl ?_
    refine TO.y (Y.eql rfl rfl) rfl rfl rfl ?_
    refine TO.nil ?_
    refine TE.next ?_
    by_cases hin : I = s.length
    · have happ : app 24 s v = some (s ++ v) := by unfold app; rw [if_pos ⟨h2, by omega⟩]
      rw [show s.take I ++ (v ++ s.drop I) = s ++ v by rw [hin]; simp]
      refine TW.cond_t rfl (decide_eq_true (by omega)) ?_
      refine TW.seq ?_
      refine TW.region ?_
      refine TO.y (Y.move rfl) rfl rfl rfl ?_
      refine TO.y (Y.move rfl) rfl rfl rfl ?_
      refine TO.ef (Ef.appN (α := List Ent) (is' := []) [0, 0] happ ke25 kz24 rfl rfl rfl rfl rfl) rfl rfl rfl (fun X => ?_)
      refine TO.y (Y.assign rfl) rfl rfl rfl ?_
      refine TO.nil ?_
      refine TE.next ?_
      refine TW.ret ?_
      refine TE.then_ret ?_
      exact TE.leaf fun _ _ hf_ hs_ => ret_any (rs := [.tmp 6]) (vs := [X]) (.inl rfl) rfl ⟨rfl, trivial⟩ hf_ hs_ ⟨X, rfl, hs_.pulls [0] rfl⟩
    · refine TW.cond_f rfl (decide_eq_false (by omega)) ?_
      refine TW.skip ?_
      refine TE.next ?_
      refine TW.openRows (α := List Ent) (by omega) hm1 ?_
      intro b cap e cur b2 cap2 e2 cur2 hV hU hbb hc1 hc2 hc3 hc4 hl1 hl2 ho1 ho2
      subst hV hU
      have hsz : Enc.sz (List Ent) = 1 := rfl
      rw [hsz] at hl1 hl2 ho1 ho2
      have e1 := wr2 s.length v.length h3
      refine TW.seq ?_
      refine TW.seq ?_
      refine TW.region ?_
      refine TO.y (Y.move rfl) rfl rfl rfl ?_
      refine TO.y (Y.move rfl) rfl rfl rfl ?_
      refine TO.y (Y.add rfl rfl) rfl rfl rfl ?_
      refine TO.y (Y.move rfl) rfl rfl rfl ?_
      refine TO.y (Y.capRaw ke25 rfl) rfl rfl rfl ?_
      refine TO.y (Y.gtr rfl rfl) rfl rfl rfl ?_
      refine TO.nil ?_
      refine TE.next ?_
      by_cases hroom : cap < s.length + v.length
      · refine TW.cond_t rfl (by rw [e1]; exact decide_eq_true (by omega)) ?_
        refine TW.seq ?_
        refine TW.region ?_
        refine TO.y (Y.move rfl) rfl rfl rfl ?_
        refine TO.y (Y.move rfl) rfl rfl rfl ?_
        refine TO.y (Y.toRaw (hi := I) ke25 (by omega) rfl rfl rfl) rfl rfl rfl ?_
        refine TO.y (Y.move rfl) rfl rfl rfl ?_
        refine TO.y (Y.move rfl) rfl rfl rfl ?_
        refine TO.y (Y.add rfl rfl) rfl rfl rfl ?_
        refine TO.y (Y.move rfl) rfl rfl rfl ?_
        refine TO.y (Y.sub rfl rfl) rfl rfl rfl ?_
        have e2 : IntKind.i64.wrap (IntKind.i64.wrap ((s.length : Int) + (v.length : Int)) - (I : Int)) = ((s.length + v.length - I : Nat) : Int) := by rw [e1, IntKind.wrap_i64]; omega
        refine TO.ef (Ef.rawGrow (N := s.length + v.length) (q := s.length + v.length - I) 0 ke25 ki3 kz24 rfl rfl rfl rfl rfl e2 (by omega) (by omega) hl1 (by omega) hroom (by omega) h2) rfl rfl rfl (fun X => ?_)
        refine TO.y (Y.assign rfl) rfl rfl rfl ?_
        refine TO.nil ?_
        refine TE.next ?_
        obtain ⟨⟨⟨g, gc⟩, ge, zs⟩, hz1, hz2, hz3⟩ := X
        dsimp only at hz1 hz2 hz3 ⊢
        obtain ⟨q1, q2, q3, q4, q5, q6⟩ := insA (G := gc) (zs := zs) h1n hc1 hc3 hl1 hl2 hz1 hz2
        have m1 : 0 + I * 1 + v.length * 1 ≤ gc * 1 := by omega
        have m2 : 0 + (I + v.length) * 1 + (s.length - I) * 1 ≤ gc * 1 := by omega
        have m3 : 0 + v.length * 1 ≤ cap2 * 1 := by omega
        have m4 : 0 + I * 1 + (s.length - I) * 1 ≤ cap * 1 := by omega
        refine TW.seq ?_
        refine TW.region ?_
        refine TO.y (Y.move rfl) rfl rfl rfl ?_
        refine TO.y (Y.move rfl) rfl rfl rfl ?_
        refine TO.y (Y.fromRaw (lo := I) ke25 (by omega) (by omega) rfl rfl rfl) rfl rfl rfl ?_
        refine TO.y (Y.move rfl) rfl rfl rfl ?_
        refine TO.ef (Ef.rawCopy (sl := v.length) 0 2 ke25 rfl rfl rfl rfl (by omega) (by rw [q3]; exact m1) (Nat.le_trans m3 hl2) (by rw [List.drop_zero]; exact ho2) rfl) rfl rfl rfl (fun _ => ?_)
        refine TO.nil ?_
        refine TE.next ?_
        refine TW.seq ?_
        refine TW.draw (isH := []) hMix ?_
        refine TA.y 0 [] rfl (Y.move rfl) rfl rfl rfl (by kernel_rfl) rfl ?_
        refine TA.y 1 [] rfl (Y.move rfl) rfl rfl rfl (by kernel_rfl) rfl ?_
        refine TA.y 2 [] rfl (Y.move rfl) rfl rfl rfl (by kernel_rfl) rfl ?_
        refine TA.y 3 [] rfl (Y.add rfl rfl) rfl rfl rfl (by kernel_rfl) rfl ?_
        refine TA.y 4 [] rfl (Y.fromRaw (lo := I + v.length) ke25 (by omega) (by omega) (wr2 I v.length (by omega)) rfl rfl) rfl rfl rfl (by kernel_rfl) rfl ?_
        refine TA.y 5 [] rfl (Y.move rfl) rfl rfl rfl (by kernel_rfl) rfl ?_
        refine TA.y 6 [] rfl (Y.move rfl) rfl rfl rfl (by kernel_rfl) rfl ?_
        refine TA.y 7 [] rfl (Y.fromRaw (lo := I) ke25 (by omega) (by omega) rfl rfl rfl) rfl rfl rfl (by kernel_rfl) rfl ?_
        refine TA.one 8 (by kernel_rfl) ?_
        refine TX.ef [] rfl (Ef.rawCopy (sl := s.length - I) 0 1 ke25 rfl rfl rfl rfl (by omega) (by rw [q4]; exact m2) (Nat.le_trans m4 hl1) (ins_one ho1 h1n) rfl) rfl rfl rfl (fun _ => rfl) (fun _ => ?_)
        refine TA.nil (by kernel_rfl) ?_
        refine TE.next ?_
        refine TW.seq ?_
        refine TW.region ?_
        refine TO.y (Y.move rfl) rfl rfl rfl ?_
        refine TO.y (Y.assign rfl) rfl rfl rfl ?_
        refine TO.nil ?_
        refine TE.next ?_
        refine TW.ret ?_
        refine TE.then_ret ?_
        refine TE.ghost (Gh.fold (α := List Ent) (l := s) (k := v) (i := I) [0, 2, 2, 0, 0] rfl h1n hz2 hz3 (Nat.le_of_eq q5.symm) q6) (fun _ => ?_)
        exact TE.leaf fun _ _ hf_ hs_ => ret_any (rs := [.tmp 6]) (vs := [.slice (some ⟨g, 0, none⟩) (s.length + v.length) gc]) (.inl rfl) rfl ⟨rfl, trivial⟩ hf_ hs_ ⟨(.slice (some ⟨g, 0, none⟩) (s.length + v.length) gc), rfl, hs_.pulls [0] rfl⟩
      · refine TW.cond_f rfl (by rw [e1]; exact decide_eq_false (by omega)) ?_
        refine TW.skip ?_
        refine TE.next ?_
        refine TW.seq ?_
        refine TW.region ?_
        refine TO.y (Y.move rfl) rfl rfl rfl ?_
        refine TO.y (Y.move rfl) rfl rfl rfl ?_
        refine TO.y (Y.move rfl) rfl rfl rfl ?_
        refine TO.y (Y.add rfl rfl) rfl rfl rfl ?_
        refine TO.y (Y.toRaw (hi := s.length + v.length) ke25 (by omega) e1 rfl rfl) rfl rfl rfl ?_
        refine TO.y (Y.assign rfl) rfl rfl rfl ?_
        refine TO.nil ?_
        refine TE.next ?_
        obtain ⟨q1, q2, q3, q4, q5⟩ := insB h1n (by omega) hc3 hl1 hl2
        have m1 : 0 + I * 1 + v.length * 1 ≤ cap * 1 := by omega
        have m2 : 0 + (I + v.length) * 1 + (s.length - I) * 1 ≤ cap * 1 := by omega
        have m3 : 0 + v.length * 1 ≤ cap2 * 1 := by omega
        have m4 : 0 + I * 1 + (s.length - I) * 1 ≤ cap * 1 := by omega
        have hne : cur ≠ [] := by intro e; rw [e] at hl1; simp at hl1; omega
        refine TW.seq ?_
        refine TW.seq ?_
        refine TW.region ?_
        refine TO.y (Y.move rfl) rfl rfl rfl ?_
        refine TO.y (Y.move rfl) rfl rfl rfl ?_
        refine TO.y (Y.move rfl) rfl rfl rfl ?_
        refine TO.y (Y.move rfl) rfl rfl rfl ?_
        refine TO.y (Y.add rfl rfl) rfl rfl rfl ?_
        refine TO.y (Y.fromRaw (lo := I + v.length) ke25 (by omega) (by omega) (wr2 I v.length (by omega)) rfl rfl) rfl rfl rfl ?_
        refine TO.ef (Ef.overlaps (tr := 4) 1 0 Tryz.func73 (by kernel_rfl) (by kernel_rfl) (by kernel_rfl) (by kernel_rfl) ke25 rfl rfl (Ne.symm hbb) rfl rfl hne) rfl rfl rfl (fun _ => ?_)
        refine TO.y (Y.not rfl) rfl rfl rfl ?_
        refine TO.nil ?_
        refine TE.next ?_
        refine TW.cond_true rfl ?_
        refine TW.seq ?_
        refine TW.draw (isH := []) hMix ?_
        refine TA.y 0 [] rfl (Y.move rfl) rfl rfl rfl (by kernel_rfl) rfl ?_
        refine TA.y 1 [] rfl (Y.move rfl) rfl rfl rfl (by kernel_rfl) rfl ?_
        refine TA.y 2 [] rfl (Y.move rfl) rfl rfl rfl (by kernel_rfl) rfl ?_
        refine TA.y 3 [] rfl (Y.add rfl rfl) rfl rfl rfl (by kernel_rfl) rfl ?_
        refine TA.y 4 [] rfl (Y.fromRaw (lo := I + v.length) ke25 (by omega) (by omega) (wr2 I v.length (by omega)) rfl rfl) rfl rfl rfl (by kernel_rfl) rfl ?_
        refine TA.y 5 [] rfl (Y.move rfl) rfl rfl rfl (by kernel_rfl) rfl ?_
        refine TA.y 6 [] rfl (Y.move rfl) rfl rfl rfl (by kernel_rfl) rfl ?_
        refine TA.y 7 [] rfl (Y.fromRaw (lo := I) ke25 (by omega) (by omega) rfl rfl rfl) rfl rfl rfl (by kernel_rfl) rfl ?_
        refine TA.one 8 (by kernel_rfl) ?_
        refine TX.ef [] rfl (Ef.rawCopy (sl := s.length - I) 0 0 ke25 rfl rfl rfl rfl (by omega) (Nat.le_trans m2 hl1) (Nat.le_trans m4 hl1) (ins_one ho1 h1n) rfl) rfl rfl rfl (fun _ => rfl) (fun _ => ?_)
        refine TA.nil (by kernel_rfl) ?_
        refine TE.next ?_
        refine TW.seq ?_
        refine TW.region ?_
        refine TO.y (Y.move rfl) rfl rfl rfl ?_
        refine TO.y (Y.move rfl) rfl rfl rfl ?_
        refine TO.y (Y.fromRaw (lo := I) ke25 (by omega) (by omega) rfl rfl rfl) rfl rfl rfl ?_
        refine TO.y (Y.move rfl) rfl rfl rfl ?_
        refine TO.ef (Ef.rawCopy (sl := v.length) 0 1 ke25 rfl rfl rfl rfl (by omega) (by rw [q3]; exact Nat.le_trans m1 hl1) (Nat.le_trans m3 hl2) (by rw [List.drop_zero]; exact ho2) rfl) rfl rfl rfl (fun _ => ?_)
        refine TO.nil ?_
        refine TE.next ?_
        refine TW.seq ?_
        refine TW.region ?_
        refine TO.y (Y.move rfl) rfl rfl rfl ?_
        refine TO.y (Y.assign rfl) rfl rfl rfl ?_
        refine TO.nil ?_
        refine TE.next ?_
        refine TW.ret ?_
        refine TE.then_ret ?_
        refine TE.ghost (Gh.fold (α := List Ent) (l := s) (k := v) (i := I) [0, 1, 1, 0] rfl h1n (by omega) hc2 (by rw [q4]; exact hl1) q5) (fun _ => ?_)
        exact TE.leaf fun _ _ hf_ hs_ => ret_any (rs := [.tmp 6]) (vs := [.slice (some ⟨b, 0, none⟩) (s.length + v.length) cap]) (.inl rfl) rfl ⟨rfl, trivial⟩ hf_ hs_ ⟨(.slice (some ⟨b, 0, none⟩) (s.length + v.length) cap), rfl, hs_.pulls [0] rfl⟩
theorem slices_Insert_87572_c {s : List (List Ent)} {i : Int} {v : List (List Ent)} {V_s0 V_v0 : Value} : Cn Tryz.prog 44 [V_s0, iv i, V_v0] [.own V_s0 (lc s), .own V_v0 (lc v)] [] (slices_Insert_87572 s i v) (fun _ (X : Value) => X) fun r X => [.own X (lc r)] := ⟨by kernel_rfl, fun _ h => slices_Insert_87572_con s i v _ _ _ h⟩
noncomputable def impl_Eng_flush (e : Eng) : Option (Bool × Eng) :=
  (if (decide (((e.Mem.length : Nat) : Int) = (0 : Int))) = true then (some true)
  else (some (decide (((e.Tables.length : Nat) : Int) ≥ (6 : Int))))).bind (fun (T1 : Bool) =>
  if T1 = true then (some (false, e))
  else ((slices_Insert_87572 e.Tables (0 : Int) ([e.Mem])).bind fun R6 =>
  some (true, { Mem := ([] : List Ent), Tables := R6, Seq := e.Seq, Snaps := e.Snaps : Eng })))
theorem impl_Eng_flush_c {e : Eng} {U0 U1 U2 : Value} {U3 : Nat} : Cn Tryz.prog 20 [pt U3] [.box U3 28 [U0, U1, iv e.Seq, U2], .own U0 (lc e.Mem), .own U1 (lc e.Tables)] [] (impl_Eng_flush e) (fun r (_ : Value × Value) => .bool r.1) fun r X => [.box U3 28 [X.1, X.2, iv r.2.Seq, U2], .own X.1 (lc r.2.Mem), .own X.2 (lc r.2.Tables)] := by
  unfold impl_Eng_flush
  refine Ci Tryz.func20 r r ?_
  rintro w S -
  refine Sr<|Qs 1 r<|Nx<|Sq<|Sq<|Jv [0] (fun T=>[(16, .bool T)]) r1 (?_) fun T1=>?_
  ·exact Rg<|Qs 2 r<|Yo (Fb kf28_0 r)<|Yo (Lb 0 kk24 r)<|Yo (Ln ke24 (Oc 1 r) r)<|Qs 2 r<|It (fun H3=>Of 6 (beq_tf H3) r r<|Yo (Pt H3 r)<|Nl<|Bg () [0,0,0]) fun H3=>Qg 2 (beq_ff H3) r r<|Yg (gdA (beq_ff H3)) (Fb kf28_1 r)<|Yg (gdA (beq_ff H3)) (Lb 0 kk25 r)<|Yg (gdA (beq_ff H3)) (Ln ke25 (Oc 2 r) r)<|Qg 1 (beq_ff H3) r r<|Yo (Pf H3 r)<|Nl<|Bg () [0,0,0]
  refine Ne<|Wc r (fun H4=>Sr<|Qs 1 r<|Nx<|Wr<|Tr<|Re (U0, U1) [0,0,0]) fun H4=>Sn<|Sq<|Wi fun R6 H7=>Jw Value [0] [] (fun _=>[]) (fun X=>[.box U3 28 [U0, X, iv e.Seq, U2], .own X (lc R6)]) r1 r1 (?_) fun X10=>?_
  ·refine Dr [] r hMix<|Aq [0,1,2] [] r<|Ay 3 [] r (Fb kf28_1 r)<|Aq [5,6] [] r<|Ay 7 [] r (Fb kf28_0 r)<|A2 4 8 (?_)<|?_
   ·exact Xy [] r (Lb 0 kk25 r)<|A1 8<|Xy [] r (Lb 0 kk24 r)<|A1 9<|Xe [] r (Bk [.raw U0] ke25 kz24 r (Qc (Co 1)<|Qz)) fun B11=>Ka (Ha [0, 1] ([e.Mem] : List (List Ent)) r (Cf Cz))<|A1 10<|Xe [] r (Cl [2, 0] slices_Insert_87572_c H7 r r1) fun Y12=>Aq [11] [] r<|Ay 12 [] r (Fb kf28_1 r)<|A1 13<|Xu [] r (Sb 1 kk25 r (Co 0) r)<|Az<|Bg Y12 [1,0]
   refine Xy [] r (Lb 0 kk24 r)<|A2 4 9 (?_)<|?_
   ·exact Xy [] r (Lb 0 kk25 r)<|A1 9<|Xe [] r (Bk [.raw U0] ke25 kz24 r (Qc (Co 1)<|Qz)) fun B12=>Ka (Ha [0, 1] ([e.Mem] : List (List Ent)) r (Cf Cz))<|A1 10<|Xe [] r (Cl [2, 0] slices_Insert_87572_c H7 r r1) fun Y13=>Aq [11] [] r<|Ay 12 [] r (Fb kf28_1 r)<|A1 13<|Xu [] r (Sb 1 kk25 r (Co 0) r)<|Az<|Bg Y13 [1,0]
   exact Xe [] r (Bk [.raw U0] ke25 kz24 r (Qc (Co 1)<|Qz)) fun B11=>Ka (Ha [0, 1] ([e.Mem] : List (List Ent)) r (Cf Cz))<|A1 4<|Xy [] r (Lb 1 kk25 r)<|A1 10<|Xe [] r (Cl [2, 0] slices_Insert_87572_c H7 r r1) fun Y12=>Aq [11] [] r<|Ay 12 [] r (Fb kf28_1 r)<|A1 13<|Xu [] r (Sb 1 kk25 r (Co 0) r)<|Az<|Bg Y12 [1,0]
  exact Ne<|Sr<|Qs 2 r<|Yo (Fb kf28_0 r)<|Fu (Sb 0 kk24 r (Cp r) r)<|Nx<|Sr<|Qs 1 r<|Nx<|Wr<|Ni 4<|Re ((.slice none 0 0), X10) [1,0,0]
noncomputable def impl_EngFlush (e : Eng) : Option (Eng × Bool) :=
  (impl_EngOk e).bind fun R3 =>
  if (!R3) = true then (some ({ Mem := ([] : List Ent), Tables := ([] : List (List Ent)), Seq := (0 : Int), Snaps := ([] : List Int) : Eng }, false))
  else ((impl_copyEng e).bind fun R10 =>
  (impl_Eng_flush R10).bind fun R14 =>
  some ({ Mem := R14.2.Mem, Tables := R14.2.Tables, Seq := R14.2.Seq, Snaps := R10.Snaps : Eng }, R14.1))
theorem impl_EngFlush_c {e : Eng} {U0 U1 U2 : Value} : Cn Tryz.prog 6 [.agg #[U0, U1, iv e.Seq, U2]] [] [(U0, lc e.Mem), (U1, lc e.Tables), (U2, lc e.Snaps)] (impl_EngFlush e) (fun r (X : Value × Value × Value) => .tuple #[.agg #[X.1, X.2.1, iv r.1.Seq, X.2.2], .bool r.2]) fun r X => [.own X.1 (lc r.1.Mem), .own X.2.1 (lc r.1.Tables), .own X.2.2 (lc r.1.Snaps)] := by
  unfold impl_EngFlush
  refine Ci Tryz.func6 r r ?_
  rintro w S ⟨Z0,Z1,Z2,-⟩
  refine Sr<|Fo (Bx r (Ca ⟨Ob Z0,Ob Z1,Op',Ob Z2,⟨⟩⟩)) fun B1=>Fo (Al kz28 r) fun B2=>Qs 1 r<|Nx<|Sq<|Sr<|Yo (Lb 1 kk28 r)<|Bi fun R3 H4=>Fo (Cl [] impl_EngOk_c H4 r r1 ⟨(Bc Z0),(Bc Z1),(Bc Z2),⟨⟩⟩) fun _=>Qs 1 r<|Nx<|Wc r (fun H6=>Sr<|Yo (Bd kp28 kz28 (Pz) r)<|Fu (Sb 0 kk28 r (Cp r) r)<|Qs 1 r<|Nx<|Wr<|Tr<|Ni 4<|Ni 1<|Ni 1<|Rf ((.slice none 0 0), (.slice none 0 0), (.slice none 0 0)) [2,1,0] (RV.cell 3 r r kk28 r (Rt r Rz))) fun H6=>Sn<|Sr<|Yo (Lb 1 kk28 r)<|Bi fun R10 H11=>Fo (Cl [] impl_copyEng_c H11 r r1 ⟨(Bc Z0),(Bc Z1),(Bc Z2),⟨⟩⟩) fun Y12=>?_
  exact Fo (Al kz28 r) fun B13=>Fu (Sb 0 kk28 r (Ca ⟨Ow' 1,Ow' 2,Op',Ow' 3,⟨⟩⟩) r)<|Nx<|Sr<|Bi fun R14 H15=>Fo (Cl [0, 0, 0] impl_Eng_flush_c H15 r r1) fun Y16=>Qs 1 r<|Nx<|Sr<|Yo (Lb 0 kk28 r)<|Qs 1 r<|Fu (Sb 4 kk28 r (Ca ⟨Ow' 1,Ow' 2,Op',Ow' 3,⟨⟩⟩) r)<|Qs 1 r<|Nx<|Wr<|Rf (Y16.1, Y16.2, Y12.2.2) [1,1,1] (RV.cell 4 r r kk28 r (Rt r Rz))
noncomputable def slices_Grow_94167_nil (n : Int) : Option (List Ent) :=
  if (decide (n < (0 : Int))) = true then (none)
  else (bindC (if (decide (IntKind.i64.wrap (n - (IntKind.i64.wrap (((0 : Nat) : Int) - ((([] : List Ent).length : Nat) : Int)))) > (0 : Int))) = true then ((piece ([] : List Ent) (0 : Int) ((0 : Nat) : Int)).bind fun E5 =>
  (zapp 48 (IntKind.i64.wrap (n - (IntKind.i64.wrap (((0 : Nat) : Int) - ((([] : List Ent).length : Nat) : Int)))))).bind fun E8 =>
  (piece (List.replicate E8 ({ Key := [], Seq := (0 : Int), Del := false, Val := [] : Ent } : Ent)) (0 : Int) ((([] : List Ent).length : Nat) : Int)).bind fun E10 =>
  some (.go E10))
  else (some (.go ([] : List Ent))))
  (fun (T2 : List Ent) => some T2))
theorem slices_Grow_94167_nil_c {n : Int} : Cn Tryz.prog 94 [.slice none 0 0, iv n] [] [] (slices_Grow_94167_nil n) (fun _ (X : Value) => X) fun r X => [.own X (lc r)] := by
  unfold slices_Grow_94167_nil
  refine Ci Tryz.func94 r r ?_
  rintro w S -
  refine Sr<|Qs 1 r<|Nx<|Sq<|Sr<|Qs 2 r<|Nx<|Wc r (fun H1=>fun _ h_ => by cases h_) fun H1=>Sn<|Sq<|Sr<|Qs 2 r<|Yo (Y.capRaw (cap := 0) ke24 r)<|Qs 1 r<|Yo (Y.len (l := ([] : List Ent)) (sz' := 0) ke24 (Can.plain fun _ => .nil _) r)<|Qs 3 r<|Nx<|Sr<|Qs 2 r<|Nx<|Jn Value [] [] (fun _ X=>[(0, X)]) (fun T X=>[.own X (lc T)]) r2 r2 (?_) fun T2 X3=>?_
  ·refine Wc r (fun H4=>?_) fun H4=>?_
   ·exact Rg<|Qs 2 r<|Yo (Y.capRaw (cap := 0) ke24 r)<|Bi fun E5 H6=>Yo (Y.subs_nil H6 ke24 r r ⟨_, r⟩)<|Qs 1 r<|Bi fun E8 H9=>Fo (Ef.appZeros (α := Ent) (z := ({ Key := [], Seq := (0 : Int), Del := false, Val := [] : Ent } : Ent)) H9 ke24 ki3 kz72 r r r r r) fun V7=>Qs 1 r<|Yo (Y.len (l := ([] : List Ent)) (sz' := 0) ke24 (Can.plain fun _ => .nil _) r)<|Bi fun E10 H11=>Yo (Y.subs H11 ke24 (Oc 0 r) r r ⟨_, r⟩)<|Qs 1 r<|Nl<|TE.conv (is' := [.own (subV V7 4 (0 : Int).toNat (((([] : List Ent).length : Nat) : Int).toNat - (0 : Int).toNat)) (lc E10)]) (St.cut (i := 0) H11 r r r)<|Jg (subV V7 4 (0 : Int).toNat (((([] : List Ent).length : Nat) : Int).toNat - (0 : Int).toNat)) [0]
   exact Sk<|Ni 4<|Jg (.slice none 0 0) [0]
  exact Ne<|Sr<|Qs 2 r<|Nx<|Wr<|Re X3 [0]
noncomputable def slices_Concat_94167 (slices : List (List Ent)) : Option (List Ent) :=
  bindC (loopO (fun (S1 : Int × Int) => if (decide (S1.2 < ((slices.length : Nat) : Int))) = true then ((idx slices S1.2).bind fun E6 =>
  if (decide (IntKind.i64.wrap (S1.1 + ((E6.length : Nat) : Int)) < (0 : Int))) = true then (none)
  else (some (.go (IntKind.i64.wrap (S1.1 + ((E6.length : Nat) : Int)), IntKind.i64.wrap (S1.2 + (1 : Int))))))
  else (some (.done (.go S1.1))))
  ((0 : Int), (0 : Int)))
  (fun (T3 : Int) => (slices_Grow_94167_nil T3).bind fun R10 =>
  bindC (loopO (fun (S13 : Int × List Ent) => if (decide (S13.1 < ((slices.length : Nat) : Int))) = true then ((idx slices S13.1).bind fun E18 =>
  (app 48 S13.2 E18).bind fun E22 =>
  some (.go (IntKind.i64.wrap (S13.1 + (1 : Int)), E22)))
  else (some (.done (.go S13.2))))
  ((0 : Int), R10))
  (fun (T15 : List Ent) => some T15))
theorem slices_Concat_94167_c {slices : List (List Ent)} {U0 : Value} : Cn Tryz.prog 77 [U0] [] [(U0, lc slices)] (slices_Concat_94167 slices) (fun _ (X : Value) => X) fun r X => [.own X (lc r)] := by
  unfold slices_Concat_94167
  refine Ci Tryz.func77 r r ?_
  rintro w S ⟨Z0,-⟩
  refine Sr<|Qs 1 r<|Nx<|Sr<|Qs 1 r<|Nx<|Sq<|Sr<|Qs 1 r<|Yo (Ln ke25 (Bc Z0) r)<|Qs 1 r<|Nx<|Ju [0] (fun T=>[(3, iv T)]) r1 (?_) fun T3=>?_
  ·refine Wb<|Lu [0,9,10] (fun T=>[(3, iv T.1), (11, iv T.2)]) r1 fun S1=>Sr<|Qs 1 r<|Nx<|Sq<|Wc r (fun H5=>?_) fun H5=>?_
   ·refine Sn<|Sq<|Wb<|Sr<|Bi fun E6 H7=>Yo (Ix ke25 (Bc Z0) H7 r)<|?_
    have Q8 : Base w S (elv w U0 (S1.2.toNat * 1 + 0)) (lc E6):=Base.el Z0 (idx_get H7).2.2 r r
    exact Yo (Lz kk24 Z0 H7 r)<|Qs 1 r<|Nx<|Sr<|Qs 2 r<|Yo (Ln ke24 (Bc Q8) r)<|Qs 2 r<|Nx<|Sr<|Qs 2 r<|Nx<|Wc r (fun H9=>fun _ h_ => by cases h_) fun H9=>Sk<|Bn<|Ne<|Rg<|Qs 2 r<|Nl<|Lg () []
   exact Wx<|Tx<|Ex<|Be<|Jg () []
  refine Ne<|Sr<|Qs 1 r<|Bi fun R10 H11=>Fo (Cl [] slices_Grow_94167_nil_c H11 r r1) fun Y12=>Qs 1 r<|Nx<|Sq<|Sr<|Qs 1 r<|Yo (Ln ke25 (Bc Z0) r)<|Qs 1 r<|Nx<|Jn Value [] [] (fun _ X=>[(6, X)]) (fun T X=>[.own X (lc T)]) r2 r2 (?_) fun T15 X16=>?_
  ·refine Wb<|Lp Value [25,26] [] (fun T X=>[(6, X), (27, iv T.1)]) (fun T X=>[.own X (lc T.2)]) Y12 [0] r2 r2 fun S13 X14=>Sr<|Qs 1 r<|Nx<|Sq<|Wc r (fun H17=>?_) fun H17=>?_
   ·refine Sn<|Sq<|Wb<|Sr<|Bi fun E18 H19=>Yo (Ix ke25 (Bc Z0) H19 r)<|?_
    have Q20 : Base w S (elv w U0 (S13.1.toNat * 1 + 0)) (lc E18):=Base.el Z0 (idx_get H19).2.2 r r
    exact Yo (Lz kk24 Z0 H19 r)<|Qs 1 r<|Nx<|Rg<|Qs 2 r<|Bi fun E22 H23=>Fo (Ap [0] H23 ke24 kz72 r (Bc Q20)) fun V21=>Qs 1 r<|Nl<|Bn<|Ne<|Rg<|Qs 2 r<|Nl<|Lg V21 [0]
   exact Wx<|Tx<|Ex<|Be<|Jg X14 [0]
  exact Ne<|Sr<|Qs 2 r<|Nx<|Wr<|Re X16 [0]
noncomputable def slices_Clip_94167 (s : List Ent) : Option (List Ent) :=
  (piece s (0 : Int) ((s.length : Nat) : Int)).bind fun E1 =>
  some E1
theorem slices_Clip_94167_c {s : List Ent} {U0 : Value} : Cn Tryz.prog 80 [U0] [.own U0 (lc s)] [] (slices_Clip_94167 s) (fun _ (X : Value) => X) fun r X => [.own X (lc r)] := by
  unfold slices_Clip_94167
  refine Ci Tryz.func80 r r ?_
  rintro w S -
  exact Sr<|Qs 1 r<|Nx<|Sr<|Qs 2 r<|Yo (Ln ke24 (Oc 0 r) r)<|Qs 1 r<|Yo (Ln ke24 (Oc 0 r) r)<|Bi fun E1 H2=>Yo (Y.subs30 H2 ke24 (Oc 0 r) r r r)<|TO.conv (is' := [.own (sub3V U0 4 (0 : Int).toNat (((s.length : Nat) : Int).toNat - (0 : Int).toNat) s.length) (lc E1)]) (St.clip (i := 0) H2 r r r)<|Qs 1 r<|Nx<|Wr<|Re (sub3V U0 4 (0 : Int).toNat (((s.length : Nat) : Int).toNat - (0 : Int).toNat) s.length) [0]
noncomputable def slices_insertionSortCmpFunc_57869_at_impl_compareEnts (data : List Ent) (a : Int) (b : Int) : Option (List Ent) :=
  bindC (loopO (fun (S1 : Int × List Ent) => if (decide (S1.1 < b)) = true then (bindC (loopO (fun (S6 : Int × List Ent) => (if (decide (S6.1 > a)) = true then ((idx S6.2 S6.1).bind fun E13 =>
  (idx S6.2 (IntKind.i64.wrap (S6.1 - (1 : Int)))).bind fun E15 =>
  (impl_compareEnts E13 E15).bind fun R17 =>
  some (decide (R17 < (0 : Int))))
  else (some false)).bind (fun (T10 : Bool) =>
  if T10 = true then ((idx S6.2 (IntKind.i64.wrap (S6.1 - (1 : Int)))).bind fun E21 =>
  (idx S6.2 S6.1).bind fun E23 =>
  (idx (S6.2.set S6.1.toNat E21) (IntKind.i64.wrap (S6.1 - (1 : Int)))).bind fun E25 =>
  some (.go (IntKind.i64.wrap (S6.1 - (1 : Int)), ((S6.2.set S6.1.toNat E21).set ((IntKind.i64.wrap (S6.1 - (1 : Int))).toNat) E23))))
  else (some (.done (.go S6.2)))))
  (S1.1, S1.2))
  (fun (T8 : List Ent) => some (.go (IntKind.i64.wrap (S1.1 + (1 : Int)), T8))))
  else (some (.done (.go S1.2))))
  (IntKind.i64.wrap (a + (1 : Int)), data))
  (fun (T3 : List Ent) => some T3)
theorem slices_insertionSortCmpFunc_57869_at_impl_compareEnts_c {data : List Ent} {a : Int} {b : Int} {U0 : Value} : Cn Tryz.prog 105 [U0, iv a, iv b, .func (.func 79) #[] #[]] [.own U0 (lc data)] [] (slices_insertionSortCmpFunc_57869_at_impl_compareEnts data a b) (fun _ (_ : Unit) => .tuple #[]) fun r _ => [.own U0 (lc r)] := by
  unfold slices_insertionSortCmpFunc_57869_at_impl_compareEnts
  refine Ci Tryz.func105 r r ?_
  rintro w S -
  refine Sr<|Qs 3 r<|Nx<|Jn Unit [] [] (fun _ _=>[]) (fun T _=>[.own U0 (lc T)]) r2 r2 (?_) fun T3 X4=>?_
  ·refine Wb<|Lp Unit [0,1,2,3] [] (fun T _=>[(8, iv T.1)]) (fun T _=>[.own U0 (lc T.2)]) () [0] r2 r2 fun S1 X2=>Sq<|Sr<|Qs 3 r<|Nx<|Wc r (fun H5=>?_) fun H5=>?_
   ·refine Sn<|Sq<|Wb<|Sr<|Qs 2 r<|Nx<|Jn Unit [0,1,2,3,8] [] (fun _ _=>[]) (fun T _=>[.own U0 (lc T)]) r2 r2 (?_) fun T8 X9=>?_
    ·refine Wb<|Lp Unit [0,1,2,3,8] [] (fun T _=>[(9, iv T.1)]) (fun T _=>[.own U0 (lc T.2)]) () [0] r2 r2 fun S6 X7=>Sq<|Sq<|Jv [0,1,2,3,8,9] (fun T=>[(34, .bool T)]) r1 (?_) fun T10=>?_
     ·refine Dr [0] r hMix<|Aq [0,1,2,3] [0] r<|Ia (fun H12=>?_) fun H12=>?_
      ·refine Ag 4 [0] (gdA (beq_tt H12)) r (Y.move r)<|Ag 5 [0] (gdA (beq_tt H12)) r (Y.move r)<|Ag 6 [0] (gdA (beq_tt H12)) r (Y.move r)<|Ai fun E13 H14=>Ag 7 [0] (gdA (beq_tt H12)) r (Ix ke24 (Oc 0 r) H14 r)<|Ag 8 [0] (gdA (beq_tt H12)) r (Le kk72 (Oc 0 r) H14 r)<|Ag 9 [0] (gdA (beq_tt H12)) r (Y.move r)<|Ag 10 [0] (gdA (beq_tt H12)) r (Y.move r)<|Ag 11 [0] (gdA (beq_tt H12)) r (Y.sub r r)<|Ai fun E15 H16=>Ag 12 [0] (gdA (beq_tt H12)) r (Ix ke24 (Oc 0 r) H16 r)<|Ag 13 [0] (gdA (beq_tt H12)) r (Le kk72 (Oc 0 r) H16 r)<|Ai fun R17 H18=>A1 14<|Xeg [0] (gdA (beq_tt H12)) r (Cw [] impl_compareEnts_c H18 r r r1) fun _=>?_
       exact Ag 15 [0] (gdA (beq_tt H12)) r (Y.lss r r)<|Ay 16 [0] r (Pt H12 r)<|Az<|Bg () [0]
      exact Ax [4,5,6,7,8,9,10,11,12,13,14,15] [0] (beq_ft H12) r r<|Ay 16 [0] r (Pf H12 r)<|Az<|Bg () [0]
     refine Ne<|Wc r (fun H20=>?_) fun H20=>?_
     ·refine Sn<|Sq<|Wb<|Wi fun E21 H22=>Wi fun E23 H24=>Wi fun E25 H26=>Jw Unit [0,1,2,3,8,9] [] (fun _=>[]) (fun _=>[.own U0 (lc ((S6.2.set S6.1.toNat E21).set ((IntKind.i64.wrap (S6.1 - (1 : Int))).toNat) E23))]) r1 r1 (?_) fun X28=>?_
      ·refine Dr [] r hMix<|Aq [0,1,2,3,4,5,6,7,10,11] [] r<|A2 8 12 (?_)<|?_
       ·refine Xy [] r (Ix ke24 (Oc 0 r) H22 r)<|A2 9 12 (?_)<|?_
        ·exact Xy [] r (Le kk72 (Oc 0 r) H22 r)<|A1 12<|Xy [] r (Ix ke24 (Oc 0 r) H24 r)<|A1 13<|Xy [] r (Le kk72 (Oc 0 r) H24 r)<|A1 14<|Xy [] r (Ix ke24 (Oc 0 r) H24 r)<|A1 15<|Xu [] r (Se E21 0 kk72 H24 r (Cp r) r)<|A1 16<|Xy [] r (Ix ke24 (Oc 0 r) H26 r)<|A1 17<|Xu [] r (Se E23 0 kk72 H26 r (Cp r) r)<|Az<|Bg () [0]
        exact Xy [] r (Ix ke24 (Oc 0 r) H24 r)<|A2 9 13 (Xy [] r (Le kk72 (Oc 0 r) H22 r)<|A1 13<|Xy [] r (Le kk72 (Oc 0 r) H24 r)<|A1 14<|Xy [] r (Ix ke24 (Oc 0 r) H24 r)<|A1 15<|Xu [] r (Se E21 0 kk72 H24 r (Cp r) r)<|A1 16<|Xy [] r (Ix ke24 (Oc 0 r) H26 r)<|A1 17<|Xu [] r (Se E23 0 kk72 H26 r (Cp r) r)<|Az<|Bg () [0])<|Xy [] r (Le kk72 (Oc 0 r) H24 r)<|A1 9<|Xy [] r (Le kk72 (Oc 0 r) H22 r)<|A1 14<|Xy [] r (Ix ke24 (Oc 0 r) H24 r)<|A1 15<|Xu [] r (Se E21 0 kk72 H24 r (Cp r) r)<|A1 16<|Xy [] r (Ix ke24 (Oc 0 r) H26 r)<|A1 17<|Xu [] r (Se E23 0 kk72 H26 r (Cp r) r)<|Az<|Bg () [0]
       refine Xy [] r (Ix ke24 (Oc 0 r) H24 r)<|A2 8 13 (?_)<|?_
       ·exact Xy [] r (Ix ke24 (Oc 0 r) H22 r)<|A2 9 13 (Xy [] r (Le kk72 (Oc 0 r) H22 r)<|A1 13<|Xy [] r (Le kk72 (Oc 0 r) H24 r)<|A1 14<|Xy [] r (Ix ke24 (Oc 0 r) H24 r)<|A1 15<|Xu [] r (Se E21 0 kk72 H24 r (Cp r) r)<|A1 16<|Xy [] r (Ix ke24 (Oc 0 r) H26 r)<|A1 17<|Xu [] r (Se E23 0 kk72 H26 r (Cp r) r)<|Az<|Bg () [0])<|Xy [] r (Le kk72 (Oc 0 r) H24 r)<|A1 9<|Xy [] r (Le kk72 (Oc 0 r) H22 r)<|A1 14<|Xy [] r (Ix ke24 (Oc 0 r) H24 r)<|A1 15<|Xu [] r (Se E21 0 kk72 H24 r (Cp r) r)<|A1 16<|Xy [] r (Ix ke24 (Oc 0 r) H26 r)<|A1 17<|Xu [] r (Se E23 0 kk72 H26 r (Cp r) r)<|Az<|Bg () [0]
       exact Xy [] r (Le kk72 (Oc 0 r) H24 r)<|A1 8<|Xy [] r (Ix ke24 (Oc 0 r) H22 r)<|A1 9<|Xy [] r (Le kk72 (Oc 0 r) H22 r)<|A1 14<|Xy [] r (Ix ke24 (Oc 0 r) H24 r)<|A1 15<|Xu [] r (Se E21 0 kk72 H24 r (Cp r) r)<|A1 16<|Xy [] r (Ix ke24 (Oc 0 r) H26 r)<|A1 17<|Xu [] r (Se E23 0 kk72 H26 r (Cp r) r)<|Az<|Bg () [0]
      exact Bn<|Ne<|Rg<|Qs 3 r<|Nl<|Lg () [0]
     exact Wx<|Tx<|Ex<|Be<|Jg () [0]
    exact Bn<|Ne<|Rg<|Qs 3 r<|Nl<|Lg () [0]
   exact Wx<|Tx<|Ex<|Be<|Jg () [0]
  exact Re () [0]
noncomputable def slices_swapRangeCmpFunc_57869_at_impl_compareEnts (data : List Ent) (a : Int) (b : Int) (n : Int) : Option (List Ent) :=
  bindC (loopO (fun (S1 : Int × List Ent) => if (decide (S1.1 < n)) = true then ((idx S1.2 (IntKind.i64.wrap (b + S1.1))).bind fun E6 =>
  (idx S1.2 (IntKind.i64.wrap (a + S1.1))).bind fun E8 =>
  (idx (S1.2.set ((IntKind.i64.wrap (a + S1.1)).toNat) E6) (IntKind.i64.wrap (b + S1.1))).bind fun E10 =>
  some (.go (IntKind.i64.wrap (S1.1 + (1 : Int)), ((S1.2.set ((IntKind.i64.wrap (a + S1.1)).toNat) E6).set ((IntKind.i64.wrap (b + S1.1)).toNat) E8))))
  else (some (.done (.go S1.2))))
  ((0 : Int), data))
  (fun (T3 : List Ent) => some T3)
theorem slices_swapRangeCmpFunc_57869_at_impl_compareEnts_c {data : List Ent} {a : Int} {b : Int} {n : Int} {U0 : Value} : Cn Tryz.prog 112 [U0, iv a, iv b, iv n, .func (.func 79) #[] #[]] [.own U0 (lc data)] [] (slices_swapRangeCmpFunc_57869_at_impl_compareEnts data a b n) (fun _ (_ : Unit) => .tuple #[]) fun r _ => [.own U0 (lc r)] := by
  unfold slices_swapRangeCmpFunc_57869_at_impl_compareEnts
  refine Ci Tryz.func112 r r ?_
  rintro w S -
  refine Sr<|Qs 1 r<|Nx<|Jn Unit [] [] (fun _ _=>[]) (fun T _=>[.own U0 (lc T)]) r2 r2 (?_) fun T3 X4=>?_
  ·refine Wb<|Lp Unit [0,1,2,3] [] (fun T _=>[(10, iv T.1)]) (fun T _=>[.own U0 (lc T.2)]) () [0] r2 r2 fun S1 X2=>Sq<|Sr<|Qs 3 r<|Nx<|Wc r (fun H5=>?_) fun H5=>?_
   ·refine Sn<|Sq<|Wb<|Wi fun E6 H7=>Wi fun E8 H9=>Wi fun E10 H11=>Jw Unit [0,1,2,3,10] [] (fun _=>[]) (fun _=>[.own U0 (lc ((S1.2.set ((IntKind.i64.wrap (a + S1.1)).toNat) E6).set ((IntKind.i64.wrap (b + S1.1)).toNat) E8))]) r1 r1 (?_) fun X13=>?_
    ·refine Dr [] r hMix<|Aq [0,1,2,3,4,5,6,7,8,9,10,11,14,15,16,17] [] r<|A2 12 18 (?_)<|?_
     ·refine Xy [] r (Ix ke24 (Oc 0 r) H7 r)<|A2 13 18 (?_)<|?_
      ·exact Xy [] r (Le kk72 (Oc 0 r) H7 r)<|A1 18<|Xy [] r (Ix ke24 (Oc 0 r) H9 r)<|A1 19<|Xy [] r (Le kk72 (Oc 0 r) H9 r)<|A1 20<|Xy [] r (Ix ke24 (Oc 0 r) H9 r)<|A1 21<|Xu [] r (Se E6 0 kk72 H9 r (Cp r) r)<|A1 22<|Xy [] r (Ix ke24 (Oc 0 r) H11 r)<|A1 23<|Xu [] r (Se E8 0 kk72 H11 r (Cp r) r)<|Az<|Bg () [0]
      exact Xy [] r (Ix ke24 (Oc 0 r) H9 r)<|A2 13 19 (Xy [] r (Le kk72 (Oc 0 r) H7 r)<|A1 19<|Xy [] r (Le kk72 (Oc 0 r) H9 r)<|A1 20<|Xy [] r (Ix ke24 (Oc 0 r) H9 r)<|A1 21<|Xu [] r (Se E6 0 kk72 H9 r (Cp r) r)<|A1 22<|Xy [] r (Ix ke24 (Oc 0 r) H11 r)<|A1 23<|Xu [] r (Se E8 0 kk72 H11 r (Cp r) r)<|Az<|Bg () [0])<|Xy [] r (Le kk72 (Oc 0 r) H9 r)<|A1 13<|Xy [] r (Le kk72 (Oc 0 r) H7 r)<|A1 20<|Xy [] r (Ix ke24 (Oc 0 r) H9 r)<|A1 21<|Xu [] r (Se E6 0 kk72 H9 r (Cp r) r)<|A1 22<|Xy [] r (Ix ke24 (Oc 0 r) H11 r)<|A1 23<|Xu [] r (Se E8 0 kk72 H11 r (Cp r) r)<|Az<|Bg () [0]
     refine Xy [] r (Ix ke24 (Oc 0 r) H9 r)<|A2 12 19 (?_)<|?_
     ·exact Xy [] r (Ix ke24 (Oc 0 r) H7 r)<|A2 13 19 (Xy [] r (Le kk72 (Oc 0 r) H7 r)<|A1 19<|Xy [] r (Le kk72 (Oc 0 r) H9 r)<|A1 20<|Xy [] r (Ix ke24 (Oc 0 r) H9 r)<|A1 21<|Xu [] r (Se E6 0 kk72 H9 r (Cp r) r)<|A1 22<|Xy [] r (Ix ke24 (Oc 0 r) H11 r)<|A1 23<|Xu [] r (Se E8 0 kk72 H11 r (Cp r) r)<|Az<|Bg () [0])<|Xy [] r (Le kk72 (Oc 0 r) H9 r)<|A1 13<|Xy [] r (Le kk72 (Oc 0 r) H7 r)<|A1 20<|Xy [] r (Ix ke24 (Oc 0 r) H9 r)<|A1 21<|Xu [] r (Se E6 0 kk72 H9 r (Cp r) r)<|A1 22<|Xy [] r (Ix ke24 (Oc 0 r) H11 r)<|A1 23<|Xu [] r (Se E8 0 kk72 H11 r (Cp r) r)<|Az<|Bg () [0]
     exact Xy [] r (Le kk72 (Oc 0 r) H9 r)<|A1 12<|Xy [] r (Ix ke24 (Oc 0 r) H7 r)<|A1 13<|Xy [] r (Le kk72 (Oc 0 r) H7 r)<|A1 20<|Xy [] r (Ix ke24 (Oc 0 r) H9 r)<|A1 21<|Xu [] r (Se E6 0 kk72 H9 r (Cp r) r)<|A1 22<|Xy [] r (Ix ke24 (Oc 0 r) H11 r)<|A1 23<|Xu [] r (Se E8 0 kk72 H11 r (Cp r) r)<|Az<|Bg () [0]
    exact Bn<|Ne<|Rg<|Qs 3 r<|Nl<|Lg () [0]
   exact Wx<|Tx<|Ex<|Be<|Jg () [0]
  exact Re () [0]
noncomputable def slices_rotateCmpFunc_57869_at_impl_compareEnts (data : List Ent) (a : Int) (m : Int) (b : Int) : Option (List Ent) :=
  bindC (loopO (fun (S1 : Int × Int × List Ent) => if (!(decide (S1.1 = S1.2.1))) = true then (bindC (if (decide (S1.1 > S1.2.1)) = true then ((slices_swapRangeCmpFunc_57869_at_impl_compareEnts S1.2.2 (IntKind.i64.wrap (m - S1.1)) m S1.2.1).bind fun R9 =>
  some (.go (IntKind.i64.wrap (S1.1 - S1.2.1), S1.2.1, R9)))
  else ((slices_swapRangeCmpFunc_57869_at_impl_compareEnts S1.2.2 (IntKind.i64.wrap (m - S1.1)) (IntKind.i64.wrap (IntKind.i64.wrap (m + S1.2.1) - S1.1)) S1.1).bind fun R12 =>
  some (.go (S1.1, IntKind.i64.wrap (S1.2.1 - S1.1), R12))))
  (fun (T6 : Int × Int × List Ent) => some (.go (T6.1, T6.2.1, T6.2.2))))
  else (some (.done (.go (S1.1, S1.2.2)))))
  (IntKind.i64.wrap (m - a), IntKind.i64.wrap (b - m), data))
  (fun (T3 : Int × List Ent) => (slices_swapRangeCmpFunc_57869_at_impl_compareEnts T3.2 (IntKind.i64.wrap (m - T3.1)) m T3.1).bind fun R15 =>
  some R15)
theorem slices_rotateCmpFunc_57869_at_impl_compareEnts_c {data : List Ent} {a : Int} {m : Int} {b : Int} {U0 : Value} : Cn Tryz.prog 111 [U0, iv a, iv m, iv b, .func (.func 79) #[] #[]] [.own U0 (lc data)] [] (slices_rotateCmpFunc_57869_at_impl_compareEnts data a m b) (fun _ (_ : Unit) => .tuple #[]) fun r _ => [.own U0 (lc r)] := by
  unfold slices_rotateCmpFunc_57869_at_impl_compareEnts
  refine Ci Tryz.func111 r r ?_
  rintro w S -
  refine Sr<|Qs 4 r<|Nx<|Sr<|Qs 4 r<|Nx<|Sq<|Jn Unit [0,2,4] [] (fun T _=>[(10, iv T.1)]) (fun T _=>[.own U0 (lc T.2)]) r2 r2 (?_) fun T3 X4=>?_
  ·refine Wb<|Lp Unit [0,2,4] [] (fun T _=>[(10, iv T.1), (11, iv T.2.1)]) (fun T _=>[.own U0 (lc T.2.2)]) () [0] r2 r2 fun S1 X2=>Sq<|Sr<|Qs 3 r<|Nx<|Wc r (fun H5=>?_) fun H5=>?_
   ·refine Sn<|Wb<|Sr<|Qs 3 r<|Nx<|Jn Unit [0,2,4] [] (fun T _=>[(10, iv T.1), (11, iv T.2.1)]) (fun T _=>[.own U0 (lc T.2.2)]) r2 r2 (?_) fun T6 X7=>?_
    ·exact Wc r (fun H8=>Sr<|Qs 7 r<|Bi fun R9 H10=>Fo (Cl [0] slices_swapRangeCmpFunc_57869_at_impl_compareEnts_c H10 r r1) fun _=>Nx<|Rg<|Qs 4 r<|Nl<|Jg () [0]) fun H8=>Sr<|Qs 11 r<|Bi fun R12 H13=>Fo (Cl [0] slices_swapRangeCmpFunc_57869_at_impl_compareEnts_c H13 r r1) fun _=>Nx<|Rg<|Qs 4 r<|Nl<|Jg () [0]
    exact Bn<|Lg () [0]
   exact Wx<|Tx<|Ex<|Be<|Jg () [0]
  exact Ne<|Rg<|Qs 7 r<|Bi fun R15 H16=>Fo (Cl [0] slices_swapRangeCmpFunc_57869_at_impl_compareEnts_c H16 r r1) fun _=>Nl<|Re () [0]
noncomputable def slices_symMergeCmpFunc_57869_at_impl_compareEntsF : Nat → List Ent → Int → Int → Int → Option (List Ent)
  | 0, _, _, _, _ => none
  | f_ + 1, data, a, m, b =>
  if (decide (IntKind.i64.wrap (m - a) = (1 : Int))) = true then (bindC (loopO (fun (S2 : Int × Int) => if (decide (S2.1 < S2.2)) = true then ((idx data (IntKind.i64.wrap (ishr .u64 (IntKind.u64.wrap (IntKind.i64.wrap (S2.1 + S2.2))) (1 : Int)))).bind fun E7 =>
  (idx data a).bind fun E9 =>
  (impl_compareEnts E7 E9).bind fun R11 =>
  bindC (if (decide (R11 < (0 : Int))) = true then (some (.go (IntKind.i64.wrap (IntKind.i64.wrap (ishr .u64 (IntKind.u64.wrap (IntKind.i64.wrap (S2.1 + S2.2))) (1 : Int)) + (1 : Int)), S2.2)))
  else (some (.go (S2.1, IntKind.i64.wrap (ishr .u64 (IntKind.u64.wrap (IntKind.i64.wrap (S2.1 + S2.2))) (1 : Int))))))
  (fun (T14 : Int × Int) => some (.go (T14.1, T14.2))))
  else (some (.done (.go S2.1))))
  (m, b))
  (fun (T4 : Int) => bindC (loopO (fun (S17 : Int × List Ent) => if (decide (S17.1 < IntKind.i64.wrap (T4 - (1 : Int)))) = true then ((idx S17.2 (IntKind.i64.wrap (S17.1 + (1 : Int)))).bind fun E22 =>
  (idx S17.2 S17.1).bind fun E24 =>
  (idx (S17.2.set S17.1.toNat E22) (IntKind.i64.wrap (S17.1 + (1 : Int)))).bind fun E26 =>
  some (.go (IntKind.i64.wrap (S17.1 + (1 : Int)), ((S17.2.set S17.1.toNat E22).set ((IntKind.i64.wrap (S17.1 + (1 : Int))).toNat) E24))))
  else (some (.done (.go S17.2))))
  (a, data))
  (fun (T19 : List Ent) => some T19)))
  else (if (decide (IntKind.i64.wrap (b - m) = (1 : Int))) = true then (bindC (loopO (fun (S31 : Int × Int) => if (decide (S31.1 < S31.2)) = true then ((idx data m).bind fun E36 =>
  (idx data (IntKind.i64.wrap (ishr .u64 (IntKind.u64.wrap (IntKind.i64.wrap (S31.1 + S31.2))) (1 : Int)))).bind fun E38 =>
  (impl_compareEnts E36 E38).bind fun R40 =>
  bindC (if (!(decide (R40 < (0 : Int)))) = true then (some (.go (IntKind.i64.wrap (IntKind.i64.wrap (ishr .u64 (IntKind.u64.wrap (IntKind.i64.wrap (S31.1 + S31.2))) (1 : Int)) + (1 : Int)), S31.2)))
  else (some (.go (S31.1, IntKind.i64.wrap (ishr .u64 (IntKind.u64.wrap (IntKind.i64.wrap (S31.1 + S31.2))) (1 : Int))))))
  (fun (T43 : Int × Int) => some (.go (T43.1, T43.2))))
  else (some (.done (.go S31.1))))
  (a, m))
  (fun (T33 : Int) => bindC (loopO (fun (S46 : Int × List Ent) => if (decide (S46.1 > T33)) = true then ((idx S46.2 (IntKind.i64.wrap (S46.1 - (1 : Int)))).bind fun E51 =>
  (idx S46.2 S46.1).bind fun E53 =>
  (idx (S46.2.set S46.1.toNat E51) (IntKind.i64.wrap (S46.1 - (1 : Int)))).bind fun E55 =>
  some (.go (IntKind.i64.wrap (S46.1 - (1 : Int)), ((S46.2.set S46.1.toNat E51).set ((IntKind.i64.wrap (S46.1 - (1 : Int))).toNat) E53))))
  else (some (.done (.go S46.2))))
  (m, data))
  (fun (T48 : List Ent) => some T48)))
  else (bindC (if (decide (m > IntKind.i64.wrap (ishr .u64 (IntKind.u64.wrap (IntKind.i64.wrap (a + b))) (1 : Int)))) = true then (some (.go (IntKind.i64.wrap (IntKind.i64.wrap (IntKind.i64.wrap (ishr .u64 (IntKind.u64.wrap (IntKind.i64.wrap (a + b))) (1 : Int)) + m) - b), IntKind.i64.wrap (ishr .u64 (IntKind.u64.wrap (IntKind.i64.wrap (a + b))) (1 : Int)))))
  else (some (.go (a, m))))
  (fun (T59 : Int × Int) => bindC (loopO (fun (S62 : Int × Int) => if (decide (S62.1 < S62.2)) = true then ((idx data (IntKind.i64.wrap (IntKind.i64.wrap (IntKind.i64.wrap (IntKind.i64.wrap (ishr .u64 (IntKind.u64.wrap (IntKind.i64.wrap (a + b))) (1 : Int)) + m) - (1 : Int)) - (IntKind.i64.wrap (ishr .u64 (IntKind.u64.wrap (IntKind.i64.wrap (S62.1 + S62.2))) (1 : Int)))))).bind fun E67 =>
  (idx data (IntKind.i64.wrap (ishr .u64 (IntKind.u64.wrap (IntKind.i64.wrap (S62.1 + S62.2))) (1 : Int)))).bind fun E69 =>
  (impl_compareEnts E67 E69).bind fun R71 =>
  bindC (if (!(decide (R71 < (0 : Int)))) = true then (some (.go (IntKind.i64.wrap (IntKind.i64.wrap (ishr .u64 (IntKind.u64.wrap (IntKind.i64.wrap (S62.1 + S62.2))) (1 : Int)) + (1 : Int)), S62.2)))
  else (some (.go (S62.1, IntKind.i64.wrap (ishr .u64 (IntKind.u64.wrap (IntKind.i64.wrap (S62.1 + S62.2))) (1 : Int))))))
  (fun (T74 : Int × Int) => some (.go (T74.1, T74.2))))
  else (some (.done (.go S62.1))))
  (T59.1, T59.2))
  (fun (T64 : Int) => (if (decide (T64 < m)) = true then (some (decide (m < IntKind.i64.wrap (IntKind.i64.wrap (IntKind.i64.wrap (ishr .u64 (IntKind.u64.wrap (IntKind.i64.wrap (a + b))) (1 : Int)) + m) - T64))))
  else (some false)).bind (fun (T77 : Bool) =>
  bindC (if T77 = true then ((slices_rotateCmpFunc_57869_at_impl_compareEnts data T64 m (IntKind.i64.wrap (IntKind.i64.wrap (IntKind.i64.wrap (ishr .u64 (IntKind.u64.wrap (IntKind.i64.wrap (a + b))) (1 : Int)) + m) - T64))).bind fun R83 =>
  some (.go R83))
  else (some (.go data)))
  (fun (T80 : List Ent) => (if (decide (a < T64)) = true then (some (decide (T64 < IntKind.i64.wrap (ishr .u64 (IntKind.u64.wrap (IntKind.i64.wrap (a + b))) (1 : Int)))))
  else (some false)).bind (fun (T86 : Bool) =>
  bindC (if T86 = true then ((slices_symMergeCmpFunc_57869_at_impl_compareEntsF f_ T80 a T64 (IntKind.i64.wrap (ishr .u64 (IntKind.u64.wrap (IntKind.i64.wrap (a + b))) (1 : Int)))).bind fun R92 =>
  some (.go R92))
  else (some (.go T80)))
  (fun (T89 : List Ent) => (if (decide (IntKind.i64.wrap (ishr .u64 (IntKind.u64.wrap (IntKind.i64.wrap (a + b))) (1 : Int)) < IntKind.i64.wrap (IntKind.i64.wrap (IntKind.i64.wrap (ishr .u64 (IntKind.u64.wrap (IntKind.i64.wrap (a + b))) (1 : Int)) + m) - T64))) = true then (some (decide (IntKind.i64.wrap (IntKind.i64.wrap (IntKind.i64.wrap (ishr .u64 (IntKind.u64.wrap (IntKind.i64.wrap (a + b))) (1 : Int)) + m) - T64) < b)))
  else (some false)).bind (fun (T95 : Bool) =>
  bindC (if T95 = true then ((slices_symMergeCmpFunc_57869_at_impl_compareEntsF f_ T89 (IntKind.i64.wrap (ishr .u64 (IntKind.u64.wrap (IntKind.i64.wrap (a + b))) (1 : Int))) (IntKind.i64.wrap (IntKind.i64.wrap (IntKind.i64.wrap (ishr .u64 (IntKind.u64.wrap (IntKind.i64.wrap (a + b))) (1 : Int)) + m) - T64)) b).bind fun R101 =>
  some (.go R101))
  else (some (.go T89)))
  (fun (T98 : List Ent) => some T98))))))))))
theorem slices_symMergeCmpFunc_57869_at_impl_compareEntsF_c (f_ : Nat) : ∀ {data : List Ent} {a : Int} {m : Int} {b : Int} {U0 : Value}, Cn Tryz.prog 106 [U0, iv a, iv m, iv b, .func (.func 79) #[] #[]] [.own U0 (lc data)] [] (slices_symMergeCmpFunc_57869_at_impl_compareEntsF f_ data a m b) (fun _ (_ : Unit) => .tuple #[]) fun r _ => [.own U0 (lc r)] := by
  induction f_ with
  | zero => intros; exact ⟨by kernel_rfl, fun q h_ => absurd (show (none : Option (List Ent)) = some q from h_) (fun h_ => by cases h_)⟩
  | succ f_ ih_ =>
    intro data a m b U0
    rw [slices_symMergeCmpFunc_57869_at_impl_compareEntsF]
    refine Ci Tryz.func106 r r ?_
    rintro w S -
    refine Sq<|Sr<|Qs 4 r<|Nx<|Wc r (fun H1=>?_) fun H1=>?_
    ·refine Sr<|Qs 2 r<|Nx<|Sr<|Qs 2 r<|Nx<|Sq<|Ju [0,1] (fun T=>[(10, iv T)]) r1 (?_) fun T4=>?_
     ·refine Wb<|Lu [0,1,4] (fun T=>[(10, iv T.1), (11, iv T.2)]) r1 fun S2=>Sq<|Sr<|Qs 3 r<|Nx<|Wc r (fun H6=>?_) fun H6=>?_
      ·refine Sn<|Wb<|Sr<|Qs 3 r<|Yo (Y.conv ki3 ki120 r)<|Yo (Y.shr (by decide) r r)<|Yo (Y.conv ki120 ki3 r)<|Qs 1 r<|Nx<|Sq<|Dr [0] r hMix<|Aq [0,1,2] [0] r<|Ai fun E7 H8=>Ay 3 [0] r (Ix ke24 (Oc 0 r) H8 r)<|Ay 4 [0] r (Le kk72 (Oc 0 r) H8 r)<|Aq [5,6] [0] r<|Ai fun E9 H10=>Ay 7 [0] r (Ix ke24 (Oc 0 r) H10 r)<|Ay 8 [0] r (Le kk72 (Oc 0 r) H10 r)<|Ai fun R11 H12=>A1 9<|Xe [0] r (Cw [] impl_compareEnts_c H12 r r r1) fun _=>Aq [10] [0] r<|Az<|Ne<|Ju [0,1,4] (fun T=>[(10, iv T.1), (11, iv T.2)]) r1 (Wc r (fun H16=>Rg<|Qs 3 r<|Nl<|Jg () [0]) fun H16=>Rg<|Qs 2 r<|Nl<|Jg () [0]) fun T14=>?_
       exact Bn<|Lg () [0]
      exact Wx<|Tx<|Ex<|Be<|Jg () [0]
     refine Ne<|Sq<|Sr<|Qs 2 r<|Nx<|Jn Unit [] [] (fun _ _=>[]) (fun T _=>[.own U0 (lc T)]) r2 r2 (?_) fun T19 X20=>?_
     ·refine Wb<|Lp Unit [0,10] [] (fun T _=>[(13, iv T.1)]) (fun T _=>[.own U0 (lc T.2)]) () [0] r2 r2 fun S17 X18=>Sq<|Sr<|Qs 4 r<|Nx<|Wc r (fun H21=>?_) fun H21=>?_
      ·refine Sn<|Sq<|Wb<|Wi fun E22 H23=>Wi fun E24 H25=>Wi fun E26 H27=>Jw Unit [0,10,13] [] (fun _=>[]) (fun _=>[.own U0 (lc ((S17.2.set S17.1.toNat E22).set ((IntKind.i64.wrap (S17.1 + (1 : Int))).toNat) E24))]) r1 r1 (?_) fun X29=>?_
       ·refine Dr [] r hMix<|Aq [0,1,2,3,4,5,6,7,10,11] [] r<|A2 8 12 (?_)<|?_
        ·refine Xy [] r (Ix ke24 (Oc 0 r) H23 r)<|A2 9 12 (?_)<|?_
         ·exact Xy [] r (Le kk72 (Oc 0 r) H23 r)<|A1 12<|Xy [] r (Ix ke24 (Oc 0 r) H25 r)<|A1 13<|Xy [] r (Le kk72 (Oc 0 r) H25 r)<|A1 14<|Xy [] r (Ix ke24 (Oc 0 r) H25 r)<|A1 15<|Xu [] r (Se E22 0 kk72 H25 r (Cp r) r)<|A1 16<|Xy [] r (Ix ke24 (Oc 0 r) H27 r)<|A1 17<|Xu [] r (Se E24 0 kk72 H27 r (Cp r) r)<|Az<|Bg () [0]
         exact Xy [] r (Ix ke24 (Oc 0 r) H25 r)<|A2 9 13 (Xy [] r (Le kk72 (Oc 0 r) H23 r)<|A1 13<|Xy [] r (Le kk72 (Oc 0 r) H25 r)<|A1 14<|Xy [] r (Ix ke24 (Oc 0 r) H25 r)<|A1 15<|Xu [] r (Se E22 0 kk72 H25 r (Cp r) r)<|A1 16<|Xy [] r (Ix ke24 (Oc 0 r) H27 r)<|A1 17<|Xu [] r (Se E24 0 kk72 H27 r (Cp r) r)<|Az<|Bg () [0])<|Xy [] r (Le kk72 (Oc 0 r) H25 r)<|A1 9<|Xy [] r (Le kk72 (Oc 0 r) H23 r)<|A1 14<|Xy [] r (Ix ke24 (Oc 0 r) H25 r)<|A1 15<|Xu [] r (Se E22 0 kk72 H25 r (Cp r) r)<|A1 16<|Xy [] r (Ix ke24 (Oc 0 r) H27 r)<|A1 17<|Xu [] r (Se E24 0 kk72 H27 r (Cp r) r)<|Az<|Bg () [0]
        refine Xy [] r (Ix ke24 (Oc 0 r) H25 r)<|A2 8 13 (?_)<|?_
        ·exact Xy [] r (Ix ke24 (Oc 0 r) H23 r)<|A2 9 13 (Xy [] r (Le kk72 (Oc 0 r) H23 r)<|A1 13<|Xy [] r (Le kk72 (Oc 0 r) H25 r)<|A1 14<|Xy [] r (Ix ke24 (Oc 0 r) H25 r)<|A1 15<|Xu [] r (Se E22 0 kk72 H25 r (Cp r) r)<|A1 16<|Xy [] r (Ix ke24 (Oc 0 r) H27 r)<|A1 17<|Xu [] r (Se E24 0 kk72 H27 r (Cp r) r)<|Az<|Bg () [0])<|Xy [] r (Le kk72 (Oc 0 r) H25 r)<|A1 9<|Xy [] r (Le kk72 (Oc 0 r) H23 r)<|A1 14<|Xy [] r (Ix ke24 (Oc 0 r) H25 r)<|A1 15<|Xu [] r (Se E22 0 kk72 H25 r (Cp r) r)<|A1 16<|Xy [] r (Ix ke24 (Oc 0 r) H27 r)<|A1 17<|Xu [] r (Se E24 0 kk72 H27 r (Cp r) r)<|Az<|Bg () [0]
        exact Xy [] r (Le kk72 (Oc 0 r) H25 r)<|A1 8<|Xy [] r (Ix ke24 (Oc 0 r) H23 r)<|A1 9<|Xy [] r (Le kk72 (Oc 0 r) H23 r)<|A1 14<|Xy [] r (Ix ke24 (Oc 0 r) H25 r)<|A1 15<|Xu [] r (Se E22 0 kk72 H25 r (Cp r) r)<|A1 16<|Xy [] r (Ix ke24 (Oc 0 r) H27 r)<|A1 17<|Xu [] r (Se E24 0 kk72 H27 r (Cp r) r)<|Az<|Bg () [0]
       exact Bn<|Ne<|Rg<|Qs 3 r<|Nl<|Lg () [0]
      exact Wx<|Tx<|Ex<|Be<|Jg () [0]
     exact Ne<|Wr<|Tr<|Re () [0]
    refine Sn<|Sq<|Sr<|Qs 4 r<|Nx<|Wc r (fun H30=>?_) fun H30=>?_
    ·refine Sr<|Qs 2 r<|Nx<|Sr<|Qs 2 r<|Nx<|Sq<|Ju [0,2] (fun T=>[(14, iv T)]) r1 (?_) fun T33=>?_
     ·refine Wb<|Lu [0,2,4] (fun T=>[(14, iv T.1), (15, iv T.2)]) r1 fun S31=>Sq<|Sr<|Qs 3 r<|Nx<|Wc r (fun H35=>?_) fun H35=>?_
      ·refine Sn<|Wb<|Sr<|Qs 3 r<|Yo (Y.conv ki3 ki120 r)<|Yo (Y.shr (by decide) r r)<|Yo (Y.conv ki120 ki3 r)<|Qs 1 r<|Nx<|Sq<|Dr [0] r hMix<|Aq [0,1,2] [0] r<|Ai fun E36 H37=>Ay 3 [0] r (Ix ke24 (Oc 0 r) H37 r)<|Ay 4 [0] r (Le kk72 (Oc 0 r) H37 r)<|Aq [5,6] [0] r<|Ai fun E38 H39=>Ay 7 [0] r (Ix ke24 (Oc 0 r) H39 r)<|Ay 8 [0] r (Le kk72 (Oc 0 r) H39 r)<|Ai fun R40 H41=>A1 9<|Xe [0] r (Cw [] impl_compareEnts_c H41 r r r1) fun _=>Aq [10,11] [0] r<|Az<|Ne<|Ju [0,2,4] (fun T=>[(14, iv T.1), (15, iv T.2)]) r1 (Wc r (fun H45=>Rg<|Qs 3 r<|Nl<|Jg () [0]) fun H45=>Rg<|Qs 2 r<|Nl<|Jg () [0]) fun T43=>?_
       exact Bn<|Lg () [0]
      exact Wx<|Tx<|Ex<|Be<|Jg () [0]
     refine Ne<|Sq<|Sr<|Qs 2 r<|Nx<|Jn Unit [] [] (fun _ _=>[]) (fun T _=>[.own U0 (lc T)]) r2 r2 (?_) fun T48 X49=>?_
     ·refine Wb<|Lp Unit [0,14] [] (fun T _=>[(17, iv T.1)]) (fun T _=>[.own U0 (lc T.2)]) () [0] r2 r2 fun S46 X47=>Sq<|Sr<|Qs 3 r<|Nx<|Wc r (fun H50=>?_) fun H50=>?_
      ·refine Sn<|Sq<|Wb<|Wi fun E51 H52=>Wi fun E53 H54=>Wi fun E55 H56=>Jw Unit [0,14,17] [] (fun _=>[]) (fun _=>[.own U0 (lc ((S46.2.set S46.1.toNat E51).set ((IntKind.i64.wrap (S46.1 - (1 : Int))).toNat) E53))]) r1 r1 (?_) fun X58=>?_
       ·refine Dr [] r hMix<|Aq [0,1,2,3,4,5,6,7,10,11] [] r<|A2 8 12 (?_)<|?_
        ·refine Xy [] r (Ix ke24 (Oc 0 r) H52 r)<|A2 9 12 (?_)<|?_
         ·exact Xy [] r (Le kk72 (Oc 0 r) H52 r)<|A1 12<|Xy [] r (Ix ke24 (Oc 0 r) H54 r)<|A1 13<|Xy [] r (Le kk72 (Oc 0 r) H54 r)<|A1 14<|Xy [] r (Ix ke24 (Oc 0 r) H54 r)<|A1 15<|Xu [] r (Se E51 0 kk72 H54 r (Cp r) r)<|A1 16<|Xy [] r (Ix ke24 (Oc 0 r) H56 r)<|A1 17<|Xu [] r (Se E53 0 kk72 H56 r (Cp r) r)<|Az<|Bg () [0]
         exact Xy [] r (Ix ke24 (Oc 0 r) H54 r)<|A2 9 13 (Xy [] r (Le kk72 (Oc 0 r) H52 r)<|A1 13<|Xy [] r (Le kk72 (Oc 0 r) H54 r)<|A1 14<|Xy [] r (Ix ke24 (Oc 0 r) H54 r)<|A1 15<|Xu [] r (Se E51 0 kk72 H54 r (Cp r) r)<|A1 16<|Xy [] r (Ix ke24 (Oc 0 r) H56 r)<|A1 17<|Xu [] r (Se E53 0 kk72 H56 r (Cp r) r)<|Az<|Bg () [0])<|Xy [] r (Le kk72 (Oc 0 r) H54 r)<|A1 9<|Xy [] r (Le kk72 (Oc 0 r) H52 r)<|A1 14<|Xy [] r (Ix ke24 (Oc 0 r) H54 r)<|A1 15<|Xu [] r (Se E51 0 kk72 H54 r (Cp r) r)<|A1 16<|Xy [] r (Ix ke24 (Oc 0 r) H56 r)<|A1 17<|Xu [] r (Se E53 0 kk72 H56 r (Cp r) r)<|Az<|Bg () [0]
        refine Xy [] r (Ix ke24 (Oc 0 r) H54 r)<|A2 8 13 (?_)<|?_
        ·exact Xy [] r (Ix ke24 (Oc 0 r) H52 r)<|A2 9 13 (Xy [] r (Le kk72 (Oc 0 r) H52 r)<|A1 13<|Xy [] r (Le kk72 (Oc 0 r) H54 r)<|A1 14<|Xy [] r (Ix ke24 (Oc 0 r) H54 r)<|A1 15<|Xu [] r (Se E51 0 kk72 H54 r (Cp r) r)<|A1 16<|Xy [] r (Ix ke24 (Oc 0 r) H56 r)<|A1 17<|Xu [] r (Se E53 0 kk72 H56 r (Cp r) r)<|Az<|Bg () [0])<|Xy [] r (Le kk72 (Oc 0 r) H54 r)<|A1 9<|Xy [] r (Le kk72 (Oc 0 r) H52 r)<|A1 14<|Xy [] r (Ix ke24 (Oc 0 r) H54 r)<|A1 15<|Xu [] r (Se E51 0 kk72 H54 r (Cp r) r)<|A1 16<|Xy [] r (Ix ke24 (Oc 0 r) H56 r)<|A1 17<|Xu [] r (Se E53 0 kk72 H56 r (Cp r) r)<|Az<|Bg () [0]
        exact Xy [] r (Le kk72 (Oc 0 r) H54 r)<|A1 8<|Xy [] r (Ix ke24 (Oc 0 r) H52 r)<|A1 9<|Xy [] r (Le kk72 (Oc 0 r) H52 r)<|A1 14<|Xy [] r (Ix ke24 (Oc 0 r) H54 r)<|A1 15<|Xu [] r (Se E51 0 kk72 H54 r (Cp r) r)<|A1 16<|Xy [] r (Ix ke24 (Oc 0 r) H56 r)<|A1 17<|Xu [] r (Se E53 0 kk72 H56 r (Cp r) r)<|Az<|Bg () [0]
       exact Bn<|Ne<|Rg<|Qs 3 r<|Nl<|Lg () [0]
      exact Wx<|Tx<|Ex<|Be<|Jg () [0]
     exact Ne<|Wr<|Tr<|Re () [0]
    refine Sn<|Sr<|Qs 3 r<|Yo (Y.conv ki3 ki120 r)<|Yo (Y.shr (by decide) r r)<|Yo (Y.conv ki120 ki3 r)<|Qs 1 r<|Nx<|Sr<|Qs 4 r<|Nx<|Sr<|Qs 2 r<|Nx<|Sq<|Sr<|Qs 3 r<|Nx<|Ju [0,1,2,3,4,18,19] (fun T=>[(20, iv T.1), (21, iv T.2)]) r1 (Wc r (fun H61=>Sr<|Qs 4 r<|Nx<|Rg<|Qs 2 r<|Nl<|Jg () [0]) fun H61=>Sr<|Qs 2 r<|Nx<|Rg<|Qs 2 r<|Nl<|Jg () [0]) fun T59=>Ne<|Sr<|Qs 3 r<|Nx<|Sq<|Ju [0,1,2,3,4,18,19] (fun T=>[(20, iv T)]) r1 (?_) fun T64=>?_
    ·refine Wb<|Lu [0,1,2,3,4,18,19,22] (fun T=>[(20, iv T.1), (21, iv T.2)]) r1 fun S62=>Sq<|Sr<|Qs 3 r<|Nx<|Wc r (fun H66=>?_) fun H66=>?_
     ·refine Sn<|Wb<|Sr<|Qs 3 r<|Yo (Y.conv ki3 ki120 r)<|Yo (Y.shr (by decide) r r)<|Yo (Y.conv ki120 ki3 r)<|Qs 1 r<|Nx<|Sq<|Dr [0] r hMix<|Aq [0,1,2,3,4] [0] r<|Ai fun E67 H68=>Ay 5 [0] r (Ix ke24 (Oc 0 r) H68 r)<|Ay 6 [0] r (Le kk72 (Oc 0 r) H68 r)<|Aq [7,8] [0] r<|Ai fun E69 H70=>Ay 9 [0] r (Ix ke24 (Oc 0 r) H70 r)<|Ay 10 [0] r (Le kk72 (Oc 0 r) H70 r)<|Ai fun R71 H72=>A1 11<|Xe [0] r (Cw [] impl_compareEnts_c H72 r r r1) fun _=>Aq [12,13] [0] r<|Az<|Ne<|Ju [0,1,2,3,4,18,19,22] (fun T=>[(20, iv T.1), (21, iv T.2)]) r1 (Wc r (fun H76=>Rg<|Qs 3 r<|Nl<|Jg () [0]) fun H76=>Rg<|Qs 2 r<|Nl<|Jg () [0]) fun T74=>?_
      exact Bn<|Lg () [0]
     exact Wx<|Tx<|Ex<|Be<|Jg () [0]
    refine Ne<|Sr<|Qs 4 r<|Nx<|Sq<|Sq<|Jv [0,1,2,3,4,18,20,24] (fun T=>[(185, .bool T)]) r1 (Rg<|Qs 4 r<|It (fun H79=>Qg 3 (beq_tt H79) r r<|Yo (Pt H79 r)<|Nl<|Bg () [0]) fun H79=>Of 3 (beq_ft H79) r r<|Yo (Pf H79 r)<|Nl<|Bg () [0]) fun T77=>Ne<|Jn Unit [0,1,3,4,18,20,24] [] (fun _ _=>[]) (fun T _=>[.own U0 (lc T)]) r2 r2 (Wc r (fun H82=>Rg<|Qs 5 r<|Bi fun R83 H84=>Fo (Cl [0] slices_rotateCmpFunc_57869_at_impl_compareEnts_c H84 r r1) fun _=>Nl<|Jg () [0]) fun H82=>Sk<|Jg () [0]) fun T80 X81=>Ne<|Sq<|Sq<|Jv [0,1,3,4,18,20,24] (fun T=>[(199, .bool T)]) r1 (Rg<|Qs 4 r<|It (fun H88=>Qg 3 (beq_tt H88) r r<|Yo (Pt H88 r)<|Nl<|Bg () [0]) fun H88=>Of 3 (beq_ft H88) r r<|Yo (Pf H88 r)<|Nl<|Bg () [0]) fun T86=>?_
    refine Ne<|Jn Unit [0,3,4,18,24] [] (fun _ _=>[]) (fun T _=>[.own U0 (lc T)]) r2 r2 (Wc r (fun H91=>Rg<|Qs 5 r<|Bi fun R92 H93=>Fo (Cl [0] ih_ H93 r r1) fun _=>Nl<|Jg () [0]) fun H91=>Sk<|Jg () [0]) fun T89 X90=>Ne<|Sq<|Jv [0,3,4,18,24] (fun T=>[(213, .bool T)]) r1 (Rg<|Qs 4 r<|It (fun H97=>Qg 3 (beq_tt H97) r r<|Yo (Pt H97 r)<|Nl<|Bg () [0]) fun H97=>Of 3 (beq_ft H97) r r<|Yo (Pf H97 r)<|Nl<|Bg () [0]) fun T95=>Ne<|Jn Unit [] [] (fun _ _=>[]) (fun T _=>[.own U0 (lc T)]) r2 r2 (Wc r (fun H100=>Rg<|Qs 5 r<|Bi fun R101 H102=>Fo (Cl [0] ih_ H102 r r1) fun _=>Nl<|Jg () [0]) fun H100=>Sk<|Jg () [0]) fun T98 X99=>?_
    exact Re () [0]
noncomputable def slices_symMergeCmpFunc_57869_at_impl_compareEnts (data : List Ent) (a : Int) (m : Int) (b : Int) : Option (List Ent) := slices_symMergeCmpFunc_57869_at_impl_compareEntsF 64 data a m b
theorem slices_symMergeCmpFunc_57869_at_impl_compareEnts_c {data : List Ent} {a : Int} {m : Int} {b : Int} {U0 : Value} : Cn Tryz.prog 106 [U0, iv a, iv m, iv b, .func (.func 79) #[] #[]] [.own U0 (lc data)] [] (slices_symMergeCmpFunc_57869_at_impl_compareEnts data a m b) (fun _ (_ : Unit) => .tuple #[]) fun r _ => [.own U0 (lc r)] := slices_symMergeCmpFunc_57869_at_impl_compareEntsF_c 64
noncomputable def slices_stableCmpFunc_57869_at_impl_compareEnts (data : List Ent) (n : Int) : Option (List Ent) :=
  bindC (loopO (fun (S1 : Int × Int × List Ent) => if (decide (S1.2.1 ≤ n)) = true then ((slices_insertionSortCmpFunc_57869_at_impl_compareEnts S1.2.2 S1.1 S1.2.1).bind fun R6 =>
  some (.go (S1.2.1, IntKind.i64.wrap (S1.2.1 + (20 : Int)), R6)))
  else (some (.done (.go (S1.1, S1.2.2)))))
  ((0 : Int), (20 : Int), data))
  (fun (T3 : Int × List Ent) => (slices_insertionSortCmpFunc_57869_at_impl_compareEnts T3.2 T3.1 n).bind fun R9 =>
  bindC (loopO (fun (S12 : Int × List Ent) => if (decide (S12.1 < n)) = true then (bindC (loopO (fun (S17 : Int × Int × List Ent) => if (decide (S17.2.1 ≤ n)) = true then ((slices_symMergeCmpFunc_57869_at_impl_compareEnts S17.2.2 S17.1 (IntKind.i64.wrap (S17.1 + S12.1)) S17.2.1).bind fun R22 =>
  some (.go (S17.2.1, IntKind.i64.wrap (S17.2.1 + (IntKind.i64.wrap ((2 : Int) * S12.1))), R22)))
  else (some (.done (.go (S17.1, S17.2.2)))))
  ((0 : Int), IntKind.i64.wrap ((2 : Int) * S12.1), S12.2))
  (fun (T19 : Int × List Ent) => bindC (if (decide (IntKind.i64.wrap (T19.1 + S12.1) < n)) = true then ((slices_symMergeCmpFunc_57869_at_impl_compareEnts T19.2 T19.1 (IntKind.i64.wrap (T19.1 + S12.1)) n).bind fun R28 =>
  some (.go R28))
  else (some (.go T19.2)))
  (fun (T25 : List Ent) => some (.go (IntKind.i64.wrap (S12.1 * (2 : Int)), T25)))))
  else (some (.done (.go S12.2))))
  ((20 : Int), R9))
  (fun (T14 : List Ent) => some T14))
theorem slices_stableCmpFunc_57869_at_impl_compareEnts_c {data : List Ent} {n : Int} {U0 : Value} : Cn Tryz.prog 95 [U0, iv n, .func (.func 79) #[] #[]] [.own U0 (lc data)] [] (slices_stableCmpFunc_57869_at_impl_compareEnts data n) (fun _ (_ : Unit) => .tuple #[]) fun r _ => [.own U0 (lc r)] := by
  unfold slices_stableCmpFunc_57869_at_impl_compareEnts
  refine Ci Tryz.func95 r r ?_
  rintro w S -
  refine Sr<|Qs 1 r<|Nx<|Sr<|Qs 3 r<|Nx<|Sq<|Jn Unit [0,1,2,6] [] (fun T _=>[(7, iv T.1)]) (fun T _=>[.own U0 (lc T.2)]) r2 r2 (?_) fun T3 X4=>?_
  ·exact Wb<|Lp Unit [0,1,2,6] [] (fun T _=>[(7, iv T.1), (8, iv T.2.1)]) (fun T _=>[.own U0 (lc T.2.2)]) () [0] r2 r2 fun S1 X2=>Sq<|Sr<|Qs 3 r<|Nx<|Wc r (fun H5=>Sn<|Wb<|Sr<|Qs 4 r<|Bi fun R6 H7=>Fo (Cl [0] slices_insertionSortCmpFunc_57869_at_impl_compareEnts_c H7 r r1) fun _=>Nx<|Sr<|Qs 2 r<|Nx<|Rg<|Qs 4 r<|Nl<|Bn<|Lg () [0]) fun H5=>Wx<|Tx<|Ex<|Be<|Jg () [0]
  refine Ne<|Sr<|Qs 4 r<|Bi fun R9 H10=>Fo (Cl [0] slices_insertionSortCmpFunc_57869_at_impl_compareEnts_c H10 r r1) fun _=>Nx<|Jn Unit [] [] (fun _ _=>[]) (fun T _=>[.own U0 (lc T)]) r2 r2 (?_) fun T14 X15=>?_
  ·refine Wb<|Lp Unit [0,1,2] [] (fun T _=>[(6, iv T.1)]) (fun T _=>[.own U0 (lc T.2)]) () [0] r2 r2 fun S12 X13=>Sq<|Sr<|Qs 3 r<|Nx<|Wc r (fun H16=>?_) fun H16=>?_
   ·refine Sn<|Wb<|Sr<|Qs 4 r<|Nx<|Sq<|Jn Unit [0,1,2,6] [] (fun T _=>[(7, iv T.1)]) (fun T _=>[.own U0 (lc T.2)]) r2 r2 (?_) fun T19 X20=>?_
    ·exact Wb<|Lp Unit [0,1,2,6] [] (fun T _=>[(7, iv T.1), (8, iv T.2.1)]) (fun T _=>[.own U0 (lc T.2.2)]) () [0] r2 r2 fun S17 X18=>Sq<|Sr<|Qs 3 r<|Nx<|Wc r (fun H21=>Sn<|Wb<|Sr<|Qs 7 r<|Bi fun R22 H23=>Fo (Cl [0] slices_symMergeCmpFunc_57869_at_impl_compareEnts_c H23 r r1) fun _=>Nx<|Sr<|Qs 2 r<|Nx<|Rg<|Qs 5 r<|Nl<|Bn<|Lg () [0]) fun H21=>Wx<|Tx<|Ex<|Be<|Jg () [0]
    exact Ne<|Sq<|Sr<|Qs 4 r<|Nx<|Sr<|Qs 3 r<|Nx<|Jn Unit [0,1,2,6] [] (fun _ _=>[]) (fun T _=>[.own U0 (lc T)]) r2 r2 (Wc r (fun H27=>Rg<|Qs 5 r<|Bi fun R28 H29=>Fo (Cl [0] slices_symMergeCmpFunc_57869_at_impl_compareEnts_c H29 r r1) fun _=>Nl<|Jg () [0]) fun H27=>Sk<|Jg () [0]) fun T25 X26=>Ne<|Rg<|Qs 3 r<|Nl<|Bn<|Lg () [0]
   exact Wx<|Tx<|Ex<|Be<|Jg () [0]
  exact Re () [0]
noncomputable def slices_SortStableFunc_94167_at_impl_compareEnts (x : List Ent) : Option (List Ent) :=
  (slices_stableCmpFunc_57869_at_impl_compareEnts x ((x.length : Nat) : Int)).bind fun R1 =>
  some R1
theorem slices_SortStableFunc_94167_at_impl_compareEnts_c {x : List Ent} {U0 : Value} : Cn Tryz.prog 78 [U0, .func (.func 79) #[] #[]] [.own U0 (lc x)] [] (slices_SortStableFunc_94167_at_impl_compareEnts x) (fun _ (_ : Unit) => .tuple #[]) fun r _ => [.own U0 (lc r)] := by
  unfold slices_SortStableFunc_94167_at_impl_compareEnts
  refine Ci Tryz.func78 r r ?_
  rintro w S -
  exact Rg<|Qs 2 r<|Yo (Ln ke24 (Oc 0 r) r)<|Qs 1 r<|Bi fun R1 H2=>Fo (Cl [0] slices_stableCmpFunc_57869_at_impl_compareEnts_c H2 r r1) fun _=>Nl<|Re () [0]
noncomputable def impl_merged_1 (a : Ent) (b : Ent) : Option Bool :=
  (if (decide (a.Key = b.Key)) = true then (some (decide (a.Seq = b.Seq)))
  else (some false)).bind (fun (T3 : Bool) =>
  some T3)
theorem impl_merged_1_c {a : Ent} {b : Ent} : Cn Tryz.prog 82 [.agg #[strV a.Key, iv a.Seq, .bool a.Del, strV a.Val], .agg #[strV b.Key, iv b.Seq, .bool b.Del, strV b.Val]] [] [] (impl_merged_1 a b) (fun r (_ : Unit) => .bool r) fun _ _ => [] := by
  unfold impl_merged_1
  refine Ci Tryz.func82 r r ?_
  rintro w S -
  refine Sr<|Fo (Bx r (Cp r)) fun B1=>Fo (Bx r (Cp r)) fun B2=>Qs 1 r<|Nx<|Sq<|Jb Unit [] [] (fun T _=>[(4, .bool T)]) (fun _ _=>[]) r2 r2 (?_) fun T3 X4=>?_
  ·exact Rg<|Yo (Fb kf72_0 r)<|Yo (Lb 1 kk9 r)<|Yo (Fb kf72_0 r)<|Yo (Lb 0 kk9 r)<|Qs 2 r<|It (fun H5=>Yg (gdA (beq_tt H5)) (Fb kf72_1 r)<|Yg (gdA (beq_tt H5)) (Lb 1 kk3 r)<|Yg (gdA (beq_tt H5)) (Fb kf72_1 r)<|Yg (gdA (beq_tt H5)) (Lb 0 kk3 r)<|Qg 1 (beq_tt H5) r r<|Yo (Pt H5 r)<|Qs 1 r<|Nl<|Bg () []) fun H5=>Of 5 (beq_ft H5) r r<|Yo (Pf H5 r)<|Qs 1 r<|Nl<|Bg () []
  exact Ne<|Wr<|Re () []
noncomputable def slices_CompactFunc_94167_at_impl_merged_1 (s : List Ent) : Option (List Ent) :=
  if (decide (((s.length : Nat) : Int) < (2 : Int))) = true then (some s)
  else (bindC (loopO (fun (S2 : Int) => if (decide (S2 < ((s.length : Nat) : Int))) = true then ((idx s S2).bind fun E7 =>
  (idx s (IntKind.i64.wrap (S2 - (1 : Int)))).bind fun E9 =>
  (impl_merged_1 E7 E9).bind fun R11 =>
  if R11 = true then ((piece s S2 ((s.length : Nat) : Int)).bind fun E15 =>
  bindC (loopO (fun (S17 : Int × Int × List Ent) => (piece S17.2.2 S2 ((s.length : Nat) : Int)).bind fun E21 =>
  if (decide (S17.2.1 < ((E21.length : Nat) : Int))) = true then ((idx E21 S17.2.1).bind fun E24 =>
  (idx E21 (IntKind.i64.wrap (S17.2.1 - (1 : Int)))).bind fun E26 =>
  (impl_merged_1 E24 E26).bind fun R28 =>
  bindC (if (!R28) = true then ((idx S17.2.2 S17.1).bind fun E34 =>
  some (.go (IntKind.i64.wrap (S17.1 + (1 : Int)), (S17.2.2.set S17.1.toNat E24))))
  else (some (.go (S17.1, S17.2.2))))
  (fun (T31 : Int × List Ent) => some (.go (T31.1, IntKind.i64.wrap (S17.2.1 + (1 : Int)), T31.2))))
  else (some (.done (.go (S17.1, S17.2.2)))))
  (S2, (1 : Int), s))
  (fun (T19 : Int × List Ent) => (piece T19.2 T19.1 ((T19.2.length : Nat) : Int)).bind fun E36 =>
  (piece T19.2 (0 : Int) T19.1).bind fun E38 =>
  some (.done (.done E38))))
  else (some (.go (IntKind.i64.wrap (S2 + (1 : Int))))))
  else (some (.done (.go ()))))
  (1 : Int))
  (fun (T4 : Unit) => some s))
theorem slices_CompactFunc_94167_at_impl_merged_1_c {s : List Ent} {U0 : Value} : Cn Tryz.prog 81 [U0, .func (.func 82) #[] #[]] [.own U0 (lc s)] [] (slices_CompactFunc_94167_at_impl_merged_1 s) (fun _ (X : Value) => X) fun r X => [.own X (lc r)] := by
  unfold slices_CompactFunc_94167_at_impl_merged_1
  refine Ci Tryz.func81 r r ?_
  rintro w S -
  refine Sr<|Qs 1 r<|Nx<|Sq<|Sr<|Qs 1 r<|Yo (Ln ke24 (Oc 0 r) r)<|Qs 1 r<|Nx<|Wc r (fun H1=>Sr<|Qs 2 r<|Nx<|Wr<|Tr<|Re U0 [0]) fun H1=>Sn<|Sq<|Sr<|Qs 1 r<|Nx<|Ju [0] (fun _=>[]) r1 (?_) fun T4=>?_
  ·refine Wb<|Lu [0,1] (fun T=>[(5, iv T)]) r1 fun S2=>Sq<|Sr<|Qs 2 r<|Yo (Ln ke24 (Oc 0 r) r)<|Qs 1 r<|Nx<|Wc r (fun H6=>?_) fun H6=>?_
   ·refine Sn<|Sq<|Wb<|Sq<|Dr [0] r hMix<|Aq [0,1,2] [0] r<|Ai fun E7 H8=>Ay 3 [0] r (Ix ke24 (Oc 0 r) H8 r)<|Ay 4 [0] r (Le kk72 (Oc 0 r) H8 r)<|Aq [5,6,7] [0] r<|Ai fun E9 H10=>Ay 8 [0] r (Ix ke24 (Oc 0 r) H10 r)<|Ay 9 [0] r (Le kk72 (Oc 0 r) H10 r)<|Ai fun R11 H12=>A1 10<|Xe [0] r (Cw [] impl_merged_1_c H12 r r r1) fun _=>Az<|Ne<|Wc r (fun H14=>?_) fun H14=>?_
    ·refine Sr<|Qs 2 r<|Bi fun E15 H16=>Yo (Y.subs H16 ke24 (Oc 0 r) r ⟨_, r⟩ r)<|Qs 1 r<|Nx<|Sq<|Sr<|Qs 1 r<|Nx<|Jn Unit [0] [] (fun T _=>[(5, iv T.1)]) (fun T _=>[.own U0 (lc T.2)]) r2 r2 (?_) fun T19 X20=>?_
     ·refine Wb<|Lp Unit [0,1,6] [] (fun T _=>[(5, iv T.1), (7, iv T.2.1)]) (fun T _=>[.own U0 (lc T.2.2)]) () [0] r2 r2 fun S17 X18=>Sq<|Sr<|Qs 2 r<|Bi fun E21 H22=>Yo (Ln ke24 (Can.sub H22 r (Can.own 0 r)) r)<|Qs 1 r<|Nx<|Wc r (fun H23=>?_) fun H23=>?_
      ·refine Sn<|Sq<|Wb<|Sq<|Dr [0] r hMix<|Aq [0,1,2] [0] r<|Ai fun E24 H25=>Ay 3 [0] r (Ix ke24 (Can.sub H22 r (Can.own 0 r)) H25 r)<|Ay 4 [0] r (Le kk72 (Can.sub H22 r (Can.own 0 r)) H25 r)<|Aq [5,6,7] [0] r<|Ai fun E26 H27=>Ay 8 [0] r (Ix ke24 (Can.sub H22 r (Can.own 0 r)) H27 r)<|Ay 9 [0] r (Le kk72 (Can.sub H22 r (Can.own 0 r)) H27 r)<|Ai fun R28 H29=>A1 10<|Xe [0] r (Cw [] impl_merged_1_c H29 r r r1) fun _=>Aq [11] [0] r<|Az<|Ne<|Jn Unit [0,1,6,7] [] (fun T _=>[(5, iv T.1)]) (fun T _=>[.own U0 (lc T.2)]) r2 r2 (Wc r (fun H33=>Sr<|Qs 4 r<|Yo (Ix ke24 (Can.sub H22 r (Can.own 0 r)) H25 r)<|Yo (Le kk72 (Can.sub H22 r (Can.own 0 r)) H25 r)<|Bi fun E34 H35=>Yo (Ix ke24 (Oc 0 r) H35 r)<|Fu (Se E24 0 kk72 H35 r (Cp r) r)<|Nx<|Rg<|Qs 3 r<|Nl<|Jg () [0]) fun H33=>Sk<|Jg () [0]) fun T31 X32=>?_
       exact Bn<|Ne<|Rg<|Qs 3 r<|Nl<|Lg () [0]
      exact Wx<|Tx<|Ex<|Be<|Jg () [0]
     exact Ne<|Sr<|Qs 2 r<|Bi fun E36 H37=>Yo (Y.subs H37 ke24 (Oc 0 r) r ⟨_, r⟩ r)<|Bi fun E38 H39=>Fu (Ef.clearView (i := 0) (is' := [.own (subV U0 4 (0 : Int).toNat (T19.1.toNat - (0 : Int).toNat)) (lc E38)]) H39 ke24 kz72 r r r r r r)<|Nx<|Sr<|Qs 2 r<|Yo (Y.sub_again (i := 0) r (piece_eq H39).2.1 ke24 r r)<|Qs 1 r<|Nx<|Wr<|Br<|Tr<|Er<|Br<|Jd<|Tr<|Re (subV U0 4 (0 : Int).toNat (T19.1.toNat - (0 : Int).toNat)) [0]
    exact Sk<|Bn<|Ne<|Rg<|Qs 3 r<|Nl<|Lg () [0]
   exact Wx<|Tx<|Ex<|Be<|Jg () [0]
  exact Ne<|Sr<|Qs 2 r<|Nx<|Wr<|Re U0 [0]
noncomputable def impl_merged (l : List (List Ent)) : Option (List Ent) :=
  (slices_Concat_94167 l).bind fun R1 =>
  (slices_SortStableFunc_94167_at_impl_compareEnts R1).bind fun R4 =>
  (slices_CompactFunc_94167_at_impl_merged_1 R4).bind fun R7 =>
  (slices_Clip_94167 R7).bind fun R10 =>
  some R10
theorem impl_merged_c {l : List (List Ent)} {U0 : Value} : Cn Tryz.prog 46 [U0] [] [(U0, lc l)] (impl_merged l) (fun _ (X : Value) => X) fun r X => [.own X (lc r)] := by
  unfold impl_merged
  refine Ci Tryz.func46 r r ?_
  rintro w S ⟨Z0,-⟩
  exact Sr<|Qs 1 r<|Nx<|Sr<|Qs 1 r<|Bi fun R1 H2=>Fo (Cl [] slices_Concat_94167_c H2 r r1 ⟨(Bc Z0),⟨⟩⟩) fun Y3=>Qs 1 r<|Nx<|Sr<|Qs 1 r<|Bi fun R4 H5=>Fo (Cl [0] slices_SortStableFunc_94167_at_impl_compareEnts_c H5 r r1) fun _=>Nx<|Sr<|Qs 1 r<|Bi fun R7 H8=>Fo (Cl [0] slices_CompactFunc_94167_at_impl_merged_1_c H8 r r1) fun Y9=>Bi fun R10 H11=>Fo (Cl [0] slices_Clip_94167_c H11 r r1) fun Y12=>Qs 1 r<|Nx<|Wr<|Re Y12 [0]
noncomputable def impl_isSeen (l : List Ent) (i : Int) (snaps : List Int) : Option Bool :=
  (if (decide (i = (0 : Int))) = true then (some true)
  else ((idx l (IntKind.i64.wrap (i - (1 : Int)))).bind fun E4 =>
  (idx l i).bind fun E6 =>
  some (!(decide (E4.Key = E6.Key))))).bind (fun (T1 : Bool) =>
  if T1 = true then (some true)
  else (bindC (loopO (fun (S9 : Int) => if (decide (S9 < ((snaps.length : Nat) : Int))) = true then ((idx snaps S9).bind fun E14 =>
  ((idx l i).bind fun E18 =>
  if (decide (E18.Seq ≤ E14)) = true then ((idx l (IntKind.i64.wrap (i - (1 : Int)))).bind fun E21 =>
  some (decide (E14 < E21.Seq)))
  else (some false)).bind (fun (T16 : Bool) =>
  if T16 = true then (some (.done (.done true)))
  else (some (.go (IntKind.i64.wrap (S9 + (1 : Int)))))))
  else (some (.done (.go ()))))
  (0 : Int))
  (fun (T11 : Unit) => some false)))
theorem impl_isSeen_c {l : List Ent} {i : Int} {snaps : List Int} {U0 U1 : Value} : Cn Tryz.prog 75 [U0, iv i, U1] [] [(U0, lc l), (U1, lc snaps)] (impl_isSeen l i snaps) (fun r (_ : Unit) => .bool r) fun _ _ => [] := by
  unfold impl_isSeen
  refine Ci Tryz.func75 r r ?_
  rintro w S ⟨Z0,Z1,-⟩
  refine Sr<|Qs 1 r<|Nx<|Sq<|Jv [0,1,2] (fun T=>[(7, .bool T)]) r1 (?_) fun T1=>?_
  ·refine Dr [] r hMix<|Aq [0,1,2] [] r<|Ia (fun H3=>Ax [3,4,5,6,7,8,9,10,11,12,13,14] [] (beq_tf H3) r r<|Ay 15 [] r (Pt H3 r)<|Aq [16] [] r<|Az<|Bg () []) fun H3=>Ag 3 [] (gdA (beq_ff H3)) r (Y.move r)<|Ag 4 [] (gdA (beq_ff H3)) r (Y.move r)<|Ag 5 [] (gdA (beq_ff H3)) r (Y.sub r r)<|Ai fun E4 H5=>Ag 6 [] (gdA (beq_ff H3)) r (Ix ke24 (Bc Z0) H5 r)<|Ag 7 [] (gdA (beq_ff H3)) r (Fe kf72_0 (Bc Z0) H5 r)<|Ag 8 [] (gdA (beq_ff H3)) r (Le kk9 (Bc Z0) H5 r)<|Ag 9 [] (gdA (beq_ff H3)) r (Y.move r)<|Ag 10 [] (gdA (beq_ff H3)) r (Y.move r)<|Ai fun E6 H7=>?_
   exact Ag 11 [] (gdA (beq_ff H3)) r (Ix ke24 (Bc Z0) H7 r)<|Ag 12 [] (gdA (beq_ff H3)) r (Fe kf72_0 (Bc Z0) H7 r)<|Ag 13 [] (gdA (beq_ff H3)) r (Le kk9 (Bc Z0) H7 r)<|Ag 14 [] (gdA (beq_ff H3)) r (Y.sneq r r)<|Ay 15 [] r (Pf H3 r)<|Aq [16] [] r<|Az<|Bg () []
  refine Ne<|Sq<|Sr<|Qs 1 r<|Nx<|Wc r (fun H8=>Sr<|Qs 1 r<|Nx<|Wr<|Tr<|Re () []) fun H8=>Sn<|Sq<|Sr<|Qs 1 r<|Yo (Ln ke26 (Bc Z1) r)<|Qs 1 r<|Nx<|Ju [] (fun _=>[]) r1 (?_) fun T11=>?_
  ·refine Wb<|Lu [0,1,27,28] (fun T=>[(29, iv T)]) r1 fun S9=>Sr<|Qs 1 r<|Nx<|Sq<|Wc r (fun H13=>?_) fun H13=>?_
   ·refine Sn<|Sq<|Wb<|Sr<|Bi fun E14 H15=>Yo (Ix ke26 (Bc Z1) H15 r)<|Yo (Le kk3 (Bc Z1) H15 r)<|Qs 1 r<|Nx<|Sq<|Jv [0,1,27,28,29] (fun T=>[(49, .bool T)]) r1 (?_) fun T16=>?_
    ·exact Rg<|Qs 2 r<|Bi fun E18 H19=>Yo (Ix ke24 (Bc Z0) H19 r)<|Yo (Fe kf72_1 (Bc Z0) H19 r)<|Yo (Le kk3 (Bc Z0) H19 r)<|Qs 3 r<|It (fun H20=>Qg 4 (beq_tt H20) r r<|Bi fun E21 H22=>Yg (gdA (beq_tt H20)) (Ix ke24 (Bc Z0) H22 r)<|Yg (gdA (beq_tt H20)) (Fe kf72_1 (Bc Z0) H22 r)<|Yg (gdA (beq_tt H20)) (Le kk3 (Bc Z0) H22 r)<|Qg 1 (beq_tt H20) r r<|Yo (Pt H20 r)<|Nl<|Bg () []) fun H20=>Of 8 (beq_ft H20) r r<|Yo (Pf H20 r)<|Nl<|Bg () []
    exact Ne<|Wc r (fun H23=>Sr<|Qs 1 r<|Nx<|Wr<|Br<|Tr<|Er<|Br<|Jd<|Tr<|Re () []) fun H23=>Sk<|Bn<|Ne<|Rg<|Qs 2 r<|Nl<|Lg () []
   exact Wx<|Tx<|Ex<|Be<|Jg () []
  exact Ne<|Sr<|Qs 1 r<|Nx<|Wr<|Re () []
noncomputable def slices_Reverse_94167 (s : List Ent) : Option (List Ent) :=
  bindC (loopO (fun (S1 : Int × Int × List Ent) => if (decide (S1.1 < S1.2.1)) = true then ((idx S1.2.2 S1.2.1).bind fun E6 =>
  (idx S1.2.2 S1.1).bind fun E8 =>
  (idx (S1.2.2.set S1.1.toNat E6) S1.2.1).bind fun E10 =>
  some (.go (IntKind.i64.wrap (S1.1 + (1 : Int)), IntKind.i64.wrap (S1.2.1 - (1 : Int)), ((S1.2.2.set S1.1.toNat E6).set S1.2.1.toNat E8))))
  else (some (.done (.go S1.2.2))))
  ((0 : Int), IntKind.i64.wrap (((s.length : Nat) : Int) - (1 : Int)), s))
  (fun (T3 : List Ent) => some T3)
theorem slices_Reverse_94167_c {s : List Ent} {U0 : Value} : Cn Tryz.prog 76 [U0] [.own U0 (lc s)] [] (slices_Reverse_94167 s) (fun _ (_ : Unit) => .tuple #[]) fun r _ => [.own U0 (lc r)] := by
  unfold slices_Reverse_94167
  refine Ci Tryz.func76 r r ?_
  rintro w S -
  refine Sr<|Qs 1 r<|Yo (Ln ke24 (Oc 0 r) r)<|Qs 3 r<|Nx<|Jn Unit [] [] (fun _ _=>[]) (fun T _=>[.own U0 (lc T)]) r2 r2 (?_) fun T3 X4=>?_
  ·refine Wb<|Lp Unit [0] [] (fun T _=>[(2, iv T.1), (3, iv T.2.1)]) (fun T _=>[.own U0 (lc T.2.2)]) () [0] r2 r2 fun S1 X2=>Sq<|Sr<|Qs 3 r<|Nx<|Wc r (fun H5=>?_) fun H5=>?_
   ·refine Sn<|Sq<|Wb<|Wi fun E6 H7=>Wi fun E8 H9=>Wi fun E10 H11=>Jw Unit [0,2,3] [] (fun _=>[]) (fun _=>[.own U0 (lc ((S1.2.2.set S1.1.toNat E6).set S1.2.1.toNat E8))]) r1 r1 (?_) fun X13=>?_
    ·refine Dr [] r hMix<|Aq [0,1,2,3,4,5,8,9] [] r<|A2 6 10 (?_)<|?_
     ·refine Xy [] r (Ix ke24 (Oc 0 r) H7 r)<|A2 7 10 (?_)<|?_
      ·exact Xy [] r (Le kk72 (Oc 0 r) H7 r)<|A1 10<|Xy [] r (Ix ke24 (Oc 0 r) H9 r)<|A1 11<|Xy [] r (Le kk72 (Oc 0 r) H9 r)<|A1 12<|Xy [] r (Ix ke24 (Oc 0 r) H9 r)<|A1 13<|Xu [] r (Se E6 0 kk72 H9 r (Cp r) r)<|A1 14<|Xy [] r (Ix ke24 (Oc 0 r) H11 r)<|A1 15<|Xu [] r (Se E8 0 kk72 H11 r (Cp r) r)<|Az<|Bg () [0]
      exact Xy [] r (Ix ke24 (Oc 0 r) H9 r)<|A2 7 11 (Xy [] r (Le kk72 (Oc 0 r) H7 r)<|A1 11<|Xy [] r (Le kk72 (Oc 0 r) H9 r)<|A1 12<|Xy [] r (Ix ke24 (Oc 0 r) H9 r)<|A1 13<|Xu [] r (Se E6 0 kk72 H9 r (Cp r) r)<|A1 14<|Xy [] r (Ix ke24 (Oc 0 r) H11 r)<|A1 15<|Xu [] r (Se E8 0 kk72 H11 r (Cp r) r)<|Az<|Bg () [0])<|Xy [] r (Le kk72 (Oc 0 r) H9 r)<|A1 7<|Xy [] r (Le kk72 (Oc 0 r) H7 r)<|A1 12<|Xy [] r (Ix ke24 (Oc 0 r) H9 r)<|A1 13<|Xu [] r (Se E6 0 kk72 H9 r (Cp r) r)<|A1 14<|Xy [] r (Ix ke24 (Oc 0 r) H11 r)<|A1 15<|Xu [] r (Se E8 0 kk72 H11 r (Cp r) r)<|Az<|Bg () [0]
     refine Xy [] r (Ix ke24 (Oc 0 r) H9 r)<|A2 6 11 (?_)<|?_
     ·exact Xy [] r (Ix ke24 (Oc 0 r) H7 r)<|A2 7 11 (Xy [] r (Le kk72 (Oc 0 r) H7 r)<|A1 11<|Xy [] r (Le kk72 (Oc 0 r) H9 r)<|A1 12<|Xy [] r (Ix ke24 (Oc 0 r) H9 r)<|A1 13<|Xu [] r (Se E6 0 kk72 H9 r (Cp r) r)<|A1 14<|Xy [] r (Ix ke24 (Oc 0 r) H11 r)<|A1 15<|Xu [] r (Se E8 0 kk72 H11 r (Cp r) r)<|Az<|Bg () [0])<|Xy [] r (Le kk72 (Oc 0 r) H9 r)<|A1 7<|Xy [] r (Le kk72 (Oc 0 r) H7 r)<|A1 12<|Xy [] r (Ix ke24 (Oc 0 r) H9 r)<|A1 13<|Xu [] r (Se E6 0 kk72 H9 r (Cp r) r)<|A1 14<|Xy [] r (Ix ke24 (Oc 0 r) H11 r)<|A1 15<|Xu [] r (Se E8 0 kk72 H11 r (Cp r) r)<|Az<|Bg () [0]
     exact Xy [] r (Le kk72 (Oc 0 r) H9 r)<|A1 6<|Xy [] r (Ix ke24 (Oc 0 r) H7 r)<|A1 7<|Xy [] r (Le kk72 (Oc 0 r) H7 r)<|A1 12<|Xy [] r (Ix ke24 (Oc 0 r) H9 r)<|A1 13<|Xu [] r (Se E6 0 kk72 H9 r (Cp r) r)<|A1 14<|Xy [] r (Ix ke24 (Oc 0 r) H11 r)<|A1 15<|Xu [] r (Se E8 0 kk72 H11 r (Cp r) r)<|Az<|Bg () [0]
    exact Bn<|Ne<|Rg<|Qs 6 r<|Nl<|Lg () [0]
   exact Wx<|Tx<|Ex<|Be<|Jg () [0]
  exact Re () [0]
end Go.Proofs.YtkikmcdmklkdpaaGreat
