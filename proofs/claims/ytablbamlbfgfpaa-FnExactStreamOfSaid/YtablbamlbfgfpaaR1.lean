/-
  The functions that a law reaches, each as a pure function, with the proof that the program computes it, and the step from a pure law to the given statement. Conditions: none.
-/
import Derived.Test.YtablbamlbfgfpaaSw
import Derived.Test.YtablbamlbfgfpaaSz
import Derived.Test.YtablbamlbfgfpaaRows
import Derived.Test.YtablbamlbfgfpaaRp
set_option linter.unusedVariables false
set_option maxRecDepth 100000
set_option maxHeartbeats 4000000
namespace Go.Proofs.Ytablbamlbfgfpaa
open Go Sl

structure LogRow where
  Tenant : Int
  Boot : Int
  Seq : Int
  Text : List UInt8
  Synced : Bool
  deriving DecidableEq
instance : Enc LogRow := ⟨5, fun x => [.int .i64 x.Tenant, .int .i64 x.Boot, .int .i64 x.Seq, .str x.Text, .bool x.Synced], fun _ => rfl, by decide⟩
instance : Dec LogRow where
  sh := [.int .i64, .int .i64, .int .i64, .str, .bool]
  ok x := okI x.Tenant ∧ okI x.Boot ∧ okI x.Seq ∧ x.Text.length ≤ 9223372036854775807 ∧ True
  dec cs h := by
    obtain ⟨c0, r0, rfl, h0, h⟩ := h.cons_inv
    obtain ⟨c1, r1, rfl, h1, h⟩ := h.cons_inv
    obtain ⟨c2, r2, rfl, h2, h⟩ := h.cons_inv
    obtain ⟨c3, r3, rfl, h3, h⟩ := h.cons_inv
    obtain ⟨c4, r4, rfl, h4, h⟩ := h.cons_inv
    obtain rfl := h.nil_inv
    obtain ⟨y0, rfl, w0_⟩ := h0.int_inv
    have w0 := okI_of w0_
    obtain ⟨y1, rfl, w1_⟩ := h1.int_inv
    have w1 := okI_of w1_
    obtain ⟨y2, rfl, w2_⟩ := h2.int_inv
    have w2 := okI_of w2_
    obtain ⟨y3, rfl, w3⟩ := h3.str_inv
    obtain ⟨y4, rfl⟩ := h4.bool_inv
    have w4 := True.intro
    exact ⟨{ Tenant := y0, Boot := y1, Seq := y2, Text := y3, Synced := y4 : LogRow }, rfl, w0, w1, w2, w3, w4⟩
instance : Flat LogRow := { vals := fun x => [.int .i64 x.Tenant, .int .i64 x.Boot, .int .i64 x.Seq, strV x.Text, .bool x.Synced], flat := fun _ => rfl }

theorem hMix : Try.prog.follows .mixedOrders = true := by kernel_rfl
theorem kf23_3 : fieldB Try.prog 23 3 = some 3 := by kernel_rfl
theorem kk9 : kindB Try.prog 9 = some (false, 1) := by kernel_rfl
theorem ks9 : isStrB Try.prog 9 = true := by kernel_rfl
theorem kz26 : zeroB Try.prog 26 = some (.agg #[.int .i64 (0 : Int), .int .i64 (0 : Int), .int .i64 (0 : Int), strV ([]), .bool false]) := by kernel_rfl
theorem kf23_0 : fieldB Try.prog 23 0 = some 0 := by kernel_rfl
theorem kk3 : kindB Try.prog 3 = some (false, 1) := by kernel_rfl
theorem kf26_0 : fieldB Try.prog 26 0 = some 0 := by kernel_rfl
theorem kf23_1 : fieldB Try.prog 23 1 = some 1 := by kernel_rfl
theorem kf26_1 : fieldB Try.prog 26 1 = some 1 := by kernel_rfl
theorem kf23_2 : fieldB Try.prog 23 2 = some 2 := by kernel_rfl
theorem kf26_2 : fieldB Try.prog 26 2 = some 2 := by kernel_rfl
theorem kf26_3 : fieldB Try.prog 26 3 = some 3 := by kernel_rfl
theorem kf23_4 : fieldB Try.prog 23 4 = some 4 := by kernel_rfl
theorem kk4 : kindB Try.prog 4 = some (false, 1) := by kernel_rfl
theorem kf26_4 : fieldB Try.prog 26 4 = some 4 := by kernel_rfl
theorem kk26 : kindB Try.prog 26 = some (true, 5) := by kernel_rfl
theorem ki3 : intB Try.prog 3 = some .i64 := by kernel_rfl
theorem ki5 : intB Try.prog 5 = some .u8 := by kernel_rfl
theorem kz5 : zeroB Try.prog 5 = some (.int .u8 (0 : Int)) := by kernel_rfl
theorem ke29 : elemB Try.prog 29 = some (5, 1, 1) := by kernel_rfl
theorem ke46 : elemB Try.prog 46 = some (3, 1, 8) := by kernel_rfl
theorem kz3 : zeroB Try.prog 3 = some (.int .i64 (0 : Int)) := by kernel_rfl
theorem ki57 : intB Try.prog 57 = some .u64 := by kernel_rfl
theorem kk5 : kindB Try.prog 5 = some (false, 1) := by kernel_rfl
theorem ki86 : intB Try.prog 86 = some .u32 := by kernel_rfl
theorem kz87 : zeroB Try.prog 87 = some (arrV (List.replicate 16 (Wrd.mk 0))) := by kernel_rfl
theorem ka87 : arrB Try.prog 87 = some (16, 86, 1) := by kernel_rfl
theorem kk87 : kindB Try.prog 87 = some (true, 16) := by kernel_rfl
theorem kk86 : kindB Try.prog 86 = some (false, 1) := by kernel_rfl
theorem kk23 : kindB Try.prog 23 = some (true, 5) := by kernel_rfl
theorem hu9 : Try.prog.underlying 9 = some (.string) := by kernel_rfl
theorem hs9 : shB Try.prog 20 9 = some ([.str]) := by kernel_rfl
theorem hu23 : Try.prog.underlying 23 = some (.struct #[⟨ "Tenant", 3, 0, Bool.false, "", "", 0⟩, ⟨ "Boot", 3, 1, Bool.false, "", "", 8⟩, ⟨ "Seq", 3, 2, Bool.false, "", "", 16⟩, ⟨ "Text", 9, 3, Bool.false, "", "", 24⟩, ⟨ "Synced", 4, 4, Bool.false, "", "", 40⟩]) := by kernel_rfl
theorem hs23 : shB Try.prog 20 23 = some (Dec.sh LogRow) := by kernel_rfl
theorem kb4 : Try.prog.underlying 4 = some .bool := by kernel_rfl

/-- loop.example/g00950/laws.szLogRow -/
noncomputable def laws_szLogRow (a : LogRow) (left : Int) : Option Int :=
  if (decide (IntKind.i64.wrap (left - ((a.Text.length : Nat) : Int)) < (0 : Int))) = true then (some (-1 : Int))
  else (some (IntKind.i64.wrap (left - ((a.Text.length : Nat) : Int))))

theorem laws_szLogRow_c {a : LogRow} {left : Int} : Cn Try.prog 5 [.agg #[iv a.Tenant, iv a.Boot, iv a.Seq, strV a.Text, .bool a.Synced], iv left] [] [] (laws_szLogRow a left) (fun r (_ : Unit) => iv r) fun _ _ => [] := by
  unfold laws_szLogRow
  refine Ci Try.func5 r r ?_
  rintro w S -
  exact Sr<|Fo (Bx r (Cp r)) fun B1=>Qs 1 r<|Nx<|Sr<|Qs 1 r<|Yo (Fb kf23_3 r)<|Yo (Lb 0 kk9 r)<|Yo (Y.slen ks9 r)<|Qs 2 r<|Nx<|Sq<|Sr<|Qs 2 r<|Nx<|Wc r (fun H2=>Sr<|Qs 1 r<|Nx<|Wr<|Tr<|Re () []) fun H2=>Sn<|Sr<|Qs 2 r<|Nx<|Wr<|Re () []

/-- loop.example/g00950/laws.toLogRow -/
noncomputable def laws_toLogRow (a : LogRow) : Option LogRow :=
  some a

theorem laws_toLogRow_c {a : LogRow} : Cn Try.prog 7 [.agg #[iv a.Tenant, iv a.Boot, iv a.Seq, strV a.Text, .bool a.Synced]] [] [] (laws_toLogRow a) (fun r (_ : Unit) => .agg #[iv r.Tenant, iv r.Boot, iv r.Seq, strV r.Text, .bool r.Synced]) fun _ _ => [] := by
  unfold laws_toLogRow
  refine Ci Try.func7 r r ?_
  rintro w S -
  exact Sr<|Fo (Bx r (Cp r)) fun B1=>Fo (Al kz26 r) fun B2=>Nx<|Sr<|Fo (Al kz26 r) fun B3=>Nx<|Sr<|Yo (Fb kf23_0 r)<|Yo (Lb 2 kk3 r)<|Yo (Fb kf26_0 r)<|Fu (Sb 0 kk3 r (Cp r) r)<|Nx<|Sr<|Yo (Fb kf23_1 r)<|Yo (Lb 2 kk3 r)<|Yo (Fb kf26_1 r)<|Fu (Sb 0 kk3 r (Cp r) r)<|Nx<|Sr<|Yo (Fb kf23_2 r)<|Yo (Lb 2 kk3 r)<|Yo (Fb kf26_2 r)<|Fu (Sb 0 kk3 r (Cp r) r)<|Nx<|Sr<|Yo (Fb kf23_3 r)<|Yo (Lb 2 kk9 r)<|Yo (Fb kf26_3 r)<|Fu (Sb 0 kk9 r (Cp r) r)<|Nx<|Sr<|Yo (Fb kf23_4 r)<|Yo (Lb 2 kk4 r)<|Yo (Fb kf26_4 r)<|Fu (Sb 0 kk4 r (Cp r) r)<|Nx<|Sr<|Yo (Lb 0 kk26 r)<|Fu (Sb 1 kk26 r (Cp r) r)<|Nx<|Wr<|TE.leaf fun _ _ hf_ hs_ => ret_any (rs := [.cell 2 26]) (vs := [.agg #[iv a.Tenant, iv a.Boot, iv a.Seq, strV a.Text, .bool a.Synced]]) (.inl r) r (RV.cell 1 r r kk26 r ⟨⟩) hf_ hs_ ⟨(), r, hs_.pulls [] r⟩

/-- loop.example/g00950/spec.l1In -/
noncomputable def spec_l1In (x : Int) (low : Int) (high : Int) : Option Bool :=
  (if (decide (x ≥ low)) = true then (some (decide (x ≤ high)))
  else (some false)).bind (fun (T1 : Bool) =>
  some T1)

theorem spec_l1In_c {x : Int} {low : Int} {high : Int} : Cn Try.prog 32 [iv x, iv low, iv high] [] [] (spec_l1In x low high) (fun r (_ : Unit) => .bool r) fun _ _ => [] := by
  unfold spec_l1In
  refine Ci Try.func32 r r ?_
  rintro w S -
  exact Sr<|Qs 1 r<|Nx<|Sq<|Jv [] (fun T=>[(6, .bool T)]) r1 (Rg<|Qs 4 r<|It (fun H3=>Qg 3 (beq_tt H3) r r<|Yo (Pt H3 r)<|Qs 1 r<|Nl<|Bg () []) fun H3=>Of 3 (beq_ft H3) r r<|Yo (Pf H3 r)<|Qs 1 r<|Nl<|Bg () []) fun T1=>Ne<|Wr<|Re () []

/-- loop.example/g00950/spec.l8At -/
noncomputable def spec_l8At (boot : Int) (seq : Int) : Option Bool :=
  ((spec_l1In boot (0 : Int) (1000 : Int)).bind fun R3 =>
  if R3 = true then ((spec_l1In seq (0 : Int) (999999 : Int)).bind fun R7 =>
  some R7)
  else (some false)).bind (fun (T1 : Bool) =>
  some T1)

theorem spec_l8At_c {boot : Int} {seq : Int} : Cn Try.prog 15 [iv boot, iv seq] [] [] (spec_l8At boot seq) (fun r (_ : Unit) => .bool r) fun _ _ => [] := by
  unfold spec_l8At
  refine Ci Try.func15 r r ?_
  rintro w S -
  refine Sr<|Qs 1 r<|Nx<|Sq<|Jv [] (fun T=>[(4, .bool T)]) r1 (?_) fun T1=>?_
  ·exact Rg<|Qs 1 r<|Bi fun R3 H4=>Fo (Cl [] spec_l1In_c H4 r r1) fun _=>Qs 1 r<|It (fun H6=>Qg 1 (beq_tt H6) r r<|Bi fun R7 H8=>Fg (gdA (beq_tt H6)) (Cl [] spec_l1In_c H8 r r1) fun _=>Yo (Pt H6 r)<|Qs 1 r<|Nl<|Bg () []) fun H6=>Of 2 (beq_ft H6) r r<|Yo (Pf H6 r)<|Qs 1 r<|Nl<|Bg () []
  exact Ne<|Wr<|Re () []

/-- loop.example/g00950/spec.Fixed -/
noncomputable def spec_Fixed (n : Int) (width : Int) : Option (List UInt8) :=
  ((spec_l1In width (1 : Int) (7 : Int)).bind fun R3 =>
  if (!R3) = true then (some true)
  else (some (decide (n < (0 : Int))))).bind (fun (T1 : Bool) =>
  if T1 = true then (some ([]))
  else (bindC (loopO (fun (S8 : Int × List UInt8 × Int) => if (decide (S8.2.2 < width)) = true then ((cat ([toU8 (Int.tmod S8.1 (256 : Int))]) S8.2.1).bind fun E14 =>
  some (.go (IntKind.i64.wrap (Int.tdiv S8.1 (256 : Int)), E14, IntKind.i64.wrap (S8.2.2 + (1 : Int)))))
  else (some (.done (.go (S8.1, S8.2.1)))))
  (n, [], (0 : Int)))
  (fun (T10 : Int × List UInt8) => if (decide (T10.1 > (0 : Int))) = true then (some ([]))
  else (some T10.2))))

theorem spec_Fixed_c {n : Int} {width : Int} : Cn Try.prog 34 [iv n, iv width] [] [] (spec_Fixed n width) (fun r (_ : Unit) => strV r) fun _ _ => [] := by
  unfold spec_Fixed
  refine Ci Try.func34 r r ?_
  rintro w S -
  refine Sr<|Qs 1 r<|Nx<|Sq<|Sq<|Jv [0,1] (fun T=>[(13, .bool T)]) r1 (Rg<|Qs 1 r<|Bi fun R3 H4=>Fo (Cl [] spec_l1In_c H4 r r1) fun _=>Qs 2 r<|It (fun H6=>Of 2 (beq_tf H6) r r<|Yo (Pt H6 r)<|Nl<|Bg () []) fun H6=>Qg 2 (beq_ff H6) r r<|Yo (Pf H6 r)<|Nl<|Bg () []) fun T1=>Ne<|Wc r (fun H7=>Sr<|Qs 1 r<|Nx<|Wr<|Tr<|Re () []) fun H7=>Sn<|Sr<|Qs 1 r<|Nx<|Sq<|Sr<|Qs 1 r<|Nx<|Ju [] (fun T=>[(0, iv T.1), (5, strV T.2)]) r1 (?_) fun T10=>?_
  ·refine Wb<|Lu [1] (fun T=>[(0, iv T.1), (5, strV T.2.1), (6, iv T.2.2)]) r1 fun S8=>Sq<|Sr<|Qs 3 r<|Nx<|Wc r (fun H12=>?_) fun H12=>?_
   ·exact Sn<|Sq<|Wb<|Sr<|Qs 1 r<|Yo (Y.rem (by decide) r r)<|Yo (Y.conv8 ki3 ki5 r)<|Fo (Bs [toU8 (Int.tmod S8.1 (256 : Int))] ke29 kz5) fun B13=>Yo (Y.toStr ke29 ki5 ks9 (Oc 0 r) r)<|Qs 1 r<|Bi fun E14 H15=>Yo (Y.cat H15 r r)<|Qs 1 r<|Nx<|Rg<|Qs 1 r<|Yo (Y.quo (by decide) r r)<|Qs 1 r<|Nl<|Bn<|Ne<|Rg<|Qs 3 r<|Nl<|Lg () []
   exact Wx<|Tx<|Ex<|Be<|Jg () []
  exact Ne<|Sq<|Sr<|Qs 2 r<|Nx<|Wc r (fun H16=>Sr<|Qs 1 r<|Nx<|Wr<|Tr<|Re () []) fun H16=>Sn<|Sr<|Qs 2 r<|Nx<|Wr<|Re () []

/-- loop.example/g00950/spec.NonceOf -/
noncomputable def spec_NonceOf (kind : Int) (n : Int) : Option (List UInt8) :=
  ((spec_l1In kind (0 : Int) (255 : Int)).bind fun R3 =>
  if (!R3) = true then (some true)
  else ((spec_l1In n (0 : Int) (562949953421311 : Int)).bind fun R7 =>
  some (!R7))).bind (fun (T1 : Bool) =>
  if T1 = true then (some ([]))
  else ((spec_Fixed n (7 : Int)).bind fun R12 =>
  (cat ([toU8 kind, (0 : UInt8), (0 : UInt8), (0 : UInt8), (0 : UInt8)]) R12).bind fun E17 =>
  some E17))

theorem spec_NonceOf_c {kind : Int} {n : Int} : Cn Try.prog 17 [iv kind, iv n] [] [] (spec_NonceOf kind n) (fun r (_ : Unit) => strV r) fun _ _ => [] := by
  unfold spec_NonceOf
  refine Ci Try.func17 r r ?_
  rintro w S -
  refine Sr<|Qs 1 r<|Nx<|Sq<|Sq<|Jv [0,1] (fun T=>[(12, .bool T)]) r1 (?_) fun T1=>?_
  ·exact Rg<|Qs 1 r<|Bi fun R3 H4=>Fo (Cl [] spec_l1In_c H4 r r1) fun _=>Qs 2 r<|It (fun H6=>Of 3 (beq_tf H6) r r<|Yo (Pt H6 r)<|Nl<|Bg () []) fun H6=>Qg 1 (beq_ff H6) r r<|Bi fun R7 H8=>Fg (gdA (beq_ff H6)) (Cl [] spec_l1In_c H8 r r1) fun _=>Qg 1 (beq_ff H6) r r<|Yo (Pf H6 r)<|Nl<|Bg () []
  refine Ne<|Wc r (fun H10=>Sr<|Qs 1 r<|Nx<|Wr<|Tr<|Re () []) fun H10=>Sn<|Sq<|Wi fun R12 H13=>Wi fun E17 H18=>Jw Unit [] [] (fun _=>[(4, strV E17)]) (fun _=>[]) r1 r1 (?_) fun X20=>?_
  ·refine Dr [] r hMix<|Aq [0] [] r<|Ay 1 [] r (Y.conv8 ki3 ki5 r)<|Aq [4] [] r<|A2 2 5 (?_)<|?_
   ·exact Xe [] r (Bs [toU8 kind, (0 : UInt8), (0 : UInt8), (0 : UInt8), (0 : UInt8)] ke29 kz5) fun B21=>A2 3 5 (Xy [] r (Y.toStr ke29 ki5 ks9 (Oc 0 r) r)<|A1 5<|Xe [] r (Cl [] spec_Fixed_c H13 r r1) fun _=>Ay 6 [] r (Y.cat H18 r r)<|Aq [7] [] r<|Az<|Bg () [])<|Xe [] r (Cl [] spec_Fixed_c H13 r r1) fun _=>A1 3<|Xy [] r (Y.toStr ke29 ki5 ks9 (Oc 0 r) r)<|Ay 6 [] r (Y.cat H18 r r)<|Aq [7] [] r<|Az<|Bg () []
   exact Xe [] r (Cl [] spec_Fixed_c H13 r r1) fun _=>A1 2<|Xe [] r (Bs [toU8 kind, (0 : UInt8), (0 : UInt8), (0 : UInt8), (0 : UInt8)] ke29 kz5) fun B23=>A1 3<|Xy [] r (Y.toStr ke29 ki5 ks9 (Oc 0 r) r)<|Ay 6 [] r (Y.cat H18 r r)<|Aq [7] [] r<|Az<|Bg () []
  exact Ne<|Wr<|Re () []

/-- loop.example/g00950/spec.l3Little -/
noncomputable def spec_l3Little (s : List UInt8) (at_ : Int) : Option Int :=
  (sidx s at_).bind fun E1 =>
  (sidx s (IntKind.i64.wrap (at_ + (1 : Int)))).bind fun E3 =>
  (sidx s (IntKind.i64.wrap (at_ + (2 : Int)))).bind fun E5 =>
  (sidx s (IntKind.i64.wrap (at_ + (3 : Int)))).bind fun E7 =>
  some (ior .i64 (ior .i64 (ior .i64 (IntKind.i64.wrap ((E1.toNat : Nat) : Int)) (ishl .i64 (IntKind.i64.wrap ((E3.toNat : Nat) : Int)) (8 : Int))) (ishl .i64 (IntKind.i64.wrap ((E5.toNat : Nat) : Int)) (16 : Int))) (ishl .i64 (IntKind.i64.wrap ((E7.toNat : Nat) : Int)) (24 : Int)))

theorem spec_l3Little_c {s : List UInt8} {at_ : Int} : Cn Try.prog 72 [strV s, iv at_] [] [] (spec_l3Little s at_) (fun r (_ : Unit) => iv r) fun _ _ => [] := by
  unfold spec_l3Little
  refine Ci Try.func72 r r ?_
  rintro w S -
  exact Sr<|Qs 1 r<|Nx<|Sq<|Dr [] r hMix<|Aq [0,1] [] r<|Ai fun E1 H2=>Ay 2 [] r (Y.sidx H2 ks9 r r)<|Ay 3 [] r (Y.conv ki5 ki3 r)<|Aq [4,5,6] [] r<|Ai fun E3 H4=>Ay 7 [] r (Y.sidx H4 ks9 r r)<|Ay 8 [] r (Y.conv ki5 ki3 r)<|Ay 9 [] r (Y.shl (by decide) r r)<|Aq [10,11,12,13] [] r<|Ai fun E5 H6=>Ay 14 [] r (Y.sidx H6 ks9 r r)<|Ay 15 [] r (Y.conv ki5 ki3 r)<|Ay 16 [] r (Y.shl (by decide) r r)<|Aq [17,18,19,20] [] r<|Ai fun E7 H8=>Ay 21 [] r (Y.sidx H8 ks9 r r)<|Ay 22 [] r (Y.conv ki5 ki3 r)<|Ay 23 [] r (Y.shl (by decide) r r)<|Aq [24,25] [] r<|Az<|Ne<|Wr<|Re () []

/-- loop.example/g00950/spec.l3Word -/
noncomputable def spec_l3Word (x : Int) : Option Int :=
  some (iand .i64 x (4294967295 : Int))

theorem spec_l3Word_c {x : Int} : Cn Try.prog 74 [iv x] [] [] (spec_l3Word x) (fun r (_ : Unit) => iv r) fun _ _ => [] := by
  unfold spec_l3Word
  refine Ci Try.func74 r r ?_
  rintro w S -
  exact Sr<|Qs 1 r<|Nx<|Sr<|Qs 3 r<|Nx<|Wr<|Re () []

/-- loop.example/g00950/spec.l3Left -/
noncomputable def spec_l3Left (x : Int) (n : Int) : Option Int :=
  (nn n).bind fun E1 =>
  (spec_l3Word (ior .i64 (ishl .i64 x n) (ishr .i64 x (IntKind.u64.wrap ((32 : Int) - n))))).bind fun R3 =>
  some R3

theorem spec_l3Left_c {x : Int} {n : Int} : Cn Try.prog 79 [iv x, .int .u64 n] [] [] (spec_l3Left x n) (fun r (_ : Unit) => iv r) fun _ _ => [] := by
  unfold spec_l3Left
  refine Ci Try.func79 r r ?_
  rintro w S -
  exact Sr<|Qs 1 r<|Nx<|Sr<|Qs 2 r<|Bi fun E1 H2=>Yo (Y.shl (nn_ge H2) r r)<|Qs 3 r<|Yo (Y.shr (wrap_u_nonneg r _) r r)<|Qs 1 r<|Bi fun R3 H4=>Fo (Cl [] spec_l3Word_c H4 r r1) fun _=>Qs 1 r<|Nx<|Wr<|Re () []

/-- loop.example/g00950/spec.l3Quarter -/
noncomputable def spec_l3Quarter (s : List Int) (a : Int) (b : Int) (c : Int) (d : Int) : Option (List Int) :=
  (idx s a).bind fun E1 =>
  (idx s b).bind fun E3 =>
  (spec_l3Word (IntKind.i64.wrap (E1 + E3))).bind fun R5 =>
  (idx (s.set a.toNat R5) d).bind fun E10 =>
  (idx (s.set a.toNat R5) a).bind fun E12 =>
  (spec_l3Left (ixor .i64 E10 E12) (16 : Int)).bind fun R14 =>
  (idx ((s.set a.toNat R5).set d.toNat R14) c).bind fun E19 =>
  (idx ((s.set a.toNat R5).set d.toNat R14) d).bind fun E21 =>
  (spec_l3Word (IntKind.i64.wrap (E19 + E21))).bind fun R23 =>
  (idx (((s.set a.toNat R5).set d.toNat R14).set c.toNat R23) b).bind fun E28 =>
  (idx (((s.set a.toNat R5).set d.toNat R14).set c.toNat R23) c).bind fun E30 =>
  (spec_l3Left (ixor .i64 E28 E30) (12 : Int)).bind fun R32 =>
  (idx ((((s.set a.toNat R5).set d.toNat R14).set c.toNat R23).set b.toNat R32) a).bind fun E37 =>
  (idx ((((s.set a.toNat R5).set d.toNat R14).set c.toNat R23).set b.toNat R32) b).bind fun E39 =>
  (spec_l3Word (IntKind.i64.wrap (E37 + E39))).bind fun R41 =>
  (idx (((((s.set a.toNat R5).set d.toNat R14).set c.toNat R23).set b.toNat R32).set a.toNat R41) d).bind fun E46 =>
  (idx (((((s.set a.toNat R5).set d.toNat R14).set c.toNat R23).set b.toNat R32).set a.toNat R41) a).bind fun E48 =>
  (spec_l3Left (ixor .i64 E46 E48) (8 : Int)).bind fun R50 =>
  (idx ((((((s.set a.toNat R5).set d.toNat R14).set c.toNat R23).set b.toNat R32).set a.toNat R41).set d.toNat R50) c).bind fun E55 =>
  (idx ((((((s.set a.toNat R5).set d.toNat R14).set c.toNat R23).set b.toNat R32).set a.toNat R41).set d.toNat R50) d).bind fun E57 =>
  (spec_l3Word (IntKind.i64.wrap (E55 + E57))).bind fun R59 =>
  (idx (((((((s.set a.toNat R5).set d.toNat R14).set c.toNat R23).set b.toNat R32).set a.toNat R41).set d.toNat R50).set c.toNat R59) b).bind fun E64 =>
  (idx (((((((s.set a.toNat R5).set d.toNat R14).set c.toNat R23).set b.toNat R32).set a.toNat R41).set d.toNat R50).set c.toNat R59) c).bind fun E66 =>
  (spec_l3Left (ixor .i64 E64 E66) (7 : Int)).bind fun R68 =>
  some ((((((((s.set a.toNat R5).set d.toNat R14).set c.toNat R23).set b.toNat R32).set a.toNat R41).set d.toNat R50).set c.toNat R59).set b.toNat R68)

theorem spec_l3Quarter_c {s : List Int} {a : Int} {b : Int} {c : Int} {d : Int} {U0 : Value} : Cn Try.prog 73 [U0, iv a, iv b, iv c, iv d] [.own U0 (lc s)] [] (spec_l3Quarter s a b c d) (fun _ (X : Value) => X) fun r X => [.own X (lc r)] := by
  unfold spec_l3Quarter
  refine Ci Try.func73 r r ?_
  rintro w S -
  refine Sr<|Qs 1 r<|Nx<|Sq<|Wi fun E1 H2=>Wi fun E3 H4=>Wi fun R5 H6=>Jw Unit [0,1,2,3,4] [] (fun _=>[]) (fun _=>[.own U0 (lc (s.set a.toNat R5))]) r1 r1 (?_) fun X9=>?_
  ·refine Dr [] r hMix<|Aq [0,1,2,3,6,7] [] r<|A2 4 8 (?_)<|?_
   ·refine Xy [] r (Ix ke46 (Oc 0 r) H2 r)<|A2 5 8 (Xy [] r (Le kk3 (Oc 0 r) H2 r)<|A1 8<|Xy [] r (Ix ke46 (Oc 0 r) H4 r)<|A1 9<|Xy [] r (Le kk3 (Oc 0 r) H4 r)<|Aq [10] [] r<|A1 11<|Xe [] r (Cl [] spec_l3Word_c H6 r r1) fun _=>A1 12<|Xy [] r (Ix ke46 (Oc 0 r) H2 r)<|A1 13<|Xu [] r (Se R5 0 kk3 H2 r (Cp r) r)<|Az<|Bg () [0])<|Xy [] r (Ix ke46 (Oc 0 r) H4 r)<|A2 5 9 (Xy [] r (Le kk3 (Oc 0 r) H2 r)<|A1 9<|Xy [] r (Le kk3 (Oc 0 r) H4 r)<|Aq [10] [] r<|A1 11<|Xe [] r (Cl [] spec_l3Word_c H6 r r1) fun _=>A1 12<|Xy [] r (Ix ke46 (Oc 0 r) H2 r)<|A1 13<|Xu [] r (Se R5 0 kk3 H2 r (Cp r) r)<|Az<|Bg () [0])<|Xy [] r (Le kk3 (Oc 0 r) H4 r)<|A1 5<|Xy [] r (Le kk3 (Oc 0 r) H2 r)<|Aq [10] [] r<|A1 11<|Xe [] r (Cl [] spec_l3Word_c H6 r r1) fun _=>?_
    exact A1 12<|Xy [] r (Ix ke46 (Oc 0 r) H2 r)<|A1 13<|Xu [] r (Se R5 0 kk3 H2 r (Cp r) r)<|Az<|Bg () [0]
   refine Xy [] r (Ix ke46 (Oc 0 r) H4 r)<|A2 4 9 (?_)<|?_
   ·exact Xy [] r (Ix ke46 (Oc 0 r) H2 r)<|A2 5 9 (Xy [] r (Le kk3 (Oc 0 r) H2 r)<|A1 9<|Xy [] r (Le kk3 (Oc 0 r) H4 r)<|Aq [10] [] r<|A1 11<|Xe [] r (Cl [] spec_l3Word_c H6 r r1) fun _=>A1 12<|Xy [] r (Ix ke46 (Oc 0 r) H2 r)<|A1 13<|Xu [] r (Se R5 0 kk3 H2 r (Cp r) r)<|Az<|Bg () [0])<|Xy [] r (Le kk3 (Oc 0 r) H4 r)<|A1 5<|Xy [] r (Le kk3 (Oc 0 r) H2 r)<|Aq [10] [] r<|A1 11<|Xe [] r (Cl [] spec_l3Word_c H6 r r1) fun _=>A1 12<|Xy [] r (Ix ke46 (Oc 0 r) H2 r)<|A1 13<|Xu [] r (Se R5 0 kk3 H2 r (Cp r) r)<|Az<|Bg () [0]
   exact Xy [] r (Le kk3 (Oc 0 r) H4 r)<|A1 4<|Xy [] r (Ix ke46 (Oc 0 r) H2 r)<|A1 5<|Xy [] r (Le kk3 (Oc 0 r) H2 r)<|Aq [10] [] r<|A1 11<|Xe [] r (Cl [] spec_l3Word_c H6 r r1) fun _=>A1 12<|Xy [] r (Ix ke46 (Oc 0 r) H2 r)<|A1 13<|Xu [] r (Se R5 0 kk3 H2 r (Cp r) r)<|Az<|Bg () [0]
  refine Ne<|Sq<|Wi fun E10 H11=>Wi fun E12 H13=>Wi fun R14 H15=>Jw Unit [0,1,2,3,4] [] (fun _=>[]) (fun _=>[.own U0 (lc ((s.set a.toNat R5).set d.toNat R14))]) r1 r1 (?_) fun X18=>?_
  ·refine Dr [] r hMix<|Aq [0,1,2,3,6,7] [] r<|A2 4 8 (?_)<|?_
   ·refine Xy [] r (Ix ke46 (Oc 0 r) H11 r)<|A2 5 8 (?_)<|?_
    ·exact Xy [] r (Le kk3 (Oc 0 r) H11 r)<|A1 8<|Xy [] r (Ix ke46 (Oc 0 r) H13 r)<|A1 9<|Xy [] r (Le kk3 (Oc 0 r) H13 r)<|Aq [10] [] r<|A1 11<|Xe [] r (Cl [] spec_l3Left_c H15 r r1) fun _=>A1 12<|Xy [] r (Ix ke46 (Oc 0 r) H11 r)<|A1 13<|Xu [] r (Se R14 0 kk3 H11 r (Cp r) r)<|Az<|Bg () [0]
    exact Xy [] r (Ix ke46 (Oc 0 r) H13 r)<|A2 5 9 (Xy [] r (Le kk3 (Oc 0 r) H11 r)<|A1 9<|Xy [] r (Le kk3 (Oc 0 r) H13 r)<|Aq [10] [] r<|A1 11<|Xe [] r (Cl [] spec_l3Left_c H15 r r1) fun _=>A1 12<|Xy [] r (Ix ke46 (Oc 0 r) H11 r)<|A1 13<|Xu [] r (Se R14 0 kk3 H11 r (Cp r) r)<|Az<|Bg () [0])<|Xy [] r (Le kk3 (Oc 0 r) H13 r)<|A1 5<|Xy [] r (Le kk3 (Oc 0 r) H11 r)<|Aq [10] [] r<|A1 11<|Xe [] r (Cl [] spec_l3Left_c H15 r r1) fun _=>A1 12<|Xy [] r (Ix ke46 (Oc 0 r) H11 r)<|A1 13<|Xu [] r (Se R14 0 kk3 H11 r (Cp r) r)<|Az<|Bg () [0]
   refine Xy [] r (Ix ke46 (Oc 0 r) H13 r)<|A2 4 9 (?_)<|?_
   ·exact Xy [] r (Ix ke46 (Oc 0 r) H11 r)<|A2 5 9 (Xy [] r (Le kk3 (Oc 0 r) H11 r)<|A1 9<|Xy [] r (Le kk3 (Oc 0 r) H13 r)<|Aq [10] [] r<|A1 11<|Xe [] r (Cl [] spec_l3Left_c H15 r r1) fun _=>A1 12<|Xy [] r (Ix ke46 (Oc 0 r) H11 r)<|A1 13<|Xu [] r (Se R14 0 kk3 H11 r (Cp r) r)<|Az<|Bg () [0])<|Xy [] r (Le kk3 (Oc 0 r) H13 r)<|A1 5<|Xy [] r (Le kk3 (Oc 0 r) H11 r)<|Aq [10] [] r<|A1 11<|Xe [] r (Cl [] spec_l3Left_c H15 r r1) fun _=>A1 12<|Xy [] r (Ix ke46 (Oc 0 r) H11 r)<|A1 13<|Xu [] r (Se R14 0 kk3 H11 r (Cp r) r)<|Az<|Bg () [0]
   exact Xy [] r (Le kk3 (Oc 0 r) H13 r)<|A1 4<|Xy [] r (Ix ke46 (Oc 0 r) H11 r)<|A1 5<|Xy [] r (Le kk3 (Oc 0 r) H11 r)<|Aq [10] [] r<|A1 11<|Xe [] r (Cl [] spec_l3Left_c H15 r r1) fun _=>A1 12<|Xy [] r (Ix ke46 (Oc 0 r) H11 r)<|A1 13<|Xu [] r (Se R14 0 kk3 H11 r (Cp r) r)<|Az<|Bg () [0]
  refine Ne<|Sq<|Wi fun E19 H20=>Wi fun E21 H22=>Wi fun R23 H24=>Jw Unit [0,1,2,3,4] [] (fun _=>[]) (fun _=>[.own U0 (lc (((s.set a.toNat R5).set d.toNat R14).set c.toNat R23))]) r1 r1 (?_) fun X27=>?_
  ·refine Dr [] r hMix<|Aq [0,1,2,3,6,7] [] r<|A2 4 8 (?_)<|?_
   ·refine Xy [] r (Ix ke46 (Oc 0 r) H20 r)<|A2 5 8 (?_)<|?_
    ·exact Xy [] r (Le kk3 (Oc 0 r) H20 r)<|A1 8<|Xy [] r (Ix ke46 (Oc 0 r) H22 r)<|A1 9<|Xy [] r (Le kk3 (Oc 0 r) H22 r)<|Aq [10] [] r<|A1 11<|Xe [] r (Cl [] spec_l3Word_c H24 r r1) fun _=>A1 12<|Xy [] r (Ix ke46 (Oc 0 r) H20 r)<|A1 13<|Xu [] r (Se R23 0 kk3 H20 r (Cp r) r)<|Az<|Bg () [0]
    exact Xy [] r (Ix ke46 (Oc 0 r) H22 r)<|A2 5 9 (Xy [] r (Le kk3 (Oc 0 r) H20 r)<|A1 9<|Xy [] r (Le kk3 (Oc 0 r) H22 r)<|Aq [10] [] r<|A1 11<|Xe [] r (Cl [] spec_l3Word_c H24 r r1) fun _=>A1 12<|Xy [] r (Ix ke46 (Oc 0 r) H20 r)<|A1 13<|Xu [] r (Se R23 0 kk3 H20 r (Cp r) r)<|Az<|Bg () [0])<|Xy [] r (Le kk3 (Oc 0 r) H22 r)<|A1 5<|Xy [] r (Le kk3 (Oc 0 r) H20 r)<|Aq [10] [] r<|A1 11<|Xe [] r (Cl [] spec_l3Word_c H24 r r1) fun _=>A1 12<|Xy [] r (Ix ke46 (Oc 0 r) H20 r)<|A1 13<|Xu [] r (Se R23 0 kk3 H20 r (Cp r) r)<|Az<|Bg () [0]
   refine Xy [] r (Ix ke46 (Oc 0 r) H22 r)<|A2 4 9 (?_)<|?_
   ·exact Xy [] r (Ix ke46 (Oc 0 r) H20 r)<|A2 5 9 (Xy [] r (Le kk3 (Oc 0 r) H20 r)<|A1 9<|Xy [] r (Le kk3 (Oc 0 r) H22 r)<|Aq [10] [] r<|A1 11<|Xe [] r (Cl [] spec_l3Word_c H24 r r1) fun _=>A1 12<|Xy [] r (Ix ke46 (Oc 0 r) H20 r)<|A1 13<|Xu [] r (Se R23 0 kk3 H20 r (Cp r) r)<|Az<|Bg () [0])<|Xy [] r (Le kk3 (Oc 0 r) H22 r)<|A1 5<|Xy [] r (Le kk3 (Oc 0 r) H20 r)<|Aq [10] [] r<|A1 11<|Xe [] r (Cl [] spec_l3Word_c H24 r r1) fun _=>A1 12<|Xy [] r (Ix ke46 (Oc 0 r) H20 r)<|A1 13<|Xu [] r (Se R23 0 kk3 H20 r (Cp r) r)<|Az<|Bg () [0]
   exact Xy [] r (Le kk3 (Oc 0 r) H22 r)<|A1 4<|Xy [] r (Ix ke46 (Oc 0 r) H20 r)<|A1 5<|Xy [] r (Le kk3 (Oc 0 r) H20 r)<|Aq [10] [] r<|A1 11<|Xe [] r (Cl [] spec_l3Word_c H24 r r1) fun _=>A1 12<|Xy [] r (Ix ke46 (Oc 0 r) H20 r)<|A1 13<|Xu [] r (Se R23 0 kk3 H20 r (Cp r) r)<|Az<|Bg () [0]
  refine Ne<|Sq<|Wi fun E28 H29=>Wi fun E30 H31=>Wi fun R32 H33=>Jw Unit [0,1,2,3,4] [] (fun _=>[]) (fun _=>[.own U0 (lc ((((s.set a.toNat R5).set d.toNat R14).set c.toNat R23).set b.toNat R32))]) r1 r1 (?_) fun X36=>?_
  ·refine Dr [] r hMix<|Aq [0,1,2,3,6,7] [] r<|A2 4 8 (?_)<|?_
   ·refine Xy [] r (Ix ke46 (Oc 0 r) H29 r)<|A2 5 8 (?_)<|?_
    ·exact Xy [] r (Le kk3 (Oc 0 r) H29 r)<|A1 8<|Xy [] r (Ix ke46 (Oc 0 r) H31 r)<|A1 9<|Xy [] r (Le kk3 (Oc 0 r) H31 r)<|Aq [10] [] r<|A1 11<|Xe [] r (Cl [] spec_l3Left_c H33 r r1) fun _=>A1 12<|Xy [] r (Ix ke46 (Oc 0 r) H29 r)<|A1 13<|Xu [] r (Se R32 0 kk3 H29 r (Cp r) r)<|Az<|Bg () [0]
    exact Xy [] r (Ix ke46 (Oc 0 r) H31 r)<|A2 5 9 (Xy [] r (Le kk3 (Oc 0 r) H29 r)<|A1 9<|Xy [] r (Le kk3 (Oc 0 r) H31 r)<|Aq [10] [] r<|A1 11<|Xe [] r (Cl [] spec_l3Left_c H33 r r1) fun _=>A1 12<|Xy [] r (Ix ke46 (Oc 0 r) H29 r)<|A1 13<|Xu [] r (Se R32 0 kk3 H29 r (Cp r) r)<|Az<|Bg () [0])<|Xy [] r (Le kk3 (Oc 0 r) H31 r)<|A1 5<|Xy [] r (Le kk3 (Oc 0 r) H29 r)<|Aq [10] [] r<|A1 11<|Xe [] r (Cl [] spec_l3Left_c H33 r r1) fun _=>A1 12<|Xy [] r (Ix ke46 (Oc 0 r) H29 r)<|A1 13<|Xu [] r (Se R32 0 kk3 H29 r (Cp r) r)<|Az<|Bg () [0]
   refine Xy [] r (Ix ke46 (Oc 0 r) H31 r)<|A2 4 9 (?_)<|?_
   ·exact Xy [] r (Ix ke46 (Oc 0 r) H29 r)<|A2 5 9 (Xy [] r (Le kk3 (Oc 0 r) H29 r)<|A1 9<|Xy [] r (Le kk3 (Oc 0 r) H31 r)<|Aq [10] [] r<|A1 11<|Xe [] r (Cl [] spec_l3Left_c H33 r r1) fun _=>A1 12<|Xy [] r (Ix ke46 (Oc 0 r) H29 r)<|A1 13<|Xu [] r (Se R32 0 kk3 H29 r (Cp r) r)<|Az<|Bg () [0])<|Xy [] r (Le kk3 (Oc 0 r) H31 r)<|A1 5<|Xy [] r (Le kk3 (Oc 0 r) H29 r)<|Aq [10] [] r<|A1 11<|Xe [] r (Cl [] spec_l3Left_c H33 r r1) fun _=>A1 12<|Xy [] r (Ix ke46 (Oc 0 r) H29 r)<|A1 13<|Xu [] r (Se R32 0 kk3 H29 r (Cp r) r)<|Az<|Bg () [0]
   exact Xy [] r (Le kk3 (Oc 0 r) H31 r)<|A1 4<|Xy [] r (Ix ke46 (Oc 0 r) H29 r)<|A1 5<|Xy [] r (Le kk3 (Oc 0 r) H29 r)<|Aq [10] [] r<|A1 11<|Xe [] r (Cl [] spec_l3Left_c H33 r r1) fun _=>A1 12<|Xy [] r (Ix ke46 (Oc 0 r) H29 r)<|A1 13<|Xu [] r (Se R32 0 kk3 H29 r (Cp r) r)<|Az<|Bg () [0]
  refine Ne<|Sq<|Wi fun E37 H38=>Wi fun E39 H40=>Wi fun R41 H42=>Jw Unit [0,1,2,3,4] [] (fun _=>[]) (fun _=>[.own U0 (lc (((((s.set a.toNat R5).set d.toNat R14).set c.toNat R23).set b.toNat R32).set a.toNat R41))]) r1 r1 (?_) fun X45=>?_
  ·refine Dr [] r hMix<|Aq [0,1,2,3,6,7] [] r<|A2 4 8 (?_)<|?_
   ·refine Xy [] r (Ix ke46 (Oc 0 r) H38 r)<|A2 5 8 (?_)<|?_
    ·exact Xy [] r (Le kk3 (Oc 0 r) H38 r)<|A1 8<|Xy [] r (Ix ke46 (Oc 0 r) H40 r)<|A1 9<|Xy [] r (Le kk3 (Oc 0 r) H40 r)<|Aq [10] [] r<|A1 11<|Xe [] r (Cl [] spec_l3Word_c H42 r r1) fun _=>A1 12<|Xy [] r (Ix ke46 (Oc 0 r) H38 r)<|A1 13<|Xu [] r (Se R41 0 kk3 H38 r (Cp r) r)<|Az<|Bg () [0]
    exact Xy [] r (Ix ke46 (Oc 0 r) H40 r)<|A2 5 9 (Xy [] r (Le kk3 (Oc 0 r) H38 r)<|A1 9<|Xy [] r (Le kk3 (Oc 0 r) H40 r)<|Aq [10] [] r<|A1 11<|Xe [] r (Cl [] spec_l3Word_c H42 r r1) fun _=>A1 12<|Xy [] r (Ix ke46 (Oc 0 r) H38 r)<|A1 13<|Xu [] r (Se R41 0 kk3 H38 r (Cp r) r)<|Az<|Bg () [0])<|Xy [] r (Le kk3 (Oc 0 r) H40 r)<|A1 5<|Xy [] r (Le kk3 (Oc 0 r) H38 r)<|Aq [10] [] r<|A1 11<|Xe [] r (Cl [] spec_l3Word_c H42 r r1) fun _=>A1 12<|Xy [] r (Ix ke46 (Oc 0 r) H38 r)<|A1 13<|Xu [] r (Se R41 0 kk3 H38 r (Cp r) r)<|Az<|Bg () [0]
   refine Xy [] r (Ix ke46 (Oc 0 r) H40 r)<|A2 4 9 (?_)<|?_
   ·exact Xy [] r (Ix ke46 (Oc 0 r) H38 r)<|A2 5 9 (Xy [] r (Le kk3 (Oc 0 r) H38 r)<|A1 9<|Xy [] r (Le kk3 (Oc 0 r) H40 r)<|Aq [10] [] r<|A1 11<|Xe [] r (Cl [] spec_l3Word_c H42 r r1) fun _=>A1 12<|Xy [] r (Ix ke46 (Oc 0 r) H38 r)<|A1 13<|Xu [] r (Se R41 0 kk3 H38 r (Cp r) r)<|Az<|Bg () [0])<|Xy [] r (Le kk3 (Oc 0 r) H40 r)<|A1 5<|Xy [] r (Le kk3 (Oc 0 r) H38 r)<|Aq [10] [] r<|A1 11<|Xe [] r (Cl [] spec_l3Word_c H42 r r1) fun _=>A1 12<|Xy [] r (Ix ke46 (Oc 0 r) H38 r)<|A1 13<|Xu [] r (Se R41 0 kk3 H38 r (Cp r) r)<|Az<|Bg () [0]
   exact Xy [] r (Le kk3 (Oc 0 r) H40 r)<|A1 4<|Xy [] r (Ix ke46 (Oc 0 r) H38 r)<|A1 5<|Xy [] r (Le kk3 (Oc 0 r) H38 r)<|Aq [10] [] r<|A1 11<|Xe [] r (Cl [] spec_l3Word_c H42 r r1) fun _=>A1 12<|Xy [] r (Ix ke46 (Oc 0 r) H38 r)<|A1 13<|Xu [] r (Se R41 0 kk3 H38 r (Cp r) r)<|Az<|Bg () [0]
  refine Ne<|Sq<|Wi fun E46 H47=>Wi fun E48 H49=>Wi fun R50 H51=>Jw Unit [0,2,3,4] [] (fun _=>[]) (fun _=>[.own U0 (lc ((((((s.set a.toNat R5).set d.toNat R14).set c.toNat R23).set b.toNat R32).set a.toNat R41).set d.toNat R50))]) r1 r1 (?_) fun X54=>?_
  ·refine Dr [] r hMix<|Aq [0,1,2,3,6,7] [] r<|A2 4 8 (?_)<|?_
   ·refine Xy [] r (Ix ke46 (Oc 0 r) H47 r)<|A2 5 8 (?_)<|?_
    ·exact Xy [] r (Le kk3 (Oc 0 r) H47 r)<|A1 8<|Xy [] r (Ix ke46 (Oc 0 r) H49 r)<|A1 9<|Xy [] r (Le kk3 (Oc 0 r) H49 r)<|Aq [10] [] r<|A1 11<|Xe [] r (Cl [] spec_l3Left_c H51 r r1) fun _=>A1 12<|Xy [] r (Ix ke46 (Oc 0 r) H47 r)<|A1 13<|Xu [] r (Se R50 0 kk3 H47 r (Cp r) r)<|Az<|Bg () [0]
    exact Xy [] r (Ix ke46 (Oc 0 r) H49 r)<|A2 5 9 (Xy [] r (Le kk3 (Oc 0 r) H47 r)<|A1 9<|Xy [] r (Le kk3 (Oc 0 r) H49 r)<|Aq [10] [] r<|A1 11<|Xe [] r (Cl [] spec_l3Left_c H51 r r1) fun _=>A1 12<|Xy [] r (Ix ke46 (Oc 0 r) H47 r)<|A1 13<|Xu [] r (Se R50 0 kk3 H47 r (Cp r) r)<|Az<|Bg () [0])<|Xy [] r (Le kk3 (Oc 0 r) H49 r)<|A1 5<|Xy [] r (Le kk3 (Oc 0 r) H47 r)<|Aq [10] [] r<|A1 11<|Xe [] r (Cl [] spec_l3Left_c H51 r r1) fun _=>A1 12<|Xy [] r (Ix ke46 (Oc 0 r) H47 r)<|A1 13<|Xu [] r (Se R50 0 kk3 H47 r (Cp r) r)<|Az<|Bg () [0]
   refine Xy [] r (Ix ke46 (Oc 0 r) H49 r)<|A2 4 9 (?_)<|?_
   ·exact Xy [] r (Ix ke46 (Oc 0 r) H47 r)<|A2 5 9 (Xy [] r (Le kk3 (Oc 0 r) H47 r)<|A1 9<|Xy [] r (Le kk3 (Oc 0 r) H49 r)<|Aq [10] [] r<|A1 11<|Xe [] r (Cl [] spec_l3Left_c H51 r r1) fun _=>A1 12<|Xy [] r (Ix ke46 (Oc 0 r) H47 r)<|A1 13<|Xu [] r (Se R50 0 kk3 H47 r (Cp r) r)<|Az<|Bg () [0])<|Xy [] r (Le kk3 (Oc 0 r) H49 r)<|A1 5<|Xy [] r (Le kk3 (Oc 0 r) H47 r)<|Aq [10] [] r<|A1 11<|Xe [] r (Cl [] spec_l3Left_c H51 r r1) fun _=>A1 12<|Xy [] r (Ix ke46 (Oc 0 r) H47 r)<|A1 13<|Xu [] r (Se R50 0 kk3 H47 r (Cp r) r)<|Az<|Bg () [0]
   exact Xy [] r (Le kk3 (Oc 0 r) H49 r)<|A1 4<|Xy [] r (Ix ke46 (Oc 0 r) H47 r)<|A1 5<|Xy [] r (Le kk3 (Oc 0 r) H47 r)<|Aq [10] [] r<|A1 11<|Xe [] r (Cl [] spec_l3Left_c H51 r r1) fun _=>A1 12<|Xy [] r (Ix ke46 (Oc 0 r) H47 r)<|A1 13<|Xu [] r (Se R50 0 kk3 H47 r (Cp r) r)<|Az<|Bg () [0]
  refine Ne<|Sq<|Wi fun E55 H56=>Wi fun E57 H58=>Wi fun R59 H60=>Jw Unit [0,2,3] [] (fun _=>[]) (fun _=>[.own U0 (lc (((((((s.set a.toNat R5).set d.toNat R14).set c.toNat R23).set b.toNat R32).set a.toNat R41).set d.toNat R50).set c.toNat R59))]) r1 r1 (?_) fun X63=>?_
  ·refine Dr [] r hMix<|Aq [0,1,2,3,6,7] [] r<|A2 4 8 (?_)<|?_
   ·refine Xy [] r (Ix ke46 (Oc 0 r) H56 r)<|A2 5 8 (?_)<|?_
    ·exact Xy [] r (Le kk3 (Oc 0 r) H56 r)<|A1 8<|Xy [] r (Ix ke46 (Oc 0 r) H58 r)<|A1 9<|Xy [] r (Le kk3 (Oc 0 r) H58 r)<|Aq [10] [] r<|A1 11<|Xe [] r (Cl [] spec_l3Word_c H60 r r1) fun _=>A1 12<|Xy [] r (Ix ke46 (Oc 0 r) H56 r)<|A1 13<|Xu [] r (Se R59 0 kk3 H56 r (Cp r) r)<|Az<|Bg () [0]
    exact Xy [] r (Ix ke46 (Oc 0 r) H58 r)<|A2 5 9 (Xy [] r (Le kk3 (Oc 0 r) H56 r)<|A1 9<|Xy [] r (Le kk3 (Oc 0 r) H58 r)<|Aq [10] [] r<|A1 11<|Xe [] r (Cl [] spec_l3Word_c H60 r r1) fun _=>A1 12<|Xy [] r (Ix ke46 (Oc 0 r) H56 r)<|A1 13<|Xu [] r (Se R59 0 kk3 H56 r (Cp r) r)<|Az<|Bg () [0])<|Xy [] r (Le kk3 (Oc 0 r) H58 r)<|A1 5<|Xy [] r (Le kk3 (Oc 0 r) H56 r)<|Aq [10] [] r<|A1 11<|Xe [] r (Cl [] spec_l3Word_c H60 r r1) fun _=>A1 12<|Xy [] r (Ix ke46 (Oc 0 r) H56 r)<|A1 13<|Xu [] r (Se R59 0 kk3 H56 r (Cp r) r)<|Az<|Bg () [0]
   refine Xy [] r (Ix ke46 (Oc 0 r) H58 r)<|A2 4 9 (?_)<|?_
   ·exact Xy [] r (Ix ke46 (Oc 0 r) H56 r)<|A2 5 9 (Xy [] r (Le kk3 (Oc 0 r) H56 r)<|A1 9<|Xy [] r (Le kk3 (Oc 0 r) H58 r)<|Aq [10] [] r<|A1 11<|Xe [] r (Cl [] spec_l3Word_c H60 r r1) fun _=>A1 12<|Xy [] r (Ix ke46 (Oc 0 r) H56 r)<|A1 13<|Xu [] r (Se R59 0 kk3 H56 r (Cp r) r)<|Az<|Bg () [0])<|Xy [] r (Le kk3 (Oc 0 r) H58 r)<|A1 5<|Xy [] r (Le kk3 (Oc 0 r) H56 r)<|Aq [10] [] r<|A1 11<|Xe [] r (Cl [] spec_l3Word_c H60 r r1) fun _=>A1 12<|Xy [] r (Ix ke46 (Oc 0 r) H56 r)<|A1 13<|Xu [] r (Se R59 0 kk3 H56 r (Cp r) r)<|Az<|Bg () [0]
   exact Xy [] r (Le kk3 (Oc 0 r) H58 r)<|A1 4<|Xy [] r (Ix ke46 (Oc 0 r) H56 r)<|A1 5<|Xy [] r (Le kk3 (Oc 0 r) H56 r)<|Aq [10] [] r<|A1 11<|Xe [] r (Cl [] spec_l3Word_c H60 r r1) fun _=>A1 12<|Xy [] r (Ix ke46 (Oc 0 r) H56 r)<|A1 13<|Xu [] r (Se R59 0 kk3 H56 r (Cp r) r)<|Az<|Bg () [0]
  refine Ne<|Sq<|Wi fun E64 H65=>Wi fun E66 H67=>Wi fun R68 H69=>Jw Unit [0] [] (fun _=>[]) (fun _=>[.own U0 (lc ((((((((s.set a.toNat R5).set d.toNat R14).set c.toNat R23).set b.toNat R32).set a.toNat R41).set d.toNat R50).set c.toNat R59).set b.toNat R68))]) r1 r1 (?_) fun X72=>?_
  ·refine Dr [] r hMix<|Aq [0,1,2,3,6,7] [] r<|A2 4 8 (?_)<|?_
   ·refine Xy [] r (Ix ke46 (Oc 0 r) H65 r)<|A2 5 8 (?_)<|?_
    ·exact Xy [] r (Le kk3 (Oc 0 r) H65 r)<|A1 8<|Xy [] r (Ix ke46 (Oc 0 r) H67 r)<|A1 9<|Xy [] r (Le kk3 (Oc 0 r) H67 r)<|Aq [10] [] r<|A1 11<|Xe [] r (Cl [] spec_l3Left_c H69 r r1) fun _=>A1 12<|Xy [] r (Ix ke46 (Oc 0 r) H65 r)<|A1 13<|Xu [] r (Se R68 0 kk3 H65 r (Cp r) r)<|Az<|Bg () [0]
    exact Xy [] r (Ix ke46 (Oc 0 r) H67 r)<|A2 5 9 (Xy [] r (Le kk3 (Oc 0 r) H65 r)<|A1 9<|Xy [] r (Le kk3 (Oc 0 r) H67 r)<|Aq [10] [] r<|A1 11<|Xe [] r (Cl [] spec_l3Left_c H69 r r1) fun _=>A1 12<|Xy [] r (Ix ke46 (Oc 0 r) H65 r)<|A1 13<|Xu [] r (Se R68 0 kk3 H65 r (Cp r) r)<|Az<|Bg () [0])<|Xy [] r (Le kk3 (Oc 0 r) H67 r)<|A1 5<|Xy [] r (Le kk3 (Oc 0 r) H65 r)<|Aq [10] [] r<|A1 11<|Xe [] r (Cl [] spec_l3Left_c H69 r r1) fun _=>A1 12<|Xy [] r (Ix ke46 (Oc 0 r) H65 r)<|A1 13<|Xu [] r (Se R68 0 kk3 H65 r (Cp r) r)<|Az<|Bg () [0]
   refine Xy [] r (Ix ke46 (Oc 0 r) H67 r)<|A2 4 9 (?_)<|?_
   ·exact Xy [] r (Ix ke46 (Oc 0 r) H65 r)<|A2 5 9 (Xy [] r (Le kk3 (Oc 0 r) H65 r)<|A1 9<|Xy [] r (Le kk3 (Oc 0 r) H67 r)<|Aq [10] [] r<|A1 11<|Xe [] r (Cl [] spec_l3Left_c H69 r r1) fun _=>A1 12<|Xy [] r (Ix ke46 (Oc 0 r) H65 r)<|A1 13<|Xu [] r (Se R68 0 kk3 H65 r (Cp r) r)<|Az<|Bg () [0])<|Xy [] r (Le kk3 (Oc 0 r) H67 r)<|A1 5<|Xy [] r (Le kk3 (Oc 0 r) H65 r)<|Aq [10] [] r<|A1 11<|Xe [] r (Cl [] spec_l3Left_c H69 r r1) fun _=>A1 12<|Xy [] r (Ix ke46 (Oc 0 r) H65 r)<|A1 13<|Xu [] r (Se R68 0 kk3 H65 r (Cp r) r)<|Az<|Bg () [0]
   exact Xy [] r (Le kk3 (Oc 0 r) H67 r)<|A1 4<|Xy [] r (Ix ke46 (Oc 0 r) H65 r)<|A1 5<|Xy [] r (Le kk3 (Oc 0 r) H65 r)<|Aq [10] [] r<|A1 11<|Xe [] r (Cl [] spec_l3Left_c H69 r r1) fun _=>A1 12<|Xy [] r (Ix ke46 (Oc 0 r) H65 r)<|A1 13<|Xu [] r (Se R68 0 kk3 H65 r (Cp r) r)<|Az<|Bg () [0]
  exact Ne<|Sr<|Qs 2 r<|Nx<|Wr<|Re U0 [0]

/-- loop.example/g00950/spec.l3Block -/
noncomputable def spec_l3Block (key : List UInt8) (counter : Int) (nonce : List UInt8) : Option (List UInt8) :=
  bindC (loopO (fun (S2 : Int × List Int) => if (decide (S2.1 < (8 : Int))) = true then ((spec_l3Little key (IntKind.i64.wrap ((4 : Int) * S2.1))).bind fun R7 =>
  (app 8 S2.2 ([R7])).bind fun E12 =>
  some (.go (IntKind.i64.wrap (S2.1 + (1 : Int)), E12)))
  else (some (.done (.go S2.2))))
  ((0 : Int), ([(1634760805 : Int), (857760878 : Int), (2036477234 : Int), (1797285236 : Int)])))
  (fun (T4 : List Int) => (spec_l3Little nonce (0 : Int)).bind fun R14 =>
  (spec_l3Little nonce (4 : Int)).bind fun R17 =>
  (spec_l3Little nonce (8 : Int)).bind fun R20 =>
  (app 8 T4 ([counter, R14, R17, R20])).bind fun E25 =>
  (app 8 ([] : List Int) E25).bind fun E29 =>
  bindC (loopO (fun (S31 : Int × List Int) => if (decide (S31.1 < (10 : Int))) = true then ((spec_l3Quarter S31.2 (0 : Int) (4 : Int) (8 : Int) (12 : Int)).bind fun R36 =>
  (spec_l3Quarter R36 (1 : Int) (5 : Int) (9 : Int) (13 : Int)).bind fun R39 =>
  (spec_l3Quarter R39 (2 : Int) (6 : Int) (10 : Int) (14 : Int)).bind fun R42 =>
  (spec_l3Quarter R42 (3 : Int) (7 : Int) (11 : Int) (15 : Int)).bind fun R45 =>
  (spec_l3Quarter R45 (0 : Int) (5 : Int) (10 : Int) (15 : Int)).bind fun R48 =>
  (spec_l3Quarter R48 (1 : Int) (6 : Int) (11 : Int) (12 : Int)).bind fun R51 =>
  (spec_l3Quarter R51 (2 : Int) (7 : Int) (8 : Int) (13 : Int)).bind fun R54 =>
  (spec_l3Quarter R54 (3 : Int) (4 : Int) (9 : Int) (14 : Int)).bind fun R57 =>
  some (.go (IntKind.i64.wrap (S31.1 + (1 : Int)), R57)))
  else (some (.done (.go S31.2))))
  ((0 : Int), E29))
  (fun (T33 : List Int) => bindC (loopO (fun (S61 : Int × List UInt8) => if (decide (S61.1 < (16 : Int))) = true then ((idx T33 S61.1).bind fun E66 =>
  (idx E25 S61.1).bind fun E68 =>
  (spec_l3Word (IntKind.i64.wrap (E66 + E68))).bind fun R70 =>
  (app 1 S61.2 ([toU8 (iand .i64 R70 (255 : Int)), toU8 (iand .i64 (ishr .i64 R70 (8 : Int)) (255 : Int)), toU8 (iand .i64 (ishr .i64 R70 (16 : Int)) (255 : Int)), toU8 (ishr .i64 R70 (24 : Int))])).bind fun E75 =>
  some (.go (IntKind.i64.wrap (S61.1 + (1 : Int)), E75)))
  else (some (.done (.go S61.2))))
  ((0 : Int), ([] : List UInt8)))
  (fun (T63 : List UInt8) => some T63)))

theorem spec_l3Block_c {key : List UInt8} {counter : Int} {nonce : List UInt8} : Cn Try.prog 61 [strV key, iv counter, strV nonce] [] [] (spec_l3Block key counter nonce) (fun r (_ : Unit) => strV r) fun _ _ => [] := by
  unfold spec_l3Block
  refine Ci Try.func61 r r ?_
  rintro w S -
  refine Sr<|Qs 1 r<|Nx<|Sr<|Fo (Bs [(1634760805 : Int), (857760878 : Int), (2036477234 : Int), (1797285236 : Int)] ke46 kz3) fun B1=>Qs 1 r<|Nx<|Sq<|Sr<|Qs 1 r<|Nx<|Jn Value [1,2] [] (fun _ X=>[(7, X)]) (fun T X=>[.own X (lc T)]) r2 r2 (?_) fun T4 X5=>?_
  ·exact Wb<|Lp Value [0,1,2] [] (fun T X=>[(7, X), (8, iv T.1)]) (fun T X=>[.own X (lc T.2)]) (.slice (some ⟨B1, 0, none⟩) 4 4) [0] r2 r2 fun S2 X3=>Sq<|Sr<|Qs 2 r<|Nx<|Wc r (fun H6=>Sn<|Sq<|Wb<|Rg<|Qs 4 r<|Bi fun R7 H8=>Fo (Cl [] spec_l3Little_c H8 r r1) fun _=>Fo (Bs [R7] ke46 kz3) fun B10=>Bi fun E12 H13=>Fo (Ap [1] H13 ke46 kz3 r (Oc 0 r)) fun V11=>Qs 1 r<|Nl<|Bn<|Ne<|Rg<|Qs 3 r<|Nl<|Lg V11 [0]) fun H6=>Wx<|Tx<|Ex<|Be<|Jg X3 [0]
  refine Ne<|Sr<|Qs 3 r<|Bi fun R14 H15=>Fo (Cl [] spec_l3Little_c H15 r r1) fun _=>Qs 1 r<|Bi fun R17 H18=>Fo (Cl [] spec_l3Little_c H18 r r1) fun _=>Qs 1 r<|Bi fun R20 H21=>Fo (Cl [] spec_l3Little_c H21 r r1) fun _=>Fo (Bs [counter, R14, R17, R20] ke46 kz3) fun B23=>Bi fun E25 H26=>Fo (Ap [1] H26 ke46 kz3 r (Oc 0 r)) fun V24=>Qs 1 r<|Nx<|Sr<|Fo (Bs ([] : List Int) ke46 kz3) fun B27=>Qs 1 r<|Bi fun E29 H30=>Fo (Ap [0] H30 ke46 kz3 r (Oc 1 r)) fun V28=>Qs 1 r<|Nx<|Sq<|Sr<|Qs 1 r<|Nx<|Jn Value [7] [1] (fun _ X=>[(9, X)]) (fun T X=>[.own X (lc T)]) r2 r2 (?_) fun T33 X34=>?_
  ·refine Wb<|Lp Value [7] [1] (fun T X=>[(9, X), (10, iv T.1)]) (fun T X=>[.own X (lc T.2)]) V28 [1,0] r2 r2 fun S31 X32=>Sq<|Sr<|Qs 2 r<|Nx<|Wc r (fun H35=>?_) fun H35=>?_
   ·refine Sn<|Sq<|Wb<|Sr<|Qs 1 r<|Bi fun R36 H37=>Fo (Cl [1] spec_l3Quarter_c H37 r r1) fun Y38=>Qs 1 r<|Nx<|Sr<|Qs 1 r<|Bi fun R39 H40=>Fo (Cl [0] spec_l3Quarter_c H40 r r1) fun Y41=>Qs 1 r<|Nx<|Sr<|Qs 1 r<|Bi fun R42 H43=>Fo (Cl [0] spec_l3Quarter_c H43 r r1) fun Y44=>Qs 1 r<|Nx<|Sr<|Qs 1 r<|Bi fun R45 H46=>Fo (Cl [0] spec_l3Quarter_c H46 r r1) fun Y47=>Qs 1 r<|Nx<|Sr<|Qs 1 r<|Bi fun R48 H49=>Fo (Cl [0] spec_l3Quarter_c H49 r r1) fun Y50=>Qs 1 r<|Nx<|Sr<|Qs 1 r<|Bi fun R51 H52=>Fo (Cl [0] spec_l3Quarter_c H52 r r1) fun Y53=>?_
    exact Qs 1 r<|Nx<|Sr<|Qs 1 r<|Bi fun R54 H55=>Fo (Cl [0] spec_l3Quarter_c H55 r r1) fun Y56=>Qs 1 r<|Nx<|Rg<|Qs 1 r<|Bi fun R57 H58=>Fo (Cl [0] spec_l3Quarter_c H58 r r1) fun Y59=>Qs 1 r<|Nl<|Bn<|Ne<|Rg<|Qs 3 r<|Nl<|Lg Y59 [1,0]
   exact Wx<|Tx<|Ex<|Be<|Jg X32 [0,0]
  refine Ne<|Sr<|Fo (Bs ([] : List UInt8) ke29 kz5) fun B60=>Qs 1 r<|Nx<|Sq<|Sr<|Qs 1 r<|Nx<|Jn Value [] [] (fun _ X=>[(11, X)]) (fun T X=>[.own X (lc T)]) r2 r2 (?_) fun T63 X64=>?_
  ·refine Wb<|Lp Value [7,9] [1,1] (fun T X=>[(11, X), (12, iv T.1)]) (fun T X=>[.own X (lc T.2)]) (.slice (some ⟨B60, 0, none⟩) 0 0) [1,1,0] r2 r2 fun S61 X62=>Sq<|Sr<|Qs 2 r<|Nx<|Wc r (fun H65=>?_) fun H65=>?_
   ·refine Sn<|Sq<|Wb<|Sq<|Dr [0,0,0] r hMix<|Aq [0,1] [0,0,0] r<|Ai fun E66 H67=>Ay 2 [0,0,0] r (Ix ke46 (Oc 1 r) H67 r)<|Ay 3 [0,0,0] r (Le kk3 (Oc 1 r) H67 r)<|Aq [4,5] [0,0,0] r<|Ai fun E68 H69=>Ay 6 [0,0,0] r (Ix ke46 (Oc 0 r) H69 r)<|Ay 7 [0,0,0] r (Le kk3 (Oc 0 r) H69 r)<|Aq [8] [0,0,0] r<|Ai fun R70 H71=>A1 9<|Xe [0,0,0] r (Cl [] spec_l3Word_c H71 r r1) fun _=>Aq [10] [0,0,0] r<|Az<|Ne<|Rg<|Qs 3 r<|Yo (Y.conv8 ki3 ki5 r)<|Qs 1 r<|Yo (Y.shr (by decide) r r)<|Qs 1 r<|Yo (Y.conv8 ki3 ki5 r)<|Qs 1 r<|Yo (Y.shr (by decide) r r)<|Qs 1 r<|Yo (Y.conv8 ki3 ki5 r)<|Qs 1 r<|Yo (Y.shr (by decide) r r)<|Yo (Y.conv8 ki3 ki5 r)<|Fo (Bs [toU8 (iand .i64 R70 (255 : Int)), toU8 (iand .i64 (ishr .i64 R70 (8 : Int)) (255 : Int)), toU8 (iand .i64 (ishr .i64 R70 (16 : Int)) (255 : Int)), toU8 (ishr .i64 R70 (24 : Int))] ke29 kz5) fun B73=>?_
    exact Bi fun E75 H76=>Fo (Ap [3] H76 ke29 kz5 r (Oc 0 r)) fun V74=>Qs 1 r<|Nl<|Bn<|Ne<|Rg<|Qs 3 r<|Nl<|Lg V74 [2,2,0]
   exact Wx<|Tx<|Ex<|Be<|Jg X62 [2]
  exact Ne<|Sr<|Qs 1 r<|Yo (Y.toStr ke29 ki5 ks9 (Oc 0 r) r)<|Qs 1 r<|Nx<|Wr<|Re () []

/-- loop.example/g00950/spec.ChaBlock -/
noncomputable def spec_ChaBlock (key : List UInt8) (counter : Int) (nonce : List UInt8) : Option (List UInt8) :=
  (if (!(decide (((key.length : Nat) : Int) = (32 : Int)))) = true then (some true)
  else (if (!(decide (((nonce.length : Nat) : Int) = (12 : Int)))) = true then (some true)
  else ((spec_l1In counter (0 : Int) (4294967295 : Int)).bind fun R5 =>
  some (!R5)))).bind (fun (T1 : Bool) =>
  if T1 = true then (some ([]))
  else ((spec_l3Block key counter nonce).bind fun R9 =>
  some R9))

theorem spec_ChaBlock_c {key : List UInt8} {counter : Int} {nonce : List UInt8} : Cn Try.prog 33 [strV key, iv counter, strV nonce] [] [] (spec_ChaBlock key counter nonce) (fun r (_ : Unit) => strV r) fun _ _ => [] := by
  unfold spec_ChaBlock
  refine Ci Try.func33 r r ?_
  rintro w S -
  refine Sr<|Qs 1 r<|Nx<|Sq<|Sq<|Jv [0,1,2] (fun T=>[(19, .bool T)]) r1 (?_) fun T1=>?_
  ·exact Rg<|Qs 1 r<|Yo (Y.slen ks9 r)<|Qs 2 r<|It (fun H3=>Of 3 (beq_tf H3) r r<|Yo (Pt H3 r)<|Qs 1 r<|Of 3 r r r<|Yo (Pt r r)<|Nl<|Bg () []) fun H3=>Qg 1 (beq_ff H3) r r<|Yg (gdA (beq_ff H3)) (Y.slen ks9 r)<|Qg 1 (beq_ff H3) r r<|Yo (Pf H3 r)<|Qs 1 r<|It (fun H4=>Of 3 (beq_tf H4) r r<|Yo (Pt H4 r)<|Nl<|Bg () []) fun H4=>Qg 1 (beq_ff H4) r r<|Bi fun R5 H6=>Fg (gdA (beq_ff H4)) (Cl [] spec_l1In_c H6 r r1) fun _=>Qg 1 (beq_ff H4) r r<|Yo (Pf H4 r)<|Nl<|Bg () []
  exact Ne<|Wc r (fun H8=>Sr<|Qs 1 r<|Nx<|Wr<|Tr<|Re () []) fun H8=>Sn<|Sr<|Qs 3 r<|Bi fun R9 H10=>Fo (Cl [] spec_l3Block_c H10 r r1) fun _=>Qs 1 r<|Nx<|Wr<|Re () []

/-- loop.example/g00950/spec.ChaStream -/
noncomputable def spec_ChaStream (key : List UInt8) (counter : Int) (nonce : List UInt8) (text : List UInt8) : Option (List UInt8) :=
  (spec_ChaBlock key counter nonce).bind fun R2 =>
  if (decide (R2 = ([]))) = true then (some ([]))
  else (bindC (loopO (fun (S6 : Int × List UInt8) => if (decide (S6.1 < ((text.length : Nat) : Int))) = true then ((spec_ChaBlock key (IntKind.i64.wrap (counter + (IntKind.i64.wrap (Int.tdiv S6.1 (64 : Int))))) nonce).bind fun R11 =>
  if (decide (R11 = ([]))) = true then (some (.done (.done ([]))))
  else (bindC (loopO (fun (S15 : Int × List UInt8) => (if (decide (S15.1 < ((text.length : Nat) : Int))) = true then (some (decide (S15.1 < IntKind.i64.wrap (S6.1 + (64 : Int)))))
  else (some false)).bind (fun (T19 : Bool) =>
  if T19 = true then ((sidx text S15.1).bind fun E23 =>
  (sidx R11 (IntKind.i64.wrap (S15.1 - S6.1))).bind fun E25 =>
  (app 1 S15.2 ([(E23 ^^^ E25)])).bind fun E29 =>
  some (.go (IntKind.i64.wrap (S15.1 + (1 : Int)), E29)))
  else (some (.done (.go S15.2)))))
  (S6.1, S6.2))
  (fun (T17 : List UInt8) => some (.go (IntKind.i64.wrap (S6.1 + (64 : Int)), T17)))))
  else (some (.done (.go S6.2))))
  ((0 : Int), ([] : List UInt8)))
  (fun (T8 : List UInt8) => some T8))

theorem spec_ChaStream_c {key : List UInt8} {counter : Int} {nonce : List UInt8} {text : List UInt8} : Cn Try.prog 16 [strV key, iv counter, strV nonce, strV text] [] [] (spec_ChaStream key counter nonce text) (fun r (_ : Unit) => strV r) fun _ _ => [] := by
  unfold spec_ChaStream
  refine Ci Try.func16 r r ?_
  rintro w S -
  refine Sr<|Qs 1 r<|Nx<|Sr<|Fo (Bs ([] : List UInt8) ke29 kz5) fun B1=>Qs 1 r<|Nx<|Sq<|Sr<|Qs 3 r<|Bi fun R2 H3=>Fo (Cl [] spec_ChaBlock_c H3 r r1) fun _=>Qs 1 r<|Nx<|Wc r (fun H5=>Sr<|Qs 1 r<|Nx<|Wr<|Tr<|Re () []) fun H5=>Sn<|Sq<|Sr<|Qs 1 r<|Nx<|Jn Value [] [] (fun _ X=>[(9, X)]) (fun T X=>[.own X (lc T)]) r2 r2 (?_) fun T8 X9=>?_
  ·refine Wb<|Lp Value [0,1,2,3] [] (fun T X=>[(9, X), (10, iv T.1)]) (fun T X=>[.own X (lc T.2)]) (.slice (some ⟨B1, 0, none⟩) 0 0) [0] r2 r2 fun S6 X7=>Sq<|Sr<|Qs 2 r<|Yo (Y.slen ks9 r)<|Qs 1 r<|Nx<|Wc r (fun H10=>?_) fun H10=>?_
   ·refine Sn<|Sq<|Wb<|Sr<|Qs 3 r<|Yo (Y.quo (by decide) r r)<|Qs 2 r<|Bi fun R11 H12=>Fo (Cl [] spec_ChaBlock_c H12 r r1) fun _=>Qs 1 r<|Nx<|Sq<|Sr<|Qs 2 r<|Nx<|Wc r (fun H14=>Sr<|Qs 1 r<|Nx<|Wr<|Tr<|Br<|Tr<|Er<|Br<|Jd<|Tr<|Re () []) fun H14=>Sn<|Sr<|Qs 2 r<|Nx<|Jn Value [0,1,2,3,10] [] (fun _ X=>[(9, X)]) (fun T X=>[.own X (lc T)]) r2 r2 (?_) fun T17 X18=>?_
    ·refine Wb<|Lp Value [0,1,2,3,10,11] [] (fun T X=>[(9, X), (12, iv T.1)]) (fun T X=>[.own X (lc T.2)]) X7 [0] r2 r2 fun S15 X16=>Sq<|Sq<|Jv [0,1,2,3,9,10,11,12] (fun T=>[(44, .bool T)]) r1 (Rg<|Qs 2 r<|Yo (Y.slen ks9 r)<|Qs 2 r<|It (fun H21=>Qg 4 (beq_tt H21) r r<|Yo (Pt H21 r)<|Nl<|Bg () [0]) fun H21=>Of 4 (beq_ft H21) r r<|Yo (Pf H21 r)<|Nl<|Bg () [0]) fun T19=>Ne<|Wc r (fun H22=>?_) fun H22=>?_
     ·exact Sn<|Sq<|Wb<|Dr [] r hMix<|Aq [0,1,2] [] r<|Ai fun E23 H24=>Ay 3 [] r (Y.sidx H24 ks9 r r)<|Aq [4,5,6,7] [] r<|Ai fun E25 H26=>Ay 8 [] r (Y.sidx H26 ks9 r r)<|Ay 9 [] r (Y.xor8 r r)<|A1 10<|Xe [] r (Bs [(E23 ^^^ E25)] ke29 kz5) fun B27=>Ai fun E29 H30=>A1 11<|Xe [] r (Ap [1] H30 ke29 kz5 r (Oc 0 r)) fun V28=>Aq [12] [] r<|Az<|Bn<|Ne<|Rg<|Qs 3 r<|Nl<|Lg V28 [0]
     exact Wx<|Tx<|Ex<|Be<|Jg X16 [0]
    exact Bn<|Ne<|Rg<|Qs 3 r<|Nl<|Lg X18 [0]
   exact Wx<|Tx<|Ex<|Be<|Jg X7 [0]
  exact Ne<|Sr<|Qs 1 r<|Yo (Y.toStr ke29 ki5 ks9 (Oc 0 r) r)<|Qs 1 r<|Nx<|Wr<|Re () []

/-- loop.example/g00950/spec.StreamOf -/
noncomputable def spec_StreamOf (key : List UInt8) (r_ : LogRow) : Option (List UInt8) :=
  (if (!(decide (((key.length : Nat) : Int) = (32 : Int)))) = true then (some true)
  else ((spec_l8At r_.Boot r_.Seq).bind fun R5 =>
  some (!R5))).bind (fun (T2 : Bool) =>
  if T2 = true then (some ([]))
  else ((spec_NonceOf (3 : Int) (IntKind.i64.wrap (IntKind.i64.wrap (r_.Boot * (1000000 : Int)) + r_.Seq))).bind fun R9 =>
  (mkLen 1 ((r_.Text.length : Nat) : Int)).bind fun E13 =>
  (spec_ChaStream key (0 : Int) R9 (List.replicate E13 (0 : UInt8))).bind fun R16 =>
  some R16))

theorem spec_StreamOf_c {key : List UInt8} {r_ : LogRow} : Cn Try.prog 6 [strV key, .agg #[iv r_.Tenant, iv r_.Boot, iv r_.Seq, strV r_.Text, .bool r_.Synced]] [] [] (spec_StreamOf key r_) (fun r (_ : Unit) => strV r) fun _ _ => [] := by
  unfold spec_StreamOf
  refine Ci Try.func6 r r ?_
  rintro w S -
  refine Sr<|Fo (Bx r (Cp r)) fun B1=>Qs 1 r<|Nx<|Sq<|Sq<|Jv [0,3] (fun T=>[(15, .bool T)]) r1 (?_) fun T2=>?_
  ·exact Rg<|Qs 1 r<|Yo (Y.slen ks9 r)<|Qs 2 r<|It (fun H4=>Of 6 (beq_tf H4) r r<|Yo (Pt H4 r)<|Nl<|Bg () [0]) fun H4=>Yg (gdA (beq_ff H4)) (Fb kf26_1 r)<|Yg (gdA (beq_ff H4)) (Lb 0 kk3 r)<|Yg (gdA (beq_ff H4)) (Fb kf26_2 r)<|Yg (gdA (beq_ff H4)) (Lb 0 kk3 r)<|Bi fun R5 H6=>Fg (gdA (beq_ff H4)) (Cl [] spec_l8At_c H6 r r1) fun _=>Qg 1 (beq_ff H4) r r<|Yo (Pf H4 r)<|Nl<|Bg () [0]
  refine Ne<|Wc r (fun H8=>Sr<|Qs 1 r<|Nx<|Wr<|Tr<|Re () []) fun H8=>Sn<|Sq<|Wi fun R9 H10=>Wi fun E13 H14=>Wi fun R16 H17=>Jw Unit [] [] (fun _=>[(4, strV R16)]) (fun _=>[]) r1 r1 (?_) fun X20=>?_
  ·refine Dr [0] r hMix<|Aq [0] [0] r<|Ay 1 [0] r (Fb kf26_1 r)<|Ay 2 [0] r (Lb 0 kk3 r)<|Aq [3] [0] r<|Ay 4 [0] r (Fb kf26_2 r)<|Ay 5 [0] r (Lb 0 kk3 r)<|Aq [6] [0] r<|Ay 8 [0] r (Fb kf26_3 r)<|Ay 9 [0] r (Lb 0 kk9 r)<|Ay 10 [0] r (Y.slen ks9 r)<|A2 7 11 (Xe [0] r (Cl [] spec_NonceOf_c H10 r r1) fun _=>A1 11<|Xe [1] r (Mk (0 : UInt8) H14 ke29 kz5) fun V23=>A1 12<|Xy [1] r (Y.toStr ke29 ki5 ks9 (Oc 0 r) r)<|A1 13<|Xe [1] r (Cl [] spec_ChaStream_c H17 r r1) fun _=>Aq [14] [1] r<|Az<|Bg () [])<|Xe [1] r (Mk (0 : UInt8) H14 ke29 kz5) fun V22=>A2 7 12 (Xe [1] r (Cl [] spec_NonceOf_c H10 r r1) fun _=>A1 12<|Xy [1] r (Y.toStr ke29 ki5 ks9 (Oc 0 r) r)<|A1 13<|Xe [1] r (Cl [] spec_ChaStream_c H17 r r1) fun _=>Aq [14] [1] r<|Az<|Bg () [])<|Xy [1] r (Y.toStr ke29 ki5 ks9 (Oc 0 r) r)<|A1 7<|Xe [1] r (Cl [] spec_NonceOf_c H10 r r1) fun _=>?_
   exact A1 13<|Xe [1] r (Cl [] spec_ChaStream_c H17 r r1) fun _=>Aq [14] [1] r<|Az<|Bg () []
  exact Ne<|Wr<|Re () []

/-- loop.example/g00950/impl.inRange -/
noncomputable def impl_inRange (n : Int) (least : Int) (most : Int) : Option Bool :=
  (if (decide (n ≥ least)) = true then (some (decide (n ≤ most)))
  else (some false)).bind (fun (T1 : Bool) =>
  some T1)

theorem impl_inRange_c {n : Int} {least : Int} {most : Int} : Cn Try.prog 35 [iv n, iv least, iv most] [] [] (impl_inRange n least most) (fun r (_ : Unit) => .bool r) fun _ _ => [] := by
  unfold impl_inRange
  refine Ci Try.func35 r r ?_
  rintro w S -
  exact Sr<|Qs 1 r<|Nx<|Sq<|Jv [] (fun T=>[(6, .bool T)]) r1 (Rg<|Qs 4 r<|It (fun H3=>Qg 3 (beq_tt H3) r r<|Yo (Pt H3 r)<|Qs 1 r<|Nl<|Bg () []) fun H3=>Of 3 (beq_ft H3) r r<|Yo (Pf H3 r)<|Qs 1 r<|Nl<|Bg () []) fun T1=>Ne<|Wr<|Re () []

/-- loop.example/g00950/impl.isPlace -/
noncomputable def impl_isPlace (boot : Int) (seq : Int) : Option Bool :=
  ((impl_inRange boot (0 : Int) (1000 : Int)).bind fun R3 =>
  if R3 = true then ((impl_inRange seq (0 : Int) (999999 : Int)).bind fun R7 =>
  some R7)
  else (some false)).bind (fun (T1 : Bool) =>
  some T1)

theorem impl_isPlace_c {boot : Int} {seq : Int} : Cn Try.prog 18 [iv boot, iv seq] [] [] (impl_isPlace boot seq) (fun r (_ : Unit) => .bool r) fun _ _ => [] := by
  unfold impl_isPlace
  refine Ci Try.func18 r r ?_
  rintro w S -
  refine Sr<|Qs 1 r<|Nx<|Sq<|Jv [] (fun T=>[(4, .bool T)]) r1 (?_) fun T1=>?_
  ·exact Rg<|Qs 1 r<|Bi fun R3 H4=>Fo (Cl [] impl_inRange_c H4 r r1) fun _=>Qs 1 r<|It (fun H6=>Qg 1 (beq_tt H6) r r<|Bi fun R7 H8=>Fg (gdA (beq_tt H6)) (Cl [] impl_inRange_c H8 r r1) fun _=>Yo (Pt H6 r)<|Qs 1 r<|Nl<|Bg () []) fun H6=>Of 2 (beq_ft H6) r r<|Yo (Pf H6 r)<|Qs 1 r<|Nl<|Bg () []
  exact Ne<|Wr<|Re () []

/-- loop.example/g00950/impl.Fixed -/
noncomputable def impl_Fixed (n : Int) (width : Int) : Option (List UInt8) :=
  ((impl_inRange width (1 : Int) (7 : Int)).bind fun R3 =>
  if (!R3) = true then (some true)
  else (if (decide (n < (0 : Int))) = true then (some true)
  else (some (!(decide (ishr .i64 n (IntKind.u64.wrap (IntKind.i64.wrap ((8 : Int) * width))) = (0 : Int))))))).bind (fun (T1 : Bool) =>
  if T1 = true then (some ([]))
  else ((mkLen 1 width).bind fun E10 =>
  bindC (loopO (fun (S12 : Int × Int × List UInt8) => if (decide (S12.2.1 ≥ (0 : Int))) = true then ((idx S12.2.2 S12.2.1).bind fun E17 =>
  some (.go (ishr .i64 S12.1 (8 : Int), IntKind.i64.wrap (S12.2.1 - (1 : Int)), (S12.2.2.set S12.2.1.toNat (toU8 S12.1)))))
  else (some (.done (.go S12.2.2))))
  (n, IntKind.i64.wrap (width - (1 : Int)), (List.replicate E10 (0 : UInt8))))
  (fun (T14 : List UInt8) => some T14)))

theorem impl_Fixed_c {n : Int} {width : Int} : Cn Try.prog 64 [iv n, iv width] [] [] (impl_Fixed n width) (fun r (_ : Unit) => strV r) fun _ _ => [] := by
  unfold impl_Fixed
  refine Ci Try.func64 r r ?_
  rintro w S -
  refine Sr<|Qs 1 r<|Nx<|Sq<|Sq<|Jv [0,1] (fun T=>[(21, .bool T)]) r1 (?_) fun T1=>?_
  ·exact Rg<|Qs 1 r<|Bi fun R3 H4=>Fo (Cl [] impl_inRange_c H4 r r1) fun _=>Qs 2 r<|It (fun H6=>Of 2 (beq_tf H6) r r<|Yo (Pt H6 r)<|Qs 1 r<|Of 6 r r r<|Yo (Pt r r)<|Nl<|Bg () []) fun H6=>Qg 2 (beq_ff H6) r r<|Yo (Pf H6 r)<|Qs 1 r<|It (fun H7=>Of 6 (beq_tf H7) r r<|Yo (Pt H7 r)<|Nl<|Bg () []) fun H7=>Qg 3 (beq_ff H7) r r<|Yg (gdA (beq_ff H7)) (Y.conv ki3 ki57 r)<|Yg (gdA (beq_ff H7)) (Y.shr (wrap_u_nonneg r _) r r)<|Qg 1 (beq_ff H7) r r<|Yo (Pf H7 r)<|Nl<|Bg () []
  refine Ne<|Wc r (fun H8=>Sr<|Qs 1 r<|Nx<|Wr<|Tr<|Re () []) fun H8=>Sn<|Sr<|Qs 1 r<|Bi fun E10 H11=>Fo (Mk (0 : UInt8) H11 ke29 kz5) fun V9=>Qs 1 r<|Nx<|Sq<|Sr<|Qs 3 r<|Nx<|Jn Unit [5] [] (fun _ _=>[]) (fun T _=>[.own V9 (lc T)]) r2 r2 (?_) fun T14 X15=>?_
  ·exact Wb<|Lp Unit [5] [] (fun T _=>[(0, iv T.1), (6, iv T.2.1)]) (fun T _=>[.own V9 (lc T.2.2)]) () [0] r2 r2 fun S12 X13=>Sq<|Sr<|Qs 2 r<|Nx<|Wc r (fun H16=>Sn<|Sq<|Wb<|Sr<|Qs 3 r<|Yo (Y.conv8 ki3 ki5 r)<|Bi fun E17 H18=>Yo (Ix ke29 (Oc 0 r) H18 r)<|Fu (Se (toU8 S12.1) 0 kk5 H18 r (Cp r) r)<|Nx<|Rg<|Qs 1 r<|Yo (Y.shr (by decide) r r)<|Qs 1 r<|Nl<|Bn<|Ne<|Rg<|Qs 3 r<|Nl<|Lg () [0]) fun H16=>Wx<|Tx<|Ex<|Be<|Jg () [0]
  exact Ne<|Sr<|Qs 1 r<|Yo (Y.toStr ke29 ki5 ks9 (Oc 0 r) r)<|Qs 1 r<|Nx<|Wr<|Re () []

/-- loop.example/g00950/impl.NonceOf -/
noncomputable def impl_NonceOf (kind : Int) (n : Int) : Option (List UInt8) :=
  ((impl_inRange kind (0 : Int) (255 : Int)).bind fun R3 =>
  if (!R3) = true then (some true)
  else ((impl_inRange n (0 : Int) (562949953421311 : Int)).bind fun R7 =>
  some (!R7))).bind (fun (T1 : Bool) =>
  if T1 = true then (some ([]))
  else ((impl_Fixed n (7 : Int)).bind fun R12 =>
  (cat ([toU8 kind, (0 : UInt8), (0 : UInt8), (0 : UInt8), (0 : UInt8)]) R12).bind fun E17 =>
  some E17))

theorem impl_NonceOf_c {kind : Int} {n : Int} : Cn Try.prog 38 [iv kind, iv n] [] [] (impl_NonceOf kind n) (fun r (_ : Unit) => strV r) fun _ _ => [] := by
  unfold impl_NonceOf
  refine Ci Try.func38 r r ?_
  rintro w S -
  refine Sr<|Qs 1 r<|Nx<|Sq<|Sq<|Jv [0,1] (fun T=>[(12, .bool T)]) r1 (?_) fun T1=>?_
  ·exact Rg<|Qs 1 r<|Bi fun R3 H4=>Fo (Cl [] impl_inRange_c H4 r r1) fun _=>Qs 2 r<|It (fun H6=>Of 3 (beq_tf H6) r r<|Yo (Pt H6 r)<|Nl<|Bg () []) fun H6=>Qg 1 (beq_ff H6) r r<|Bi fun R7 H8=>Fg (gdA (beq_ff H6)) (Cl [] impl_inRange_c H8 r r1) fun _=>Qg 1 (beq_ff H6) r r<|Yo (Pf H6 r)<|Nl<|Bg () []
  refine Ne<|Wc r (fun H10=>Sr<|Qs 1 r<|Nx<|Wr<|Tr<|Re () []) fun H10=>Sn<|Sq<|Wi fun R12 H13=>Wi fun E17 H18=>Jw Unit [] [] (fun _=>[(4, strV E17)]) (fun _=>[]) r1 r1 (?_) fun X20=>?_
  ·refine Dr [] r hMix<|Aq [0] [] r<|Ay 1 [] r (Y.conv8 ki3 ki5 r)<|Aq [4] [] r<|A2 2 5 (?_)<|?_
   ·exact Xe [] r (Bs [toU8 kind, (0 : UInt8), (0 : UInt8), (0 : UInt8), (0 : UInt8)] ke29 kz5) fun B21=>A2 3 5 (Xy [] r (Y.toStr ke29 ki5 ks9 (Oc 0 r) r)<|A1 5<|Xe [] r (Cl [] impl_Fixed_c H13 r r1) fun _=>Ay 6 [] r (Y.cat H18 r r)<|Aq [7] [] r<|Az<|Bg () [])<|Xe [] r (Cl [] impl_Fixed_c H13 r r1) fun _=>A1 3<|Xy [] r (Y.toStr ke29 ki5 ks9 (Oc 0 r) r)<|Ay 6 [] r (Y.cat H18 r r)<|Aq [7] [] r<|Az<|Bg () []
   exact Xe [] r (Cl [] impl_Fixed_c H13 r r1) fun _=>A1 2<|Xe [] r (Bs [toU8 kind, (0 : UInt8), (0 : UInt8), (0 : UInt8), (0 : UInt8)] ke29 kz5) fun B23=>A1 3<|Xy [] r (Y.toStr ke29 ki5 ks9 (Oc 0 r) r)<|Ay 6 [] r (Y.cat H18 r r)<|Aq [7] [] r<|Az<|Bg () []
  exact Ne<|Wr<|Re () []

/-- loop.example/g00950/impl.rowNonce -/
noncomputable def impl_rowNonce (boot : Int) (seq : Int) : Option (List UInt8) :=
  (impl_NonceOf (3 : Int) (IntKind.i64.wrap (IntKind.i64.wrap (boot * (1000000 : Int)) + seq))).bind fun R1 =>
  some R1

theorem impl_rowNonce_c {boot : Int} {seq : Int} : Cn Try.prog 20 [iv boot, iv seq] [] [] (impl_rowNonce boot seq) (fun r (_ : Unit) => strV r) fun _ _ => [] := by
  unfold impl_rowNonce
  refine Ci Try.func20 r r ?_
  rintro w S -
  exact Sr<|Qs 1 r<|Nx<|Sr<|Qs 4 r<|Bi fun R1 H2=>Fo (Cl [] impl_NonceOf_c H2 r r1) fun _=>Qs 1 r<|Nx<|Wr<|Re () []

/-- loop.example/g00950/impl.isCha -/
noncomputable def impl_isCha (key : List UInt8) (counter : Int) (nonce : List UInt8) : Option Bool :=
  (if (decide (((key.length : Nat) : Int) = (32 : Int))) = true then ((impl_inRange counter (0 : Int) (4294967295 : Int)).bind fun R4 =>
  if R4 = true then (some (decide (((nonce.length : Nat) : Int) = (12 : Int))))
  else (some false))
  else (some false)).bind (fun (T1 : Bool) =>
  some T1)

theorem impl_isCha_c {key : List UInt8} {counter : Int} {nonce : List UInt8} : Cn Try.prog 36 [strV key, iv counter, strV nonce] [] [] (impl_isCha key counter nonce) (fun r (_ : Unit) => .bool r) fun _ _ => [] := by
  unfold impl_isCha
  refine Ci Try.func36 r r ?_
  rintro w S -
  refine Sr<|Qs 1 r<|Nx<|Sq<|Jv [] (fun T=>[(6, .bool T)]) r1 (?_) fun T1=>?_
  ·refine Rg<|Qs 1 r<|Yo (Y.slen ks9 r)<|Qs 2 r<|It (fun H3=>?_) fun H3=>?_
   ·exact Qg 1 (beq_tt H3) r r<|Bi fun R4 H5=>Fg (gdA (beq_tt H3)) (Cl [] impl_inRange_c H5 r r1) fun _=>Yo (Pt H3 r)<|Qs 1 r<|It (fun H7=>Qg 1 (beq_tt H7) r r<|Yg (gdA (beq_tt H7)) (Y.slen ks9 r)<|Qg 1 (beq_tt H7) r r<|Yo (Pt H7 r)<|Qs 1 r<|Nl<|Bg () []) fun H7=>Of 3 (beq_ft H7) r r<|Yo (Pf H7 r)<|Qs 1 r<|Nl<|Bg () []
   exact Of 2 (beq_ft H3) r r<|Yo (Pf H3 r)<|Qs 1 r<|Of 3 r r r<|Yo (Pf r r)<|Qs 1 r<|Nl<|Bg () []
  exact Ne<|Wr<|Re () []

/-- loop.example/g00950/impl.little -/
noncomputable def impl_little (s : List UInt8) (at_ : Int) : Option Int :=
  (sidx s at_).bind fun E1 =>
  (sidx s (IntKind.i64.wrap (at_ + (1 : Int)))).bind fun E3 =>
  (sidx s (IntKind.i64.wrap (at_ + (2 : Int)))).bind fun E5 =>
  (sidx s (IntKind.i64.wrap (at_ + (3 : Int)))).bind fun E7 =>
  some (ior .u32 (ior .u32 (ior .u32 (IntKind.u32.wrap ((E1.toNat : Nat) : Int)) (ishl .u32 (IntKind.u32.wrap ((E3.toNat : Nat) : Int)) (8 : Int))) (ishl .u32 (IntKind.u32.wrap ((E5.toNat : Nat) : Int)) (16 : Int))) (ishl .u32 (IntKind.u32.wrap ((E7.toNat : Nat) : Int)) (24 : Int)))

theorem impl_little_c {s : List UInt8} {at_ : Int} : Cn Try.prog 75 [strV s, iv at_] [] [] (impl_little s at_) (fun r (_ : Unit) => .int .u32 r) fun _ _ => [] := by
  unfold impl_little
  refine Ci Try.func75 r r ?_
  rintro w S -
  exact Sr<|Qs 1 r<|Nx<|Sq<|Dr [] r hMix<|Aq [0,1] [] r<|Ai fun E1 H2=>Ay 2 [] r (Y.sidx H2 ks9 r r)<|Ay 3 [] r (Y.conv ki5 ki86 r)<|Aq [4,5,6] [] r<|Ai fun E3 H4=>Ay 7 [] r (Y.sidx H4 ks9 r r)<|Ay 8 [] r (Y.conv ki5 ki86 r)<|Ay 9 [] r (Y.shl (by decide) r r)<|Aq [10,11,12,13] [] r<|Ai fun E5 H6=>Ay 14 [] r (Y.sidx H6 ks9 r r)<|Ay 15 [] r (Y.conv ki5 ki86 r)<|Ay 16 [] r (Y.shl (by decide) r r)<|Aq [17,18,19,20] [] r<|Ai fun E7 H8=>Ay 21 [] r (Y.sidx H8 ks9 r r)<|Ay 22 [] r (Y.conv ki5 ki86 r)<|Ay 23 [] r (Y.shl (by decide) r r)<|Aq [24,25] [] r<|Az<|Ne<|Wr<|Re () []

/-- loop.example/g00950/impl.firstWords -/
noncomputable def impl_firstWords (key : List UInt8) (counter : Int) (nonce : List UInt8) : Option (List Wrd) :=
  (lenIs 16 ([(Wrd.mk (1634760805 : Int)), (Wrd.mk (857760878 : Int)), (Wrd.mk (2036477234 : Int)), (Wrd.mk (1797285236 : Int)), (Wrd.mk (0 : Int)), (Wrd.mk (0 : Int)), (Wrd.mk (0 : Int)), (Wrd.mk (0 : Int)), (Wrd.mk (0 : Int)), (Wrd.mk (0 : Int)), (Wrd.mk (0 : Int)), (Wrd.mk (0 : Int)), (Wrd.mk (0 : Int)), (Wrd.mk (0 : Int)), (Wrd.mk (0 : Int)), (Wrd.mk (0 : Int))])).bind fun E3 =>
  bindC (loopO (fun (S5 : Int × List Wrd) => if (decide (S5.1 < (8 : Int))) = true then ((impl_little key (IntKind.i64.wrap ((4 : Int) * S5.1))).bind fun R10 =>
  (idx S5.2 (IntKind.i64.wrap ((4 : Int) + S5.1))).bind fun E13 =>
  some (.go (IntKind.i64.wrap (S5.1 + (1 : Int)), (S5.2.set ((IntKind.i64.wrap ((4 : Int) + S5.1)).toNat) (Wrd.mk R10)))))
  else (some (.done (.go S5.2))))
  ((0 : Int), ([(Wrd.mk (1634760805 : Int)), (Wrd.mk (857760878 : Int)), (Wrd.mk (2036477234 : Int)), (Wrd.mk (1797285236 : Int)), (Wrd.mk (0 : Int)), (Wrd.mk (0 : Int)), (Wrd.mk (0 : Int)), (Wrd.mk (0 : Int)), (Wrd.mk (0 : Int)), (Wrd.mk (0 : Int)), (Wrd.mk (0 : Int)), (Wrd.mk (0 : Int)), (Wrd.mk (0 : Int)), (Wrd.mk (0 : Int)), (Wrd.mk (0 : Int)), (Wrd.mk (0 : Int))])))
  (fun (T7 : List Wrd) => (idx T7 (12 : Int)).bind fun E15 =>
  bindC (loopO (fun (S17 : Int × List Wrd) => if (decide (S17.1 < (3 : Int))) = true then ((impl_little nonce (IntKind.i64.wrap ((4 : Int) * S17.1))).bind fun R22 =>
  (idx S17.2 (IntKind.i64.wrap ((13 : Int) + S17.1))).bind fun E25 =>
  some (.go (IntKind.i64.wrap (S17.1 + (1 : Int)), (S17.2.set ((IntKind.i64.wrap ((13 : Int) + S17.1)).toNat) (Wrd.mk R22)))))
  else (some (.done (.go S17.2))))
  ((0 : Int), (T7.set ((12 : Int).toNat) (Wrd.mk (IntKind.u32.wrap counter)))))
  (fun (T19 : List Wrd) => (lenIs 16 T19).bind fun E27 =>
  some T19))

theorem impl_firstWords_c {key : List UInt8} {counter : Int} {nonce : List UInt8} : Cn Try.prog 62 [strV key, iv counter, strV nonce] [] [] (impl_firstWords key counter nonce) (fun r (_ : Unit) => arrV r) fun _ _ => [] := by
  unfold impl_firstWords
  refine Ci Try.func62 r r ?_
  rintro w S -
  refine Sr<|Fo (Ef.allocArr (α := Wrd) (List.replicate 16 (Wrd.mk 0)) kz87 r (by decide)) fun B1=>Nx<|Sr<|Yo (Y.build_arr (cells := [.int .u32 (1634760805 : Int), .int .u32 (857760878 : Int), .int .u32 (2036477234 : Int), .int .u32 (1797285236 : Int), .int .u32 (0 : Int), .int .u32 (0 : Int), .int .u32 (0 : Int), .int .u32 (0 : Int), .int .u32 (0 : Int), .int .u32 (0 : Int), .int .u32 (0 : Int), .int .u32 (0 : Int), .int .u32 (0 : Int), .int .u32 (0 : Int), .int .u32 (0 : Int), .int .u32 (0 : Int)]) (v := arrV ([(Wrd.mk (1634760805 : Int)), (Wrd.mk (857760878 : Int)), (Wrd.mk (2036477234 : Int)), (Wrd.mk (1797285236 : Int)), (Wrd.mk (0 : Int)), (Wrd.mk (0 : Int)), (Wrd.mk (0 : Int)), (Wrd.mk (0 : Int)), (Wrd.mk (0 : Int)), (Wrd.mk (0 : Int)), (Wrd.mk (0 : Int)), (Wrd.mk (0 : Int)), (Wrd.mk (0 : Int)), (Wrd.mk (0 : Int)), (Wrd.mk (0 : Int)), (Wrd.mk (0 : Int))])) [(0, [.int .u32 (1634760805 : Int)]), (1, [.int .u32 (857760878 : Int)]), (2, [.int .u32 (2036477234 : Int)]), (3, [.int .u32 (1797285236 : Int)])] ka87 kz87 ⟨r, ⟨_, r, (Cp r)⟩, ⟨r, ⟨_, r, (Cp r)⟩, ⟨r, ⟨_, r, (Cp r)⟩, ⟨r, ⟨_, r, (Cp r)⟩, ⟨⟩⟩⟩⟩⟩ r r r)<|Fo (Ef.allocArr (α := Wrd) (List.replicate 16 (Wrd.mk 0)) kz87 r (by decide)) fun B2=>?_
  refine Bi fun E3 H4=>Fu (Ef.store_arr (α := Wrd) (is' := [.own (arrS B2 16) (lc ([(Wrd.mk (1634760805 : Int)), (Wrd.mk (857760878 : Int)), (Wrd.mk (2036477234 : Int)), (Wrd.mk (1797285236 : Int)), (Wrd.mk (0 : Int)), (Wrd.mk (0 : Int)), (Wrd.mk (0 : Int)), (Wrd.mk (0 : Int)), (Wrd.mk (0 : Int)), (Wrd.mk (0 : Int)), (Wrd.mk (0 : Int)), (Wrd.mk (0 : Int)), (Wrd.mk (0 : Int)), (Wrd.mk (0 : Int)), (Wrd.mk (0 : Int)), (Wrd.mk (0 : Int))])), .own (arrS B1 16) (lc (List.replicate 16 (Wrd.mk 0)))]) 0 kk87 r (by decide) (lenIs_eq H4) r r r r)<|Nx<|Sq<|Sr<|Qs 1 r<|Nx<|Jn Unit [1,2,6,7] [1] (fun _ _=>[]) (fun T _=>[.own (arrS B2 16) (lc T)]) r2 r2 (?_) fun T7 X8=>?_
  ·exact Wb<|Lp Unit [0,1,2,6,7] [1] (fun T _=>[(11, iv T.1)]) (fun T _=>[.own (arrS B2 16) (lc T.2)]) () [1,0] r2 r2 fun S5 X6=>Sr<|Qs 1 r<|Nx<|Sq<|Wc r (fun H9=>Sn<|Sq<|Wb<|Sr<|Qs 2 r<|Nx<|Rg<|Qs 5 r<|Bi fun R10 H11=>Fo (Cl [] impl_little_c H11 r r1) fun _=>Bi fun E13 H14=>Yo (Y.index_arr (α := Wrd) ka87 (Oc 1 r) H14 r r)<|Fu (Se (Wrd.mk R10) 1 kk86 H14 r (Cp r) r)<|Nl<|Bn<|Ne<|Rg<|Qs 2 r<|Nl<|Lg () [0,0]) fun H9=>Wx<|Tx<|Ex<|Be<|Jg () [0,0]
  refine Ne<|Sr<|Qs 1 r<|Yo (Y.conv ki3 ki86 r)<|Bi fun E15 H16=>Yo (Y.index_arr (α := Wrd) ka87 (Oc 1 r) H16 r r)<|Fu (Se (Wrd.mk (IntKind.u32.wrap counter)) 1 kk86 H16 r (Cp r) r)<|Nx<|Sq<|Sr<|Qs 1 r<|Nx<|Jn Unit [6,7] [0] (fun _ _=>[]) (fun T _=>[.own (arrS B2 16) (lc T)]) r2 r2 (?_) fun T19 X20=>?_
  ·exact Wb<|Lp Unit [2,6,7] [0] (fun T _=>[(25, iv T.1)]) (fun T _=>[.own (arrS B2 16) (lc T.2)]) () [0,0] r2 r2 fun S17 X18=>Sr<|Qs 1 r<|Nx<|Sq<|Wc r (fun H21=>Sn<|Sq<|Wb<|Sr<|Qs 2 r<|Nx<|Rg<|Qs 5 r<|Bi fun R22 H23=>Fo (Cl [] impl_little_c H23 r r1) fun _=>Bi fun E25 H26=>Yo (Y.index_arr (α := Wrd) ka87 (Oc 1 r) H26 r r)<|Fu (Se (Wrd.mk R22) 1 kk86 H26 r (Cp r) r)<|Nl<|Bn<|Ne<|Rg<|Qs 2 r<|Nl<|Lg () [0,0]) fun H21=>Wx<|Tx<|Ex<|Be<|Jg () [0,0]
  exact Ne<|Sr<|Yo (Y.load_arr (α := Wrd) kk87 r (by decide) (Oc 1 r) r)<|Bi fun E27 H28=>Fu (Ef.store_arr (α := Wrd) (is' := [.own (arrS B1 16) (lc T19), .own (arrS B2 16) (lc T19)]) 0 kk87 r (by decide) (lenIs_eq H28) r r r r)<|Nx<|Wr<|TE.leaf fun _ _ hf_ hs_ => ret_any (rs := [.cell 6 87]) (vs := [arrV T19]) (.inl r) r (RV.cell_arr (α := Wrd) (i := 0) r r kk87 r (by decide) ⟨⟩) hf_ hs_ ⟨(), r, hs_.pulls [] r⟩

/-- math/bits.RotateLeft32 -/
noncomputable def math_bits_RotateLeft32 (x : Int) (k : Int) : Option Int :=
  (nn (iand .u64 (IntKind.u64.wrap k) (31 : Int))).bind fun E1 =>
  some (ior .u32 (ishl .u32 x (iand .u64 (IntKind.u64.wrap k) (31 : Int))) (ishr .u32 x (IntKind.u64.wrap ((32 : Int) - (iand .u64 (IntKind.u64.wrap k) (31 : Int))))))

theorem math_bits_RotateLeft32_c {x : Int} {k : Int} : Cn Try.prog 76 [.int .u32 x, iv k] [] [] (math_bits_RotateLeft32 x k) (fun r (_ : Unit) => .int .u32 r) fun _ _ => [] := by
  unfold math_bits_RotateLeft32
  refine Ci Try.func76 r r ?_
  rintro w S -
  exact Sr<|Qs 1 r<|Nx<|Sr<|Qs 1 r<|Yo (Y.conv ki3 ki57 r)<|Qs 2 r<|Nx<|Sr<|Qs 2 r<|Bi fun E1 H2=>Yo (Y.shl (nn_ge H2) r r)<|Qs 3 r<|Yo (Y.shr (wrap_u_nonneg r _) r r)<|Qs 2 r<|Nx<|Wr<|Re () []

/-- loop.example/g00950/impl.quarter -/
noncomputable def impl_quarter (w_ : List Wrd) (a : Int) (b : Int) (c : Int) (d : Int) : Option (List Wrd) :=
  (idx w_ a).bind fun E1 =>
  (idx w_ b).bind fun E3 =>
  (idx (w_.set a.toNat (Wrd.mk (IntKind.u32.wrap (E1.v + E3.v)))) d).bind fun E7 =>
  (idx (w_.set a.toNat (Wrd.mk (IntKind.u32.wrap (E1.v + E3.v)))) a).bind fun E9 =>
  (math_bits_RotateLeft32 (ixor .u32 E7.v E9.v) (16 : Int)).bind fun R11 =>
  (idx ((w_.set a.toNat (Wrd.mk (IntKind.u32.wrap (E1.v + E3.v)))).set d.toNat (Wrd.mk R11)) c).bind fun E16 =>
  (idx ((w_.set a.toNat (Wrd.mk (IntKind.u32.wrap (E1.v + E3.v)))).set d.toNat (Wrd.mk R11)) d).bind fun E18 =>
  (idx (((w_.set a.toNat (Wrd.mk (IntKind.u32.wrap (E1.v + E3.v)))).set d.toNat (Wrd.mk R11)).set c.toNat (Wrd.mk (IntKind.u32.wrap (E16.v + E18.v)))) b).bind fun E22 =>
  (idx (((w_.set a.toNat (Wrd.mk (IntKind.u32.wrap (E1.v + E3.v)))).set d.toNat (Wrd.mk R11)).set c.toNat (Wrd.mk (IntKind.u32.wrap (E16.v + E18.v)))) c).bind fun E24 =>
  (math_bits_RotateLeft32 (ixor .u32 E22.v E24.v) (12 : Int)).bind fun R26 =>
  (idx ((((w_.set a.toNat (Wrd.mk (IntKind.u32.wrap (E1.v + E3.v)))).set d.toNat (Wrd.mk R11)).set c.toNat (Wrd.mk (IntKind.u32.wrap (E16.v + E18.v)))).set b.toNat (Wrd.mk R26)) a).bind fun E31 =>
  (idx ((((w_.set a.toNat (Wrd.mk (IntKind.u32.wrap (E1.v + E3.v)))).set d.toNat (Wrd.mk R11)).set c.toNat (Wrd.mk (IntKind.u32.wrap (E16.v + E18.v)))).set b.toNat (Wrd.mk R26)) b).bind fun E33 =>
  (idx (((((w_.set a.toNat (Wrd.mk (IntKind.u32.wrap (E1.v + E3.v)))).set d.toNat (Wrd.mk R11)).set c.toNat (Wrd.mk (IntKind.u32.wrap (E16.v + E18.v)))).set b.toNat (Wrd.mk R26)).set a.toNat (Wrd.mk (IntKind.u32.wrap (E31.v + E33.v)))) d).bind fun E37 =>
  (idx (((((w_.set a.toNat (Wrd.mk (IntKind.u32.wrap (E1.v + E3.v)))).set d.toNat (Wrd.mk R11)).set c.toNat (Wrd.mk (IntKind.u32.wrap (E16.v + E18.v)))).set b.toNat (Wrd.mk R26)).set a.toNat (Wrd.mk (IntKind.u32.wrap (E31.v + E33.v)))) a).bind fun E39 =>
  (math_bits_RotateLeft32 (ixor .u32 E37.v E39.v) (8 : Int)).bind fun R41 =>
  (idx ((((((w_.set a.toNat (Wrd.mk (IntKind.u32.wrap (E1.v + E3.v)))).set d.toNat (Wrd.mk R11)).set c.toNat (Wrd.mk (IntKind.u32.wrap (E16.v + E18.v)))).set b.toNat (Wrd.mk R26)).set a.toNat (Wrd.mk (IntKind.u32.wrap (E31.v + E33.v)))).set d.toNat (Wrd.mk R41)) c).bind fun E46 =>
  (idx ((((((w_.set a.toNat (Wrd.mk (IntKind.u32.wrap (E1.v + E3.v)))).set d.toNat (Wrd.mk R11)).set c.toNat (Wrd.mk (IntKind.u32.wrap (E16.v + E18.v)))).set b.toNat (Wrd.mk R26)).set a.toNat (Wrd.mk (IntKind.u32.wrap (E31.v + E33.v)))).set d.toNat (Wrd.mk R41)) d).bind fun E48 =>
  (idx (((((((w_.set a.toNat (Wrd.mk (IntKind.u32.wrap (E1.v + E3.v)))).set d.toNat (Wrd.mk R11)).set c.toNat (Wrd.mk (IntKind.u32.wrap (E16.v + E18.v)))).set b.toNat (Wrd.mk R26)).set a.toNat (Wrd.mk (IntKind.u32.wrap (E31.v + E33.v)))).set d.toNat (Wrd.mk R41)).set c.toNat (Wrd.mk (IntKind.u32.wrap (E46.v + E48.v)))) b).bind fun E52 =>
  (idx (((((((w_.set a.toNat (Wrd.mk (IntKind.u32.wrap (E1.v + E3.v)))).set d.toNat (Wrd.mk R11)).set c.toNat (Wrd.mk (IntKind.u32.wrap (E16.v + E18.v)))).set b.toNat (Wrd.mk R26)).set a.toNat (Wrd.mk (IntKind.u32.wrap (E31.v + E33.v)))).set d.toNat (Wrd.mk R41)).set c.toNat (Wrd.mk (IntKind.u32.wrap (E46.v + E48.v)))) c).bind fun E54 =>
  (math_bits_RotateLeft32 (ixor .u32 E52.v E54.v) (7 : Int)).bind fun R56 =>
  some ((((((((w_.set a.toNat (Wrd.mk (IntKind.u32.wrap (E1.v + E3.v)))).set d.toNat (Wrd.mk R11)).set c.toNat (Wrd.mk (IntKind.u32.wrap (E16.v + E18.v)))).set b.toNat (Wrd.mk R26)).set a.toNat (Wrd.mk (IntKind.u32.wrap (E31.v + E33.v)))).set d.toNat (Wrd.mk R41)).set c.toNat (Wrd.mk (IntKind.u32.wrap (E46.v + E48.v)))).set b.toNat (Wrd.mk R56))

theorem impl_quarter_c {w_ : List Wrd} {a : Int} {b : Int} {c : Int} {d : Int} {U0 : Nat} : Cn Try.prog 63 [pt U0, iv a, iv b, iv c, iv d] [.own (arrS U0 16) (lc w_)] [] (impl_quarter w_ a b c d) (fun _ (_ : Unit) => .tuple #[]) fun r _ => [.own (arrS U0 16) (lc r)] := by
  unfold impl_quarter
  refine Ci Try.func63 r r ?_
  rintro w S -
  refine Sq<|Wi fun E1 H2=>Wi fun E3 H4=>Jw Unit [0,1,2,3,4] [] (fun _=>[]) (fun _=>[.own (arrS U0 16) (lc (w_.set a.toNat (Wrd.mk (IntKind.u32.wrap (E1.v + E3.v)))))]) r1 r1 (?_) fun X6=>?_
  ·refine Dr [] r hMix<|Aq [0,1,2,5,6,7,11] [] r<|A2 3 8 (?_)<|?_
   ·refine Xy [] r (Y.index_arr (α := Wrd) ka87 (Oc 0 r) H2 r r)<|A2 4 8 (?_)<|?_
    ·exact Xy [] r (Le kk86 (Oc 0 r) H2 r)<|A1 8<|Xy [] r (Y.index_arr (α := Wrd) ka87 (Oc 0 r) H4 r r)<|A1 9<|Xy [] r (Le kk86 (Oc 0 r) H4 r)<|Aq [10] [] r<|A1 12<|Xy [] r (Y.index_arr (α := Wrd) ka87 (Oc 0 r) H2 r r)<|A1 13<|Xu [] r (Se (Wrd.mk (IntKind.u32.wrap (E1.v + E3.v))) 0 kk86 H2 r (Cp r) r)<|Az<|Bg () [0]
    exact Xy [] r (Y.index_arr (α := Wrd) ka87 (Oc 0 r) H4 r r)<|A2 4 9 (Xy [] r (Le kk86 (Oc 0 r) H2 r)<|A1 9<|Xy [] r (Le kk86 (Oc 0 r) H4 r)<|Aq [10] [] r<|A1 12<|Xy [] r (Y.index_arr (α := Wrd) ka87 (Oc 0 r) H2 r r)<|A1 13<|Xu [] r (Se (Wrd.mk (IntKind.u32.wrap (E1.v + E3.v))) 0 kk86 H2 r (Cp r) r)<|Az<|Bg () [0])<|Xy [] r (Le kk86 (Oc 0 r) H4 r)<|A1 4<|Xy [] r (Le kk86 (Oc 0 r) H2 r)<|Aq [10] [] r<|A1 12<|Xy [] r (Y.index_arr (α := Wrd) ka87 (Oc 0 r) H2 r r)<|A1 13<|Xu [] r (Se (Wrd.mk (IntKind.u32.wrap (E1.v + E3.v))) 0 kk86 H2 r (Cp r) r)<|Az<|Bg () [0]
   refine Xy [] r (Y.index_arr (α := Wrd) ka87 (Oc 0 r) H4 r r)<|A2 3 9 (?_)<|?_
   ·exact Xy [] r (Y.index_arr (α := Wrd) ka87 (Oc 0 r) H2 r r)<|A2 4 9 (Xy [] r (Le kk86 (Oc 0 r) H2 r)<|A1 9<|Xy [] r (Le kk86 (Oc 0 r) H4 r)<|Aq [10] [] r<|A1 12<|Xy [] r (Y.index_arr (α := Wrd) ka87 (Oc 0 r) H2 r r)<|A1 13<|Xu [] r (Se (Wrd.mk (IntKind.u32.wrap (E1.v + E3.v))) 0 kk86 H2 r (Cp r) r)<|Az<|Bg () [0])<|Xy [] r (Le kk86 (Oc 0 r) H4 r)<|A1 4<|Xy [] r (Le kk86 (Oc 0 r) H2 r)<|Aq [10] [] r<|A1 12<|Xy [] r (Y.index_arr (α := Wrd) ka87 (Oc 0 r) H2 r r)<|A1 13<|Xu [] r (Se (Wrd.mk (IntKind.u32.wrap (E1.v + E3.v))) 0 kk86 H2 r (Cp r) r)<|Az<|Bg () [0]
   exact Xy [] r (Le kk86 (Oc 0 r) H4 r)<|A1 3<|Xy [] r (Y.index_arr (α := Wrd) ka87 (Oc 0 r) H2 r r)<|A1 4<|Xy [] r (Le kk86 (Oc 0 r) H2 r)<|Aq [10] [] r<|A1 12<|Xy [] r (Y.index_arr (α := Wrd) ka87 (Oc 0 r) H2 r r)<|A1 13<|Xu [] r (Se (Wrd.mk (IntKind.u32.wrap (E1.v + E3.v))) 0 kk86 H2 r (Cp r) r)<|Az<|Bg () [0]
  refine Ne<|Sq<|Wi fun E7 H8=>Wi fun E9 H10=>Wi fun R11 H12=>Jw Unit [0,1,2,3,4] [] (fun _=>[]) (fun _=>[.own (arrS U0 16) (lc ((w_.set a.toNat (Wrd.mk (IntKind.u32.wrap (E1.v + E3.v)))).set d.toNat (Wrd.mk R11)))]) r1 r1 (?_) fun X15=>?_
  ·refine Dr [] r hMix<|Aq [0,1,2,3,4,7,8,9,14] [] r<|A2 5 10 (?_)<|?_
   ·refine Xy [] r (Y.index_arr (α := Wrd) ka87 (Oc 0 r) H8 r r)<|A2 6 10 (?_)<|?_
    ·exact Xy [] r (Le kk86 (Oc 0 r) H8 r)<|A1 10<|Xy [] r (Y.index_arr (α := Wrd) ka87 (Oc 0 r) H10 r r)<|A1 11<|Xy [] r (Le kk86 (Oc 0 r) H10 r)<|Aq [12] [] r<|A1 13<|Xe [] r (Cl [] math_bits_RotateLeft32_c H12 r r1) fun _=>A1 15<|Xy [] r (Y.index_arr (α := Wrd) ka87 (Oc 0 r) H8 r r)<|A1 16<|Xu [] r (Se (Wrd.mk R11) 0 kk86 H8 r (Cp r) r)<|Az<|Bg () [0]
    refine Xy [] r (Y.index_arr (α := Wrd) ka87 (Oc 0 r) H10 r r)<|A2 6 11 (?_)<|?_
    ·exact Xy [] r (Le kk86 (Oc 0 r) H8 r)<|A1 11<|Xy [] r (Le kk86 (Oc 0 r) H10 r)<|Aq [12] [] r<|A1 13<|Xe [] r (Cl [] math_bits_RotateLeft32_c H12 r r1) fun _=>A1 15<|Xy [] r (Y.index_arr (α := Wrd) ka87 (Oc 0 r) H8 r r)<|A1 16<|Xu [] r (Se (Wrd.mk R11) 0 kk86 H8 r (Cp r) r)<|Az<|Bg () [0]
    exact Xy [] r (Le kk86 (Oc 0 r) H10 r)<|A1 6<|Xy [] r (Le kk86 (Oc 0 r) H8 r)<|Aq [12] [] r<|A1 13<|Xe [] r (Cl [] math_bits_RotateLeft32_c H12 r r1) fun _=>A1 15<|Xy [] r (Y.index_arr (α := Wrd) ka87 (Oc 0 r) H8 r r)<|A1 16<|Xu [] r (Se (Wrd.mk R11) 0 kk86 H8 r (Cp r) r)<|Az<|Bg () [0]
   refine Xy [] r (Y.index_arr (α := Wrd) ka87 (Oc 0 r) H10 r r)<|A2 5 11 (?_)<|?_
   ·refine Xy [] r (Y.index_arr (α := Wrd) ka87 (Oc 0 r) H8 r r)<|A2 6 11 (?_)<|?_
    ·exact Xy [] r (Le kk86 (Oc 0 r) H8 r)<|A1 11<|Xy [] r (Le kk86 (Oc 0 r) H10 r)<|Aq [12] [] r<|A1 13<|Xe [] r (Cl [] math_bits_RotateLeft32_c H12 r r1) fun _=>A1 15<|Xy [] r (Y.index_arr (α := Wrd) ka87 (Oc 0 r) H8 r r)<|A1 16<|Xu [] r (Se (Wrd.mk R11) 0 kk86 H8 r (Cp r) r)<|Az<|Bg () [0]
    exact Xy [] r (Le kk86 (Oc 0 r) H10 r)<|A1 6<|Xy [] r (Le kk86 (Oc 0 r) H8 r)<|Aq [12] [] r<|A1 13<|Xe [] r (Cl [] math_bits_RotateLeft32_c H12 r r1) fun _=>A1 15<|Xy [] r (Y.index_arr (α := Wrd) ka87 (Oc 0 r) H8 r r)<|A1 16<|Xu [] r (Se (Wrd.mk R11) 0 kk86 H8 r (Cp r) r)<|Az<|Bg () [0]
   exact Xy [] r (Le kk86 (Oc 0 r) H10 r)<|A1 5<|Xy [] r (Y.index_arr (α := Wrd) ka87 (Oc 0 r) H8 r r)<|A1 6<|Xy [] r (Le kk86 (Oc 0 r) H8 r)<|Aq [12] [] r<|A1 13<|Xe [] r (Cl [] math_bits_RotateLeft32_c H12 r r1) fun _=>A1 15<|Xy [] r (Y.index_arr (α := Wrd) ka87 (Oc 0 r) H8 r r)<|A1 16<|Xu [] r (Se (Wrd.mk R11) 0 kk86 H8 r (Cp r) r)<|Az<|Bg () [0]
  refine Ne<|Sq<|Wi fun E16 H17=>Wi fun E18 H19=>Jw Unit [0,1,2,3,4] [] (fun _=>[]) (fun _=>[.own (arrS U0 16) (lc (((w_.set a.toNat (Wrd.mk (IntKind.u32.wrap (E1.v + E3.v)))).set d.toNat (Wrd.mk R11)).set c.toNat (Wrd.mk (IntKind.u32.wrap (E16.v + E18.v)))))]) r1 r1 (?_) fun X21=>?_
  ·refine Dr [] r hMix<|Aq [0,1,2,5,6,7,11] [] r<|A2 3 8 (?_)<|?_
   ·refine Xy [] r (Y.index_arr (α := Wrd) ka87 (Oc 0 r) H17 r r)<|A2 4 8 (?_)<|?_
    ·exact Xy [] r (Le kk86 (Oc 0 r) H17 r)<|A1 8<|Xy [] r (Y.index_arr (α := Wrd) ka87 (Oc 0 r) H19 r r)<|A1 9<|Xy [] r (Le kk86 (Oc 0 r) H19 r)<|Aq [10] [] r<|A1 12<|Xy [] r (Y.index_arr (α := Wrd) ka87 (Oc 0 r) H17 r r)<|A1 13<|Xu [] r (Se (Wrd.mk (IntKind.u32.wrap (E16.v + E18.v))) 0 kk86 H17 r (Cp r) r)<|Az<|Bg () [0]
    exact Xy [] r (Y.index_arr (α := Wrd) ka87 (Oc 0 r) H19 r r)<|A2 4 9 (Xy [] r (Le kk86 (Oc 0 r) H17 r)<|A1 9<|Xy [] r (Le kk86 (Oc 0 r) H19 r)<|Aq [10] [] r<|A1 12<|Xy [] r (Y.index_arr (α := Wrd) ka87 (Oc 0 r) H17 r r)<|A1 13<|Xu [] r (Se (Wrd.mk (IntKind.u32.wrap (E16.v + E18.v))) 0 kk86 H17 r (Cp r) r)<|Az<|Bg () [0])<|Xy [] r (Le kk86 (Oc 0 r) H19 r)<|A1 4<|Xy [] r (Le kk86 (Oc 0 r) H17 r)<|Aq [10] [] r<|A1 12<|Xy [] r (Y.index_arr (α := Wrd) ka87 (Oc 0 r) H17 r r)<|A1 13<|Xu [] r (Se (Wrd.mk (IntKind.u32.wrap (E16.v + E18.v))) 0 kk86 H17 r (Cp r) r)<|Az<|Bg () [0]
   refine Xy [] r (Y.index_arr (α := Wrd) ka87 (Oc 0 r) H19 r r)<|A2 3 9 (?_)<|?_
   ·exact Xy [] r (Y.index_arr (α := Wrd) ka87 (Oc 0 r) H17 r r)<|A2 4 9 (Xy [] r (Le kk86 (Oc 0 r) H17 r)<|A1 9<|Xy [] r (Le kk86 (Oc 0 r) H19 r)<|Aq [10] [] r<|A1 12<|Xy [] r (Y.index_arr (α := Wrd) ka87 (Oc 0 r) H17 r r)<|A1 13<|Xu [] r (Se (Wrd.mk (IntKind.u32.wrap (E16.v + E18.v))) 0 kk86 H17 r (Cp r) r)<|Az<|Bg () [0])<|Xy [] r (Le kk86 (Oc 0 r) H19 r)<|A1 4<|Xy [] r (Le kk86 (Oc 0 r) H17 r)<|Aq [10] [] r<|A1 12<|Xy [] r (Y.index_arr (α := Wrd) ka87 (Oc 0 r) H17 r r)<|A1 13<|Xu [] r (Se (Wrd.mk (IntKind.u32.wrap (E16.v + E18.v))) 0 kk86 H17 r (Cp r) r)<|Az<|Bg () [0]
   exact Xy [] r (Le kk86 (Oc 0 r) H19 r)<|A1 3<|Xy [] r (Y.index_arr (α := Wrd) ka87 (Oc 0 r) H17 r r)<|A1 4<|Xy [] r (Le kk86 (Oc 0 r) H17 r)<|Aq [10] [] r<|A1 12<|Xy [] r (Y.index_arr (α := Wrd) ka87 (Oc 0 r) H17 r r)<|A1 13<|Xu [] r (Se (Wrd.mk (IntKind.u32.wrap (E16.v + E18.v))) 0 kk86 H17 r (Cp r) r)<|Az<|Bg () [0]
  refine Ne<|Sq<|Wi fun E22 H23=>Wi fun E24 H25=>Wi fun R26 H27=>Jw Unit [0,1,2,3,4] [] (fun _=>[]) (fun _=>[.own (arrS U0 16) (lc ((((w_.set a.toNat (Wrd.mk (IntKind.u32.wrap (E1.v + E3.v)))).set d.toNat (Wrd.mk R11)).set c.toNat (Wrd.mk (IntKind.u32.wrap (E16.v + E18.v)))).set b.toNat (Wrd.mk R26)))]) r1 r1 (?_) fun X30=>?_
  ·refine Dr [] r hMix<|Aq [0,1,2,3,4,7,8,9,14] [] r<|A2 5 10 (?_)<|?_
   ·refine Xy [] r (Y.index_arr (α := Wrd) ka87 (Oc 0 r) H23 r r)<|A2 6 10 (?_)<|?_
    ·exact Xy [] r (Le kk86 (Oc 0 r) H23 r)<|A1 10<|Xy [] r (Y.index_arr (α := Wrd) ka87 (Oc 0 r) H25 r r)<|A1 11<|Xy [] r (Le kk86 (Oc 0 r) H25 r)<|Aq [12] [] r<|A1 13<|Xe [] r (Cl [] math_bits_RotateLeft32_c H27 r r1) fun _=>A1 15<|Xy [] r (Y.index_arr (α := Wrd) ka87 (Oc 0 r) H23 r r)<|A1 16<|Xu [] r (Se (Wrd.mk R26) 0 kk86 H23 r (Cp r) r)<|Az<|Bg () [0]
    refine Xy [] r (Y.index_arr (α := Wrd) ka87 (Oc 0 r) H25 r r)<|A2 6 11 (?_)<|?_
    ·exact Xy [] r (Le kk86 (Oc 0 r) H23 r)<|A1 11<|Xy [] r (Le kk86 (Oc 0 r) H25 r)<|Aq [12] [] r<|A1 13<|Xe [] r (Cl [] math_bits_RotateLeft32_c H27 r r1) fun _=>A1 15<|Xy [] r (Y.index_arr (α := Wrd) ka87 (Oc 0 r) H23 r r)<|A1 16<|Xu [] r (Se (Wrd.mk R26) 0 kk86 H23 r (Cp r) r)<|Az<|Bg () [0]
    exact Xy [] r (Le kk86 (Oc 0 r) H25 r)<|A1 6<|Xy [] r (Le kk86 (Oc 0 r) H23 r)<|Aq [12] [] r<|A1 13<|Xe [] r (Cl [] math_bits_RotateLeft32_c H27 r r1) fun _=>A1 15<|Xy [] r (Y.index_arr (α := Wrd) ka87 (Oc 0 r) H23 r r)<|A1 16<|Xu [] r (Se (Wrd.mk R26) 0 kk86 H23 r (Cp r) r)<|Az<|Bg () [0]
   refine Xy [] r (Y.index_arr (α := Wrd) ka87 (Oc 0 r) H25 r r)<|A2 5 11 (?_)<|?_
   ·refine Xy [] r (Y.index_arr (α := Wrd) ka87 (Oc 0 r) H23 r r)<|A2 6 11 (?_)<|?_
    ·exact Xy [] r (Le kk86 (Oc 0 r) H23 r)<|A1 11<|Xy [] r (Le kk86 (Oc 0 r) H25 r)<|Aq [12] [] r<|A1 13<|Xe [] r (Cl [] math_bits_RotateLeft32_c H27 r r1) fun _=>A1 15<|Xy [] r (Y.index_arr (α := Wrd) ka87 (Oc 0 r) H23 r r)<|A1 16<|Xu [] r (Se (Wrd.mk R26) 0 kk86 H23 r (Cp r) r)<|Az<|Bg () [0]
    exact Xy [] r (Le kk86 (Oc 0 r) H25 r)<|A1 6<|Xy [] r (Le kk86 (Oc 0 r) H23 r)<|Aq [12] [] r<|A1 13<|Xe [] r (Cl [] math_bits_RotateLeft32_c H27 r r1) fun _=>A1 15<|Xy [] r (Y.index_arr (α := Wrd) ka87 (Oc 0 r) H23 r r)<|A1 16<|Xu [] r (Se (Wrd.mk R26) 0 kk86 H23 r (Cp r) r)<|Az<|Bg () [0]
   exact Xy [] r (Le kk86 (Oc 0 r) H25 r)<|A1 5<|Xy [] r (Y.index_arr (α := Wrd) ka87 (Oc 0 r) H23 r r)<|A1 6<|Xy [] r (Le kk86 (Oc 0 r) H23 r)<|Aq [12] [] r<|A1 13<|Xe [] r (Cl [] math_bits_RotateLeft32_c H27 r r1) fun _=>A1 15<|Xy [] r (Y.index_arr (α := Wrd) ka87 (Oc 0 r) H23 r r)<|A1 16<|Xu [] r (Se (Wrd.mk R26) 0 kk86 H23 r (Cp r) r)<|Az<|Bg () [0]
  refine Ne<|Sq<|Wi fun E31 H32=>Wi fun E33 H34=>Jw Unit [0,1,2,3,4] [] (fun _=>[]) (fun _=>[.own (arrS U0 16) (lc (((((w_.set a.toNat (Wrd.mk (IntKind.u32.wrap (E1.v + E3.v)))).set d.toNat (Wrd.mk R11)).set c.toNat (Wrd.mk (IntKind.u32.wrap (E16.v + E18.v)))).set b.toNat (Wrd.mk R26)).set a.toNat (Wrd.mk (IntKind.u32.wrap (E31.v + E33.v)))))]) r1 r1 (?_) fun X36=>?_
  ·refine Dr [] r hMix<|Aq [0,1,2,5,6,7,11] [] r<|A2 3 8 (?_)<|?_
   ·refine Xy [] r (Y.index_arr (α := Wrd) ka87 (Oc 0 r) H32 r r)<|A2 4 8 (?_)<|?_
    ·exact Xy [] r (Le kk86 (Oc 0 r) H32 r)<|A1 8<|Xy [] r (Y.index_arr (α := Wrd) ka87 (Oc 0 r) H34 r r)<|A1 9<|Xy [] r (Le kk86 (Oc 0 r) H34 r)<|Aq [10] [] r<|A1 12<|Xy [] r (Y.index_arr (α := Wrd) ka87 (Oc 0 r) H32 r r)<|A1 13<|Xu [] r (Se (Wrd.mk (IntKind.u32.wrap (E31.v + E33.v))) 0 kk86 H32 r (Cp r) r)<|Az<|Bg () [0]
    exact Xy [] r (Y.index_arr (α := Wrd) ka87 (Oc 0 r) H34 r r)<|A2 4 9 (Xy [] r (Le kk86 (Oc 0 r) H32 r)<|A1 9<|Xy [] r (Le kk86 (Oc 0 r) H34 r)<|Aq [10] [] r<|A1 12<|Xy [] r (Y.index_arr (α := Wrd) ka87 (Oc 0 r) H32 r r)<|A1 13<|Xu [] r (Se (Wrd.mk (IntKind.u32.wrap (E31.v + E33.v))) 0 kk86 H32 r (Cp r) r)<|Az<|Bg () [0])<|Xy [] r (Le kk86 (Oc 0 r) H34 r)<|A1 4<|Xy [] r (Le kk86 (Oc 0 r) H32 r)<|Aq [10] [] r<|A1 12<|Xy [] r (Y.index_arr (α := Wrd) ka87 (Oc 0 r) H32 r r)<|A1 13<|Xu [] r (Se (Wrd.mk (IntKind.u32.wrap (E31.v + E33.v))) 0 kk86 H32 r (Cp r) r)<|Az<|Bg () [0]
   refine Xy [] r (Y.index_arr (α := Wrd) ka87 (Oc 0 r) H34 r r)<|A2 3 9 (?_)<|?_
   ·exact Xy [] r (Y.index_arr (α := Wrd) ka87 (Oc 0 r) H32 r r)<|A2 4 9 (Xy [] r (Le kk86 (Oc 0 r) H32 r)<|A1 9<|Xy [] r (Le kk86 (Oc 0 r) H34 r)<|Aq [10] [] r<|A1 12<|Xy [] r (Y.index_arr (α := Wrd) ka87 (Oc 0 r) H32 r r)<|A1 13<|Xu [] r (Se (Wrd.mk (IntKind.u32.wrap (E31.v + E33.v))) 0 kk86 H32 r (Cp r) r)<|Az<|Bg () [0])<|Xy [] r (Le kk86 (Oc 0 r) H34 r)<|A1 4<|Xy [] r (Le kk86 (Oc 0 r) H32 r)<|Aq [10] [] r<|A1 12<|Xy [] r (Y.index_arr (α := Wrd) ka87 (Oc 0 r) H32 r r)<|A1 13<|Xu [] r (Se (Wrd.mk (IntKind.u32.wrap (E31.v + E33.v))) 0 kk86 H32 r (Cp r) r)<|Az<|Bg () [0]
   exact Xy [] r (Le kk86 (Oc 0 r) H34 r)<|A1 3<|Xy [] r (Y.index_arr (α := Wrd) ka87 (Oc 0 r) H32 r r)<|A1 4<|Xy [] r (Le kk86 (Oc 0 r) H32 r)<|Aq [10] [] r<|A1 12<|Xy [] r (Y.index_arr (α := Wrd) ka87 (Oc 0 r) H32 r r)<|A1 13<|Xu [] r (Se (Wrd.mk (IntKind.u32.wrap (E31.v + E33.v))) 0 kk86 H32 r (Cp r) r)<|Az<|Bg () [0]
  refine Ne<|Sq<|Wi fun E37 H38=>Wi fun E39 H40=>Wi fun R41 H42=>Jw Unit [0,2,3,4] [] (fun _=>[]) (fun _=>[.own (arrS U0 16) (lc ((((((w_.set a.toNat (Wrd.mk (IntKind.u32.wrap (E1.v + E3.v)))).set d.toNat (Wrd.mk R11)).set c.toNat (Wrd.mk (IntKind.u32.wrap (E16.v + E18.v)))).set b.toNat (Wrd.mk R26)).set a.toNat (Wrd.mk (IntKind.u32.wrap (E31.v + E33.v)))).set d.toNat (Wrd.mk R41)))]) r1 r1 (?_) fun X45=>?_
  ·refine Dr [] r hMix<|Aq [0,1,2,3,4,7,8,9,14] [] r<|A2 5 10 (?_)<|?_
   ·refine Xy [] r (Y.index_arr (α := Wrd) ka87 (Oc 0 r) H38 r r)<|A2 6 10 (?_)<|?_
    ·exact Xy [] r (Le kk86 (Oc 0 r) H38 r)<|A1 10<|Xy [] r (Y.index_arr (α := Wrd) ka87 (Oc 0 r) H40 r r)<|A1 11<|Xy [] r (Le kk86 (Oc 0 r) H40 r)<|Aq [12] [] r<|A1 13<|Xe [] r (Cl [] math_bits_RotateLeft32_c H42 r r1) fun _=>A1 15<|Xy [] r (Y.index_arr (α := Wrd) ka87 (Oc 0 r) H38 r r)<|A1 16<|Xu [] r (Se (Wrd.mk R41) 0 kk86 H38 r (Cp r) r)<|Az<|Bg () [0]
    refine Xy [] r (Y.index_arr (α := Wrd) ka87 (Oc 0 r) H40 r r)<|A2 6 11 (?_)<|?_
    ·exact Xy [] r (Le kk86 (Oc 0 r) H38 r)<|A1 11<|Xy [] r (Le kk86 (Oc 0 r) H40 r)<|Aq [12] [] r<|A1 13<|Xe [] r (Cl [] math_bits_RotateLeft32_c H42 r r1) fun _=>A1 15<|Xy [] r (Y.index_arr (α := Wrd) ka87 (Oc 0 r) H38 r r)<|A1 16<|Xu [] r (Se (Wrd.mk R41) 0 kk86 H38 r (Cp r) r)<|Az<|Bg () [0]
    exact Xy [] r (Le kk86 (Oc 0 r) H40 r)<|A1 6<|Xy [] r (Le kk86 (Oc 0 r) H38 r)<|Aq [12] [] r<|A1 13<|Xe [] r (Cl [] math_bits_RotateLeft32_c H42 r r1) fun _=>A1 15<|Xy [] r (Y.index_arr (α := Wrd) ka87 (Oc 0 r) H38 r r)<|A1 16<|Xu [] r (Se (Wrd.mk R41) 0 kk86 H38 r (Cp r) r)<|Az<|Bg () [0]
   refine Xy [] r (Y.index_arr (α := Wrd) ka87 (Oc 0 r) H40 r r)<|A2 5 11 (?_)<|?_
   ·refine Xy [] r (Y.index_arr (α := Wrd) ka87 (Oc 0 r) H38 r r)<|A2 6 11 (?_)<|?_
    ·exact Xy [] r (Le kk86 (Oc 0 r) H38 r)<|A1 11<|Xy [] r (Le kk86 (Oc 0 r) H40 r)<|Aq [12] [] r<|A1 13<|Xe [] r (Cl [] math_bits_RotateLeft32_c H42 r r1) fun _=>A1 15<|Xy [] r (Y.index_arr (α := Wrd) ka87 (Oc 0 r) H38 r r)<|A1 16<|Xu [] r (Se (Wrd.mk R41) 0 kk86 H38 r (Cp r) r)<|Az<|Bg () [0]
    exact Xy [] r (Le kk86 (Oc 0 r) H40 r)<|A1 6<|Xy [] r (Le kk86 (Oc 0 r) H38 r)<|Aq [12] [] r<|A1 13<|Xe [] r (Cl [] math_bits_RotateLeft32_c H42 r r1) fun _=>A1 15<|Xy [] r (Y.index_arr (α := Wrd) ka87 (Oc 0 r) H38 r r)<|A1 16<|Xu [] r (Se (Wrd.mk R41) 0 kk86 H38 r (Cp r) r)<|Az<|Bg () [0]
   exact Xy [] r (Le kk86 (Oc 0 r) H40 r)<|A1 5<|Xy [] r (Y.index_arr (α := Wrd) ka87 (Oc 0 r) H38 r r)<|A1 6<|Xy [] r (Le kk86 (Oc 0 r) H38 r)<|Aq [12] [] r<|A1 13<|Xe [] r (Cl [] math_bits_RotateLeft32_c H42 r r1) fun _=>A1 15<|Xy [] r (Y.index_arr (α := Wrd) ka87 (Oc 0 r) H38 r r)<|A1 16<|Xu [] r (Se (Wrd.mk R41) 0 kk86 H38 r (Cp r) r)<|Az<|Bg () [0]
  refine Ne<|Sq<|Wi fun E46 H47=>Wi fun E48 H49=>Jw Unit [0,2,3] [] (fun _=>[]) (fun _=>[.own (arrS U0 16) (lc (((((((w_.set a.toNat (Wrd.mk (IntKind.u32.wrap (E1.v + E3.v)))).set d.toNat (Wrd.mk R11)).set c.toNat (Wrd.mk (IntKind.u32.wrap (E16.v + E18.v)))).set b.toNat (Wrd.mk R26)).set a.toNat (Wrd.mk (IntKind.u32.wrap (E31.v + E33.v)))).set d.toNat (Wrd.mk R41)).set c.toNat (Wrd.mk (IntKind.u32.wrap (E46.v + E48.v)))))]) r1 r1 (?_) fun X51=>?_
  ·refine Dr [] r hMix<|Aq [0,1,2,5,6,7,11] [] r<|A2 3 8 (?_)<|?_
   ·refine Xy [] r (Y.index_arr (α := Wrd) ka87 (Oc 0 r) H47 r r)<|A2 4 8 (?_)<|?_
    ·exact Xy [] r (Le kk86 (Oc 0 r) H47 r)<|A1 8<|Xy [] r (Y.index_arr (α := Wrd) ka87 (Oc 0 r) H49 r r)<|A1 9<|Xy [] r (Le kk86 (Oc 0 r) H49 r)<|Aq [10] [] r<|A1 12<|Xy [] r (Y.index_arr (α := Wrd) ka87 (Oc 0 r) H47 r r)<|A1 13<|Xu [] r (Se (Wrd.mk (IntKind.u32.wrap (E46.v + E48.v))) 0 kk86 H47 r (Cp r) r)<|Az<|Bg () [0]
    exact Xy [] r (Y.index_arr (α := Wrd) ka87 (Oc 0 r) H49 r r)<|A2 4 9 (Xy [] r (Le kk86 (Oc 0 r) H47 r)<|A1 9<|Xy [] r (Le kk86 (Oc 0 r) H49 r)<|Aq [10] [] r<|A1 12<|Xy [] r (Y.index_arr (α := Wrd) ka87 (Oc 0 r) H47 r r)<|A1 13<|Xu [] r (Se (Wrd.mk (IntKind.u32.wrap (E46.v + E48.v))) 0 kk86 H47 r (Cp r) r)<|Az<|Bg () [0])<|Xy [] r (Le kk86 (Oc 0 r) H49 r)<|A1 4<|Xy [] r (Le kk86 (Oc 0 r) H47 r)<|Aq [10] [] r<|A1 12<|Xy [] r (Y.index_arr (α := Wrd) ka87 (Oc 0 r) H47 r r)<|A1 13<|Xu [] r (Se (Wrd.mk (IntKind.u32.wrap (E46.v + E48.v))) 0 kk86 H47 r (Cp r) r)<|Az<|Bg () [0]
   refine Xy [] r (Y.index_arr (α := Wrd) ka87 (Oc 0 r) H49 r r)<|A2 3 9 (?_)<|?_
   ·exact Xy [] r (Y.index_arr (α := Wrd) ka87 (Oc 0 r) H47 r r)<|A2 4 9 (Xy [] r (Le kk86 (Oc 0 r) H47 r)<|A1 9<|Xy [] r (Le kk86 (Oc 0 r) H49 r)<|Aq [10] [] r<|A1 12<|Xy [] r (Y.index_arr (α := Wrd) ka87 (Oc 0 r) H47 r r)<|A1 13<|Xu [] r (Se (Wrd.mk (IntKind.u32.wrap (E46.v + E48.v))) 0 kk86 H47 r (Cp r) r)<|Az<|Bg () [0])<|Xy [] r (Le kk86 (Oc 0 r) H49 r)<|A1 4<|Xy [] r (Le kk86 (Oc 0 r) H47 r)<|Aq [10] [] r<|A1 12<|Xy [] r (Y.index_arr (α := Wrd) ka87 (Oc 0 r) H47 r r)<|A1 13<|Xu [] r (Se (Wrd.mk (IntKind.u32.wrap (E46.v + E48.v))) 0 kk86 H47 r (Cp r) r)<|Az<|Bg () [0]
   exact Xy [] r (Le kk86 (Oc 0 r) H49 r)<|A1 3<|Xy [] r (Y.index_arr (α := Wrd) ka87 (Oc 0 r) H47 r r)<|A1 4<|Xy [] r (Le kk86 (Oc 0 r) H47 r)<|Aq [10] [] r<|A1 12<|Xy [] r (Y.index_arr (α := Wrd) ka87 (Oc 0 r) H47 r r)<|A1 13<|Xu [] r (Se (Wrd.mk (IntKind.u32.wrap (E46.v + E48.v))) 0 kk86 H47 r (Cp r) r)<|Az<|Bg () [0]
  refine Ne<|Wi fun E52 H53=>Wi fun E54 H55=>Wi fun R56 H57=>Jw Unit [] [] (fun _=>[]) (fun _=>[.own (arrS U0 16) (lc ((((((((w_.set a.toNat (Wrd.mk (IntKind.u32.wrap (E1.v + E3.v)))).set d.toNat (Wrd.mk R11)).set c.toNat (Wrd.mk (IntKind.u32.wrap (E16.v + E18.v)))).set b.toNat (Wrd.mk R26)).set a.toNat (Wrd.mk (IntKind.u32.wrap (E31.v + E33.v)))).set d.toNat (Wrd.mk R41)).set c.toNat (Wrd.mk (IntKind.u32.wrap (E46.v + E48.v)))).set b.toNat (Wrd.mk R56)))]) r1 r1 (?_) fun X60=>?_
  ·refine Dr [] r hMix<|Aq [0,1,2,3,4,7,8,9,14] [] r<|A2 5 10 (?_)<|?_
   ·refine Xy [] r (Y.index_arr (α := Wrd) ka87 (Oc 0 r) H53 r r)<|A2 6 10 (?_)<|?_
    ·exact Xy [] r (Le kk86 (Oc 0 r) H53 r)<|A1 10<|Xy [] r (Y.index_arr (α := Wrd) ka87 (Oc 0 r) H55 r r)<|A1 11<|Xy [] r (Le kk86 (Oc 0 r) H55 r)<|Aq [12] [] r<|A1 13<|Xe [] r (Cl [] math_bits_RotateLeft32_c H57 r r1) fun _=>A1 15<|Xy [] r (Y.index_arr (α := Wrd) ka87 (Oc 0 r) H53 r r)<|A1 16<|Xu [] r (Se (Wrd.mk R56) 0 kk86 H53 r (Cp r) r)<|Az<|Bg () [0]
    refine Xy [] r (Y.index_arr (α := Wrd) ka87 (Oc 0 r) H55 r r)<|A2 6 11 (?_)<|?_
    ·exact Xy [] r (Le kk86 (Oc 0 r) H53 r)<|A1 11<|Xy [] r (Le kk86 (Oc 0 r) H55 r)<|Aq [12] [] r<|A1 13<|Xe [] r (Cl [] math_bits_RotateLeft32_c H57 r r1) fun _=>A1 15<|Xy [] r (Y.index_arr (α := Wrd) ka87 (Oc 0 r) H53 r r)<|A1 16<|Xu [] r (Se (Wrd.mk R56) 0 kk86 H53 r (Cp r) r)<|Az<|Bg () [0]
    exact Xy [] r (Le kk86 (Oc 0 r) H55 r)<|A1 6<|Xy [] r (Le kk86 (Oc 0 r) H53 r)<|Aq [12] [] r<|A1 13<|Xe [] r (Cl [] math_bits_RotateLeft32_c H57 r r1) fun _=>A1 15<|Xy [] r (Y.index_arr (α := Wrd) ka87 (Oc 0 r) H53 r r)<|A1 16<|Xu [] r (Se (Wrd.mk R56) 0 kk86 H53 r (Cp r) r)<|Az<|Bg () [0]
   refine Xy [] r (Y.index_arr (α := Wrd) ka87 (Oc 0 r) H55 r r)<|A2 5 11 (?_)<|?_
   ·refine Xy [] r (Y.index_arr (α := Wrd) ka87 (Oc 0 r) H53 r r)<|A2 6 11 (?_)<|?_
    ·exact Xy [] r (Le kk86 (Oc 0 r) H53 r)<|A1 11<|Xy [] r (Le kk86 (Oc 0 r) H55 r)<|Aq [12] [] r<|A1 13<|Xe [] r (Cl [] math_bits_RotateLeft32_c H57 r r1) fun _=>A1 15<|Xy [] r (Y.index_arr (α := Wrd) ka87 (Oc 0 r) H53 r r)<|A1 16<|Xu [] r (Se (Wrd.mk R56) 0 kk86 H53 r (Cp r) r)<|Az<|Bg () [0]
    exact Xy [] r (Le kk86 (Oc 0 r) H55 r)<|A1 6<|Xy [] r (Le kk86 (Oc 0 r) H53 r)<|Aq [12] [] r<|A1 13<|Xe [] r (Cl [] math_bits_RotateLeft32_c H57 r r1) fun _=>A1 15<|Xy [] r (Y.index_arr (α := Wrd) ka87 (Oc 0 r) H53 r r)<|A1 16<|Xu [] r (Se (Wrd.mk R56) 0 kk86 H53 r (Cp r) r)<|Az<|Bg () [0]
   exact Xy [] r (Le kk86 (Oc 0 r) H55 r)<|A1 5<|Xy [] r (Y.index_arr (α := Wrd) ka87 (Oc 0 r) H53 r r)<|A1 6<|Xy [] r (Le kk86 (Oc 0 r) H53 r)<|Aq [12] [] r<|A1 13<|Xe [] r (Cl [] math_bits_RotateLeft32_c H57 r r1) fun _=>A1 15<|Xy [] r (Y.index_arr (α := Wrd) ka87 (Oc 0 r) H53 r r)<|A1 16<|Xu [] r (Se (Wrd.mk R56) 0 kk86 H53 r (Cp r) r)<|Az<|Bg () [0]
  exact Re () [0]

/-- loop.example/g00950/impl.ChaBlock -/
noncomputable def impl_ChaBlock (key : List UInt8) (counter : Int) (nonce : List UInt8) : Option (List UInt8) :=
  (impl_isCha key counter nonce).bind fun R1 =>
  if (!R1) = true then (some ([]))
  else ((impl_firstWords key counter nonce).bind fun R5 =>
  (lenIs 16 R5).bind fun E9 =>
  bindC (loopO (fun (S12 : Int × List Wrd) => if (decide (S12.1 < (10 : Int))) = true then (bindC (loopO (fun (S17 : Int × List Wrd) => if (decide (S17.1 < (4 : Int))) = true then ((impl_quarter S17.2 S17.1 (IntKind.i64.wrap ((4 : Int) + S17.1)) (IntKind.i64.wrap ((8 : Int) + S17.1)) (IntKind.i64.wrap ((12 : Int) + S17.1))).bind fun R22 =>
  some (.go (IntKind.i64.wrap (S17.1 + (1 : Int)), R22)))
  else (some (.done (.go S17.2))))
  ((0 : Int), S12.2))
  (fun (T19 : List Wrd) => bindC (loopO (fun (S25 : Int × List Wrd) => if (decide (S25.1 < (4 : Int))) = true then ((impl_quarter S25.2 S25.1 (IntKind.i64.wrap ((4 : Int) + (Int.tmod (IntKind.i64.wrap (S25.1 + (1 : Int))) (4 : Int)))) (IntKind.i64.wrap ((8 : Int) + (Int.tmod (IntKind.i64.wrap (S25.1 + (2 : Int))) (4 : Int)))) (IntKind.i64.wrap ((12 : Int) + (Int.tmod (IntKind.i64.wrap (S25.1 + (3 : Int))) (4 : Int))))).bind fun R30 =>
  some (.go (IntKind.i64.wrap (S25.1 + (1 : Int)), R30)))
  else (some (.done (.go S25.2))))
  ((0 : Int), T19))
  (fun (T27 : List Wrd) => some (.go (IntKind.i64.wrap (S12.1 + (1 : Int)), T27)))))
  else (some (.done (.go S12.2))))
  ((0 : Int), R5))
  (fun (T14 : List Wrd) => (mkLen 1 (64 : Int)).bind fun E34 =>
  bindC (loopO (fun (S36 : Int × List UInt8) => if (decide (S36.1 < (16 : Int))) = true then ((lenIs 16 T14).bind fun E41 =>
  (idx T14 S36.1).bind fun E43 =>
  (idx R5 S36.1).bind fun E45 =>
  (app 1 S36.2 ([toU8 (IntKind.u32.wrap (E43.v + E45.v)), toU8 (ishr .u32 (IntKind.u32.wrap (E43.v + E45.v)) (8 : Int)), toU8 (ishr .u32 (IntKind.u32.wrap (E43.v + E45.v)) (16 : Int)), toU8 (ishr .u32 (IntKind.u32.wrap (E43.v + E45.v)) (24 : Int))])).bind fun E49 =>
  some (.go (IntKind.i64.wrap (S36.1 + (1 : Int)), E49)))
  else (some (.done (.go S36.2))))
  ((0 : Int), ([] : List UInt8)))
  (fun (T38 : List UInt8) => some T38)))

theorem impl_ChaBlock_c {key : List UInt8} {counter : Int} {nonce : List UInt8} : Cn Try.prog 37 [strV key, iv counter, strV nonce] [] [] (impl_ChaBlock key counter nonce) (fun r (_ : Unit) => strV r) fun _ _ => [] := by
  unfold impl_ChaBlock
  refine Ci Try.func37 r r ?_
  rintro w S -
  refine Sr<|Qs 1 r<|Nx<|Sq<|Sr<|Qs 3 r<|Bi fun R1 H2=>Fo (Cl [] impl_isCha_c H2 r r1) fun _=>Qs 1 r<|Nx<|Wc r (fun H4=>Sr<|Qs 1 r<|Nx<|Wr<|Tr<|Re () []) fun H4=>Sn<|Sr<|Qs 3 r<|Bi fun R5 H6=>Fo (Cl [] impl_firstWords_c H6 r r1) fun _=>Fo (Ef.allocArr (α := Wrd) (List.replicate 16 (Wrd.mk 0)) kz87 r (by decide)) fun B8=>Bi fun E9 H10=>Fu (Ef.store_arr (α := Wrd) (is' := [.own (arrS B8 16) (lc R5)]) 0 kk87 r (by decide) (lenIs_eq H10) r r r r)<|Nx<|Sr<|Yo (Y.load_arr (α := Wrd) kk87 r (by decide) (Oc 0 r) r)<|Fo (Ef.allocArr (α := Wrd) (List.replicate 16 (Wrd.mk 0)) kz87 r (by decide)) fun B11=>?_
  refine Fu (Ef.store_arr (α := Wrd) (is' := [.own (arrS B11 16) (lc R5), .own (arrS B8 16) (lc R5)]) 0 kk87 r (by decide) (lenIs_eq H10) r r r r)<|Nx<|Sq<|Sr<|Qs 1 r<|Nx<|Jn Unit [7,8] [1] (fun _ _=>[]) (fun T _=>[.own (arrS B11 16) (lc T)]) r2 r2 (?_) fun T14 X15=>?_
  ·refine Wb<|Lp Unit [7,8] [1] (fun T _=>[(24, iv T.1)]) (fun T _=>[.own (arrS B11 16) (lc T.2)]) () [1,0] r2 r2 fun S12 X13=>Sr<|Qs 1 r<|Nx<|Sq<|Wc r (fun H16=>?_) fun H16=>?_
   ·refine Sn<|Sq<|Wb<|Sq<|Sr<|Qs 1 r<|Nx<|Jn Unit [7,8,24] [0] (fun _ _=>[]) (fun T _=>[.own (arrS B11 16) (lc T)]) r2 r2 (?_) fun T19 X20=>?_
    ·exact Wb<|Lp Unit [7,8,24] [0] (fun T _=>[(26, iv T.1)]) (fun T _=>[.own (arrS B11 16) (lc T.2)]) () [0,0] r2 r2 fun S17 X18=>Sr<|Qs 1 r<|Nx<|Sq<|Wc r (fun H21=>Sn<|Sq<|Wb<|Sr<|Qs 2 r<|Nx<|Rg<|Qs 7 r<|Bi fun R22 H23=>Fo (Cl [1] impl_quarter_c H23 r r1) fun _=>Nl<|Bn<|Ne<|Rg<|Qs 2 r<|Nl<|Lg () [1,0]) fun H21=>Wx<|Tx<|Ex<|Be<|Jg () [0,0]
    refine Ne<|Sr<|Qs 1 r<|Nx<|Jn Unit [7,8,24] [0] (fun _ _=>[]) (fun T _=>[.own (arrS B11 16) (lc T)]) r2 r2 (?_) fun T27 X28=>?_
    ·exact Wb<|Lp Unit [7,8,24] [0] (fun T _=>[(38, iv T.1)]) (fun T _=>[.own (arrS B11 16) (lc T.2)]) () [0,0] r2 r2 fun S25 X26=>Sr<|Qs 1 r<|Nx<|Sq<|Wc r (fun H29=>Sn<|Sq<|Wb<|Sr<|Qs 2 r<|Nx<|Rg<|Qs 3 r<|Yo (Y.rem (by decide) r r)<|Qs 3 r<|Yo (Y.rem (by decide) r r)<|Qs 3 r<|Yo (Y.rem (by decide) r r)<|Qs 1 r<|Bi fun R30 H31=>Fo (Cl [1] impl_quarter_c H31 r r1) fun _=>Nl<|Bn<|Ne<|Rg<|Qs 2 r<|Nl<|Lg () [1,0]) fun H29=>Wx<|Tx<|Ex<|Be<|Jg () [0,0]
    exact Bn<|Ne<|Rg<|Qs 2 r<|Nl<|Lg () [0,0]
   exact Wx<|Tx<|Ex<|Be<|Jg () [0,0]
  refine Ne<|Sr<|Bi fun E34 H35=>Fo (M0 (0 : UInt8) H35 ke29 kz5) fun V33=>Qs 1 r<|Nx<|Sq<|Sr<|Yo (Y.load_arr (α := Wrd) kk87 r (by decide) (Oc 2 r) r)<|Qs 1 r<|Nx<|Jn Value [] [] (fun _ X=>[(11, X)]) (fun T X=>[.own X (lc T)]) r2 r2 (?_) fun T38 X39=>?_
  ·refine Wb<|Lp Value [7,58] [1] (fun T X=>[(11, X), (59, iv T.1)]) (fun T X=>[.own X (lc T.2)]) V33 [1,0] r2 r2 fun S36 X37=>Sr<|Qs 1 r<|Nx<|Sq<|Wc r (fun H40=>?_) fun H40=>?_
   ·refine Sn<|Sq<|Wb<|Sr<|Qs 1 r<|Bi fun E41 H42=>Bi fun E43 H44=>Yo (Y.idx_arr ka87 kk86 (lenIs_eq H42) H44 r r)<|Qs 2 r<|Nx<|Sr<|Qs 2 r<|Bi fun E45 H46=>Yo (Y.index_arr (α := Wrd) ka87 (Oc 0 r) H46 r r)<|Yo (Le kk86 (Oc 0 r) H46 r)<|Qs 2 r<|Nx<|Rg<|Qs 2 r<|Yo (Y.conv8 ki86 ki5 r)<|Qs 1 r<|Yo (Y.shr (by decide) r r)<|Yo (Y.conv8 ki86 ki5 r)<|Qs 1 r<|Yo (Y.shr (by decide) r r)<|Yo (Y.conv8 ki86 ki5 r)<|Qs 1 r<|Yo (Y.shr (by decide) r r)<|Yo (Y.conv8 ki86 ki5 r)<|Fo (Bs [toU8 (IntKind.u32.wrap (E43.v + E45.v)), toU8 (ishr .u32 (IntKind.u32.wrap (E43.v + E45.v)) (8 : Int)), toU8 (ishr .u32 (IntKind.u32.wrap (E43.v + E45.v)) (16 : Int)), toU8 (ishr .u32 (IntKind.u32.wrap (E43.v + E45.v)) (24 : Int))] ke29 kz5) fun B47=>?_
    exact Bi fun E49 H50=>Fo (Ap [2] H50 ke29 kz5 r (Oc 0 r)) fun V48=>Qs 1 r<|Nl<|Bn<|Ne<|Rg<|Qs 2 r<|Nl<|Lg V48 [2,0]
   exact Wx<|Tx<|Ex<|Be<|Jg X37 [1]
  exact Ne<|Sr<|Qs 1 r<|Yo (Y.toStr ke29 ki5 ks9 (Oc 0 r) r)<|Qs 1 r<|Nx<|Wr<|Re () []

/-- loop.example/g00950/impl.ChaStream -/
noncomputable def impl_ChaStream (key : List UInt8) (counter : Int) (nonce : List UInt8) (text : List UInt8) : Option (List UInt8) :=
  (impl_isCha key counter nonce).bind fun R1 =>
  if (!R1) = true then (some ([]))
  else ((byteRoom text).bind fun E6 =>
  (if (decide (IntKind.i64.wrap (Int.tdiv (IntKind.i64.wrap (((text.length : Nat) : Int) + (63 : Int))) (64 : Int)) > (0 : Int))) = true then (some (decide (IntKind.i64.wrap (IntKind.i64.wrap (counter + (IntKind.i64.wrap (Int.tdiv (IntKind.i64.wrap (((text.length : Nat) : Int) + (63 : Int))) (64 : Int)))) - (1 : Int)) > (4294967295 : Int))))
  else (some false)).bind (fun (T8 : Bool) =>
  if T8 = true then (some ([]))
  else (bindC (loopO (fun (S12 : Int × Int × List UInt8) => if (decide (S12.2.1 < ((S12.2.2.length : Nat) : Int))) = true then ((impl_ChaBlock key S12.1 nonce).bind fun R17 =>
  bindC (loopO (fun (S20 : Int × List UInt8) => (if (decide (S20.1 < (64 : Int))) = true then (some (decide (IntKind.i64.wrap (S12.2.1 + S20.1) < ((S20.2.length : Nat) : Int))))
  else (some false)).bind (fun (T24 : Bool) =>
  if T24 = true then ((sidx R17 S20.1).bind fun E28 =>
  (idx S20.2 (IntKind.i64.wrap (S12.2.1 + S20.1))).bind fun E30 =>
  some (.go (IntKind.i64.wrap (S20.1 + (1 : Int)), (S20.2.set ((IntKind.i64.wrap (S12.2.1 + S20.1)).toNat) (E30 ^^^ E28)))))
  else (some (.done (.go S20.2)))))
  ((0 : Int), S12.2.2))
  (fun (T22 : List UInt8) => some (.go (IntKind.i64.wrap (S12.1 + (1 : Int)), IntKind.i64.wrap (S12.2.1 + (64 : Int)), T22))))
  else (some (.done (.go S12.2.2))))
  (counter, (0 : Int), text))
  (fun (T14 : List UInt8) => some T14))))

theorem impl_ChaStream_c {key : List UInt8} {counter : Int} {nonce : List UInt8} {text : List UInt8} : Cn Try.prog 19 [strV key, iv counter, strV nonce, strV text] [] [] (impl_ChaStream key counter nonce text) (fun r (_ : Unit) => strV r) fun _ _ => [] := by
  unfold impl_ChaStream
  refine Ci Try.func19 r r ?_
  rintro w S -
  refine Sr<|Qs 1 r<|Nx<|Sq<|Sr<|Qs 3 r<|Bi fun R1 H2=>Fo (Cl [] impl_isCha_c H2 r r1) fun _=>Qs 1 r<|Nx<|Wc r (fun H4=>Sr<|Qs 1 r<|Nx<|Wr<|Tr<|Re () []) fun H4=>Sn<|Sr<|Qs 1 r<|Bi fun E6 H7=>Fo (Ef.toBytes H7 ks9 ke29 ki5 r) fun V5=>Qs 1 r<|Nx<|Sq<|Sr<|Qs 1 r<|Yo (Ln ke29 (Can.frz 0 r) r)<|Qs 1 r<|Yo (Y.quo (by decide) r r)<|Qs 1 r<|Nx<|Sq<|Jv [0,1,2,9] (fun T=>[(33, .bool T)]) r1 (Rg<|Qs 3 r<|It (fun H10=>Qg 5 (beq_tt H10) r r<|Yo (Pt H10 r)<|Nl<|Bg () [0]) fun H10=>Of 5 (beq_ft H10) r r<|Yo (Pf H10 r)<|Nl<|Bg () [0]) fun T8=>Ne<|Wc r (fun H11=>Sr<|Qs 1 r<|Nx<|Wr<|Tr<|Re () []) fun H11=>?_
  refine Sn<|Sq<|Sr<|Qs 1 r<|Nx<|Jn Unit [9] [] (fun _ _=>[]) (fun T _=>[.frz V5 5 T]) r2 r2 (?_) fun T14 X15=>?_
  ·refine Wb<|Lp Unit [0,2,9] [] (fun T _=>[(1, iv T.1), (11, iv T.2.1)]) (fun T _=>[.frz V5 5 T.2.2]) () [0] r2 r2 fun S12 X13=>Sq<|Sr<|Qs 2 r<|Yo (Ln ke29 (Can.frz 0 r) r)<|Qs 1 r<|Nx<|Wc r (fun H16=>?_) fun H16=>?_
   ·refine Sn<|Sq<|Wb<|Sr<|Qs 3 r<|Bi fun R17 H18=>Fo (Cl [] impl_ChaBlock_c H18 r r1) fun _=>Qs 1 r<|Nx<|Sr<|Qs 3 r<|Nx<|Sr<|Qs 1 r<|Nx<|Jn Unit [0,1,2,9,11] [] (fun _ _=>[]) (fun T _=>[.frz V5 5 T]) r2 r2 (?_) fun T22 X23=>?_
    ·refine Wb<|Lp Unit [0,1,2,9,11,12] [] (fun T _=>[(13, iv T.1)]) (fun T _=>[.frz V5 5 T.2]) () [0] r2 r2 fun S20 X21=>Sq<|Sq<|Jv [0,1,2,9,11,12,13] (fun T=>[(55, .bool T)]) r1 (Rg<|Qs 3 r<|It (fun H26=>Qg 4 (beq_tt H26) r r<|Yg (gdA (beq_tt H26)) (Ln ke29 (Can.frz 0 r) r)<|Qg 1 (beq_tt H26) r r<|Yo (Pt H26 r)<|Nl<|Bg () [0]) fun H26=>Of 6 (beq_ft H26) r r<|Yo (Pf H26 r)<|Nl<|Bg () [0]) fun T24=>Ne<|Wc r (fun H27=>?_) fun H27=>?_
     ·exact Sn<|Sq<|Wb<|Dr [] r hMix<|Aq [0,1,2,3,6,7] [] r<|Ai fun E28 H29=>Ay 8 [] r (Y.sidx H29 ks9 r r)<|Ai fun E30 H31=>A1 4<|Xy [] r (Ix ke29 (Can.frz 0 r) H31 r)<|A1 5<|Xy [] r (Le kk5 (Can.frz 0 r) H31 r)<|Ay 9 [] r (Y.xor8 r r)<|A1 10<|Xy [] r (Ix ke29 (Can.frz 0 r) H31 r)<|A1 11<|Xu [] r (Ef.store_frz (is' := [.frz V5 5 (S20.2.set ((IntKind.i64.wrap (S12.2.1 + S20.1)).toNat) (E30 ^^^ E28))]) (E30 ^^^ E28) 0 kk5 r (idx_get H31).2.2 r r r r r)<|Az<|Bn<|Ne<|Rg<|Qs 3 r<|Nl<|Lg () [0]
     exact Wx<|Tx<|Ex<|Be<|Jg () [0]
    exact Bn<|Ne<|Rg<|Qs 3 r<|Nl<|Lg () [0]
   exact Wx<|Tx<|Ex<|Be<|Jg () [0]
  exact Ne<|Sr<|Qs 1 r<|Yo (Y.toStr ke29 ki5 ks9 (Can.frz 0 r) r)<|Qs 1 r<|Nx<|Wr<|Re () []

/-- loop.example/g00950/impl.StreamOf -/
noncomputable def impl_StreamOf (key : List UInt8) (r_ : LogRow) : Option (List UInt8) :=
  (if (!(decide (((key.length : Nat) : Int) = (32 : Int)))) = true then (some true)
  else ((impl_isPlace r_.Boot r_.Seq).bind fun R5 =>
  some (!R5))).bind (fun (T2 : Bool) =>
  if T2 = true then (some ([]))
  else ((impl_rowNonce r_.Boot r_.Seq).bind fun R9 =>
  (strings_Repeat ([0]) ((r_.Text.length : Nat) : Int)).bind fun R12 =>
  (impl_ChaStream key (0 : Int) R9 R12).bind fun R15 =>
  some R15))

theorem impl_StreamOf_c {key : List UInt8} {r_ : LogRow} : Cn Try.prog 8 [strV key, .agg #[iv r_.Tenant, iv r_.Boot, iv r_.Seq, strV r_.Text, .bool r_.Synced]] [] [] (impl_StreamOf key r_) (fun r (_ : Unit) => strV r) fun _ _ => [] := by
  unfold impl_StreamOf
  refine Ci Try.func8 r r ?_
  rintro w S -
  refine Sr<|Fo (Bx r (Cp r)) fun B1=>Qs 1 r<|Nx<|Sq<|Sq<|Jv [0,3] (fun T=>[(15, .bool T)]) r1 (?_) fun T2=>?_
  ·exact Rg<|Qs 1 r<|Yo (Y.slen ks9 r)<|Qs 2 r<|It (fun H4=>Of 6 (beq_tf H4) r r<|Yo (Pt H4 r)<|Nl<|Bg () [0]) fun H4=>Yg (gdA (beq_ff H4)) (Fb kf26_1 r)<|Yg (gdA (beq_ff H4)) (Lb 0 kk3 r)<|Yg (gdA (beq_ff H4)) (Fb kf26_2 r)<|Yg (gdA (beq_ff H4)) (Lb 0 kk3 r)<|Bi fun R5 H6=>Fg (gdA (beq_ff H4)) (Cl [] impl_isPlace_c H6 r r1) fun _=>Qg 1 (beq_ff H4) r r<|Yo (Pf H4 r)<|Nl<|Bg () [0]
  exact Ne<|Wc r (fun H8=>Sr<|Qs 1 r<|Nx<|Wr<|Tr<|Re () []) fun H8=>Sn<|Sq<|Dr [0] r hMix<|Aq [0] [0] r<|Ay 1 [0] r (Fb kf26_1 r)<|Ay 2 [0] r (Lb 0 kk3 r)<|Ay 3 [0] r (Fb kf26_2 r)<|Ay 4 [0] r (Lb 0 kk3 r)<|Ay 6 [0] r (Fb kf26_3 r)<|Ay 7 [0] r (Lb 0 kk9 r)<|Ay 8 [0] r (Y.slen ks9 r)<|Ai fun R9 H10=>A1 5<|Xe [0] r (Cl [] impl_rowNonce_c H10 r r1) fun _=>Ai fun R12 H13=>A1 9<|Xe [0] r (Cl [] strings_Repeat_c H13 r r1) fun _=>Ai fun R15 H16=>A1 10<|Xe [0] r (Cl [] impl_ChaStream_c H16 r r1) fun _=>Aq [11] [0] r<|Az<|Ne<|Wr<|Re () []

/-- loop.example/g00950/laws.FnExactStreamOf -/
noncomputable def laws_FnExactStreamOf (aKey : List UInt8) (aR : LogRow) : Option Bool :=
  if (decide (((aKey.length : Nat) : Int) > (1048576 : Int))) = true then (some true)
  else ((laws_szLogRow aR (1048576 : Int)).bind fun R3 =>
  if (decide (R3 < (0 : Int))) = true then (some true)
  else ((laws_toLogRow aR).bind fun R7 =>
  (spec_StreamOf aKey R7).bind fun R10 =>
  (impl_StreamOf aKey R7).bind fun R14 =>
  if (!(decide (R14 = R10))) = true then (some false)
  else (some true)))

theorem laws_FnExactStreamOf_c {aKey : List UInt8} {aR : LogRow} : Cn Try.prog 3 [strV aKey, .agg #[iv aR.Tenant, iv aR.Boot, iv aR.Seq, strV aR.Text, .bool aR.Synced]] [] [] (laws_FnExactStreamOf aKey aR) (fun r (_ : Unit) => .bool r) fun _ _ => [] := by
  unfold laws_FnExactStreamOf
  refine Ci Try.func3 r r ?_
  rintro w S -
  refine Sr<|Fo (Bx r (Cp r)) fun B1=>Qs 1 r<|Nx<|Sq<|Sr<|Qs 1 r<|Yo (Y.slen ks9 r)<|Qs 1 r<|Nx<|Wc r (fun H2=>Sr<|Qs 1 r<|Nx<|Wr<|Tr<|Re () []) fun H2=>Sn<|Sr<|Qs 1 r<|Nx<|Sr<|Yo (Lb 0 kk23 r)<|Qs 1 r<|Bi fun R3 H4=>Fo (Cl [] laws_szLogRow_c H4 r r1) fun _=>Qs 1 r<|Nx<|Sq<|Sr<|Qs 2 r<|Nx<|Wc r (fun H6=>Sr<|Qs 1 r<|Nx<|Wr<|Tr<|Re () []) fun H6=>Sn<|Sr<|Qs 1 r<|Yo (Lb 0 kk23 r)<|Bi fun R7 H8=>Fo (Cl [] laws_toLogRow_c H8 r r1) fun _=>Bi fun R10 H11=>Fo (Cl [] spec_StreamOf_c H11 r r1) fun _=>Qs 1 r<|Nx<|Sr<|Qs 1 r<|Yo (Lb 0 kk23 r)<|Fo (Cl [] laws_toLogRow_c H8 r r1) fun _=>?_
  exact Bi fun R14 H15=>Fo (Cl [] impl_StreamOf_c H15 r r1) fun _=>Qs 1 r<|Nx<|Sq<|Sr<|Qs 3 r<|Nx<|Wc r (fun H17=>Sr<|Qs 1 r<|Nx<|Wr<|Tr<|Re () []) fun H17=>Sn<|Sr<|Qs 1 r<|Nx<|Wr<|Re () []

end Go.Proofs.Ytablbamlbfgfpaa
