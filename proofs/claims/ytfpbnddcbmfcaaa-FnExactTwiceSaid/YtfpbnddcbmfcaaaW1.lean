/-
  The functions that a law reaches, each as a pure function, with the proof that the program computes it, and the step from a pure law to the given statement. Conditions: none.
-/
import Derived.Test.YtfpbnddcbmfcaaaSw
import Derived.Test.YtfpbnddcbmfcaaaSv
import Derived.Test.YtfpbnddcbmfcaaaRows
set_option linter.unusedVariables false
set_option maxRecDepth 100000
set_option maxHeartbeats 4000000
namespace Go.Proofs.Ytfpbnddcbmfcaaa
open Go Sl

structure LogRow where
  Tenant : Int
  Boot : Int
  Seq : Int
  Text : List UInt8
  Synced : Bool
  deriving DecidableEq
instance : Enc LogRow := ⟨5, fun x => [.int .i64 x.Tenant, .int .i64 x.Boot, .int .i64 x.Seq, .str x.Text, .bool x.Synced], fun _ => rfl, by decide⟩
instance : Dec LogRow where
  sh := [.int .i64, .int .i64, .int .i64, .str, .bool]
  ok x := okI x.Tenant ∧ okI x.Boot ∧ okI x.Seq ∧ x.Text.length ≤ 9223372036854775807 ∧ True
  dec cs h := by
    obtain ⟨c0, r0, rfl, h0, h⟩ := h.cons_inv
    obtain ⟨c1, r1, rfl, h1, h⟩ := h.cons_inv
    obtain ⟨c2, r2, rfl, h2, h⟩ := h.cons_inv
    obtain ⟨c3, r3, rfl, h3, h⟩ := h.cons_inv
    obtain ⟨c4, r4, rfl, h4, h⟩ := h.cons_inv
    obtain rfl := h.nil_inv
    obtain ⟨y0, rfl, w0_⟩ := h0.int_inv
    have w0 := okI_of w0_
    obtain ⟨y1, rfl, w1_⟩ := h1.int_inv
    have w1 := okI_of w1_
    obtain ⟨y2, rfl, w2_⟩ := h2.int_inv
    have w2 := okI_of w2_
    obtain ⟨y3, rfl, w3⟩ := h3.str_inv
    obtain ⟨y4, rfl⟩ := h4.bool_inv
    have w4 := True.intro
    exact ⟨{ Tenant := y0, Boot := y1, Seq := y2, Text := y3, Synced := y4 : LogRow }, rfl, w0, w1, w2, w3, w4⟩
instance : Flat LogRow := { vals := fun x => [.int .i64 x.Tenant, .int .i64 x.Boot, .int .i64 x.Seq, strV x.Text, .bool x.Synced], flat := fun _ => rfl }
structure Place where
  tenant : Int
  boot : Int
  seq : Int
  deriving DecidableEq
instance : Enc Place := ⟨3, fun x => [.int .i64 x.tenant, .int .i64 x.boot, .int .i64 x.seq], fun _ => rfl, by decide⟩
instance : Dec Place where
  sh := [.int .i64, .int .i64, .int .i64]
  ok x := okI x.tenant ∧ okI x.boot ∧ okI x.seq
  dec cs h := by
    obtain ⟨c0, r0, rfl, h0, h⟩ := h.cons_inv
    obtain ⟨c1, r1, rfl, h1, h⟩ := h.cons_inv
    obtain ⟨c2, r2, rfl, h2, h⟩ := h.cons_inv
    obtain rfl := h.nil_inv
    obtain ⟨y0, rfl, w0_⟩ := h0.int_inv
    have w0 := okI_of w0_
    obtain ⟨y1, rfl, w1_⟩ := h1.int_inv
    have w1 := okI_of w1_
    obtain ⟨y2, rfl, w2_⟩ := h2.int_inv
    have w2 := okI_of w2_
    exact ⟨{ tenant := y0, boot := y1, seq := y2 : Place }, rfl, w0, w1, w2⟩
instance : Flat Place := { vals := fun x => [.int .i64 x.tenant, .int .i64 x.boot, .int .i64 x.seq], flat := fun _ => rfl }

theorem hMix : Try.prog.follows .mixedOrders = true := by kernel_rfl
theorem kf52_3 : fieldB Try.prog 52 3 = some 3 := by kernel_rfl
theorem kk9 : kindB Try.prog 9 = some (false, 1) := by kernel_rfl
theorem ks9 : isStrB Try.prog 9 = true := by kernel_rfl
theorem ke22 : elemB Try.prog 22 = some (52, 5, 48) := by kernel_rfl
theorem kk52 : kindB Try.prog 52 = some (true, 5) := by kernel_rfl
theorem kz53 : zeroB Try.prog 53 = some (.agg #[.int .i64 (0 : Int), .int .i64 (0 : Int), .int .i64 (0 : Int), strV ([]), .bool false]) := by kernel_rfl
theorem kf52_0 : fieldB Try.prog 52 0 = some 0 := by kernel_rfl
theorem kk3 : kindB Try.prog 3 = some (false, 1) := by kernel_rfl
theorem kf53_0 : fieldB Try.prog 53 0 = some 0 := by kernel_rfl
theorem kf52_1 : fieldB Try.prog 52 1 = some 1 := by kernel_rfl
theorem kf53_1 : fieldB Try.prog 53 1 = some 1 := by kernel_rfl
theorem kf52_2 : fieldB Try.prog 52 2 = some 2 := by kernel_rfl
theorem kf53_2 : fieldB Try.prog 53 2 = some 2 := by kernel_rfl
theorem kf53_3 : fieldB Try.prog 53 3 = some 3 := by kernel_rfl
theorem kf52_4 : fieldB Try.prog 52 4 = some 4 := by kernel_rfl
theorem kk4 : kindB Try.prog 4 = some (false, 1) := by kernel_rfl
theorem kf53_4 : fieldB Try.prog 53 4 = some 4 := by kernel_rfl
theorem kk53 : kindB Try.prog 53 = some (true, 5) := by kernel_rfl
theorem ke25 : elemB Try.prog 25 = some (53, 5, 48) := by kernel_rfl
theorem hu57 : Try.prog.underlying 57 = some (.struct #[⟨ "tenant", 3, 0, Bool.false, "", "loop.example/g00950/impl", 0⟩, ⟨ "boot", 3, 1, Bool.false, "", "loop.example/g00950/impl", 8⟩, ⟨ "seq", 3, 2, Bool.false, "", "loop.example/g00950/impl", 16⟩]) := by kernel_rfl
theorem hu3 : Try.prog.underlying 3 = some (.int .i64) := by kernel_rfl
theorem kz57 : zeroB Try.prog 57 = some (.agg #[.int .i64 (0 : Int), .int .i64 (0 : Int), .int .i64 (0 : Int)]) := by kernel_rfl
theorem kp57 : placesB Try.prog 57 = some [(0, 1), (1, 1), (2, 1)] := by kernel_rfl
theorem kk57 : kindB Try.prog 57 = some (true, 3) := by kernel_rfl
theorem km55 : mapB Try.prog 55 = some (57, 3) := by kernel_rfl
theorem kz3 : zeroB Try.prog 3 = some (.int .i64 (0 : Int)) := by kernel_rfl
theorem kb4 : Try.prog.underlying 4 = some .bool := by kernel_rfl
theorem hu22 : Try.prog.underlying 22 = some (.slice 52) := by kernel_rfl
theorem hs22 : shB Try.prog 20 22 = some ([.sl 5 (Dec.sh LogRow)]) := by kernel_rfl

/-- loop.example/g00950/laws.szLogRow -/
noncomputable def laws_szLogRow (a : LogRow) (left : Int) : Option Int :=
  if (decide (IntKind.i64.wrap (left - ((a.Text.length : Nat) : Int)) < (0 : Int))) = true then (some (-1 : Int))
  else (some (IntKind.i64.wrap (left - ((a.Text.length : Nat) : Int))))

theorem laws_szLogRow_c {a : LogRow} {left : Int} : Cn Try.prog 25 [.agg #[iv a.Tenant, iv a.Boot, iv a.Seq, strV a.Text, .bool a.Synced], iv left] [] [] (laws_szLogRow a left) (fun r (_ : Unit) => iv r) fun _ _ => [] := by
  unfold laws_szLogRow
  refine Ci Try.func25 r r ?_
  rintro w S -
  exact Sr<|Fo (Bx r (Cp r)) fun B1=>Qs 1 r<|Nx<|Sr<|Qs 1 r<|Yo (Fb kf52_3 r)<|Yo (Lb 0 kk9 r)<|Yo (Y.slen ks9 r)<|Qs 2 r<|Nx<|Sq<|Sr<|Qs 2 r<|Nx<|Wc r (fun H2=>Sr<|Qs 1 r<|Nx<|Wr<|Tr<|Re () []) fun H2=>Sn<|Sr<|Qs 2 r<|Nx<|Wr<|Re () []

/-- loop.example/g00950/laws.szLogRowS -/
noncomputable def laws_szLogRowS (a : List LogRow) (left : Int) : Option Int :=
  if (decide (IntKind.i64.wrap (left - ((a.length : Nat) : Int)) < (0 : Int))) = true then (some (-1 : Int))
  else (bindC (loopO (fun (S2 : Int × Int) => if (decide (S2.2 < ((a.length : Nat) : Int))) = true then ((idx a S2.2).bind fun E7 =>
  (laws_szLogRow E7 S2.1).bind fun R9 =>
  if (decide (R9 < (0 : Int))) = true then (some (.done (.done (-1 : Int))))
  else (some (.go (R9, IntKind.i64.wrap (S2.2 + (1 : Int))))))
  else (some (.done (.go S2.1))))
  (IntKind.i64.wrap (left - ((a.length : Nat) : Int)), (0 : Int)))
  (fun (T4 : Int) => some T4))

theorem laws_szLogRowS_c {a : List LogRow} {left : Int} {U0 : Value} : Cn Try.prog 5 [U0, iv left] [] [(U0, lc a)] (laws_szLogRowS a left) (fun r (_ : Unit) => iv r) fun _ _ => [] := by
  unfold laws_szLogRowS
  refine Ci Try.func5 r r ?_
  rintro w S ⟨Z0,-⟩
  refine Sr<|Qs 1 r<|Nx<|Sr<|Qs 2 r<|Yo (Ln ke22 (Bc Z0) r)<|Qs 2 r<|Nx<|Sq<|Sr<|Qs 2 r<|Nx<|Wc r (fun H1=>Sr<|Qs 1 r<|Nx<|Wr<|Tr<|Re () []) fun H1=>Sn<|Sq<|Sr<|Qs 1 r<|Nx<|Ju [] (fun T=>[(1, iv T)]) r1 (?_) fun T4=>?_
  ·refine Wb<|Lu [0] (fun T=>[(1, iv T.1), (5, iv T.2)]) r1 fun S2=>Sq<|Sr<|Qs 2 r<|Yo (Ln ke22 (Bc Z0) r)<|Qs 1 r<|Nx<|Wc r (fun H6=>?_) fun H6=>?_
   ·exact Sn<|Sq<|Wb<|Sr<|Qs 2 r<|Bi fun E7 H8=>Yo (Ix ke22 (Bc Z0) H8 r)<|Yo (Le kk52 (Bc Z0) H8 r)<|Qs 1 r<|Bi fun R9 H10=>Fo (Cl [] laws_szLogRow_c H10 r r1) fun _=>Qs 1 r<|Nx<|Sr<|Qs 2 r<|Nx<|Wc r (fun H12=>Sr<|Qs 1 r<|Nx<|Wr<|Br<|Tr<|Er<|Br<|Jd<|Tr<|Re () []) fun H12=>Sk<|Bn<|Ne<|Rg<|Qs 3 r<|Nl<|Lg () []
   exact Wx<|Tx<|Ex<|Be<|Jg () []
  exact Ne<|Sr<|Qs 2 r<|Nx<|Wr<|Re () []

/-- loop.example/g00950/laws.toLogRow -/
noncomputable def laws_toLogRow (a : LogRow) : Option LogRow :=
  some a

theorem laws_toLogRow_c {a : LogRow} : Cn Try.prog 26 [.agg #[iv a.Tenant, iv a.Boot, iv a.Seq, strV a.Text, .bool a.Synced]] [] [] (laws_toLogRow a) (fun r (_ : Unit) => .agg #[iv r.Tenant, iv r.Boot, iv r.Seq, strV r.Text, .bool r.Synced]) fun _ _ => [] := by
  unfold laws_toLogRow
  refine Ci Try.func26 r r ?_
  rintro w S -
  exact Sr<|Fo (Bx r (Cp r)) fun B1=>Fo (Al kz53 r) fun B2=>Nx<|Sr<|Fo (Al kz53 r) fun B3=>Nx<|Sr<|Yo (Fb kf52_0 r)<|Yo (Lb 2 kk3 r)<|Yo (Fb kf53_0 r)<|Fu (Sb 0 kk3 r (Cp r) r)<|Nx<|Sr<|Yo (Fb kf52_1 r)<|Yo (Lb 2 kk3 r)<|Yo (Fb kf53_1 r)<|Fu (Sb 0 kk3 r (Cp r) r)<|Nx<|Sr<|Yo (Fb kf52_2 r)<|Yo (Lb 2 kk3 r)<|Yo (Fb kf53_2 r)<|Fu (Sb 0 kk3 r (Cp r) r)<|Nx<|Sr<|Yo (Fb kf52_3 r)<|Yo (Lb 2 kk9 r)<|Yo (Fb kf53_3 r)<|Fu (Sb 0 kk9 r (Cp r) r)<|Nx<|Sr<|Yo (Fb kf52_4 r)<|Yo (Lb 2 kk4 r)<|Yo (Fb kf53_4 r)<|Fu (Sb 0 kk4 r (Cp r) r)<|Nx<|Sr<|Yo (Lb 0 kk53 r)<|Fu (Sb 1 kk53 r (Cp r) r)<|Nx<|Wr<|TE.leaf fun _ _ hf_ hs_ => ret_any (rs := [.cell 2 53]) (vs := [.agg #[iv a.Tenant, iv a.Boot, iv a.Seq, strV a.Text, .bool a.Synced]]) (.inl r) r (RV.cell 1 r r kk53 r ⟨⟩) hf_ hs_ ⟨(), r, hs_.pulls [] r⟩

/-- loop.example/g00950/laws.toLogRowS -/
noncomputable def laws_toLogRowS (a : List LogRow) : Option (List LogRow) :=
  (mkLen 48 ((a.length : Nat) : Int)).bind fun E2 =>
  bindC (loopO (fun (S4 : Int × List LogRow) => if (decide (S4.1 < ((a.length : Nat) : Int))) = true then ((idx a S4.1).bind fun E9 =>
  (laws_toLogRow E9).bind fun R11 =>
  (idx S4.2 S4.1).bind fun E14 =>
  some (.go (IntKind.i64.wrap (S4.1 + (1 : Int)), (S4.2.set S4.1.toNat R11))))
  else (some (.done (.go S4.2))))
  ((0 : Int), (List.replicate E2 ({ Tenant := (0 : Int), Boot := (0 : Int), Seq := (0 : Int), Text := [], Synced := false : LogRow } : LogRow))))
  (fun (T6 : List LogRow) => some T6)

theorem laws_toLogRowS_c {a : List LogRow} {U0 : Value} : Cn Try.prog 7 [U0] [] [(U0, lc a)] (laws_toLogRowS a) (fun _ (X : Value) => X) fun r X => [.own X (lc r)] := by
  unfold laws_toLogRowS
  refine Ci Try.func7 r r ?_
  rintro w S ⟨Z0,-⟩
  refine Sr<|Qs 1 r<|Nx<|Sr<|Qs 1 r<|Yo (Ln ke22 (Bc Z0) r)<|Bi fun E2 H3=>Fo (Mk ({ Tenant := (0 : Int), Boot := (0 : Int), Seq := (0 : Int), Text := [], Synced := false : LogRow } : LogRow) H3 ke25 kz53) fun V1=>Qs 1 r<|Nx<|Sq<|Sr<|Qs 1 r<|Nx<|Jn Unit [3] [] (fun _ _=>[]) (fun T _=>[.own V1 (lc T)]) r2 r2 (?_) fun T6 X7=>?_
  ·refine Wb<|Lp Unit [0,3] [] (fun T _=>[(4, iv T.1)]) (fun T _=>[.own V1 (lc T.2)]) () [0] r2 r2 fun S4 X5=>Sq<|Sr<|Qs 2 r<|Yo (Ln ke22 (Bc Z0) r)<|Qs 1 r<|Nx<|Wc r (fun H8=>?_) fun H8=>?_
   ·exact Sn<|Sq<|Wb<|Rg<|Qs 4 r<|Bi fun E9 H10=>Yo (Ix ke22 (Bc Z0) H10 r)<|Yo (Le kk52 (Bc Z0) H10 r)<|Bi fun R11 H12=>Fo (Cl [] laws_toLogRow_c H12 r r1) fun _=>Bi fun E14 H15=>Yo (Ix ke25 (Oc 0 r) H15 r)<|Fu (Se R11 0 kk53 H15 r (Cp r) r)<|Nl<|Bn<|Ne<|Rg<|Qs 3 r<|Nl<|Lg () [0]
   exact Wx<|Tx<|Ex<|Be<|Jg () [0]
  exact Ne<|Sr<|Qs 2 r<|Nx<|Wr<|Re V1 [0]

/-- loop.example/g00950/spec.Twice -/
noncomputable def spec_Twice (l : List LogRow) : Option Bool :=
  bindC (loopO (fun (S1 : Int) => if (decide (S1 < ((l.length : Nat) : Int))) = true then (bindC (loopO (fun (S6 : Int) => if (decide (S6 < S1)) = true then (((idx l S1).bind fun E13 =>
  (idx l S6).bind fun E15 =>
  if (decide (E13.Tenant = E15.Tenant)) = true then (if (decide (E13.Boot = E15.Boot)) = true then (if (decide (E13.Seq = E15.Seq)) = true then (some (!(decide (E13.Text = E15.Text))))
  else (some false))
  else (some false))
  else (some false)).bind (fun (T11 : Bool) =>
  if T11 = true then (some (.done (.done (.done (.done true)))))
  else (some (.go (IntKind.i64.wrap (S6 + (1 : Int)))))))
  else (some (.done (.go ()))))
  (0 : Int))
  (fun (T8 : Unit) => some (.go (IntKind.i64.wrap (S1 + (1 : Int))))))
  else (some (.done (.go ()))))
  (0 : Int))
  (fun (T3 : Unit) => some false)

theorem spec_Twice_c {l : List LogRow} {U0 : Value} : Cn Try.prog 6 [U0] [] [(U0, lc l)] (spec_Twice l) (fun r (_ : Unit) => .bool r) fun _ _ => [] := by
  unfold spec_Twice
  refine Ci Try.func6 r r ?_
  rintro w S ⟨Z0,-⟩
  refine Sr<|Qs 1 r<|Nx<|Sq<|Sr<|Qs 1 r<|Nx<|Ju [] (fun _=>[]) r1 (?_) fun T3=>?_
  ·refine Wb<|Lu [0] (fun T=>[(3, iv T)]) r1 fun S1=>Sq<|Sr<|Qs 2 r<|Yo (Ln ke25 (Bc Z0) r)<|Qs 1 r<|Nx<|Wc r (fun H5=>?_) fun H5=>?_
   ·refine Sn<|Sq<|Wb<|Sr<|Qs 1 r<|Nx<|Ju [0,3] (fun _=>[]) r1 (?_) fun T8=>?_
    ·refine Wb<|Lu [0,3] (fun T=>[(4, iv T)]) r1 fun S6=>Sq<|Sr<|Qs 3 r<|Nx<|Wc r (fun H10=>?_) fun H10=>?_
     ·refine Sn<|Sq<|Wb<|Sq<|Jv [0,3,4] (fun T=>[(65, .bool T)]) r1 (?_) fun T11=>?_
      ·refine Dr [] r hMix<|Aq [0,1] [] r<|Ai fun E13 H14=>Ay 2 [] r (Ix ke25 (Bc Z0) H14 r)<|Ay 3 [] r (Fe kf53_0 (Bc Z0) H14 r)<|Ay 4 [] r (Le kk3 (Bc Z0) H14 r)<|Aq [5,6] [] r<|Ai fun E15 H16=>Ay 7 [] r (Ix ke25 (Bc Z0) H16 r)<|Ay 8 [] r (Fe kf53_0 (Bc Z0) H16 r)<|Ay 9 [] r (Le kk3 (Bc Z0) H16 r)<|Aq [10,11] [] r<|Ia (fun H17=>?_) fun H17=>?_
       ·refine Ag 12 [] (gdA (beq_tt H17)) r (Y.move r)<|Ag 13 [] (gdA (beq_tt H17)) r (Y.move r)<|Ag 14 [] (gdA (beq_tt H17)) r (Ix ke25 (Bc Z0) H14 r)<|Ag 15 [] (gdA (beq_tt H17)) r (Fe kf53_1 (Bc Z0) H14 r)<|Ag 16 [] (gdA (beq_tt H17)) r (Le kk3 (Bc Z0) H14 r)<|Ag 17 [] (gdA (beq_tt H17)) r (Y.move r)<|Ag 18 [] (gdA (beq_tt H17)) r (Y.move r)<|Ag 19 [] (gdA (beq_tt H17)) r (Ix ke25 (Bc Z0) H16 r)<|Ag 20 [] (gdA (beq_tt H17)) r (Fe kf53_1 (Bc Z0) H16 r)<|Ag 21 [] (gdA (beq_tt H17)) r (Le kk3 (Bc Z0) H16 r)<|Ag 22 [] (gdA (beq_tt H17)) r (Y.eql r r)<|Ay 23 [] r (Pt H17 r)<|Aq [24] [] r<|Ia (fun H18=>?_) fun H18=>?_
        ·refine Ag 25 [] (gdA (beq_tt H18)) r (Y.move r)<|Ag 26 [] (gdA (beq_tt H18)) r (Y.move r)<|Ag 27 [] (gdA (beq_tt H18)) r (Ix ke25 (Bc Z0) H14 r)<|Ag 28 [] (gdA (beq_tt H18)) r (Fe kf53_2 (Bc Z0) H14 r)<|Ag 29 [] (gdA (beq_tt H18)) r (Le kk3 (Bc Z0) H14 r)<|Ag 30 [] (gdA (beq_tt H18)) r (Y.move r)<|Ag 31 [] (gdA (beq_tt H18)) r (Y.move r)<|Ag 32 [] (gdA (beq_tt H18)) r (Ix ke25 (Bc Z0) H16 r)<|Ag 33 [] (gdA (beq_tt H18)) r (Fe kf53_2 (Bc Z0) H16 r)<|Ag 34 [] (gdA (beq_tt H18)) r (Le kk3 (Bc Z0) H16 r)<|Ag 35 [] (gdA (beq_tt H18)) r (Y.eql r r)<|Ay 36 [] r (Pt H18 r)<|Aq [37] [] r<|Ia (fun H19=>?_) fun H19=>?_
         ·exact Ag 38 [] (gdA (beq_tt H19)) r (Y.move r)<|Ag 39 [] (gdA (beq_tt H19)) r (Y.move r)<|Ag 40 [] (gdA (beq_tt H19)) r (Ix ke25 (Bc Z0) H14 r)<|Ag 41 [] (gdA (beq_tt H19)) r (Fe kf53_3 (Bc Z0) H14 r)<|Ag 42 [] (gdA (beq_tt H19)) r (Le kk9 (Bc Z0) H14 r)<|Ag 43 [] (gdA (beq_tt H19)) r (Y.move r)<|Ag 44 [] (gdA (beq_tt H19)) r (Y.move r)<|Ag 45 [] (gdA (beq_tt H19)) r (Ix ke25 (Bc Z0) H16 r)<|Ag 46 [] (gdA (beq_tt H19)) r (Fe kf53_3 (Bc Z0) H16 r)<|Ag 47 [] (gdA (beq_tt H19)) r (Le kk9 (Bc Z0) H16 r)<|Ag 48 [] (gdA (beq_tt H19)) r (Y.sneq r r)<|Ay 49 [] r (Pt H19 r)<|Az<|Bg () []
         exact Ax [38,39,40,41,42,43,44,45,46,47,48] [] (beq_ft H19) r r<|Ay 49 [] r (Pf H19 r)<|Az<|Bg () []
        exact Ax [25,26,27,28,29,30,31,32,33,34,35] [] (beq_ft H18) r r<|Ay 36 [] r (Pf H18 r)<|Aq [37] [] r<|Ax [38,39,40,41,42,43,44,45,46,47,48] [] r r r<|Ay 49 [] r (Pf r r)<|Az<|Bg () []
       exact Ax [12,13,14,15,16,17,18,19,20,21,22] [] (beq_ft H17) r r<|Ay 23 [] r (Pf H17 r)<|Aq [24] [] r<|Ax [25,26,27,28,29,30,31,32,33,34,35] [] r r r<|Ay 36 [] r (Pf r r)<|Aq [37] [] r<|Ax [38,39,40,41,42,43,44,45,46,47,48] [] r r r<|Ay 49 [] r (Pf r r)<|Az<|Bg () []
      exact Ne<|Wc r (fun H20=>Sr<|Qs 1 r<|Nx<|Wr<|Br<|Tr<|Er<|Br<|Jd<|Br<|Tr<|Er<|Br<|Jd<|Tr<|Re () []) fun H20=>Sk<|Bn<|Ne<|Rg<|Qs 3 r<|Nl<|Lg () []
     exact Wx<|Tx<|Ex<|Be<|Jg () []
    exact Bn<|Ne<|Rg<|Qs 3 r<|Nl<|Lg () []
   exact Wx<|Tx<|Ex<|Be<|Jg () []
  exact Ne<|Sr<|Qs 1 r<|Nx<|Wr<|Re () []

/-- a type of keys -/
def okK_Place (x : Place) : Prop := (-9223372036854775808 ≤ x.tenant ∧ x.tenant ≤ 9223372036854775807) ∧ (-9223372036854775808 ≤ x.boot ∧ x.boot ≤ 9223372036854775807) ∧ (-9223372036854775808 ≤ x.seq ∧ x.seq ≤ 9223372036854775807)
noncomputable def keyO_Place (x : Place) : Option Unit := if (-9223372036854775808 ≤ x.tenant ∧ x.tenant ≤ 9223372036854775807) ∧ (-9223372036854775808 ≤ x.boot ∧ x.boot ≤ 9223372036854775807) ∧ (-9223372036854775808 ≤ x.seq ∧ x.seq ≤ 9223372036854775807) then some () else none
theorem keyO_Place_ok {x : Place} {z : Unit} (h : keyO_Place x = some z) : okK_Place x := by
  unfold keyO_Place at h
  split at h
  · assumption
  · cases h
theorem kc_Place : KC Try.prog 57 Place okK_Place := by
  refine ⟨deep_law_gate (by kernel_rfl) (of_decide_eq_true (by kernel_rfl)) (of_decide_eq_true (by kernel_rfl)) (by kernel_rfl) (by kernel_rfl), fun x h => ?_, fun x y h => ?_⟩
  · obtain ⟨h0, h1, h2⟩ := h
    have hk : Try.prog.keyType 57 = true := by kernel_rfl
    have hf : (Value.agg (Flat.vals x).toArray).formed Try.prog 57 = true := by kernel_rfl
    have hc : Try.prog.cellsOf 57 = 3 := by kernel_rfl
    have hc1 : Try.prog.cellsOf 3 = 1 := by kernel_rfl
    have hn : Try.prog.types.size = 105 + 1 := by kernel_rfl
    have hl : Try.prog.keyLits (105 + 1 + 1) 57 (Flat.vals x) = some [.int .i64 x.tenant, .int .i64 x.boot, .int .i64 x.seq] :=
      kl_st (cs := Flat.vals x) hu57 (by rw [hc]; rfl) (by kernel_rfl) (mo_c (kl_at hu3 hc1 rfl h0) (mo_c (kl_at hu3 hc1 rfl h1) (mo_c (kl_at hu3 hc1 rfl h2) (rfl))))
    unfold keyOf
    rw [hu57, hn]
    simp only [hk, hf, Bool.and_self, if_true, Value.cells]
    rw [hl]
    exact ⟨_, rfl⟩
  · obtain ⟨x0, x1, x2⟩ := x
    obtain ⟨y0, y1, y2⟩ := y
    simpa [Flat.vals] using h

/-- loop.example/g00950/impl.Twice -/
noncomputable def impl_Twice (l : List LogRow) : Option Bool :=
  bindC (loopO (fun (S2 : Int × (List (Place × Int))) => if (decide (S2.1 < ((l.length : Nat) : Int))) = true then ((idx l S2.1).bind fun E7 =>
  (keyO_Place ({ tenant := E7.Tenant, boot := E7.Boot, seq := E7.Seq : Place })).bind fun E11 =>
  bindC (if (!((mLook S2.2 ({ tenant := E7.Tenant, boot := E7.Boot, seq := E7.Seq : Place })).isSome)) = true then ((mNew S2.2 ({ tenant := E7.Tenant, boot := E7.Boot, seq := E7.Seq : Place }) S2.1).bind fun E16 =>
  some (.go E16))
  else ((idx l ((mLook S2.2 ({ tenant := E7.Tenant, boot := E7.Boot, seq := E7.Seq : Place })).getD 0)).bind fun E18 =>
  if (!(decide (E18.Text = E7.Text))) = true then (some (.done (.done (.done true))))
  else (some (.go S2.2))))
  (fun (T13 : (List (Place × Int))) => some (.go (IntKind.i64.wrap (S2.1 + (1 : Int)), T13))))
  else (some (.done (.go ()))))
  ((0 : Int), ([] : List (Place × Int))))
  (fun (T4 : Unit) => some false)

theorem impl_Twice_c {l : List LogRow} {U0 : Value} : Cn Try.prog 8 [U0] [] [(U0, lc l)] (impl_Twice l) (fun r (_ : Unit) => .bool r) fun _ _ => [] := by
  unfold impl_Twice
  refine Ci Try.func8 r r ?_
  rintro w S ⟨Z0,-⟩
  refine Sr<|Qs 1 r<|Nx<|Sr<|Fo (Mm okK_Place) fun B1=>Qs 1 r<|Nx<|Sq<|Sr<|Qs 1 r<|Yo (Ln ke25 (Bc Z0) r)<|Qs 1 r<|Nx<|Jn Unit [] [] (fun _ _=>[]) (fun _ _=>[]) r2 r2 (?_) fun T4 X5=>?_
  ·refine Wb<|Lp Unit [0,3,10,11] [] (fun T _=>[(12, iv T.1)]) (fun T _=>[.pmap B1 (pme T.2) (mOk okK_Place T.2)]) () [0] r2 r2 fun S2 X3=>Sr<|Qs 1 r<|Nx<|Sq<|Wc r (fun H6=>?_) fun H6=>?_
   ·refine Sn<|Sq<|Wb<|Sr<|Qs 1 r<|Bi fun E7 H8=>Yo (Ix ke25 (Bc Z0) H8 r)<|Yo (Le kk53 (Bc Z0) H8 r)<|Fo (Al kz53 r) fun B9=>Qs 1 r<|Fu (Sb 0 kk53 r (Cp r) r)<|Nx<|Sr<|Yo (Fb kf53_0 r)<|Yo (Lb 0 kk3 r)<|Yo (Fb kf53_1 r)<|Yo (Lb 0 kk3 r)<|Yo (Fb kf53_2 r)<|Yo (Lb 0 kk3 r)<|Yo (Bd kp57 kz57 (Pc r (Cp r)<|Pc r (Cp r)<|Pc r (Cp r)<|Pz) r)<|Fo (Al kz57 r) fun B10=>Fu (Sb 0 kk57 r (Cp r) r)<|Nx<|Sr<|Qs 1 r<|Yo (Lb 0 kk57 r)<|Bi fun E11 H12=>Yo (Ml kc_Place 2 ({ tenant := E7.Tenant, boot := E7.Boot, seq := E7.Seq : Place }) (keyO_Place_ok H12) km55 kz3 r)<|Qs 5 r<|Nx<|Sr<|Qs 2 r<|Nx<|Jn Unit [0,3,10,11,12] [] (fun _ _=>[]) (fun T _=>[.pmap B1 (pme T) (mOk okK_Place T)]) r2 r2 (?_) fun T13 X14=>?_
    ·refine Wc r (fun H15=>Rg<|Qs 1 r<|Yo (Lb 0 kk57 r)<|Qs 1 r<|Bi fun E16 H17=>Fu (Mu kc_Place 2 ({ tenant := E7.Tenant, boot := E7.Boot, seq := E7.Seq : Place }) (keyO_Place_ok H12) H17 km55 r r)<|Nl<|Jg () [2]) fun H15=>Sq<|Dr [0,0,0] r hMix<|Aq [0,1] [0,0,0] r<|Ai fun E18 H19=>Ay 2 [0,0,0] r (Ix ke25 (Bc Z0) H19 r)<|Ay 3 [0,0,0] r (Fe kf53_3 (Bc Z0) H19 r)<|Ay 4 [0,0,0] r (Le kk9 (Bc Z0) H19 r)<|Ay 5 [0,0,0] r (Fb kf53_3 r)<|Ay 6 [0,0,0] r (Lb 1 kk9 r)<|Aq [7] [0,0,0] r<|Az<|Ne<|Wc r (fun H20=>Sr<|Qs 1 r<|Nx<|Wr<|Jd<|Br<|Tr<|Er<|Br<|Jd<|Tr<|Re () []) fun H20=>?_
     exact Sk<|Jg () [2]
    exact Bn<|Ne<|Rg<|Qs 2 r<|Nl<|Lg () [0]
   exact Wx<|Tx<|Ex<|Be<|Jg () []
  exact Ne<|Sr<|Qs 1 r<|Nx<|Wr<|Re () []

/-- loop.example/g00950/laws.eqLogRow -/
noncomputable def laws_eqLogRow (a : LogRow) (b : LogRow) : Option Bool :=
  if (!(decide (a.Tenant = b.Tenant))) = true then (some false)
  else (if (!(decide (a.Boot = b.Boot))) = true then (some false)
  else (if (!(decide (a.Seq = b.Seq))) = true then (some false)
  else (if (!(decide (a.Text = b.Text))) = true then (some false)
  else (if (!(decide (a.Synced = b.Synced))) = true then (some false)
  else (some true)))))

theorem laws_eqLogRow_c {a : LogRow} {b : LogRow} : Cn Try.prog 27 [.agg #[iv a.Tenant, iv a.Boot, iv a.Seq, strV a.Text, .bool a.Synced], .agg #[iv b.Tenant, iv b.Boot, iv b.Seq, strV b.Text, .bool b.Synced]] [] [] (laws_eqLogRow a b) (fun r (_ : Unit) => .bool r) fun _ _ => [] := by
  unfold laws_eqLogRow
  refine Ci Try.func27 r r ?_
  rintro w S -
  refine Sr<|Fo (Bx r (Cp r)) fun B1=>Fo (Bx r (Cp r)) fun B2=>Qs 1 r<|Nx<|Sq<|Sr<|Yo (Fb kf53_0 r)<|Yo (Lb 1 kk3 r)<|Yo (Fb kf53_0 r)<|Yo (Lb 0 kk3 r)<|Qs 1 r<|Nx<|Wc r (fun H3=>Sr<|Qs 1 r<|Nx<|Wr<|Tr<|Re () []) fun H3=>Sn<|Sq<|Sr<|Yo (Fb kf53_1 r)<|Yo (Lb 1 kk3 r)<|Yo (Fb kf53_1 r)<|Yo (Lb 0 kk3 r)<|Qs 1 r<|Nx<|Wc r (fun H4=>Sr<|Qs 1 r<|Nx<|Wr<|Tr<|Re () []) fun H4=>Sn<|Sq<|Sr<|Yo (Fb kf53_2 r)<|Yo (Lb 1 kk3 r)<|Yo (Fb kf53_2 r)<|Yo (Lb 0 kk3 r)<|Qs 1 r<|Nx<|Wc r (fun H5=>Sr<|Qs 1 r<|Nx<|Wr<|Tr<|Re () []) fun H5=>Sn<|Sq<|Sr<|Yo (Fb kf53_3 r)<|Yo (Lb 1 kk9 r)<|Yo (Fb kf53_3 r)<|Yo (Lb 0 kk9 r)<|Qs 1 r<|Nx<|Wc r (fun H6=>Sr<|Qs 1 r<|Nx<|Wr<|Tr<|Re () []) fun H6=>?_
  exact Sn<|Sq<|Sr<|Yo (Fb kf53_4 r)<|Yo (Lb 1 kk4 r)<|Yo (Fb kf53_4 r)<|Yo (Lb 0 kk4 r)<|Yo (Y.neb kb4 r r)<|Nx<|Wc r (fun H7=>Sr<|Qs 1 r<|Nx<|Wr<|Tr<|Re () []) fun H7=>Sn<|Sr<|Qs 1 r<|Nx<|Wr<|Re () []

/-- loop.example/g00950/laws.eqLogRowS -/
noncomputable def laws_eqLogRowS (a : List LogRow) (b : List LogRow) : Option Bool :=
  if (!(decide (((a.length : Nat) : Int) = ((b.length : Nat) : Int)))) = true then (some false)
  else (bindC (loopO (fun (S2 : Int) => if (decide (S2 < ((a.length : Nat) : Int))) = true then ((idx a S2).bind fun E7 =>
  (idx b S2).bind fun E9 =>
  (laws_eqLogRow E7 E9).bind fun R11 =>
  if (!R11) = true then (some (.done (.done false)))
  else (some (.go (IntKind.i64.wrap (S2 + (1 : Int))))))
  else (some (.done (.go ()))))
  (0 : Int))
  (fun (T4 : Unit) => some true))

theorem laws_eqLogRowS_c {a : List LogRow} {b : List LogRow} {U0 U1 : Value} : Cn Try.prog 9 [U0, U1] [] [(U0, lc a), (U1, lc b)] (laws_eqLogRowS a b) (fun r (_ : Unit) => .bool r) fun _ _ => [] := by
  unfold laws_eqLogRowS
  refine Ci Try.func9 r r ?_
  rintro w S ⟨Z0,Z1,-⟩
  refine Sr<|Qs 1 r<|Nx<|Sq<|Sr<|Qs 1 r<|Yo (Ln ke25 (Bc Z0) r)<|Qs 1 r<|Yo (Ln ke25 (Bc Z1) r)<|Qs 1 r<|Nx<|Wc r (fun H1=>Sr<|Qs 1 r<|Nx<|Wr<|Tr<|Re () []) fun H1=>Sn<|Sq<|Sr<|Qs 1 r<|Nx<|Ju [] (fun _=>[]) r1 (?_) fun T4=>?_
  ·refine Wb<|Lu [0,1] (fun T=>[(5, iv T)]) r1 fun S2=>Sq<|Sr<|Qs 2 r<|Yo (Ln ke25 (Bc Z0) r)<|Qs 1 r<|Nx<|Wc r (fun H6=>?_) fun H6=>?_
   ·exact Sn<|Sq<|Wb<|Sq<|Dr [] r hMix<|Aq [0,1] [] r<|Ai fun E7 H8=>Ay 2 [] r (Ix ke25 (Bc Z0) H8 r)<|Ay 3 [] r (Le kk53 (Bc Z0) H8 r)<|Aq [4,5] [] r<|Ai fun E9 H10=>Ay 6 [] r (Ix ke25 (Bc Z1) H10 r)<|Ay 7 [] r (Le kk53 (Bc Z1) H10 r)<|Ai fun R11 H12=>A1 8<|Xe [] r (Cl [] laws_eqLogRow_c H12 r r1) fun _=>Aq [9] [] r<|Az<|Ne<|Wc r (fun H14=>Sr<|Qs 1 r<|Nx<|Wr<|Br<|Tr<|Er<|Br<|Jd<|Tr<|Re () []) fun H14=>Sk<|Bn<|Ne<|Rg<|Qs 3 r<|Nl<|Lg () []
   exact Wx<|Tx<|Ex<|Be<|Jg () []
  exact Ne<|Sr<|Qs 1 r<|Nx<|Wr<|Re () []

/-- loop.example/g00950/laws.FnExactTwice -/
noncomputable def laws_FnExactTwice (aL : List LogRow) : Option Bool :=
  (laws_szLogRowS aL (1048576 : Int)).bind fun R1 =>
  if (decide (R1 < (0 : Int))) = true then (some true)
  else ((laws_toLogRowS aL).bind fun R5 =>
  (spec_Twice R5).bind fun R8 =>
  (impl_Twice R5).bind fun R12 =>
  if (!(decide (R12 = R8))) = true then (some false)
  else ((laws_eqLogRowS R5 R5).bind fun R17 =>
  if (!R17) = true then (some false)
  else (some true)))

theorem laws_FnExactTwice_c {aL : List LogRow} {U0 : Value} : Cn Try.prog 3 [U0] [] [(U0, lc aL)] (laws_FnExactTwice aL) (fun r (_ : Unit) => .bool r) fun _ _ => [] := by
  unfold laws_FnExactTwice
  refine Ci Try.func3 r r ?_
  rintro w S ⟨Z0,-⟩
  refine Sr<|Qs 1 r<|Nx<|Sr<|Qs 1 r<|Nx<|Sr<|Qs 2 r<|Bi fun R1 H2=>Fo (Cl [] laws_szLogRowS_c H2 r r1 ⟨(Bc Z0),⟨⟩⟩) fun _=>Qs 1 r<|Nx<|Sq<|Sr<|Qs 2 r<|Nx<|Wc r (fun H4=>Sr<|Qs 1 r<|Nx<|Wr<|Tr<|Re () []) fun H4=>Sn<|Sr<|Qs 1 r<|Bi fun R5 H6=>Fo (Cl [] laws_toLogRowS_c H6 r r1 ⟨(Bc Z0),⟨⟩⟩) fun Y7=>Bi fun R8 H9=>Fo (Cl [] spec_Twice_c H9 r r1 ⟨(Oc 0 r),⟨⟩⟩) fun _=>Qs 1 r<|Nx<|Sr<|Qs 1 r<|Fo (Cl [] laws_toLogRowS_c H6 r r1 ⟨(Bc Z0),⟨⟩⟩) fun Y11=>Qs 1 r<|Nx<|Sr<|Qs 1 r<|Bi fun R12 H13=>Fo (Cl [] impl_Twice_c H13 r r1 ⟨(Oc 0 r),⟨⟩⟩) fun _=>?_
  exact Qs 1 r<|Nx<|Sq<|Sr<|Qs 2 r<|Yo (Y.neb kb4 r r)<|Nx<|Wc r (fun H15=>Sr<|Qs 1 r<|Nx<|Wr<|Tr<|Re () []) fun H15=>Sn<|Sq<|Sr<|Qs 2 r<|Fo (Cl [] laws_toLogRowS_c H6 r r1 ⟨(Bc Z0),⟨⟩⟩) fun Y16=>Bi fun R17 H18=>Fo (Cl [] laws_eqLogRowS_c H18 r r1 ⟨(Oc 1 r),(Oc 0 r),⟨⟩⟩) fun _=>Qs 1 r<|Nx<|Wc r (fun H20=>Sr<|Qs 1 r<|Nx<|Wr<|Tr<|Re () []) fun H20=>Sn<|Sr<|Qs 1 r<|Nx<|Wr<|Re () []

end Go.Proofs.Ytfpbnddcbmfcaaa
