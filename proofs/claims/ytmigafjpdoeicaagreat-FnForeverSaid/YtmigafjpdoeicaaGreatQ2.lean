/-
  The functions that a law reaches, each as a pure function, with the proof that the program computes it, and the step from a pure law to the given statement. Conditions: none.
-/
import Derived.Test.YtmigafjpdoeicaaGreatQ1
set_option linter.unusedVariables false
set_option maxRecDepth 100000
set_option maxHeartbeats 4000000
namespace Go.Proofs.YtmigafjpdoeicaaGreat
open Go Sl
noncomputable def spec_DrawModelPlay (code : List UInt8) : Option (List UInt8 × Int × List Call) :=
  (spec_l1New code).bind fun R1 =>
  (spec_l21Fill (115 : UInt8)).bind fun R4 =>
  (spec_l1Once ({ b := code, i := R1.i, h := R1.h : L1Cur }) (30 : Int)).bind fun R7 =>
  bindC (if R7.1 = true then ((spec_l3Key ({ b := code, i := R7.2.i, h := R7.2.h : L1Cur })).bind fun R13 =>
  some (.go (R13.2.i, R13.2.h, R13.1)))
  else (some (.go (R7.2.i, R7.2.h, R4))))
  (fun (T10 : Int × Int × List UInt8) => (spec_l1PickInt ({ b := code, i := T10.1, h := T10.2.1 : L1Cur }) ([(100 : Int), (100 : Int), (12 : Int), (20 : Int), (1001 : Int)])).bind fun R17 =>
  (spec_l1Size code (36 : Int)).bind fun R20 =>
  (spec_l21Calls ({ b := code, i := R17.2.i, h := R17.2.h : L1Cur }) T10.2.2 R20).bind fun R23 =>
  some (T10.2.2, R17.1, R23.1))
theorem spec_DrawModelPlay_c {code : List UInt8} {U0 : Value} : Cn Tryz.prog 6 [U0] [] [(U0, lc code)] (spec_DrawModelPlay code) (fun r (X : Value) => .tuple #[strV r.1, iv r.2.1, X]) fun r X => [.own X (lc r.2.2)] := by
  unfold spec_DrawModelPlay
  refine Ci Tryz.func6 r r ?_
  rintro w S ⟨Z0,-⟩
  refine Sr<|Qs 3 r<|Nx<|Sr<|Qs 1 r<|Bi fun R1 H2=>Fo (Cl [] spec_l1New_c H2 r r1 ⟨(Bc Z0),⟨⟩⟩) fun Y3=>Qs 1 r<|Nx<|Sr<|Bi fun R4 H5=>Fo (Cl [] spec_l21Fill_c H5 r r1) fun _=>Qs 1 r<|Nx<|Sq<|Sr<|Qs 1 r<|Bi fun R7 H8=>Fo (Cl [0] spec_l1Once_c H8 r r1 ⟨(Bc Z0),⟨⟩⟩) fun _=>Nx<|Jn Unit [0,5] [] (fun T _=>[(6, strV T.2.2)]) (fun T _=>[.box Y3 78 [U0, iv T.1, iv T.2.1]]) r2 r2 (Wc r (fun H12=>Rg<|Qs 1 r<|Bi fun R13 H14=>Fo (Cl [0] spec_l3Key_c H14 r r1 ⟨(Bc Z0),⟨⟩⟩) fun _=>Qs 1 r<|Nl<|Jg () [0]) fun H12=>Sk<|Jg () [0]) fun T10 X11=>?_
  exact Ne<|Sr<|Qs 1 r<|Fo (Bs [(100 : Int), (100 : Int), (12 : Int), (20 : Int), (1001 : Int)] ke61 kz3) fun B16=>Bi fun R17 H18=>Fo (Cl [1] spec_l1PickInt_c H18 r r1 ⟨(Bc Z0),(Oc 0 r),⟨⟩⟩) fun _=>Qs 1 r<|Nx<|Sr<|Qs 5 r<|Bi fun R20 H21=>Fo (Cl [] spec_l1Size_c H21 r r1 ⟨(Bc Z0),⟨⟩⟩) fun _=>Bi fun R23 H24=>Fo (Cl [0] spec_l21Calls_c H24 r r1 ⟨(Bc Z0),⟨⟩⟩) fun Y25=>Qs 3 r<|Nx<|Wr<|Re Y25 [1]
noncomputable def laws_at (code : List UInt8) (i : Int) : Option Int :=
  if (decide (i < ((code.length : Nat) : Int))) = true then ((idx code i).bind fun E2 =>
  some (IntKind.i64.wrap ((E2.toNat : Nat) : Int)))
  else (some (Int.tmod (IntKind.i64.wrap (IntKind.i64.wrap (i * (37 : Int)) + (IntKind.i64.wrap (((code.length : Nat) : Int) * (11 : Int))))) (256 : Int)))
theorem laws_at_c {code : List UInt8} {i : Int} {U0 : Value} : Cn Tryz.prog 7 [U0, iv i] [] [(U0, lc code)] (laws_at code i) (fun r (_ : Unit) => iv r) fun _ _ => [] := by
  unfold laws_at
  refine Ci Tryz.func7 r r ?_
  rintro w S ⟨Z0,-⟩
  exact Sr<|Qs 1 r<|Nx<|Sq<|Sr<|Qs 2 r<|Yo (Ln ke22 (Bc Z0) r)<|Qs 1 r<|Nx<|Wc r (fun H1=>Sr<|Qs 2 r<|Bi fun E2 H3=>Yo (Ix ke22 (Bc Z0) H3 r)<|Yo (Le kk5 (Bc Z0) H3 r)<|Yo (Y.conv ki5 ki3 r)<|Qs 1 r<|Nx<|Wr<|Tr<|Re () []) fun H1=>Sn<|Sr<|Qs 3 r<|Yo (Ln ke22 (Bc Z0) r)<|Qs 2 r<|Yo (Y.rem (by decide) r r)<|Qs 1 r<|Nx<|Wr<|Re () []
noncomputable def impl_inRange (n : Int) (least : Int) (most : Int) : Option Bool :=
  (if (decide (n ≥ least)) = true then (some (decide (n ≤ most)))
  else (some false)).bind (fun (T1 : Bool) =>
  some T1)
theorem impl_inRange_c {n : Int} {least : Int} {most : Int} : Cn Tryz.prog 30 [iv n, iv least, iv most] [] [] (impl_inRange n least most) (fun r (_ : Unit) => .bool r) fun _ _ => [] := by
  unfold impl_inRange
  refine Ci Tryz.func30 r r ?_
  rintro w S -
  exact Sr<|Qs 1 r<|Nx<|Sq<|Jv [] (fun T=>[(6, .bool T)]) r1 (Rg<|Qs 4 r<|It (fun H3=>Qg 3 (beq_tt H3) r r<|Yo (Pt H3 r)<|Qs 1 r<|Nl<|Bg () []) fun H3=>Of 3 (beq_ft H3) r r<|Yo (Pf H3 r)<|Qs 1 r<|Nl<|Bg () []) fun T1=>Ne<|Wr<|Re () []
noncomputable def impl_ModelNew (secret : List UInt8) (size : Int) : Option (Model × Bool) :=
  (if (!(decide (((secret.length : Nat) : Int) = (32 : Int)))) = true then (some true)
  else ((impl_inRange size (0 : Int) (1000 : Int)).bind fun R5 =>
  some (!R5))).bind (fun (T2 : Bool) =>
  if T2 = true then (some ({ Secret := [], Shares := { Size := (0 : Int), List := ([] : List Share) : Shares }, Tens := ([] : List MTen), Base := ([] : List MTen), Rows := ([] : List MRow) : Model }, false))
  else (some ({ Secret := secret, Shares := { Size := size, List := ([] : List Share) : Shares }, Tens := ([] : List MTen), Base := ([] : List MTen), Rows := ([] : List MRow) : Model }, true)))
theorem impl_ModelNew_c {secret : List UInt8} {size : Int} : Cn Tryz.prog 10 [strV secret, iv size] [] [] (impl_ModelNew secret size) (fun r (X : Value × Value × Value × Value) => .tuple #[.agg #[strV r.1.Secret, iv r.1.Shares.Size, X.1, X.2.1, X.2.2.1, X.2.2.2], .bool r.2]) fun r X => [.own X.1 (lc r.1.Shares.List), .own X.2.1 (lc r.1.Tens), .own X.2.2.1 (lc r.1.Base), .own X.2.2.2 (lc r.1.Rows)] := by
  unfold impl_ModelNew
  refine Ci Tryz.func10 r r ?_
  rintro w S -
  refine Sr<|Fo (Al kz36 r) fun B1=>Qs 1 r<|Nx<|Sq<|Sq<|Jv [0,1,4] (fun T=>[(13, .bool T)]) r1 (Rg<|Qs 1 r<|Yo (Y.slen ks9 r)<|Qs 2 r<|It (fun H4=>Of 3 (beq_tf H4) r r<|Yo (Pt H4 r)<|Nl<|Bg () [0]) fun H4=>Qg 1 (beq_ff H4) r r<|Bi fun R5 H6=>Fg (gdA (beq_ff H4)) (Cl [] impl_inRange_c H6 r r1) fun _=>Qg 1 (beq_ff H4) r r<|Yo (Pf H4 r)<|Nl<|Bg () [0]) fun T2=>Ne<|Wc r (fun H8=>?_) fun H8=>?_
  ·exact Sr<|Yo (Bd kp36 kz36 (Pz) r)<|Fu (Sb 0 kk36 r (Cp r) r)<|Qs 1 r<|Nx<|Wr<|Tr<|TE.leaf fun _ _ hf_ hs_ => ret_any (rs := [.cell 4 36, .tmp 5]) (vs := [.agg #[strV ([]), iv (0 : Int), .slice none 0 0, .slice none 0 0, .slice none 0 0, .slice none 0 0], .bool false]) (.inl r) r (RV.cell 0 r r kk36 r ⟨r, ⟨⟩⟩) hf_ hs_ ⟨((.slice none 0 0), (.slice none 0 0), (.slice none 0 0), (.slice none 0 0)), r, ((((hs_.nilItem 2).nilItem 5).nilItem 5).nilItem 3).pulls [3, 2, 1, 0] r⟩
  exact Sn<|Sr<|Qs 2 r<|Yo (Bd kp32 kz32 (Pc r (Cp r)<|Pz) r)<|Yo (Bd kp36 kz36 (Pc r (Cp r)<|Pc r (Cp r)<|Pz) r)<|Fu (Sb 0 kk36 r (Cp r) r)<|Qs 1 r<|Nx<|Wr<|TE.leaf fun _ _ hf_ hs_ => ret_any (rs := [.cell 4 36, .tmp 5]) (vs := [.agg #[strV secret, iv size, .slice none 0 0, .slice none 0 0, .slice none 0 0, .slice none 0 0], .bool true]) (.inl r) r (RV.cell 0 r r kk36 r ⟨r, ⟨⟩⟩) hf_ hs_ ⟨((.slice none 0 0), (.slice none 0 0), (.slice none 0 0), (.slice none 0 0)), r, ((((hs_.nilItem 2).nilItem 5).nilItem 5).nilItem 3).pulls [3, 2, 1, 0] r⟩
noncomputable def impl_isTenant (n : Int) : Option Bool :=
  (impl_inRange n (1 : Int) (99 : Int)).bind fun R1 =>
  some R1
theorem impl_isTenant_c {n : Int} : Cn Tryz.prog 67 [iv n] [] [] (impl_isTenant n) (fun r (_ : Unit) => .bool r) fun _ _ => [] := by
  unfold impl_isTenant
  refine Ci Tryz.func67 r r ?_
  rintro w S -
  exact Sr<|Qs 1 r<|Nx<|Sr<|Qs 1 r<|Bi fun R1 H2=>Fo (Cl [] impl_inRange_c H2 r r1) fun _=>Qs 1 r<|Nx<|Wr<|Re () []
noncomputable def impl_isQuota (n : Int) : Option Bool :=
  (impl_inRange n (0 : Int) (40 : Int)).bind fun R1 =>
  some R1
theorem impl_isQuota_c {n : Int} : Cn Tryz.prog 68 [iv n] [] [] (impl_isQuota n) (fun r (_ : Unit) => .bool r) fun _ _ => [] := by
  unfold impl_isQuota
  refine Ci Tryz.func68 r r ?_
  rintro w S -
  exact Sr<|Qs 1 r<|Nx<|Sr<|Qs 1 r<|Bi fun R1 H2=>Fo (Cl [] impl_inRange_c H2 r r1) fun _=>Qs 1 r<|Nx<|Wr<|Re () []
noncomputable def impl_tenAt_1 (t : MTen) (c0_ : Int) : Option Bool :=
  some (decide (t.Id = c0_))
theorem impl_tenAt_1_c {t : MTen} {c0_ : Int} {U0 U1 : Value} {U2 : Nat} : Cn Tryz.prog 111 [.agg #[iv t.Id, iv t.Epoch, iv t.Seq, U0, U1], pt U2] [.box U2 3 [iv c0_]] [(U0, lc t.Map), (U1, lc t.Snaps)] (impl_tenAt_1 t c0_) (fun r (_ : Unit) => .bool r) fun _ _ => [.box U2 3 [iv c0_]] := by
  unfold impl_tenAt_1
  refine Ci Tryz.func111 r r ?_
  rintro w S ⟨Z0,Z1,-⟩
  exact Sr<|Fo (Bx r (Ca ⟨Op',Op',Op',Ob Z0,Ob Z1,⟨⟩⟩)) fun B1=>Qs 1 r<|Nx<|Sr<|Yo (Fb kf90_0 r)<|Yo (Lb 0 kk3 r)<|Yo (Lb 1 kk3 r)<|Qs 2 r<|Nx<|Wr<|Re () [1]
noncomputable def slices_IndexFunc_81204_at_impl_tenAt_1 (s : List MTen) (f_c0 : Int) : Option Int :=
  bindC (loopO (fun (S1 : Int) => if (decide (S1 < ((s.length : Nat) : Int))) = true then ((idx s S1).bind fun E6 =>
  (impl_tenAt_1 E6 f_c0).bind fun R10 =>
  if R10 = true then (some (.done (.done S1)))
  else (some (.go (IntKind.i64.wrap (S1 + (1 : Int))))))
  else (some (.done (.go ()))))
  (0 : Int))
  (fun (T3 : Unit) => some (-1 : Int))
theorem slices_IndexFunc_81204_at_impl_tenAt_1_c {s : List MTen} {f_c0 : Int} {U0 : Value} {U1 : Nat} : Cn Tryz.prog 110 [U0, .func (.func 111) #[] #[pt U1]] [.box U1 3 [iv f_c0]] [(U0, lc s)] (slices_IndexFunc_81204_at_impl_tenAt_1 s f_c0) (fun r (_ : Unit) => iv r) fun _ _ => [.box U1 3 [iv f_c0]] := by
  unfold slices_IndexFunc_81204_at_impl_tenAt_1
  refine Ci Tryz.func110 r r ?_
  rintro w S ⟨Z0,-⟩
  refine Sr<|Qs 1 r<|Nx<|Sq<|Sr<|Qs 1 r<|Yo (Ln ke33 (Bc Z0) r)<|Qs 1 r<|Nx<|Ju [] (fun _=>[]) r1 (?_) fun T3=>?_
  ·refine Wb<|Lu [0,1,7] (fun T=>[(8, iv T)]) r1 fun S1=>Sr<|Qs 1 r<|Nx<|Sq<|Wc r (fun H5=>?_) fun H5=>?_
   ·refine Sn<|Sq<|Wb<|Sr<|Qs 2 r<|Nx<|Sr<|Qs 3 r<|Bi fun E6 H7=>Yo (Ix ke33 (Bc Z0) H7 r)<|?_
    have Q8 : Base w S (elv w U0 (S1.toNat * 5 + 3)) (lc E6.Map):=Base.el Z0 (idx_get H7).2.2 r r
    have Q9 : Base w S (elv w U0 (S1.toNat * 5 + 4)) (lc E6.Snaps):=Base.el Z0 (idx_get H7).2.2 r r
    exact Yo (Lz kk90 Z0 H7 r)<|Bi fun R10 H11=>Fo (Cw [0] impl_tenAt_1_c H11 r r r1 ⟨(Bc Q8),(Bc Q9),⟨⟩⟩) fun _=>Nx<|Wc r (fun H13=>Sr<|Qs 2 r<|Nx<|Wr<|Br<|Tr<|Er<|Br<|Jd<|Tr<|Re () [0]) fun H13=>Sk<|Bn<|Ne<|Rg<|Qs 2 r<|Nl<|Lg () [0]
   exact Wx<|Tx<|Ex<|Be<|Jg () [0]
  exact Ne<|Sr<|Qs 1 r<|Nx<|Wr<|Re () [0]
noncomputable def impl_tenAt (l : List MTen) (id : Int) : Option Int :=
  (slices_IndexFunc_81204_at_impl_tenAt_1 l id).bind fun R2 =>
  some R2
theorem impl_tenAt_c {l : List MTen} {id : Int} {U0 : Value} : Cn Tryz.prog 69 [U0, iv id] [] [(U0, lc l)] (impl_tenAt l id) (fun r (_ : Unit) => iv r) fun _ _ => [] := by
  unfold impl_tenAt
  refine Ci Tryz.func69 r r ?_
  rintro w S ⟨Z0,-⟩
  exact Sr<|Fo (Bx r (Cp r)) fun B1=>Qs 1 r<|Nx<|Sr<|Qs 1 r<|Yo (Y.makeFunc r)<|Bi fun R2 H3=>Fo (Cl [0] slices_IndexFunc_81204_at_impl_tenAt_1_c H3 r r1 ⟨(Bc Z0),⟨⟩⟩) fun _=>Qs 1 r<|Nx<|Wr<|Re () []
noncomputable def impl_no (code : Int) : Option Reply :=
  some ({ Code := code, N := (0 : Int), Text := [], List := ([] : List KV) : Reply })
theorem impl_no_c {code : Int} : Cn Tryz.prog 49 [iv code] [] [] (impl_no code) (fun r (X : Value) => .agg #[iv r.Code, iv r.N, strV r.Text, X]) fun r X => [.own X (lc r.List)] := by
  unfold impl_no
  refine Ci Tryz.func49 r r ?_
  rintro w S -
  exact Sr<|Fo (Al kz41 r) fun B1=>Nx<|Sr<|Qs 1 r<|Yo (Bd kp41 kz41 (Pc r (Cp r)<|Pz) r)<|Fu (Sb 0 kk41 r (Cp r) r)<|Nx<|Wr<|TE.leaf fun _ _ hf_ hs_ => ret_any (rs := [.cell 2 41]) (vs := [.agg #[iv code, iv (0 : Int), strV ([]), .slice none 0 0]]) (.inl r) r (RV.cell 0 r r kk41 r ⟨⟩) hf_ hs_ ⟨(.slice none 0 0), r, (hs_.nilItem 2).pulls [0] r⟩
noncomputable def impl_Need (quota : Int) : Option Int :=
  (impl_inRange quota (0 : Int) (1000 : Int)).bind fun R1 =>
  if (!R1) = true then (some (0 : Int))
  else (some (IntKind.i64.wrap ((2 : Int) + (IntKind.i64.wrap ((2 : Int) * (IntKind.i64.wrap (Int.tdiv (IntKind.i64.wrap (IntKind.i64.wrap (quota + (50 : Int)) - (1 : Int))) (50 : Int))))))))
theorem impl_Need_c {quota : Int} : Cn Tryz.prog 177 [iv quota] [] [] (impl_Need quota) (fun r (_ : Unit) => iv r) fun _ _ => [] := by
  unfold impl_Need
  refine Ci Tryz.func177 r r ?_
  rintro w S -
  exact Sr<|Qs 1 r<|Nx<|Sq<|Sr<|Qs 1 r<|Bi fun R1 H2=>Fo (Cl [] impl_inRange_c H2 r r1) fun _=>Qs 1 r<|Nx<|Wc r (fun H4=>Sr<|Qs 1 r<|Nx<|Wr<|Tr<|Re () []) fun H4=>Sn<|Sr<|Qs 3 r<|Yo (Y.quo (by decide) r r)<|Qs 3 r<|Nx<|Wr<|Re () []
noncomputable def impl_needOf (s : Shares) : Option Int :=
  bindC (loopO (fun (S2 : Int × Int) => if (decide (S2.2 < ((s.List.length : Nat) : Int))) = true then ((idx s.List S2.2).bind fun E7 =>
  (impl_Need E7.Quota).bind fun R10 =>
  some (.go (IntKind.i64.wrap (S2.1 + R10), IntKind.i64.wrap (S2.2 + (1 : Int)))))
  else (some (.done (.go S2.1))))
  ((4 : Int), (0 : Int)))
  (fun (T4 : Int) => some T4)
theorem impl_needOf_c {s : Shares} {U0 : Value} : Cn Tryz.prog 148 [.agg #[iv s.Size, U0]] [] [(U0, lc s.List)] (impl_needOf s) (fun r (_ : Unit) => iv r) fun _ _ => [] := by
  unfold impl_needOf
  refine Ci Tryz.func148 r r ?_
  rintro w S ⟨Z0,-⟩
  refine Sr<|Fo (Bx r (Ca ⟨Op',Ob Z0,⟨⟩⟩)) fun B1=>Qs 1 r<|Nx<|Sr<|Qs 1 r<|Nx<|Sq<|Sr<|Yo (Fb kf32_1 r)<|Yo (Lb 0 kk30 r)<|Yo (Ln ke30 (Bc Z0) r)<|Qs 1 r<|Nx<|Jn Unit [] [] (fun T _=>[(3, iv T)]) (fun _ _=>[]) r2 r2 (?_) fun T4 X5=>?_
  ·refine Wb<|Lp Unit [7,8] [] (fun T _=>[(3, iv T.1), (9, iv T.2)]) (fun _ _=>[]) () [] r2 r2 fun S2 X3=>Sr<|Qs 1 r<|Nx<|Sq<|Wc r (fun H6=>?_) fun H6=>?_
   ·exact Sn<|Sq<|Wb<|Sr<|Bi fun E7 H8=>Yo (Ix ke30 (Bc Z0) H8 r)<|Yo (Le kk134 (Bc Z0) H8 r)<|Fo (Al kz134 r) fun B9=>Fu (Sb 0 kk134 r (Cp r) r)<|Nx<|Rg<|Qs 1 r<|Yo (Fb kf134_1 r)<|Yo (Lb 0 kk3 r)<|Bi fun R10 H11=>Fo (Cl [] impl_Need_c H11 r r1) fun _=>Qs 2 r<|Nl<|Bn<|Ne<|Rg<|Qs 2 r<|Nl<|Lg () []
   exact Wx<|Tx<|Ex<|Be<|Jg () []
  exact Ne<|Sr<|Qs 2 r<|Nx<|Wr<|Re () []
noncomputable def impl_SharesOk (s : Shares) : Option Bool :=
  ((impl_inRange s.Size (0 : Int) (1000 : Int)).bind fun R4 =>
  if (!R4) = true then (some true)
  else (some (decide (((s.List.length : Nat) : Int) > (4 : Int))))).bind (fun (T2 : Bool) =>
  if T2 = true then (some false)
  else (bindC (loopO (fun (S9 : Int) => if (decide (S9 < ((s.List.length : Nat) : Int))) = true then ((idx s.List S9).bind fun E14 =>
  ((impl_isTenant E14.Tenant).bind fun R19 =>
  if (!R19) = true then (some true)
  else ((impl_inRange E14.Quota (0 : Int) (1000 : Int)).bind fun R23 =>
  if (!R23) = true then (some true)
  else (if (decide (S9 > (0 : Int))) = true then ((idx s.List (IntKind.i64.wrap (S9 - (1 : Int)))).bind fun E28 =>
  some (decide (E14.Tenant ≤ E28.Tenant)))
  else (some false)))).bind (fun (T17 : Bool) =>
  if T17 = true then (some (.done (.done false)))
  else (some (.go (IntKind.i64.wrap (S9 + (1 : Int)))))))
  else (some (.done (.go ()))))
  (0 : Int))
  (fun (T11 : Unit) => (if (decide (((s.List.length : Nat) : Int) = (0 : Int))) = true then (some true)
  else ((impl_needOf s).bind fun R34 =>
  some (decide (R34 ≤ s.Size)))).bind (fun (T31 : Bool) =>
  some T31))))
theorem impl_SharesOk_c {s : Shares} {U0 : Value} : Cn Tryz.prog 112 [.agg #[iv s.Size, U0]] [] [(U0, lc s.List)] (impl_SharesOk s) (fun r (_ : Unit) => .bool r) fun _ _ => [] := by
  unfold impl_SharesOk
  refine Ci Tryz.func112 r r ?_
  rintro w S ⟨Z0,-⟩
  refine Sr<|Fo (Bx r (Ca ⟨Op',Ob Z0,⟨⟩⟩)) fun B1=>Qs 1 r<|Nx<|Sq<|Sq<|Jv [1] (fun T=>[(14, .bool T)]) r1 (?_) fun T2=>?_
  ·exact Rg<|Yo (Fb kf32_0 r)<|Yo (Lb 0 kk3 r)<|Bi fun R4 H5=>Fo (Cl [] impl_inRange_c H5 r r1) fun _=>Qs 2 r<|It (fun H7=>Of 4 (beq_tf H7) r r<|Yo (Pt H7 r)<|Nl<|Bg () [0]) fun H7=>Yg (gdA (beq_ff H7)) (Fb kf32_1 r)<|Yg (gdA (beq_ff H7)) (Lb 0 kk30 r)<|Yg (gdA (beq_ff H7)) (Ln ke30 (Bc Z0) r)<|Qg 1 (beq_ff H7) r r<|Yo (Pf H7 r)<|Nl<|Bg () [0]
  refine Ne<|Wc r (fun H8=>Sr<|Qs 1 r<|Nx<|Wr<|Tr<|Re () []) fun H8=>Sn<|Sq<|Sr<|Yo (Fb kf32_1 r)<|Yo (Lb 0 kk30 r)<|Yo (Ln ke30 (Bc Z0) r)<|Qs 1 r<|Nx<|Ju [1] (fun _=>[]) r1 (?_) fun T11=>?_
  ·refine Wb<|Lu [1,16,17] (fun T=>[(18, iv T)]) r1 fun S9=>Sr<|Qs 1 r<|Nx<|Sq<|Wc r (fun H13=>?_) fun H13=>?_
   ·refine Sn<|Sq<|Wb<|Sr<|Qs 1 r<|Bi fun E14 H15=>Yo (Ix ke30 (Bc Z0) H15 r)<|Yo (Le kk134 (Bc Z0) H15 r)<|Fo (Al kz134 r) fun B16=>Qs 1 r<|Fu (Sb 0 kk134 r (Cp r) r)<|Nx<|Sq<|Jb Unit [1,16,17,18] [1] (fun T _=>[(48, .bool T)]) (fun _ _=>[]) r2 r2 (?_) fun T17 X18=>?_
    ·refine Dr [0,0] r hMix<|Ay 0 [0,0] r (Fb kf134_0 r)<|Ay 1 [0,0] r (Lb 0 kk3 r)<|Ai fun R19 H20=>A1 2<|Xe [0,0] r (Cl [] impl_isTenant_c H20 r r1) fun _=>Aq [3,4] [0,0] r<|Ia (fun H22=>Ax [5,6,7,8] [0,0] (beq_tf H22) r r<|Ay 9 [0,0] r (Pt H22 r)<|Aq [10] [0,0] r<|Ax [11,12,13] [0,0] r r r<|Au [14,15,16,17,18,19,20,21,22,23] [0,0] r r<|Ax [24] [0,0] r r r<|Ay 25 [0,0] r (Pt r r)<|Az<|Bg () [1]) fun H22=>Ag 5 [0,0] (gdA (beq_ff H22)) r (Fb kf134_1 r)<|Ag 6 [0,0] (gdA (beq_ff H22)) r (Lb 0 kk3 r)<|Ai fun R23 H24=>A1 7<|Xeg [0,0] (gdA (beq_ff H22)) r (Cl [] impl_inRange_c H24 r r1) fun _=>?_
     refine Ag 8 [0,0] (gdA (beq_ff H22)) r (Y.not r)<|Ay 9 [0,0] r (Pf H22 r)<|Aq [10] [0,0] r<|Ia (fun H26=>Ax [11,12,13] [0,0] (beq_tf H26) r r<|Au [14,15,16,17,18,19,20,21,22,23] [0,0] r r<|Ax [24] [0,0] (beq_tf H26) r r<|Ay 25 [0,0] r (Pt H26 r)<|Az<|Bg () [1]) fun H26=>Ag 11 [0,0] (gdA (beq_ff H26)) r (Y.move r)<|Ag 12 [0,0] (gdA (beq_ff H26)) r (Y.gtr r r)<|Ag 13 [0,0] (gdA (beq_ff H26)) r (Y.move r)<|Ia (fun H27=>?_) fun H27=>?_
     ·exact Ag 14 [0,0] (gdA (beq_tt H27)) r (Fb kf134_0 r)<|Ag 15 [0,0] (gdA (beq_tt H27)) r (Lb 0 kk3 r)<|Ag 16 [0,0] (gdA (beq_tt H27)) r (Fb kf32_1 r)<|Ag 17 [0,0] (gdA (beq_tt H27)) r (Lb 1 kk30 r)<|Ag 18 [0,0] (gdA (beq_tt H27)) r (Y.move r)<|Ag 19 [0,0] (gdA (beq_tt H27)) r (Y.sub r r)<|Ai fun E28 H29=>Ag 20 [0,0] (gdA (beq_tt H27)) r (Ix ke30 (Bc Z0) H29 r)<|Ag 21 [0,0] (gdA (beq_tt H27)) r (Fe kf134_0 (Bc Z0) H29 r)<|Ag 22 [0,0] (gdA (beq_tt H27)) r (Le kk3 (Bc Z0) H29 r)<|Ag 23 [0,0] (gdA (beq_tt H27)) r (Y.leq r r)<|Ag 24 [0,0] (gdA (beq_ff H26)) r (Pt H27 r)<|Ay 25 [0,0] r (Pf H26 r)<|Az<|Bg () [1]
     exact Ax [14,15,16,17,18,19,20,21,22,23] [0,0] (beq_ft H27) r r<|Ag 24 [0,0] (gdA (beq_ff H26)) r (Pf H27 r)<|Ay 25 [0,0] r (Pf H26 r)<|Az<|Bg () [1]
    exact Ne<|Wc r (fun H30=>Sr<|Qs 1 r<|Nx<|Wr<|Br<|Tr<|Er<|Br<|Jd<|Tr<|Re () []) fun H30=>Sk<|Bn<|Ne<|Rg<|Qs 2 r<|Nl<|Lg () [0]
   exact Wx<|Tx<|Ex<|Be<|Jg () [0]
  refine Ne<|Sq<|Jb Unit [] [] (fun T _=>[(2, .bool T)]) (fun _ _=>[]) r2 r2 (?_) fun T31 X32=>?_
  ·exact Dr [0] r hMix<|Ay 0 [0] r (Fb kf32_1 r)<|Ay 1 [0] r (Lb 0 kk30 r)<|Ay 2 [0] r (Ln ke30 (Bc Z0) r)<|Aq [3,4] [0] r<|Ia (fun H33=>Ax [5,6,7,8,9] [0] (beq_tf H33) r r<|Ay 10 [0] r (Pt H33 r)<|Aq [11] [0] r<|Az<|Bg () []) fun H33=>Ag 5 [0] (gdA (beq_ff H33)) r (Lb 0 kk32 r)<|Ag 7 [0] (gdA (beq_ff H33)) r (Fb kf32_0 r)<|Ag 8 [0] (gdA (beq_ff H33)) r (Lb 0 kk3 r)<|Ai fun R34 H35=>A1 6<|Xeg [0] (gdA (beq_ff H33)) r (Cl [] impl_needOf_c H35 r r1 ⟨(Bc Z0),⟨⟩⟩) fun _=>Ag 9 [0] (gdA (beq_ff H33)) r (Y.leq r r)<|Ay 10 [0] r (Pf H33 r)<|Aq [11] [0] r<|Az<|Bg () []
  exact Ne<|Wr<|Re () []
noncomputable def slices_Clone_21618 (s : List Share) : Option (List Share) :=
  (app 16 ([] : List Share) s).bind fun E4 =>
  some E4
theorem slices_Clone_21618_c {s : List Share} {U0 : Value} : Cn Tryz.prog 99 [U0] [] [(U0, lc s)] (slices_Clone_21618 s) (fun _ (X : Value) => X) fun r X => [.own X (lc r)] := by
  unfold slices_Clone_21618
  refine Ci Tryz.func99 r r ?_
  rintro w S ⟨Z0,-⟩
  exact Sr<|Qs 1 r<|Nx<|Sq<|Sr<|Qs 1 r<|Yo (Y.nileq ke30 (Bc Z0) r r)<|Nx<|TW.cond_nil (Bc Z0) r (fun hnil_=>by subst hnil_;show TW _ _ _ (some ([])) _ _ _ _ _;exact (Sr<|Qs 1 r<|Nx<|Wr<|Tr<|Ni 2<|Re (.slice none 0 0) [0]))<|Sn<|Sr<|Fo (Bs ([] : List Share) ke30 kz134) fun B2=>Qs 1 r<|Bi fun E4 H5=>Fo (Ap [0] H5 ke30 kz134 r (Bc Z0)) fun V3=>Qs 1 r<|Nx<|Wr<|Re V3 [0]
noncomputable def impl_copyShares (s : Shares) : Option Shares :=
  (slices_Clone_21618 s.List).bind fun R3 =>
  some ({ Size := s.Size, List := R3 : Shares })
theorem impl_copyShares_c {s : Shares} {U0 : Value} : Cn Tryz.prog 56 [.agg #[iv s.Size, U0]] [] [(U0, lc s.List)] (impl_copyShares s) (fun r (X : Value) => .agg #[iv r.Size, X]) fun r X => [.own X (lc r.List)] := by
  unfold impl_copyShares
  refine Ci Tryz.func56 r r ?_
  rintro w S ⟨Z0,-⟩
  exact Sr<|Fo (Bx r (Ca ⟨Op',Ob Z0,⟨⟩⟩)) fun B1=>Fo (Al kz32 r) fun B2=>Nx<|Sq<|Dr [1] r hMix<|Ay 0 [1] r (Fb kf32_0 r)<|Ay 1 [1] r (Lb 0 kk3 r)<|Ay 2 [1] r (Fb kf32_1 r)<|Ay 3 [1] r (Lb 0 kk30 r)<|Ai fun R3 H4=>A1 4<|Xe [2] r (Cl [] slices_Clone_21618_c H4 r r1 ⟨(Bc Z0),⟨⟩⟩) fun Y5=>A1 5<|Xy [2] r (Bd kp32 kz32 (Pc r (Cp r)<|Pc r (Co 0)<|Pz) r)<|A1 6<|Xu [2] r (Sb 1 kk32 r (Ca ⟨Op',Ow' 0,⟨⟩⟩) r)<|Az<|Ne<|Wr<|TE.leaf fun _ _ hf_ hs_ => ret_any (rs := [.cell 2 32]) (vs := [.agg #[iv s.Size, Y5]]) (.inl r) r (RV.cell 1 r r kk32 r ⟨⟩) hf_ hs_ ⟨Y5, r, hs_.pulls [0] r⟩
noncomputable def impl_shareAt (s : Shares) (tenant : Int) : Option (Int × Bool) :=
  bindC (loopO (fun (S2 : Int) => (if (decide (S2 < ((s.List.length : Nat) : Int))) = true then ((idx s.List S2).bind fun E9 =>
  some (decide (E9.Tenant < tenant)))
  else (some false)).bind (fun (T6 : Bool) =>
  if T6 = true then (some (.go (IntKind.i64.wrap (S2 + (1 : Int)))))
  else (some (.done (.go S2)))))
  (0 : Int))
  (fun (T4 : Int) => (if (decide (T4 < ((s.List.length : Nat) : Int))) = true then ((idx s.List T4).bind fun E15 =>
  some (decide (E15.Tenant = tenant)))
  else (some false)).bind (fun (T12 : Bool) =>
  some (T4, T12)))
theorem impl_shareAt_c {s : Shares} {tenant : Int} {U0 : Value} : Cn Tryz.prog 113 [.agg #[iv s.Size, U0], iv tenant] [] [(U0, lc s.List)] (impl_shareAt s tenant) (fun r (_ : Unit) => .tuple #[iv r.1, .bool r.2]) fun _ _ => [] := by
  unfold impl_shareAt
  refine Ci Tryz.func113 r r ?_
  rintro w S ⟨Z0,-⟩
  refine Sr<|Fo (Bx r (Ca ⟨Op',Ob Z0,⟨⟩⟩)) fun B1=>Qs 2 r<|Nx<|Sr<|Qs 1 r<|Nx<|Sq<|Ju [1,2] (fun T=>[(6, iv T)]) r1 (?_) fun T4=>?_
  ·refine Wb<|Lu [1,2] (fun T=>[(6, iv T)]) r1 fun S2=>Sq<|Sq<|Jv [1,2,6] (fun T=>[(21, .bool T)]) r1 (?_) fun T6=>?_
   ·refine Rg<|Qs 1 r<|Yo (Fb kf32_1 r)<|Yo (Lb 0 kk30 r)<|Yo (Ln ke30 (Bc Z0) r)<|Qs 2 r<|It (fun H8=>?_) fun H8=>?_
    ·exact Yg (gdA (beq_tt H8)) (Fb kf32_1 r)<|Yg (gdA (beq_tt H8)) (Lb 0 kk30 r)<|Qg 1 (beq_tt H8) r r<|Bi fun E9 H10=>Yg (gdA (beq_tt H8)) (Ix ke30 (Bc Z0) H10 r)<|Yg (gdA (beq_tt H8)) (Fe kf134_0 (Bc Z0) H10 r)<|Yg (gdA (beq_tt H8)) (Le kk3 (Bc Z0) H10 r)<|Qg 2 (beq_tt H8) r r<|Yo (Pt H8 r)<|Nl<|Bg () [0]
    exact Of 8 (beq_ft H8) r r<|Yo (Pf H8 r)<|Nl<|Bg () [0]
   exact Ne<|Wc r (fun H11=>Sn<|Wb<|Rg<|Qs 3 r<|Nl<|Bn<|Lg () [0]) fun H11=>Wx<|Tx<|Ex<|Be<|Jg () [0]
  refine Ne<|Sq<|Jb Unit [] [] (fun T _=>[(4, iv T4), (5, .bool T)]) (fun _ _=>[]) r2 r2 (?_) fun T12 X13=>?_
  ·refine Dr [0] r hMix<|Aq [0,1] [0] r<|Ay 2 [0] r (Fb kf32_1 r)<|Ay 3 [0] r (Lb 0 kk30 r)<|Ay 4 [0] r (Ln ke30 (Bc Z0) r)<|Aq [5,6] [0] r<|Ia (fun H14=>?_) fun H14=>?_
   ·exact Ag 7 [0] (gdA (beq_tt H14)) r (Fb kf32_1 r)<|Ag 8 [0] (gdA (beq_tt H14)) r (Lb 0 kk30 r)<|Ag 9 [0] (gdA (beq_tt H14)) r (Y.move r)<|Ai fun E15 H16=>Ag 10 [0] (gdA (beq_tt H14)) r (Ix ke30 (Bc Z0) H16 r)<|Ag 11 [0] (gdA (beq_tt H14)) r (Fe kf134_0 (Bc Z0) H16 r)<|Ag 12 [0] (gdA (beq_tt H14)) r (Le kk3 (Bc Z0) H16 r)<|Ag 13 [0] (gdA (beq_tt H14)) r (Y.move r)<|Ag 14 [0] (gdA (beq_tt H14)) r (Y.eql r r)<|Ay 15 [0] r (Pt H14 r)<|Aq [16,17] [0] r<|Az<|Bg () []
   exact Ax [7,8,9,10,11,12,13,14] [0] (beq_ft H14) r r<|Ay 15 [0] r (Pf H14 r)<|Aq [16,17] [0] r<|Az<|Bg () []
  exact Ne<|Wr<|Re () []
noncomputable def slices_Insert_21618 (s : List Share) (i : Int) (v : List Share) : Option (List Share) := ins 16 s i v
theorem slices_Insert_21618_con (s : List Share) (i : Int) (v : List Share) (V_s0 V_v0 : Value) (r : List Share) (hm : slices_Insert_21618 s i v = some r) :
    Con Tryz.prog 114 [V_s0, .int .i64 i, V_v0] [.own V_s0 (lc s), .own V_v0 (lc v)] [] (fun X : Value => X) (fun X => [.own X (lc r)]) := by
  refine Con.intro (args := [V_s0, .int .i64 i, V_v0]) (n := 95) (val := fun _ (X : Value) => X) (post := fun r X => [.own X (lc r)]) (m := slices_Insert_21618 s i v) Tryz.func114 rfl rfl rfl hm ?_
  intro w S _
  unfold slices_Insert_21618
  refine TW.known fun r0 hr0 => ?_
  obtain ⟨h0, h1, h2, h3, rfl⟩ := ins_eq hr0
  obtain ⟨I, rfl⟩ := Int.eq_ofNat_of_zero_le h0
  rw [Int.toNat_natCast]
  have h1n : I ≤ s.length := by omega
  clear hr0 hm
  have wr : ∀ q : Nat, q ≤ 4611686018427387904 → IntKind.i64.wrap (q : Int) = (q : Int) := fun q hq => by rw [IntKind.wrap_i64]; omega
  have wr2 : ∀ a b : Nat, a + b ≤ 4611686018427387904 → IntKind.i64.wrap ((a : Int) + (b : Int)) = ((a + b : Nat) : Int) := fun a b hq => by rw [IntKind.wrap_i64]; omega
  obtain ⟨z0, hpc⟩ : ∃ z, piece s (I : Int) ((s.length : Nat) : Int) = some z := ⟨_, if_pos ⟨by omega, by omega, by omega⟩⟩
  refine TW.seq ?_
  refine TW.region ?_
  refine TO.y (Y.assign rfl) rfl rfl rfl ?_
  refine TO.nil ?_
  refine TE.next ?_
  refine TW.seq ?_
  refine TW.region ?_
  refine TO.y (Y.move rfl) rfl rfl rfl ?_
  refine TO.y (Y.move rfl) rfl rfl rfl ?_
  refine TO.y (Y.subs hpc ke30 (Can.own 0 rfl) rfl ⟨_, rfl⟩ rfl) rfl rfl rfl ?_
  refine TO.nil ?_
  refine TE.next ?_
  refine TW.seq ?_
  refine TW.region ?_
  refine TO.y (Y.move rfl) rfl rfl rfl ?_
  refine TO.y (Y.len (l := v) ke30 (Can.own 1 rfl) rfl) rfl rfl rfl ?_
  refine TO.y (Y.assign rfl) rfl rfl rfl ?_
  refine TO.nil ?_
  refine TE.next ?_
  refine TW.seq ?_
  refine TW.seq ?_
  refine TW.region ?_
  refine TO.y (Y.move rfl) rfl rfl rfl ?_
  refine TO.y (Y.eql rfl rfl) rfl rfl rfl ?_
  refine TO.nil ?_
  refine TE.next ?_
  by_cases hm0 : v = []
  · subst hm0
    rw [show s.take I ++ ([] ++ s.drop I) = s by simp]
    refine TW.cond_t rfl (by simp) ?_
    refine TW.seq ?_
    refine TW.region ?_
    refine TO.y (Y.move rfl) rfl rfl rfl ?_
    refine TO.y (Y.assign rfl) rfl rfl rfl ?_
    refine TO.nil ?_
    refine TE.next ?_
    refine TW.ret ?_
    refine TE.then_ret ?_
    exact TE.leaf fun _ _ hf_ hs_ => ret_any (rs := [.tmp 6]) (vs := [V_s0]) (.inl rfl) rfl ⟨rfl, trivial⟩ hf_ hs_ ⟨V_s0, rfl, hs_.pulls [0] rfl⟩
  · have hm1 : 0 < v.length := List.length_pos_iff.2 hm0
    refine TW.cond_f rfl (decide_eq_false (by omega)) ?_
    refine TW.skip ?_
    refine TE.next ?_
    refine TW.seq ?_
    refine TW.region ?_
    refine TO.y (Y.move rfl) rfl rfl rfl ?_
    refine TO.y (Y.len (l := s) ke30 (Can.own 0 rfl) rfl) rfl rfl rfl ?_
    refine TO.y (Y.assign rfl) rfl rfl rfl ?_
    refine TO.nil ?_
    refine TE.next ?_
    refine TW.seq ?_
    refine TW.seq ?_
    refine TW.region ?_
    refine TO.y (Y.move rfl) rfl rfl rfl ?_
    refine TO.y (Y.move rfl) rfl rfl rfl ?_
    refine TO.y (Y.eql rfl rfl) rfl rfl rfl ?_
    refine TO.nil ?_
    refine TE.next ?_
    by_cases hin : I = s.length
    · have happ : app 16 s v = some (s ++ v) := by unfold app; rw [if_pos ⟨h2, by omega⟩]
      rw [show s.take I ++ (v ++ s.drop I) = s ++ v by rw [hin]; simp]
      refine TW.cond_t rfl (decide_eq_true (by omega)) ?_
      refine TW.seq ?_
      refine TW.region ?_
      refine TO.y (Y.move rfl) rfl rfl rfl ?_
      refine TO.y (Y.move rfl) rfl rfl rfl ?_
      refine TO.ef (Ef.appN (α := Share) (is' := []) [0, 0] happ ke30 kz134 rfl rfl rfl rfl rfl) rfl rfl rfl (fun X => ?_)
      refine TO.y (Y.assign rfl) rfl rfl rfl ?_
      refine TO.nil ?_
      refine TE.next ?_
      refine TW.ret ?_
      refine TE.then_ret ?_
      exact TE.leaf fun _ _ hf_ hs_ => ret_any (rs := [.tmp 6]) (vs := [X]) (.inl rfl) rfl ⟨rfl, trivial⟩ hf_ hs_ ⟨X, rfl, hs_.pulls [0] rfl⟩
    · refine TW.cond_f rfl (decide_eq_false (by omega)) ?_
      refine TW.skip ?_
      refine TE.next ?_
      refine TW.openRows (α := Share) (by omega) hm1 ?_
      intro b cap e cur b2 cap2 e2 cur2 hV hU hbb hc1 hc2 hc3 hc4 hl1 hl2 ho1 ho2
      subst hV hU
      have hsz : Enc.sz Share = 2 := rfl
      rw [hsz] at hl1 hl2 ho1 ho2
      have e1 := wr2 s.length v.length h3
      refine TW.seq ?_
      refine TW.seq ?_
      refine TW.region ?_
      refine TO.y (Y.move rfl) rfl rfl rfl ?_
      refine TO.y (Y.move rfl) rfl rfl rfl ?_
      refine TO.y (Y.add rfl rfl) rfl rfl rfl ?_
      refine TO.y (Y.move rfl) rfl rfl rfl ?_
      refine TO.y (Y.capRaw ke30 rfl) rfl rfl rfl ?_
      refine TO.y (Y.gtr rfl rfl) rfl rfl rfl ?_
      refine TO.nil ?_
      refine TE.next ?_
      by_cases hroom : cap < s.length + v.length
      · refine TW.cond_t rfl (by rw [e1]; exact decide_eq_true (by omega)) ?_
        refine TW.seq ?_
        refine TW.region ?_
        refine TO.y (Y.move rfl) rfl rfl rfl ?_
        refine TO.y (Y.move rfl) rfl rfl rfl ?_
        refine TO.y (Y.toRaw (hi := I) ke30 (by omega) rfl rfl rfl) rfl rfl rfl ?_
        refine TO.y (Y.move rfl) rfl rfl rfl ?_
        refine TO.y (Y.move rfl) rfl rfl rfl ?_
        refine TO.y (Y.add rfl rfl) rfl rfl rfl ?_
        refine TO.y (Y.move rfl) rfl rfl rfl ?_
        refine TO.y (Y.sub rfl rfl) rfl rfl rfl ?_
        have e2 : IntKind.i64.wrap (IntKind.i64.wrap ((s.length : Int) + (v.length : Int)) - (I : Int)) = ((s.length + v.length - I : Nat) : Int) := by rw [e1, IntKind.wrap_i64]; omega
        refine TO.ef (Ef.rawGrow (N := s.length + v.length) (q := s.length + v.length - I) 0 ke30 ki3 kz134 rfl rfl rfl rfl rfl e2 (by omega) (by omega) hl1 (by omega) hroom (by omega) h2) rfl rfl rfl (fun X => ?_)
        refine TO.y (Y.assign rfl) rfl rfl rfl ?_
        refine TO.nil ?_
        refine TE.next ?_
        obtain ⟨⟨⟨g, gc⟩, ge, zs⟩, hz1, hz2, hz3⟩ := X
        dsimp only at hz1 hz2 hz3 ⊢
        obtain ⟨q1, q2, q3, q4, q5, q6⟩ := insA (G := gc) (zs := zs) h1n hc1 hc3 hl1 hl2 hz1 hz2
        have m1 : 0 + I * 2 + v.length * 2 ≤ gc * 2 := by omega
        have m2 : 0 + (I + v.length) * 2 + (s.length - I) * 2 ≤ gc * 2 := by omega
        have m3 : 0 + v.length * 2 ≤ cap2 * 2 := by omega
        have m4 : 0 + I * 2 + (s.length - I) * 2 ≤ cap * 2 := by omega
        refine TW.seq ?_
        refine TW.region ?_
        refine TO.y (Y.move rfl) rfl rfl rfl ?_
        refine TO.y (Y.move rfl) rfl rfl rfl ?_
        refine TO.y (Y.fromRaw (lo := I) ke30 (by omega) (by omega) rfl rfl rfl) rfl rfl rfl ?_
        refine TO.y (Y.move rfl) rfl rfl rfl ?_
        refine TO.ef (Ef.rawCopy (sl := v.length) 0 2 ke30 rfl rfl rfl rfl (by omega) (by rw [q3]; exact m1) (Nat.le_trans m3 hl2) (by rw [List.drop_zero]; exact ho2) rfl) rfl rfl rfl (fun _ => ?_)
        refine TO.nil ?_
        refine TE.next ?_
        refine TW.seq ?_
        refine TW.draw (isH := []) hMix ?_
        refine TA.y 0 [] rfl (Y.move rfl) rfl rfl rfl (by kernel_rfl) rfl ?_
        refine TA.y 1 [] rfl (Y.move rfl) rfl rfl rfl (by kernel_rfl) rfl ?_
        refine TA.y 2 [] rfl (Y.move rfl) rfl rfl rfl (by kernel_rfl) rfl ?_
        refine TA.y 3 [] rfl (Y.add rfl rfl) rfl rfl rfl (by kernel_rfl) rfl ?_
        refine TA.y 4 [] rfl (Y.fromRaw (lo := I + v.length) ke30 (by omega) (by omega) (wr2 I v.length (by omega)) rfl rfl) rfl rfl rfl (by kernel_rfl) rfl ?_
        refine TA.y 5 [] rfl (Y.move rfl) rfl rfl rfl (by kernel_rfl) rfl ?_
        refine TA.y 6 [] rfl (Y.move rfl) rfl rfl rfl (by kernel_rfl) rfl ?_
        refine TA.y 7 [] rfl (Y.fromRaw (lo := I) ke30 (by omega) (by omega) rfl rfl rfl) rfl rfl rfl (by kernel_rfl) rfl ?_
        refine TA.one 8 (by kernel_rfl) ?_
        refine TX.ef [] rfl (Ef.rawCopy (sl := s.length - I) 0 1 ke30 rfl rfl rfl rfl (by omega) (by rw [q4]; exact m2) (Nat.le_trans m4 hl1) (ins_one ho1 h1n) rfl) rfl rfl rfl (fun _ => rfl) (fun _ => ?_)
        refine TA.nil (by kernel_rfl) ?_
        refine TE.next ?_
        refine TW.seq ?_
        refine TW.region ?_
        refine TO.y (Y.move rfl) rfl rfl rfl ?_
        refine TO.y (Y.assign rfl) rfl rfl rfl ?_
        refine TO.nil ?_
        refine TE.next ?_
        refine TW.ret ?_
        refine TE.then_ret ?_
        refine TE.ghost (Gh.fold (α := Share) (l := s) (k := v) (i := I) [0, 2, 2, 0, 0] rfl h1n hz2 hz3 (Nat.le_of_eq q5.symm) q6) (fun _ => ?_)
        exact TE.leaf fun _ _ hf_ hs_ => ret_any (rs := [.tmp 6]) (vs := [.slice (some ⟨g, 0, none⟩) (s.length + v.length) gc]) (.inl rfl) rfl ⟨rfl, trivial⟩ hf_ hs_ ⟨(.slice (some ⟨g, 0, none⟩) (s.length + v.length) gc), rfl, hs_.pulls [0] rfl⟩
      · refine TW.cond_f rfl (by rw [e1]; exact decide_eq_false (by omega)) ?_
        refine TW.skip ?_
        refine TE.next ?_
        refine TW.seq ?_
        refine TW.region ?_
        refine TO.y (Y.move rfl) rfl rfl rfl ?_
        refine TO.y (Y.move rfl) rfl rfl rfl ?_
        refine TO.y (Y.move rfl) rfl rfl rfl ?_
        refine TO.y (Y.add rfl rfl) rfl rfl rfl ?_
        refine TO.y (Y.toRaw (hi := s.length + v.length) ke30 (by omega) e1 rfl rfl) rfl rfl rfl ?_
        refine TO.y (Y.assign rfl) rfl rfl rfl ?_
        refine TO.nil ?_
        refine TE.next ?_
        obtain ⟨q1, q2, q3, q4, q5⟩ := insB h1n (by omega) hc3 hl1 hl2
        have m1 : 0 + I * 2 + v.length * 2 ≤ cap * 2 := by omega
        have m2 : 0 + (I + v.length) * 2 + (s.length - I) * 2 ≤ cap * 2 := by omega
        have m3 : 0 + v.length * 2 ≤ cap2 * 2 := by omega
        have m4 : 0 + I * 2 + (s.length - I) * 2 ≤ cap * 2 := by omega
        have hne : cur ≠ [] := by intro e; rw [e] at hl1; simp at hl1; omega
        refine TW.seq ?_
        refine TW.seq ?_
        refine TW.region ?_
        refine TO.y (Y.move rfl) rfl rfl rfl ?_
        refine TO.y (Y.move rfl) rfl rfl rfl ?_
        refine TO.y (Y.move rfl) rfl rfl rfl ?_
        refine TO.y (Y.move rfl) rfl rfl rfl ?_
        refine TO.y (Y.add rfl rfl) rfl rfl rfl ?_
        refine TO.y (Y.fromRaw (lo := I + v.length) ke30 (by omega) (by omega) (wr2 I v.length (by omega)) rfl rfl) rfl rfl rfl ?_
        refine TO.ef (Ef.overlaps (tr := 4) 1 0 Tryz.func149 (by kernel_rfl) (by kernel_rfl) (by kernel_rfl) (by kernel_rfl) ke30 rfl rfl (Ne.symm hbb) rfl rfl hne) rfl rfl rfl (fun _ => ?_)
        refine TO.y (Y.not rfl) rfl rfl rfl ?_
        refine TO.nil ?_
        refine TE.next ?_
        refine TW.cond_true rfl ?_
        refine TW.seq ?_
        refine TW.draw (isH := []) hMix ?_
        refine TA.y 0 [] rfl (Y.move rfl) rfl rfl rfl (by kernel_rfl) rfl ?_
        refine TA.y 1 [] rfl (Y.move rfl) rfl rfl rfl (by kernel_rfl) rfl ?_
        refine TA.y 2 [] rfl (Y.move rfl) rfl rfl rfl (by kernel_rfl) rfl ?_
        refine TA.y 3 [] rfl (Y.add rfl rfl) rfl rfl rfl (by kernel_rfl) rfl ?_
        refine TA.y 4 [] rfl (Y.fromRaw (lo := I + v.length) ke30 (by omega) (by omega) (wr2 I v.length (by omega)) rfl rfl) rfl rfl rfl (by kernel_rfl) rfl ?_
        refine TA.y 5 [] rfl (Y.move rfl) rfl rfl rfl (by kernel_rfl) rfl ?_
        refine TA.y 6 [] rfl (Y.move rfl) rfl rfl rfl (by kernel_rfl) rfl ?_
        refine TA.y 7 [] rfl (Y.fromRaw (lo := I) ke30 (by omega) (by omega) rfl rfl rfl) rfl rfl rfl (by kernel_rfl) rfl ?_
        refine TA.one 8 (by kernel_rfl) ?_
        refine TX.ef [] rfl (Ef.rawCopy (sl := s.length - I) 0 0 ke30 rfl rfl rfl rfl (by omega) (Nat.le_trans m2 hl1) (Nat.le_trans m4 hl1) (ins_one ho1 h1n) rfl) rfl rfl rfl (fun _ => rfl) (fun _ => ?_)
        refine TA.nil (by kernel_rfl) ?_
        refine TE.next ?_
        refine TW.seq ?_
        refine TW.region ?_
        refine TO.y (Y.move rfl) rfl rfl rfl ?_
        refine TO.y (Y.move rfl) rfl rfl rfl ?_
        refine TO.y (Y.fromRaw (lo := I) ke30 (by omega) (by omega) rfl rfl rfl) rfl rfl rfl ?_
        refine TO.y (Y.move rfl) rfl rfl rfl ?_
        refine TO.ef (Ef.rawCopy (sl := v.length) 0 1 ke30 rfl rfl rfl rfl (by omega) (by rw [q3]; exact Nat.le_trans m1 hl1) (Nat.le_trans m3 hl2) (by rw [List.drop_zero]; exact ho2) rfl) rfl rfl rfl (fun _ => ?_)
        refine TO.nil ?_
        refine TE.next ?_
        refine TW.seq ?_
        refine TW.region ?_
        refine TO.y (Y.move rfl) rfl rfl rfl ?_
        refine TO.y (Y.assign rfl) rfl rfl rfl ?_
        refine TO.nil ?_
        refine TE.next ?_
        refine TW.ret ?_
        refine TE.then_ret ?_
        refine TE.ghost (Gh.fold (α := Share) (l := s) (k := v) (i := I) [0, 1, 1, 0] rfl h1n (by omega) hc2 (by rw [q4]; exact hl1) q5) (fun _ => ?_)
        exact TE.leaf fun _ _ hf_ hs_ => ret_any (rs := [.tmp 6]) (vs := [.slice (some ⟨b, 0, none⟩) (s.length + v.length) cap]) (.inl rfl) rfl ⟨rfl, trivial⟩ hf_ hs_ ⟨(.slice (some ⟨b, 0, none⟩) (s.length + v.length) cap), rfl, hs_.pulls [0] rfl⟩
theorem slices_Insert_21618_c {s : List Share} {i : Int} {v : List Share} {V_s0 V_v0 : Value} : Cn Tryz.prog 114 [V_s0, iv i, V_v0] [.own V_s0 (lc s), .own V_v0 (lc v)] [] (slices_Insert_21618 s i v) (fun _ (X : Value) => X) fun r X => [.own X (lc r)] := ⟨by kernel_rfl, fun _ h => slices_Insert_21618_con s i v _ _ _ h⟩
noncomputable def impl_ShareSet (s : Shares) (tenant : Int) (quota : Int) : Option (Shares × Bool) :=
  (impl_SharesOk s).bind fun R3 =>
  if (!R3) = true then (some ({ Size := (0 : Int), List := ([] : List Share) : Shares }, false))
  else ((impl_copyShares s).bind fun R8 =>
  (impl_shareAt s tenant).bind fun R12 =>
  bindC (if R12.2 = true then ((idx R8.List R12.1).bind fun E19 =>
  some (.go (R8.List.set R12.1.toNat ({ Tenant := tenant, Quota := quota : Share }))))
  else ((slices_Insert_21618 R8.List R12.1 ([{ Tenant := tenant, Quota := quota : Share }])).bind fun R22 =>
  some (.go R22)))
  (fun (T16 : List Share) => (impl_SharesOk ({ Size := R8.Size, List := T16 : Shares })).bind fun R25 =>
  if (!R25) = true then (some (R8, false))
  else (some ({ Size := R8.Size, List := T16 : Shares }, true))))
theorem impl_ShareSet_c {s : Shares} {tenant : Int} {quota : Int} {U0 : Value} : Cn Tryz.prog 70 [.agg #[iv s.Size, U0], iv tenant, iv quota] [] [(U0, lc s.List)] (impl_ShareSet s tenant quota) (fun r (X : Value) => .tuple #[.agg #[iv r.1.Size, X], .bool r.2]) fun r X => [.own X (lc r.1.List)] := by
  unfold impl_ShareSet
  refine Ci Tryz.func70 r r ?_
  rintro w S ⟨Z0,-⟩
  refine Sr<|Fo (Bx r (Ca ⟨Op',Ob Z0,⟨⟩⟩)) fun B1=>Fo (Al kz32 r) fun B2=>Qs 1 r<|Nx<|Sq<|Sr<|Yo (Lb 1 kk32 r)<|Bi fun R3 H4=>Fo (Cl [] impl_SharesOk_c H4 r r1 ⟨(Bc Z0),⟨⟩⟩) fun _=>Qs 1 r<|Nx<|Wc r (fun H6=>?_) fun H6=>?_
  ·exact Sr<|Yo (Bd kp32 kz32 (Pz) r)<|Fu (Sb 0 kk32 r (Cp r) r)<|Qs 1 r<|Nx<|Wr<|Tr<|TE.leaf fun _ _ hf_ hs_ => ret_any (rs := [.cell 6 32, .tmp 7]) (vs := [.agg #[iv (0 : Int), .slice none 0 0], .bool false]) (.inl r) r (RV.cell 0 r r kk32 r ⟨r, ⟨⟩⟩) hf_ hs_ ⟨(.slice none 0 0), r, (hs_.nilItem 2).pulls [0] r⟩
  refine Sn<|Sr<|Yo (Lb 1 kk32 r)<|Bi fun R8 H9=>Fo (Cl [] impl_copyShares_c H9 r r1 ⟨(Bc Z0),⟨⟩⟩) fun Y10=>Fo (Al kz32 r) fun B11=>Fu (Sb 0 kk32 r (Ca ⟨Op',Ow' 1,⟨⟩⟩) r)<|Nx<|Sr<|Yo (Lb 3 kk32 r)<|Qs 1 r<|Bi fun R12 H13=>Fo (Cl [] impl_shareAt_c H13 r r1 ⟨(Bc Z0),⟨⟩⟩) fun _=>Qs 5 r<|Nx<|Sr<|Qs 2 r<|Yo (Bd kp134 kz134 (Pc r (Cp r)<|Pc r (Cp r)<|Pz) r)<|Fo (Al kz134 r) fun B15=>Fu (Sb 0 kk134 r (Cp r) r)<|Nx<|Sq<|Sr<|Qs 1 r<|Nx<|Jn Value [3,6,8] [4,3] (fun _ _=>[]) (fun T X=>[.box B11 32 [iv R8.Size, X], .own X (lc T)]) r2 r2 (?_) fun T16 X17=>?_
  ·exact Wc r (fun H18=>Rg<|Yo (Fb kf32_1 r)<|Yo (Lb 1 kk30 r)<|Qs 1 r<|Yo (Lb 0 kk134 r)<|Bi fun E19 H20=>Yo (Ix ke30 (Oc 2 r) H20 r)<|Fu (Se ({ Tenant := tenant, Quota := quota : Share }) 2 kk134 H20 r (Cp r) r)<|Nl<|Jg Y10 [4,3,1,1]) fun H18=>Rg<|Yo (Fb kf32_1 r)<|Yo (Lb 1 kk30 r)<|Qs 1 r<|Yo (Lb 0 kk134 r)<|Fo (Bs [{ Tenant := tenant, Quota := quota : Share }] ke30 kz134) fun B21=>Bi fun R22 H23=>Fo (Cl [3, 0] slices_Insert_21618_c H23 r r1) fun Y24=>Yo (Fb kf32_1 r)<|Fu (Sb 2 kk30 r (Co 0) r)<|Nl<|Jg Y24 [4,3,2,0]
  refine Ne<|Sq<|Sr<|Yo (Lb 2 kk32 r)<|Bi fun R25 H26=>Fo (Cl [] impl_SharesOk_c H26 r r1 ⟨(Oc 3 r),⟨⟩⟩) fun _=>Qs 1 r<|Nx<|Wc r (fun H28=>?_) fun H28=>?_
  ·exact Sr<|Yo (Lb 0 kk32 r)<|Fo (Cl [] impl_copyShares_c H9 r r1 ⟨(Bc Z0),⟨⟩⟩) fun Y29=>Fu (Sb 2 kk32 r (Ca ⟨Op',Ow' 0,⟨⟩⟩) r)<|Qs 1 r<|Nx<|Wr<|Tr<|TE.leaf fun _ _ hf_ hs_ => ret_any (rs := [.cell 6 32, .tmp 7]) (vs := [.agg #[iv R8.Size, Y29], .bool false]) (.inl r) r (RV.cell 2 r r kk32 r ⟨r, ⟨⟩⟩) hf_ hs_ ⟨Y29, r, hs_.pulls [0] r⟩
  exact Sn<|Sr<|Yo (Lb 2 kk32 r)<|Fu (Sb 1 kk32 r (Ca ⟨Op',Ow' 3,⟨⟩⟩) r)<|Qs 1 r<|Nx<|Wr<|TE.leaf fun _ _ hf_ hs_ => ret_any (rs := [.cell 6 32, .tmp 7]) (vs := [.agg #[iv R8.Size, X17], .bool true]) (.inl r) r (RV.cell 1 r r kk32 r ⟨r, ⟨⟩⟩) hf_ hs_ ⟨X17, r, hs_.pulls [3] r⟩
noncomputable def slices_Insert_81204 (s : List MTen) (i : Int) (v : List MTen) : Option (List MTen) := ins 72 s i v
theorem slices_Insert_81204_con (s : List MTen) (i : Int) (v : List MTen) (V_s0 V_v0 : Value) (r : List MTen) (hm : slices_Insert_81204 s i v = some r) :
    Con Tryz.prog 115 [V_s0, .int .i64 i, V_v0] [.own V_s0 (lc s), .own V_v0 (lc v)] [] (fun X : Value => X) (fun X => [.own X (lc r)]) := by
  refine Con.intro (args := [V_s0, .int .i64 i, V_v0]) (n := 95) (val := fun _ (X : Value) => X) (post := fun r X => [.own X (lc r)]) (m := slices_Insert_81204 s i v) Tryz.func115 rfl rfl rfl hm ?_
  intro w S _
  unfold slices_Insert_81204
  refine TW.known fun r0 hr0 => ?_
  obtain ⟨h0, h1, h2, h3, rfl⟩ := ins_eq hr0
  obtain ⟨I, rfl⟩ := Int.eq_ofNat_of_zero_le h0
  rw [Int.toNat_natCast]
  have h1n : I ≤ s.length := by omega
  clear hr0 hm
  have wr : ∀ q : Nat, q ≤ 4611686018427387904 → IntKind.i64.wrap (q : Int) = (q : Int) := fun q hq => by rw [IntKind.wrap_i64]; omega
  have wr2 : ∀ a b : Nat, a + b ≤ 4611686018427387904 → IntKind.i64.wrap ((a : Int) + (b : Int)) = ((a + b : Nat) : Int) := fun a b hq => by rw [IntKind.wrap_i64]; omega
  obtain ⟨z0, hpc⟩ : ∃ z, piece s (I : Int) ((s.length : Nat) : Int) = some z := ⟨_, if_pos ⟨by omega, by omega, by omega⟩⟩
  refine TW.seq ?_
  refine TW.region ?_
  refine TO.y (Y.assign rfl) rfl rfl rfl ?_
  refine TO.nil ?_
  refine TE.next ?_
  refine TW.seq ?_
  refine TW.region ?_
  refine TO.y (Y.move rfl) rfl rfl rfl ?_
  refine TO.y (Y.move rfl) rfl rfl rfl ?_
  refine TO.y (Y.subs hpc ke33 (Can.own 0 rfl) rfl ⟨_, rfl⟩ rfl) rfl rfl rfl ?_
  refine TO.nil ?_
  refine TE.next ?_
  refine TW.seq ?_
  refine TW.region ?_
  refine TO.y (Y.move rfl) rfl rfl rfl ?_
  refine TO.y (Y.len (l := v) ke33 (Can.own 1 rfl) rfl) rfl rfl rfl ?_
  refine TO.y (Y.assign rfl) rfl rfl rfl ?_
  refine TO.nil ?_
  refine TE.next ?_
  refine TW.seq ?_
  refine TW.seq ?_
  refine TW.region ?_
  refine TO.y (Y.move rfl) rfl rfl rfl ?_
  refine TO.y (Y.eql rfl rfl) rfl rfl rfl ?_
  refine TO.nil ?_
  refine TE.next ?_
  by_cases hm0 : v = []
  · subst hm0
    rw [show s.take I ++ ([] ++ s.drop I) = s by simp]
    refine TW.cond_t rfl (by simp) ?_
    refine TW.seq ?_
    refine TW.region ?_
    refine TO.y (Y.move rfl) rfl rfl rfl ?_
    refine TO.y (Y.assign rfl) rfl rfl rfl ?_
    refine TO.nil ?_
    refine TE.next ?_
    refine TW.ret ?_
    refine TE.then_ret ?_
    exact TE.leaf fun _ _ hf_ hs_ => ret_any (rs := [.tmp 6]) (vs := [V_s0]) (.inl rfl) rfl ⟨rfl, trivial⟩ hf_ hs_ ⟨V_s0, rfl, hs_.pulls [0] rfl⟩
  · have hm1 : 0 < v.length := List.length_pos_iff.2 hm0
    refine TW.cond_f rfl (decide_eq_false (by omega)) ?_
    refine TW.skip ?_
    refine TE.next ?_
    refine TW.seq ?_
    refine TW.region ?_
    refine TO.y (Y.move rfl) rfl rfl rfl ?_
    refine TO.y (Y.len (l := s) ke33 (Can.own 0 rfl) rfl) rfl rfl rfl ?_
    refine TO.y (Y.assign rfl) rfl rfl rfl ?_
    refine TO.nil ?_
    refine TE.next ?_
    refine TW.seq ?_
    refine TW.seq ?_
    refine TW.region ?_
    refine TO.y (Y.move rfl) rfl rfl rfl ?_
    refine TO.y (Y.move rfl) rfl rfl rfl ?_
    refine TO.y (Y.eql rfl rfl) rfl rfl rfl ?_
    refine TO.nil ?_
    refine TE.next ?_
    by_cases hin : I = s.length
    · have happ : app 72 s v = some (s ++ v) := by unfold app; rw [if_pos ⟨h2, by omega⟩]
      rw [show s.take I ++ (v ++ s.drop I) = s ++ v by rw [hin]; simp]
      refine TW.cond_t rfl (decide_eq_true (by omega)) ?_
      refine TW.seq ?_
      refine TW.region ?_
      refine TO.y (Y.move rfl) rfl rfl rfl ?_
      refine TO.y (Y.move rfl) rfl rfl rfl ?_
      refine TO.ef (Ef.appN (α := MTen) (is' := []) [0, 0] happ ke33 kz90 rfl rfl rfl rfl rfl) rfl rfl rfl (fun X => ?_)
      refine TO.y (Y.assign rfl) rfl rfl rfl ?_
      refine TO.nil ?_
      refine TE.next ?_
      refine TW.ret ?_
      refine TE.then_ret ?_
      exact TE.leaf fun _ _ hf_ hs_ => ret_any (rs := [.tmp 6]) (vs := [X]) (.inl rfl) rfl ⟨rfl, trivial⟩ hf_ hs_ ⟨X, rfl, hs_.pulls [0] rfl⟩
    · refine TW.cond_f rfl (decide_eq_false (by omega)) ?_
      refine TW.skip ?_
      refine TE.next ?_
      refine TW.openRows (α := MTen) (by omega) hm1 ?_
      intro b cap e cur b2 cap2 e2 cur2 hV hU hbb hc1 hc2 hc3 hc4 hl1 hl2 ho1 ho2
      subst hV hU
      have hsz : Enc.sz MTen = 5 := rfl
      rw [hsz] at hl1 hl2 ho1 ho2
      have e1 := wr2 s.length v.length h3
      refine TW.seq ?_
      refine TW.seq ?_
      refine TW.region ?_
      refine TO.y (Y.move rfl) rfl rfl rfl ?_
      refine TO.y (Y.move rfl) rfl rfl rfl ?_
      refine TO.y (Y.add rfl rfl) rfl rfl rfl ?_
      refine TO.y (Y.move rfl) rfl rfl rfl ?_
      refine TO.y (Y.capRaw ke33 rfl) rfl rfl rfl ?_
      refine TO.y (Y.gtr rfl rfl) rfl rfl rfl ?_
      refine TO.nil ?_
      refine TE.next ?_
      by_cases hroom : cap < s.length + v.length
      · refine TW.cond_t rfl (by rw [e1]; exact decide_eq_true (by omega)) ?_
        refine TW.seq ?_
        refine TW.region ?_
        refine TO.y (Y.move rfl) rfl rfl rfl ?_
        refine TO.y (Y.move rfl) rfl rfl rfl ?_
        refine TO.y (Y.toRaw (hi := I) ke33 (by omega) rfl rfl rfl) rfl rfl rfl ?_
        refine TO.y (Y.move rfl) rfl rfl rfl ?_
        refine TO.y (Y.move rfl) rfl rfl rfl ?_
        refine TO.y (Y.add rfl rfl) rfl rfl rfl ?_
        refine TO.y (Y.move rfl) rfl rfl rfl ?_
        refine TO.y (Y.sub rfl rfl) rfl rfl rfl ?_
        have e2 : IntKind.i64.wrap (IntKind.i64.wrap ((s.length : Int) + (v.length : Int)) - (I : Int)) = ((s.length + v.length - I : Nat) : Int) := by rw [e1, IntKind.wrap_i64]; omega
        refine TO.ef (Ef.rawGrow (N := s.length + v.length) (q := s.length + v.length - I) 0 ke33 ki3 kz90 rfl rfl rfl rfl rfl e2 (by omega) (by omega) hl1 (by omega) hroom (by omega) h2) rfl rfl rfl (fun X => ?_)
        refine TO.y (Y.assign rfl) rfl rfl rfl ?_
        refine TO.nil ?_
        refine TE.next ?_
        obtain ⟨⟨⟨g, gc⟩, ge, zs⟩, hz1, hz2, hz3⟩ := X
        dsimp only at hz1 hz2 hz3 ⊢
        obtain ⟨q1, q2, q3, q4, q5, q6⟩ := insA (G := gc) (zs := zs) h1n hc1 hc3 hl1 hl2 hz1 hz2
        have m1 : 0 + I * 5 + v.length * 5 ≤ gc * 5 := by omega
        have m2 : 0 + (I + v.length) * 5 + (s.length - I) * 5 ≤ gc * 5 := by omega
        have m3 : 0 + v.length * 5 ≤ cap2 * 5 := by omega
        have m4 : 0 + I * 5 + (s.length - I) * 5 ≤ cap * 5 := by omega
        refine TW.seq ?_
        refine TW.region ?_
        refine TO.y (Y.move rfl) rfl rfl rfl ?_
        refine TO.y (Y.move rfl) rfl rfl rfl ?_
        refine TO.y (Y.fromRaw (lo := I) ke33 (by omega) (by omega) rfl rfl rfl) rfl rfl rfl ?_
        refine TO.y (Y.move rfl) rfl rfl rfl ?_
        refine TO.ef (Ef.rawCopy (sl := v.length) 0 2 ke33 rfl rfl rfl rfl (by omega) (by rw [q3]; exact m1) (Nat.le_trans m3 hl2) (by rw [List.drop_zero]; exact ho2) rfl) rfl rfl rfl (fun _ => ?_)
        refine TO.nil ?_
        refine TE.next ?_
        refine TW.seq ?_
        refine TW.draw (isH := []) hMix ?_
        refine TA.y 0 [] rfl (Y.move rfl) rfl rfl rfl (by kernel_rfl) rfl ?_
        refine TA.y 1 [] rfl (Y.move rfl) rfl rfl rfl (by kernel_rfl) rfl ?_
        refine TA.y 2 [] rfl (Y.move rfl) rfl rfl rfl (by kernel_rfl) rfl ?_
        refine TA.y 3 [] rfl (Y.add rfl rfl) rfl rfl rfl (by kernel_rfl) rfl ?_
        refine TA.y 4 [] rfl (Y.fromRaw (lo := I + v.length) ke33 (by omega) (by omega) (wr2 I v.length (by omega)) rfl rfl) rfl rfl rfl (by kernel_rfl) rfl ?_
        refine TA.y 5 [] rfl (Y.move rfl) rfl rfl rfl (by kernel_rfl) rfl ?_
        refine TA.y 6 [] rfl (Y.move rfl) rfl rfl rfl (by kernel_rfl) rfl ?_
        refine TA.y 7 [] rfl (Y.fromRaw (lo := I) ke33 (by omega) (by omega) rfl rfl rfl) rfl rfl rfl (by kernel_rfl) rfl ?_
        refine TA.one 8 (by kernel_rfl) ?_
        refine TX.ef [] rfl (Ef.rawCopy (sl := s.length - I) 0 1 ke33 rfl rfl rfl rfl (by omega) (by rw [q4]; exact m2) (Nat.le_trans m4 hl1) (ins_one ho1 h1n) rfl) rfl rfl rfl (fun _ => rfl) (fun _ => ?_)
        refine TA.nil (by kernel_rfl) ?_
        refine TE.next ?_
        refine TW.seq ?_
        refine TW.region ?_
        refine TO.y (Y.move rfl) rfl rfl rfl ?_
        refine TO.y (Y.assign rfl) rfl rfl rfl ?_
        refine TO.nil ?_
        refine TE.next ?_
        refine TW.ret ?_
        refine TE.then_ret ?_
        refine TE.ghost (Gh.fold (α := MTen) (l := s) (k := v) (i := I) [0, 2, 2, 0, 0] rfl h1n hz2 hz3 (Nat.le_of_eq q5.symm) q6) (fun _ => ?_)
        exact TE.leaf fun _ _ hf_ hs_ => ret_any (rs := [.tmp 6]) (vs := [.slice (some ⟨g, 0, none⟩) (s.length + v.length) gc]) (.inl rfl) rfl ⟨rfl, trivial⟩ hf_ hs_ ⟨(.slice (some ⟨g, 0, none⟩) (s.length + v.length) gc), rfl, hs_.pulls [0] rfl⟩
      · refine TW.cond_f rfl (by rw [e1]; exact decide_eq_false (by omega)) ?_
        refine TW.skip ?_
        refine TE.next ?_
        refine TW.seq ?_
        refine TW.region ?_
        refine TO.y (Y.move rfl) rfl rfl rfl ?_
        refine TO.y (Y.move rfl) rfl rfl rfl ?_
        refine TO.y (Y.move rfl) rfl rfl rfl ?_
        refine TO.y (Y.add rfl rfl) rfl rfl rfl ?_
        refine TO.y (Y.toRaw (hi := s.length + v.length) ke33 (by omega) e1 rfl rfl) rfl rfl rfl ?_
        refine TO.y (Y.assign rfl) rfl rfl rfl ?_
        refine TO.nil ?_
        refine TE.next ?_
        obtain ⟨q1, q2, q3, q4, q5⟩ := insB h1n (by omega) hc3 hl1 hl2
        have m1 : 0 + I * 5 + v.length * 5 ≤ cap * 5 := by omega
        have m2 : 0 + (I + v.length) * 5 + (s.length - I) * 5 ≤ cap * 5 := by omega
        have m3 : 0 + v.length * 5 ≤ cap2 * 5 := by omega
        have m4 : 0 + I * 5 + (s.length - I) * 5 ≤ cap * 5 := by omega
        have hne : cur ≠ [] := by intro e; rw [e] at hl1; simp at hl1; omega
        refine TW.seq ?_
        refine TW.seq ?_
        refine TW.region ?_
        refine TO.y (Y.move rfl) rfl rfl rfl ?_
        refine TO.y (Y.move rfl) rfl rfl rfl ?_
        refine TO.y (Y.move rfl) rfl rfl rfl ?_
        refine TO.y (Y.move rfl) rfl rfl rfl ?_
        refine TO.y (Y.add rfl rfl) rfl rfl rfl ?_
        refine TO.y (Y.fromRaw (lo := I + v.length) ke33 (by omega) (by omega) (wr2 I v.length (by omega)) rfl rfl) rfl rfl rfl ?_
        refine TO.ef (Ef.overlaps (tr := 4) 1 0 Tryz.func151 (by kernel_rfl) (by kernel_rfl) (by kernel_rfl) (by kernel_rfl) ke33 rfl rfl (Ne.symm hbb) rfl rfl hne) rfl rfl rfl (fun _ => ?_)
        refine TO.y (Y.not rfl) rfl rfl rfl ?_
        refine TO.nil ?_
        refine TE.next ?_
        refine TW.cond_true rfl ?_
        refine TW.seq ?_
        refine TW.draw (isH := []) hMix ?_
        refine TA.y 0 [] rfl (Y.move rfl) rfl rfl rfl (by kernel_rfl) rfl ?_
        refine TA.y 1 [] rfl (Y.move rfl) rfl rfl rfl (by kernel_rfl) rfl ?_
        refine TA.y 2 [] rfl (Y.move rfl) rfl rfl rfl (by kernel_rfl) rfl ?_
        refine TA.y 3 [] rfl (Y.add rfl rfl) rfl rfl rfl (by kernel_rfl) rfl ?_
        refine TA.y 4 [] rfl (Y.fromRaw (lo := I + v.length) ke33 (by omega) (by omega) (wr2 I v.length (by omega)) rfl rfl) rfl rfl rfl (by kernel_rfl) rfl ?_
        refine TA.y 5 [] rfl (Y.move rfl) rfl rfl rfl (by kernel_rfl) rfl ?_
        refine TA.y 6 [] rfl (Y.move rfl) rfl rfl rfl (by kernel_rfl) rfl ?_
        refine TA.y 7 [] rfl (Y.fromRaw (lo := I) ke33 (by omega) (by omega) rfl rfl rfl) rfl rfl rfl (by kernel_rfl) rfl ?_
        refine TA.one 8 (by kernel_rfl) ?_
        refine TX.ef [] rfl (Ef.rawCopy (sl := s.length - I) 0 0 ke33 rfl rfl rfl rfl (by omega) (Nat.le_trans m2 hl1) (Nat.le_trans m4 hl1) (ins_one ho1 h1n) rfl) rfl rfl rfl (fun _ => rfl) (fun _ => ?_)
        refine TA.nil (by kernel_rfl) ?_
        refine TE.next ?_
        refine TW.seq ?_
        refine TW.region ?_
        refine TO.y (Y.move rfl) rfl rfl rfl ?_
        refine TO.y (Y.move rfl) rfl rfl rfl ?_
        refine TO.y (Y.fromRaw (lo := I) ke33 (by omega) (by omega) rfl rfl rfl) rfl rfl rfl ?_
        refine TO.y (Y.move rfl) rfl rfl rfl ?_
        refine TO.ef (Ef.rawCopy (sl := v.length) 0 1 ke33 rfl rfl rfl rfl (by omega) (by rw [q3]; exact Nat.le_trans m1 hl1) (Nat.le_trans m3 hl2) (by rw [List.drop_zero]; exact ho2) rfl) rfl rfl rfl (fun _ => ?_)
        refine TO.nil ?_
        refine TE.next ?_
        refine TW.seq ?_
        refine TW.region ?_
        refine TO.y (Y.move rfl) rfl rfl rfl ?_
        refine TO.y (Y.assign rfl) rfl rfl rfl ?_
        refine TO.nil ?_
        refine TE.next ?_
        refine TW.ret ?_
        refine TE.then_ret ?_
        refine TE.ghost (Gh.fold (α := MTen) (l := s) (k := v) (i := I) [0, 1, 1, 0] rfl h1n (by omega) hc2 (by rw [q4]; exact hl1) q5) (fun _ => ?_)
        exact TE.leaf fun _ _ hf_ hs_ => ret_any (rs := [.tmp 6]) (vs := [.slice (some ⟨b, 0, none⟩) (s.length + v.length) cap]) (.inl rfl) rfl ⟨rfl, trivial⟩ hf_ hs_ ⟨(.slice (some ⟨b, 0, none⟩) (s.length + v.length) cap), rfl, hs_.pulls [0] rfl⟩
theorem slices_Insert_81204_c {s : List MTen} {i : Int} {v : List MTen} {V_s0 V_v0 : Value} : Cn Tryz.prog 115 [V_s0, iv i, V_v0] [.own V_s0 (lc s), .own V_v0 (lc v)] [] (slices_Insert_81204 s i v) (fun _ (X : Value) => X) fun r X => [.own X (lc r)] := ⟨by kernel_rfl, fun _ h => slices_Insert_81204_con s i v _ _ _ h⟩
noncomputable def impl_addTen (l : List MTen) (t : MTen) : Option (List MTen) :=
  bindC (loopO (fun (S2 : Int) => (if (decide (S2 < ((l.length : Nat) : Int))) = true then ((idx l S2).bind fun E9 =>
  some (decide (E9.Id < t.Id)))
  else (some false)).bind (fun (T6 : Bool) =>
  if T6 = true then (some (.go (IntKind.i64.wrap (S2 + (1 : Int)))))
  else (some (.done (.go S2)))))
  (0 : Int))
  (fun (T4 : Int) => (slices_Insert_81204 l T4 ([t])).bind fun R13 =>
  some R13)
theorem impl_addTen_c {l : List MTen} {t : MTen} {U0 U1 U2 : Value} : Cn Tryz.prog 71 [U0, .agg #[iv t.Id, iv t.Epoch, iv t.Seq, U1, U2]] [.own U0 (lc l), .own U1 (lc t.Map), .own U2 (lc t.Snaps)] [] (impl_addTen l t) (fun _ (X : Value) => X) fun r X => [.own X (lc r)] := by
  unfold impl_addTen
  refine Ci Tryz.func71 r r ?_
  rintro w S -
  refine Sr<|Fo (Bx r (Ca ⟨Op',Op',Op',Ow' 1,Ow' 2,⟨⟩⟩)) fun B1=>Qs 1 r<|Nx<|Sr<|Qs 1 r<|Nx<|Sq<|Ju [0,3] (fun T=>[(5, iv T)]) r1 (?_) fun T4=>?_
  ·refine Wb<|Lu [0,3] (fun T=>[(5, iv T)]) r1 fun S2=>Sq<|Sq<|Jv [0,3,5] (fun T=>[(19, .bool T)]) r1 (?_) fun T6=>?_
   ·refine Dr [0,0,0,0] r hMix<|Aq [0,1] [0,0,0,0] r<|Ay 2 [0,0,0,0] r (Ln ke33 (Oc 1 r) r)<|Aq [3,4] [0,0,0,0] r<|Ia (fun H8=>?_) fun H8=>?_
    ·exact Ag 5 [0,0,0,0] (gdA (beq_tt H8)) r (Y.move r)<|Ag 6 [0,0,0,0] (gdA (beq_tt H8)) r (Y.move r)<|Ai fun E9 H10=>Ag 7 [0,0,0,0] (gdA (beq_tt H8)) r (Ix ke33 (Oc 1 r) H10 r)<|Ag 8 [0,0,0,0] (gdA (beq_tt H8)) r (Fe kf90_0 (Oc 1 r) H10 r)<|Ag 9 [0,0,0,0] (gdA (beq_tt H8)) r (Le kk3 (Oc 1 r) H10 r)<|Ag 10 [0,0,0,0] (gdA (beq_tt H8)) r (Fb kf90_0 r)<|Ag 11 [0,0,0,0] (gdA (beq_tt H8)) r (Lb 0 kk3 r)<|Ag 12 [0,0,0,0] (gdA (beq_tt H8)) r (Y.lss r r)<|Ay 13 [0,0,0,0] r (Pt H8 r)<|Az<|Bg () [0,0,0,0]
    exact Ax [5,6,7,8,9,10,11,12] [0,0,0,0] (beq_ft H8) r r<|Ay 13 [0,0,0,0] r (Pf H8 r)<|Az<|Bg () [0,0,0,0]
   exact Ne<|Wc r (fun H11=>Sn<|Wb<|Rg<|Qs 3 r<|Nl<|Bn<|Lg () [0,0,0,0]) fun H11=>Wx<|Tx<|Ex<|Be<|Jg () [0,0,0,0]
  exact Ne<|Sr<|Qs 2 r<|Yo (Lb 0 kk90 r)<|Fo (Bk [ic t.Id, ic t.Epoch, ic t.Seq, .raw U1, .raw U2] ke33 kz90 r (Qc (Ca ⟨Op',Op',Op',Ow' 2,Ow' 3,⟨⟩⟩)<|Qz)) fun B12=>Kt (Ha [0, 2, 2] ([t] : List MTen) r (Ck (Ck (Ck (Cf (Cf Cz))))))<|Bi fun R13 H14=>Fo (Cl [2, 0] slices_Insert_81204_c H14 r r1) fun Y15=>Qs 1 r<|Nx<|Wr<|Re Y15 [0]
noncomputable def impl_isNumber (n : Int) : Option Bool :=
  (impl_inRange n (0 : Int) (1000000 : Int)).bind fun R1 =>
  some R1
theorem impl_isNumber_c {n : Int} : Cn Tryz.prog 116 [iv n] [] [] (impl_isNumber n) (fun r (_ : Unit) => .bool r) fun _ _ => [] := by
  unfold impl_isNumber
  refine Ci Tryz.func116 r r ?_
  rintro w S -
  exact Sr<|Qs 1 r<|Nx<|Sr<|Qs 1 r<|Bi fun R1 H2=>Fo (Cl [] impl_inRange_c H2 r r1) fun _=>Qs 1 r<|Nx<|Wr<|Re () []
noncomputable def impl_Var (n : Int) : Option (List UInt8) :=
  (impl_inRange n (0 : Int) (562949953421311 : Int)).bind fun R1 =>
  if (!R1) = true then (some ([]))
  else (bindC (loopO (fun (S5 : Int × List UInt8) => if (decide (S5.1 > (127 : Int))) = true then ((app 1 S5.2 ([toU8 (ior .i64 (128 : Int) (iand .i64 S5.1 (127 : Int)))])).bind fun E12 =>
  some (.go (ishr .i64 S5.1 (7 : Int), E12)))
  else (some (.done (.go (S5.1, S5.2)))))
  (n, ([] : List UInt8)))
  (fun (T7 : Int × List UInt8) => (app 1 T7.2 ([toU8 T7.1])).bind fun E16 =>
  some E16))
theorem impl_Var_c {n : Int} : Cn Tryz.prog 117 [iv n] [] [] (impl_Var n) (fun r (_ : Unit) => strV r) fun _ _ => [] := by
  unfold impl_Var
  refine Ci Tryz.func117 r r ?_
  rintro w S -
  refine Sr<|Qs 1 r<|Nx<|Sq<|Sr<|Qs 1 r<|Bi fun R1 H2=>Fo (Cl [] impl_inRange_c H2 r r1) fun _=>Qs 1 r<|Nx<|Wc r (fun H4=>Sr<|Qs 1 r<|Nx<|Wr<|Tr<|Re () []) fun H4=>Sn<|Sr<|Qs 1 r<|Nx<|Sq<|Jn Value [] [] (fun T X=>[(0, iv T.1), (3, X)]) (fun T X=>[.own X (lc T.2)]) r2 r2 (?_) fun T7 X8=>?_
  ·refine Wb<|Nw 1<|Lp Value [] [] (fun T X=>[(0, iv T.1), (3, X)]) (fun T X=>[.own X (lc T.2)]) (.slice none 0 0) [0] r2 r2 fun S5 X6=>Sq<|Sr<|Qs 2 r<|Nx<|Wc r (fun H9=>?_) fun H9=>?_
   ·exact Sn<|Wb<|Sr<|Qs 4 r<|Yo (Y.conv8 ki3 ki5 r)<|Fo (Bs [toU8 (ior .i64 (128 : Int) (iand .i64 S5.1 (127 : Int)))] ke22 kz5) fun B10=>Bi fun E12 H13=>Fo (Ap [1] H13 ke22 kz5 r (Oc 0 r)) fun V11=>Qs 1 r<|Nx<|Rg<|Qs 1 r<|Yo (Y.shr (by decide) r r)<|Qs 1 r<|Nl<|Bn<|Lg V11 [0]
   exact Wx<|Tx<|Ex<|Be<|Jg X6 [0]
  exact Ne<|Sr<|Qs 2 r<|Yo (Y.conv8 ki3 ki5 r)<|Fo (Bs [toU8 T7.1] ke22 kz5) fun B14=>Bi fun E16 H17=>Fo (Ap [1] H17 ke22 kz5 r (Oc 0 r)) fun V15=>Yo (Y.toStr ke22 ki5 ks9 (Oc 0 r) r)<|Qs 1 r<|Nx<|Wr<|Re () []
noncomputable def impl_Fixed (n : Int) (width : Int) : Option (List UInt8) :=
  ((impl_inRange width (1 : Int) (7 : Int)).bind fun R3 =>
  if (!R3) = true then (some true)
  else (if (decide (n < (0 : Int))) = true then (some true)
  else (some (!(decide (ishr .i64 n (IntKind.u64.wrap (IntKind.i64.wrap ((8 : Int) * width))) = (0 : Int))))))).bind (fun (T1 : Bool) =>
  if T1 = true then (some ([]))
  else ((mkLen 1 width).bind fun E10 =>
  bindC (loopO (fun (S12 : Int × Int × List UInt8) => if (decide (S12.2.1 ≥ (0 : Int))) = true then ((idx S12.2.2 S12.2.1).bind fun E17 =>
  some (.go (ishr .i64 S12.1 (8 : Int), IntKind.i64.wrap (S12.2.1 - (1 : Int)), (S12.2.2.set S12.2.1.toNat (toU8 S12.1)))))
  else (some (.done (.go S12.2.2))))
  (n, IntKind.i64.wrap (width - (1 : Int)), (List.replicate E10 (0 : UInt8))))
  (fun (T14 : List UInt8) => some T14)))
theorem impl_Fixed_c {n : Int} {width : Int} : Cn Tryz.prog 156 [iv n, iv width] [] [] (impl_Fixed n width) (fun r (_ : Unit) => strV r) fun _ _ => [] := by
  unfold impl_Fixed
  refine Ci Tryz.func156 r r ?_
  rintro w S -
  refine Sr<|Qs 1 r<|Nx<|Sq<|Sq<|Jv [0,1] (fun T=>[(21, .bool T)]) r1 (?_) fun T1=>?_
  ·exact Rg<|Qs 1 r<|Bi fun R3 H4=>Fo (Cl [] impl_inRange_c H4 r r1) fun _=>Qs 2 r<|It (fun H6=>Of 2 (beq_tf H6) r r<|Yo (Pt H6 r)<|Qs 1 r<|Of 6 r r r<|Yo (Pt r r)<|Nl<|Bg () []) fun H6=>Qg 2 (beq_ff H6) r r<|Yo (Pf H6 r)<|Qs 1 r<|It (fun H7=>Of 6 (beq_tf H7) r r<|Yo (Pt H7 r)<|Nl<|Bg () []) fun H7=>Qg 3 (beq_ff H7) r r<|Yg (gdA (beq_ff H7)) (Y.conv ki3 ki104 r)<|Yg (gdA (beq_ff H7)) (Y.shr (wrap_u_nonneg r _) r r)<|Qg 1 (beq_ff H7) r r<|Yo (Pf H7 r)<|Nl<|Bg () []
  refine Ne<|Wc r (fun H8=>Sr<|Qs 1 r<|Nx<|Wr<|Tr<|Re () []) fun H8=>Sn<|Sr<|Qs 1 r<|Bi fun E10 H11=>Fo (Mk (0 : UInt8) H11 ke22 kz5) fun V9=>Qs 1 r<|Nx<|Sq<|Sr<|Qs 3 r<|Nx<|Jn Unit [5] [] (fun _ _=>[]) (fun T _=>[.own V9 (lc T)]) r2 r2 (?_) fun T14 X15=>?_
  ·exact Wb<|Lp Unit [5] [] (fun T _=>[(0, iv T.1), (6, iv T.2.1)]) (fun T _=>[.own V9 (lc T.2.2)]) () [0] r2 r2 fun S12 X13=>Sq<|Sr<|Qs 2 r<|Nx<|Wc r (fun H16=>Sn<|Sq<|Wb<|Sr<|Qs 3 r<|Yo (Y.conv8 ki3 ki5 r)<|Bi fun E17 H18=>Yo (Ix ke22 (Oc 0 r) H18 r)<|Fu (Se (toU8 S12.1) 0 kk5 H18 r (Cp r) r)<|Nx<|Rg<|Qs 1 r<|Yo (Y.shr (by decide) r r)<|Qs 1 r<|Nl<|Bn<|Ne<|Rg<|Qs 3 r<|Nl<|Lg () [0]) fun H16=>Wx<|Tx<|Ex<|Be<|Jg () [0]
  exact Ne<|Sr<|Qs 1 r<|Yo (Y.toStr ke22 ki5 ks9 (Oc 0 r) r)<|Qs 1 r<|Nx<|Wr<|Re () []
noncomputable def impl_NonceOf (kind : Int) (n : Int) : Option (List UInt8) :=
  ((impl_inRange kind (0 : Int) (255 : Int)).bind fun R3 =>
  if (!R3) = true then (some true)
  else ((impl_inRange n (0 : Int) (562949953421311 : Int)).bind fun R7 =>
  some (!R7))).bind (fun (T1 : Bool) =>
  if T1 = true then (some ([]))
  else ((impl_Fixed n (7 : Int)).bind fun R12 =>
  (cat ([toU8 kind, (0 : UInt8), (0 : UInt8), (0 : UInt8), (0 : UInt8)]) R12).bind fun E17 =>
  some E17))
theorem impl_NonceOf_c {kind : Int} {n : Int} : Cn Tryz.prog 119 [iv kind, iv n] [] [] (impl_NonceOf kind n) (fun r (_ : Unit) => strV r) fun _ _ => [] := by
  unfold impl_NonceOf
  refine Ci Tryz.func119 r r ?_
  rintro w S -
  refine Sr<|Qs 1 r<|Nx<|Sq<|Sq<|Jv [0,1] (fun T=>[(12, .bool T)]) r1 (?_) fun T1=>?_
  ·exact Rg<|Qs 1 r<|Bi fun R3 H4=>Fo (Cl [] impl_inRange_c H4 r r1) fun _=>Qs 2 r<|It (fun H6=>Of 3 (beq_tf H6) r r<|Yo (Pt H6 r)<|Nl<|Bg () []) fun H6=>Qg 1 (beq_ff H6) r r<|Bi fun R7 H8=>Fg (gdA (beq_ff H6)) (Cl [] impl_inRange_c H8 r r1) fun _=>Qg 1 (beq_ff H6) r r<|Yo (Pf H6 r)<|Nl<|Bg () []
  refine Ne<|Wc r (fun H10=>Sr<|Qs 1 r<|Nx<|Wr<|Tr<|Re () []) fun H10=>Sn<|Sq<|Wi fun R12 H13=>Wi fun E17 H18=>Jw Unit [] [] (fun _=>[(4, strV E17)]) (fun _=>[]) r1 r1 (?_) fun X20=>?_
  ·refine Dr [] r hMix<|Aq [0] [] r<|Ay 1 [] r (Y.conv8 ki3 ki5 r)<|Aq [4] [] r<|A2 2 5 (?_)<|?_
   ·exact Xe [] r (Bs [toU8 kind, (0 : UInt8), (0 : UInt8), (0 : UInt8), (0 : UInt8)] ke22 kz5) fun B21=>A2 3 5 (Xy [] r (Y.toStr ke22 ki5 ks9 (Oc 0 r) r)<|A1 5<|Xe [] r (Cl [] impl_Fixed_c H13 r r1) fun _=>Ay 6 [] r (Y.cat H18 r r)<|Aq [7] [] r<|Az<|Bg () [])<|Xe [] r (Cl [] impl_Fixed_c H13 r r1) fun _=>A1 3<|Xy [] r (Y.toStr ke22 ki5 ks9 (Oc 0 r) r)<|Ay 6 [] r (Y.cat H18 r r)<|Aq [7] [] r<|Az<|Bg () []
   exact Xe [] r (Cl [] impl_Fixed_c H13 r r1) fun _=>A1 2<|Xe [] r (Bs [toU8 kind, (0 : UInt8), (0 : UInt8), (0 : UInt8), (0 : UInt8)] ke22 kz5) fun B23=>A1 3<|Xy [] r (Y.toStr ke22 ki5 ks9 (Oc 0 r) r)<|Ay 6 [] r (Y.cat H18 r r)<|Aq [7] [] r<|Az<|Bg () []
  exact Ne<|Wr<|Re () []
noncomputable def impl_isCha (key : List UInt8) (counter : Int) (nonce : List UInt8) : Option Bool :=
  (if (decide (((key.length : Nat) : Int) = (32 : Int))) = true then ((impl_inRange counter (0 : Int) (4294967295 : Int)).bind fun R4 =>
  if R4 = true then (some (decide (((nonce.length : Nat) : Int) = (12 : Int))))
  else (some false))
  else (some false)).bind (fun (T1 : Bool) =>
  some T1)
theorem impl_isCha_c {key : List UInt8} {counter : Int} {nonce : List UInt8} : Cn Tryz.prog 153 [strV key, iv counter, strV nonce] [] [] (impl_isCha key counter nonce) (fun r (_ : Unit) => .bool r) fun _ _ => [] := by
  unfold impl_isCha
  refine Ci Tryz.func153 r r ?_
  rintro w S -
  refine Sr<|Qs 1 r<|Nx<|Sq<|Jv [] (fun T=>[(6, .bool T)]) r1 (?_) fun T1=>?_
  ·refine Rg<|Qs 1 r<|Yo (Y.slen ks9 r)<|Qs 2 r<|It (fun H3=>?_) fun H3=>?_
   ·exact Qg 1 (beq_tt H3) r r<|Bi fun R4 H5=>Fg (gdA (beq_tt H3)) (Cl [] impl_inRange_c H5 r r1) fun _=>Yo (Pt H3 r)<|Qs 1 r<|It (fun H7=>Qg 1 (beq_tt H7) r r<|Yg (gdA (beq_tt H7)) (Y.slen ks9 r)<|Qg 1 (beq_tt H7) r r<|Yo (Pt H7 r)<|Qs 1 r<|Nl<|Bg () []) fun H7=>Of 3 (beq_ft H7) r r<|Yo (Pf H7 r)<|Qs 1 r<|Nl<|Bg () []
   exact Of 2 (beq_ft H3) r r<|Yo (Pf H3 r)<|Qs 1 r<|Of 3 r r r<|Yo (Pf r r)<|Qs 1 r<|Nl<|Bg () []
  exact Ne<|Wr<|Re () []
noncomputable def impl_little (s : List UInt8) (at_ : Int) : Option Int :=
  (sidx s at_).bind fun E1 =>
  (sidx s (IntKind.i64.wrap (at_ + (1 : Int)))).bind fun E3 =>
  (sidx s (IntKind.i64.wrap (at_ + (2 : Int)))).bind fun E5 =>
  (sidx s (IntKind.i64.wrap (at_ + (3 : Int)))).bind fun E7 =>
  some (ior .u32 (ior .u32 (ior .u32 (IntKind.u32.wrap ((E1.toNat : Nat) : Int)) (ishl .u32 (IntKind.u32.wrap ((E3.toNat : Nat) : Int)) (8 : Int))) (ishl .u32 (IntKind.u32.wrap ((E5.toNat : Nat) : Int)) (16 : Int))) (ishl .u32 (IntKind.u32.wrap ((E7.toNat : Nat) : Int)) (24 : Int)))
theorem impl_little_c {s : List UInt8} {at_ : Int} : Cn Tryz.prog 180 [strV s, iv at_] [] [] (impl_little s at_) (fun r (_ : Unit) => .int .u32 r) fun _ _ => [] := by
  unfold impl_little
  refine Ci Tryz.func180 r r ?_
  rintro w S -
  exact Sr<|Qs 1 r<|Nx<|Sq<|Dr [] r hMix<|Aq [0,1] [] r<|Ai fun E1 H2=>Ay 2 [] r (Y.sidx H2 ks9 r r)<|Ay 3 [] r (Y.conv ki5 ki175 r)<|Aq [4,5,6] [] r<|Ai fun E3 H4=>Ay 7 [] r (Y.sidx H4 ks9 r r)<|Ay 8 [] r (Y.conv ki5 ki175 r)<|Ay 9 [] r (Y.shl (by decide) r r)<|Aq [10,11,12,13] [] r<|Ai fun E5 H6=>Ay 14 [] r (Y.sidx H6 ks9 r r)<|Ay 15 [] r (Y.conv ki5 ki175 r)<|Ay 16 [] r (Y.shl (by decide) r r)<|Aq [17,18,19,20] [] r<|Ai fun E7 H8=>Ay 21 [] r (Y.sidx H8 ks9 r r)<|Ay 22 [] r (Y.conv ki5 ki175 r)<|Ay 23 [] r (Y.shl (by decide) r r)<|Aq [24,25] [] r<|Az<|Ne<|Wr<|Re () []
noncomputable def impl_firstWords (key : List UInt8) (counter : Int) (nonce : List UInt8) : Option (List Wrd) :=
  (lenIs 16 ([(Wrd.mk (1634760805 : Int)), (Wrd.mk (857760878 : Int)), (Wrd.mk (2036477234 : Int)), (Wrd.mk (1797285236 : Int)), (Wrd.mk (0 : Int)), (Wrd.mk (0 : Int)), (Wrd.mk (0 : Int)), (Wrd.mk (0 : Int)), (Wrd.mk (0 : Int)), (Wrd.mk (0 : Int)), (Wrd.mk (0 : Int)), (Wrd.mk (0 : Int)), (Wrd.mk (0 : Int)), (Wrd.mk (0 : Int)), (Wrd.mk (0 : Int)), (Wrd.mk (0 : Int))])).bind fun E3 =>
  bindC (loopO (fun (S5 : Int × List Wrd) => if (decide (S5.1 < (8 : Int))) = true then ((impl_little key (IntKind.i64.wrap ((4 : Int) * S5.1))).bind fun R10 =>
  (idx S5.2 (IntKind.i64.wrap ((4 : Int) + S5.1))).bind fun E13 =>
  some (.go (IntKind.i64.wrap (S5.1 + (1 : Int)), (S5.2.set ((IntKind.i64.wrap ((4 : Int) + S5.1)).toNat) (Wrd.mk R10)))))
  else (some (.done (.go S5.2))))
  ((0 : Int), ([(Wrd.mk (1634760805 : Int)), (Wrd.mk (857760878 : Int)), (Wrd.mk (2036477234 : Int)), (Wrd.mk (1797285236 : Int)), (Wrd.mk (0 : Int)), (Wrd.mk (0 : Int)), (Wrd.mk (0 : Int)), (Wrd.mk (0 : Int)), (Wrd.mk (0 : Int)), (Wrd.mk (0 : Int)), (Wrd.mk (0 : Int)), (Wrd.mk (0 : Int)), (Wrd.mk (0 : Int)), (Wrd.mk (0 : Int)), (Wrd.mk (0 : Int)), (Wrd.mk (0 : Int))])))
  (fun (T7 : List Wrd) => (idx T7 (12 : Int)).bind fun E15 =>
  bindC (loopO (fun (S17 : Int × List Wrd) => if (decide (S17.1 < (3 : Int))) = true then ((impl_little nonce (IntKind.i64.wrap ((4 : Int) * S17.1))).bind fun R22 =>
  (idx S17.2 (IntKind.i64.wrap ((13 : Int) + S17.1))).bind fun E25 =>
  some (.go (IntKind.i64.wrap (S17.1 + (1 : Int)), (S17.2.set ((IntKind.i64.wrap ((13 : Int) + S17.1)).toNat) (Wrd.mk R22)))))
  else (some (.done (.go S17.2))))
  ((0 : Int), (T7.set ((12 : Int).toNat) (Wrd.mk (IntKind.u32.wrap counter)))))
  (fun (T19 : List Wrd) => (lenIs 16 T19).bind fun E27 =>
  some T19))
theorem impl_firstWords_c {key : List UInt8} {counter : Int} {nonce : List UInt8} : Cn Tryz.prog 154 [strV key, iv counter, strV nonce] [] [] (impl_firstWords key counter nonce) (fun r (_ : Unit) => arrV r) fun _ _ => [] := by
  unfold impl_firstWords
  refine Ci Tryz.func154 r r ?_
  rintro w S -
  refine Sr<|Fo (Ef.allocArr (α := Wrd) (List.replicate 16 (Wrd.mk 0)) kz176 r (by decide)) fun B1=>Nx<|Sr<|Yo (Y.build_arr (cells := [.int .u32 (1634760805 : Int), .int .u32 (857760878 : Int), .int .u32 (2036477234 : Int), .int .u32 (1797285236 : Int), .int .u32 (0 : Int), .int .u32 (0 : Int), .int .u32 (0 : Int), .int .u32 (0 : Int), .int .u32 (0 : Int), .int .u32 (0 : Int), .int .u32 (0 : Int), .int .u32 (0 : Int), .int .u32 (0 : Int), .int .u32 (0 : Int), .int .u32 (0 : Int), .int .u32 (0 : Int)]) (v := arrV ([(Wrd.mk (1634760805 : Int)), (Wrd.mk (857760878 : Int)), (Wrd.mk (2036477234 : Int)), (Wrd.mk (1797285236 : Int)), (Wrd.mk (0 : Int)), (Wrd.mk (0 : Int)), (Wrd.mk (0 : Int)), (Wrd.mk (0 : Int)), (Wrd.mk (0 : Int)), (Wrd.mk (0 : Int)), (Wrd.mk (0 : Int)), (Wrd.mk (0 : Int)), (Wrd.mk (0 : Int)), (Wrd.mk (0 : Int)), (Wrd.mk (0 : Int)), (Wrd.mk (0 : Int))])) [(0, [.int .u32 (1634760805 : Int)]), (1, [.int .u32 (857760878 : Int)]), (2, [.int .u32 (2036477234 : Int)]), (3, [.int .u32 (1797285236 : Int)])] ka176 kz176 ⟨r, ⟨_, r, (Cp r)⟩, ⟨r, ⟨_, r, (Cp r)⟩, ⟨r, ⟨_, r, (Cp r)⟩, ⟨r, ⟨_, r, (Cp r)⟩, ⟨⟩⟩⟩⟩⟩ r r r)<|Fo (Ef.allocArr (α := Wrd) (List.replicate 16 (Wrd.mk 0)) kz176 r (by decide)) fun B2=>?_
  refine Bi fun E3 H4=>Fu (Ef.store_arr (α := Wrd) (is' := [.own (arrS B2 16) (lc ([(Wrd.mk (1634760805 : Int)), (Wrd.mk (857760878 : Int)), (Wrd.mk (2036477234 : Int)), (Wrd.mk (1797285236 : Int)), (Wrd.mk (0 : Int)), (Wrd.mk (0 : Int)), (Wrd.mk (0 : Int)), (Wrd.mk (0 : Int)), (Wrd.mk (0 : Int)), (Wrd.mk (0 : Int)), (Wrd.mk (0 : Int)), (Wrd.mk (0 : Int)), (Wrd.mk (0 : Int)), (Wrd.mk (0 : Int)), (Wrd.mk (0 : Int)), (Wrd.mk (0 : Int))])), .own (arrS B1 16) (lc (List.replicate 16 (Wrd.mk 0)))]) 0 kk176 r (by decide) (lenIs_eq H4) r r r r)<|Nx<|Sq<|Sr<|Qs 1 r<|Nx<|Jn Unit [1,2,6,7] [1] (fun _ _=>[]) (fun T _=>[.own (arrS B2 16) (lc T)]) r2 r2 (?_) fun T7 X8=>?_
  ·exact Wb<|Lp Unit [0,1,2,6,7] [1] (fun T _=>[(11, iv T.1)]) (fun T _=>[.own (arrS B2 16) (lc T.2)]) () [1,0] r2 r2 fun S5 X6=>Sr<|Qs 1 r<|Nx<|Sq<|Wc r (fun H9=>Sn<|Sq<|Wb<|Sr<|Qs 2 r<|Nx<|Rg<|Qs 5 r<|Bi fun R10 H11=>Fo (Cl [] impl_little_c H11 r r1) fun _=>Bi fun E13 H14=>Yo (Y.index_arr (α := Wrd) ka176 (Oc 1 r) H14 r r)<|Fu (Se (Wrd.mk R10) 1 kk175 H14 r (Cp r) r)<|Nl<|Bn<|Ne<|Rg<|Qs 2 r<|Nl<|Lg () [0,0]) fun H9=>Wx<|Tx<|Ex<|Be<|Jg () [0,0]
  refine Ne<|Sr<|Qs 1 r<|Yo (Y.conv ki3 ki175 r)<|Bi fun E15 H16=>Yo (Y.index_arr (α := Wrd) ka176 (Oc 1 r) H16 r r)<|Fu (Se (Wrd.mk (IntKind.u32.wrap counter)) 1 kk175 H16 r (Cp r) r)<|Nx<|Sq<|Sr<|Qs 1 r<|Nx<|Jn Unit [6,7] [0] (fun _ _=>[]) (fun T _=>[.own (arrS B2 16) (lc T)]) r2 r2 (?_) fun T19 X20=>?_
  ·exact Wb<|Lp Unit [2,6,7] [0] (fun T _=>[(25, iv T.1)]) (fun T _=>[.own (arrS B2 16) (lc T.2)]) () [0,0] r2 r2 fun S17 X18=>Sr<|Qs 1 r<|Nx<|Sq<|Wc r (fun H21=>Sn<|Sq<|Wb<|Sr<|Qs 2 r<|Nx<|Rg<|Qs 5 r<|Bi fun R22 H23=>Fo (Cl [] impl_little_c H23 r r1) fun _=>Bi fun E25 H26=>Yo (Y.index_arr (α := Wrd) ka176 (Oc 1 r) H26 r r)<|Fu (Se (Wrd.mk R22) 1 kk175 H26 r (Cp r) r)<|Nl<|Bn<|Ne<|Rg<|Qs 2 r<|Nl<|Lg () [0,0]) fun H21=>Wx<|Tx<|Ex<|Be<|Jg () [0,0]
  exact Ne<|Sr<|Yo (Y.load_arr (α := Wrd) kk176 r (by decide) (Oc 1 r) r)<|Bi fun E27 H28=>Fu (Ef.store_arr (α := Wrd) (is' := [.own (arrS B1 16) (lc T19), .own (arrS B2 16) (lc T19)]) 0 kk176 r (by decide) (lenIs_eq H28) r r r r)<|Nx<|Wr<|TE.leaf fun _ _ hf_ hs_ => ret_any (rs := [.cell 6 176]) (vs := [arrV T19]) (.inl r) r (RV.cell_arr (α := Wrd) (i := 0) r r kk176 r (by decide) ⟨⟩) hf_ hs_ ⟨(), r, hs_.pulls [] r⟩
noncomputable def math_bits_RotateLeft32 (x : Int) (k : Int) : Option Int :=
  (nn (iand .u64 (IntKind.u64.wrap k) (31 : Int))).bind fun E1 =>
  some (ior .u32 (ishl .u32 x (iand .u64 (IntKind.u64.wrap k) (31 : Int))) (ishr .u32 x (IntKind.u64.wrap ((32 : Int) - (iand .u64 (IntKind.u64.wrap k) (31 : Int))))))
theorem math_bits_RotateLeft32_c {x : Int} {k : Int} : Cn Tryz.prog 181 [.int .u32 x, iv k] [] [] (math_bits_RotateLeft32 x k) (fun r (_ : Unit) => .int .u32 r) fun _ _ => [] := by
  unfold math_bits_RotateLeft32
  refine Ci Tryz.func181 r r ?_
  rintro w S -
  exact Sr<|Qs 1 r<|Nx<|Sr<|Qs 1 r<|Yo (Y.conv ki3 ki104 r)<|Qs 2 r<|Nx<|Sr<|Qs 2 r<|Bi fun E1 H2=>Yo (Y.shl (nn_ge H2) r r)<|Qs 3 r<|Yo (Y.shr (wrap_u_nonneg r _) r r)<|Qs 2 r<|Nx<|Wr<|Re () []
noncomputable def impl_quarter (w_ : List Wrd) (a : Int) (b : Int) (c : Int) (d : Int) : Option (List Wrd) :=
  (idx w_ a).bind fun E1 =>
  (idx w_ b).bind fun E3 =>
  (idx (w_.set a.toNat (Wrd.mk (IntKind.u32.wrap (E1.v + E3.v)))) d).bind fun E7 =>
  (idx (w_.set a.toNat (Wrd.mk (IntKind.u32.wrap (E1.v + E3.v)))) a).bind fun E9 =>
  (math_bits_RotateLeft32 (ixor .u32 E7.v E9.v) (16 : Int)).bind fun R11 =>
  (idx ((w_.set a.toNat (Wrd.mk (IntKind.u32.wrap (E1.v + E3.v)))).set d.toNat (Wrd.mk R11)) c).bind fun E16 =>
  (idx ((w_.set a.toNat (Wrd.mk (IntKind.u32.wrap (E1.v + E3.v)))).set d.toNat (Wrd.mk R11)) d).bind fun E18 =>
  (idx (((w_.set a.toNat (Wrd.mk (IntKind.u32.wrap (E1.v + E3.v)))).set d.toNat (Wrd.mk R11)).set c.toNat (Wrd.mk (IntKind.u32.wrap (E16.v + E18.v)))) b).bind fun E22 =>
  (idx (((w_.set a.toNat (Wrd.mk (IntKind.u32.wrap (E1.v + E3.v)))).set d.toNat (Wrd.mk R11)).set c.toNat (Wrd.mk (IntKind.u32.wrap (E16.v + E18.v)))) c).bind fun E24 =>
  (math_bits_RotateLeft32 (ixor .u32 E22.v E24.v) (12 : Int)).bind fun R26 =>
  (idx ((((w_.set a.toNat (Wrd.mk (IntKind.u32.wrap (E1.v + E3.v)))).set d.toNat (Wrd.mk R11)).set c.toNat (Wrd.mk (IntKind.u32.wrap (E16.v + E18.v)))).set b.toNat (Wrd.mk R26)) a).bind fun E31 =>
  (idx ((((w_.set a.toNat (Wrd.mk (IntKind.u32.wrap (E1.v + E3.v)))).set d.toNat (Wrd.mk R11)).set c.toNat (Wrd.mk (IntKind.u32.wrap (E16.v + E18.v)))).set b.toNat (Wrd.mk R26)) b).bind fun E33 =>
  (idx (((((w_.set a.toNat (Wrd.mk (IntKind.u32.wrap (E1.v + E3.v)))).set d.toNat (Wrd.mk R11)).set c.toNat (Wrd.mk (IntKind.u32.wrap (E16.v + E18.v)))).set b.toNat (Wrd.mk R26)).set a.toNat (Wrd.mk (IntKind.u32.wrap (E31.v + E33.v)))) d).bind fun E37 =>
  (idx (((((w_.set a.toNat (Wrd.mk (IntKind.u32.wrap (E1.v + E3.v)))).set d.toNat (Wrd.mk R11)).set c.toNat (Wrd.mk (IntKind.u32.wrap (E16.v + E18.v)))).set b.toNat (Wrd.mk R26)).set a.toNat (Wrd.mk (IntKind.u32.wrap (E31.v + E33.v)))) a).bind fun E39 =>
  (math_bits_RotateLeft32 (ixor .u32 E37.v E39.v) (8 : Int)).bind fun R41 =>
  (idx ((((((w_.set a.toNat (Wrd.mk (IntKind.u32.wrap (E1.v + E3.v)))).set d.toNat (Wrd.mk R11)).set c.toNat (Wrd.mk (IntKind.u32.wrap (E16.v + E18.v)))).set b.toNat (Wrd.mk R26)).set a.toNat (Wrd.mk (IntKind.u32.wrap (E31.v + E33.v)))).set d.toNat (Wrd.mk R41)) c).bind fun E46 =>
  (idx ((((((w_.set a.toNat (Wrd.mk (IntKind.u32.wrap (E1.v + E3.v)))).set d.toNat (Wrd.mk R11)).set c.toNat (Wrd.mk (IntKind.u32.wrap (E16.v + E18.v)))).set b.toNat (Wrd.mk R26)).set a.toNat (Wrd.mk (IntKind.u32.wrap (E31.v + E33.v)))).set d.toNat (Wrd.mk R41)) d).bind fun E48 =>
  (idx (((((((w_.set a.toNat (Wrd.mk (IntKind.u32.wrap (E1.v + E3.v)))).set d.toNat (Wrd.mk R11)).set c.toNat (Wrd.mk (IntKind.u32.wrap (E16.v + E18.v)))).set b.toNat (Wrd.mk R26)).set a.toNat (Wrd.mk (IntKind.u32.wrap (E31.v + E33.v)))).set d.toNat (Wrd.mk R41)).set c.toNat (Wrd.mk (IntKind.u32.wrap (E46.v + E48.v)))) b).bind fun E52 =>
  (idx (((((((w_.set a.toNat (Wrd.mk (IntKind.u32.wrap (E1.v + E3.v)))).set d.toNat (Wrd.mk R11)).set c.toNat (Wrd.mk (IntKind.u32.wrap (E16.v + E18.v)))).set b.toNat (Wrd.mk R26)).set a.toNat (Wrd.mk (IntKind.u32.wrap (E31.v + E33.v)))).set d.toNat (Wrd.mk R41)).set c.toNat (Wrd.mk (IntKind.u32.wrap (E46.v + E48.v)))) c).bind fun E54 =>
  (math_bits_RotateLeft32 (ixor .u32 E52.v E54.v) (7 : Int)).bind fun R56 =>
  some ((((((((w_.set a.toNat (Wrd.mk (IntKind.u32.wrap (E1.v + E3.v)))).set d.toNat (Wrd.mk R11)).set c.toNat (Wrd.mk (IntKind.u32.wrap (E16.v + E18.v)))).set b.toNat (Wrd.mk R26)).set a.toNat (Wrd.mk (IntKind.u32.wrap (E31.v + E33.v)))).set d.toNat (Wrd.mk R41)).set c.toNat (Wrd.mk (IntKind.u32.wrap (E46.v + E48.v)))).set b.toNat (Wrd.mk R56))
theorem impl_quarter_c {w_ : List Wrd} {a : Int} {b : Int} {c : Int} {d : Int} {U0 : Nat} : Cn Tryz.prog 155 [pt U0, iv a, iv b, iv c, iv d] [.own (arrS U0 16) (lc w_)] [] (impl_quarter w_ a b c d) (fun _ (_ : Unit) => .tuple #[]) fun r _ => [.own (arrS U0 16) (lc r)] := by
  unfold impl_quarter
  refine Ci Tryz.func155 r r ?_
  rintro w S -
  refine Sq<|Wi fun E1 H2=>Wi fun E3 H4=>Jw Unit [0,1,2,3,4] [] (fun _=>[]) (fun _=>[.own (arrS U0 16) (lc (w_.set a.toNat (Wrd.mk (IntKind.u32.wrap (E1.v + E3.v)))))]) r1 r1 (?_) fun X6=>?_
  ·refine Dr [] r hMix<|Aq [0,1,2,5,6,7,11] [] r<|A2 3 8 (?_)<|?_
   ·refine Xy [] r (Y.index_arr (α := Wrd) ka176 (Oc 0 r) H2 r r)<|A2 4 8 (?_)<|?_
    ·exact Xy [] r (Le kk175 (Oc 0 r) H2 r)<|A1 8<|Xy [] r (Y.index_arr (α := Wrd) ka176 (Oc 0 r) H4 r r)<|A1 9<|Xy [] r (Le kk175 (Oc 0 r) H4 r)<|Aq [10] [] r<|A1 12<|Xy [] r (Y.index_arr (α := Wrd) ka176 (Oc 0 r) H2 r r)<|A1 13<|Xu [] r (Se (Wrd.mk (IntKind.u32.wrap (E1.v + E3.v))) 0 kk175 H2 r (Cp r) r)<|Az<|Bg () [0]
    exact Xy [] r (Y.index_arr (α := Wrd) ka176 (Oc 0 r) H4 r r)<|A2 4 9 (Xy [] r (Le kk175 (Oc 0 r) H2 r)<|A1 9<|Xy [] r (Le kk175 (Oc 0 r) H4 r)<|Aq [10] [] r<|A1 12<|Xy [] r (Y.index_arr (α := Wrd) ka176 (Oc 0 r) H2 r r)<|A1 13<|Xu [] r (Se (Wrd.mk (IntKind.u32.wrap (E1.v + E3.v))) 0 kk175 H2 r (Cp r) r)<|Az<|Bg () [0])<|Xy [] r (Le kk175 (Oc 0 r) H4 r)<|A1 4<|Xy [] r (Le kk175 (Oc 0 r) H2 r)<|Aq [10] [] r<|A1 12<|Xy [] r (Y.index_arr (α := Wrd) ka176 (Oc 0 r) H2 r r)<|A1 13<|Xu [] r (Se (Wrd.mk (IntKind.u32.wrap (E1.v + E3.v))) 0 kk175 H2 r (Cp r) r)<|Az<|Bg () [0]
   refine Xy [] r (Y.index_arr (α := Wrd) ka176 (Oc 0 r) H4 r r)<|A2 3 9 (?_)<|?_
   ·exact Xy [] r (Y.index_arr (α := Wrd) ka176 (Oc 0 r) H2 r r)<|A2 4 9 (Xy [] r (Le kk175 (Oc 0 r) H2 r)<|A1 9<|Xy [] r (Le kk175 (Oc 0 r) H4 r)<|Aq [10] [] r<|A1 12<|Xy [] r (Y.index_arr (α := Wrd) ka176 (Oc 0 r) H2 r r)<|A1 13<|Xu [] r (Se (Wrd.mk (IntKind.u32.wrap (E1.v + E3.v))) 0 kk175 H2 r (Cp r) r)<|Az<|Bg () [0])<|Xy [] r (Le kk175 (Oc 0 r) H4 r)<|A1 4<|Xy [] r (Le kk175 (Oc 0 r) H2 r)<|Aq [10] [] r<|A1 12<|Xy [] r (Y.index_arr (α := Wrd) ka176 (Oc 0 r) H2 r r)<|A1 13<|Xu [] r (Se (Wrd.mk (IntKind.u32.wrap (E1.v + E3.v))) 0 kk175 H2 r (Cp r) r)<|Az<|Bg () [0]
   exact Xy [] r (Le kk175 (Oc 0 r) H4 r)<|A1 3<|Xy [] r (Y.index_arr (α := Wrd) ka176 (Oc 0 r) H2 r r)<|A1 4<|Xy [] r (Le kk175 (Oc 0 r) H2 r)<|Aq [10] [] r<|A1 12<|Xy [] r (Y.index_arr (α := Wrd) ka176 (Oc 0 r) H2 r r)<|A1 13<|Xu [] r (Se (Wrd.mk (IntKind.u32.wrap (E1.v + E3.v))) 0 kk175 H2 r (Cp r) r)<|Az<|Bg () [0]
  refine Ne<|Sq<|Wi fun E7 H8=>Wi fun E9 H10=>Wi fun R11 H12=>Jw Unit [0,1,2,3,4] [] (fun _=>[]) (fun _=>[.own (arrS U0 16) (lc ((w_.set a.toNat (Wrd.mk (IntKind.u32.wrap (E1.v + E3.v)))).set d.toNat (Wrd.mk R11)))]) r1 r1 (?_) fun X15=>?_
  ·refine Dr [] r hMix<|Aq [0,1,2,3,4,7,8,9,14] [] r<|A2 5 10 (?_)<|?_
   ·refine Xy [] r (Y.index_arr (α := Wrd) ka176 (Oc 0 r) H8 r r)<|A2 6 10 (?_)<|?_
    ·exact Xy [] r (Le kk175 (Oc 0 r) H8 r)<|A1 10<|Xy [] r (Y.index_arr (α := Wrd) ka176 (Oc 0 r) H10 r r)<|A1 11<|Xy [] r (Le kk175 (Oc 0 r) H10 r)<|Aq [12] [] r<|A1 13<|Xe [] r (Cl [] math_bits_RotateLeft32_c H12 r r1) fun _=>A1 15<|Xy [] r (Y.index_arr (α := Wrd) ka176 (Oc 0 r) H8 r r)<|A1 16<|Xu [] r (Se (Wrd.mk R11) 0 kk175 H8 r (Cp r) r)<|Az<|Bg () [0]
    refine Xy [] r (Y.index_arr (α := Wrd) ka176 (Oc 0 r) H10 r r)<|A2 6 11 (?_)<|?_
    ·exact Xy [] r (Le kk175 (Oc 0 r) H8 r)<|A1 11<|Xy [] r (Le kk175 (Oc 0 r) H10 r)<|Aq [12] [] r<|A1 13<|Xe [] r (Cl [] math_bits_RotateLeft32_c H12 r r1) fun _=>A1 15<|Xy [] r (Y.index_arr (α := Wrd) ka176 (Oc 0 r) H8 r r)<|A1 16<|Xu [] r (Se (Wrd.mk R11) 0 kk175 H8 r (Cp r) r)<|Az<|Bg () [0]
    exact Xy [] r (Le kk175 (Oc 0 r) H10 r)<|A1 6<|Xy [] r (Le kk175 (Oc 0 r) H8 r)<|Aq [12] [] r<|A1 13<|Xe [] r (Cl [] math_bits_RotateLeft32_c H12 r r1) fun _=>A1 15<|Xy [] r (Y.index_arr (α := Wrd) ka176 (Oc 0 r) H8 r r)<|A1 16<|Xu [] r (Se (Wrd.mk R11) 0 kk175 H8 r (Cp r) r)<|Az<|Bg () [0]
   refine Xy [] r (Y.index_arr (α := Wrd) ka176 (Oc 0 r) H10 r r)<|A2 5 11 (?_)<|?_
   ·refine Xy [] r (Y.index_arr (α := Wrd) ka176 (Oc 0 r) H8 r r)<|A2 6 11 (?_)<|?_
    ·exact Xy [] r (Le kk175 (Oc 0 r) H8 r)<|A1 11<|Xy [] r (Le kk175 (Oc 0 r) H10 r)<|Aq [12] [] r<|A1 13<|Xe [] r (Cl [] math_bits_RotateLeft32_c H12 r r1) fun _=>A1 15<|Xy [] r (Y.index_arr (α := Wrd) ka176 (Oc 0 r) H8 r r)<|A1 16<|Xu [] r (Se (Wrd.mk R11) 0 kk175 H8 r (Cp r) r)<|Az<|Bg () [0]
    exact Xy [] r (Le kk175 (Oc 0 r) H10 r)<|A1 6<|Xy [] r (Le kk175 (Oc 0 r) H8 r)<|Aq [12] [] r<|A1 13<|Xe [] r (Cl [] math_bits_RotateLeft32_c H12 r r1) fun _=>A1 15<|Xy [] r (Y.index_arr (α := Wrd) ka176 (Oc 0 r) H8 r r)<|A1 16<|Xu [] r (Se (Wrd.mk R11) 0 kk175 H8 r (Cp r) r)<|Az<|Bg () [0]
   exact Xy [] r (Le kk175 (Oc 0 r) H10 r)<|A1 5<|Xy [] r (Y.index_arr (α := Wrd) ka176 (Oc 0 r) H8 r r)<|A1 6<|Xy [] r (Le kk175 (Oc 0 r) H8 r)<|Aq [12] [] r<|A1 13<|Xe [] r (Cl [] math_bits_RotateLeft32_c H12 r r1) fun _=>A1 15<|Xy [] r (Y.index_arr (α := Wrd) ka176 (Oc 0 r) H8 r r)<|A1 16<|Xu [] r (Se (Wrd.mk R11) 0 kk175 H8 r (Cp r) r)<|Az<|Bg () [0]
  refine Ne<|Sq<|Wi fun E16 H17=>Wi fun E18 H19=>Jw Unit [0,1,2,3,4] [] (fun _=>[]) (fun _=>[.own (arrS U0 16) (lc (((w_.set a.toNat (Wrd.mk (IntKind.u32.wrap (E1.v + E3.v)))).set d.toNat (Wrd.mk R11)).set c.toNat (Wrd.mk (IntKind.u32.wrap (E16.v + E18.v)))))]) r1 r1 (?_) fun X21=>?_
  ·refine Dr [] r hMix<|Aq [0,1,2,5,6,7,11] [] r<|A2 3 8 (?_)<|?_
   ·refine Xy [] r (Y.index_arr (α := Wrd) ka176 (Oc 0 r) H17 r r)<|A2 4 8 (?_)<|?_
    ·exact Xy [] r (Le kk175 (Oc 0 r) H17 r)<|A1 8<|Xy [] r (Y.index_arr (α := Wrd) ka176 (Oc 0 r) H19 r r)<|A1 9<|Xy [] r (Le kk175 (Oc 0 r) H19 r)<|Aq [10] [] r<|A1 12<|Xy [] r (Y.index_arr (α := Wrd) ka176 (Oc 0 r) H17 r r)<|A1 13<|Xu [] r (Se (Wrd.mk (IntKind.u32.wrap (E16.v + E18.v))) 0 kk175 H17 r (Cp r) r)<|Az<|Bg () [0]
    exact Xy [] r (Y.index_arr (α := Wrd) ka176 (Oc 0 r) H19 r r)<|A2 4 9 (Xy [] r (Le kk175 (Oc 0 r) H17 r)<|A1 9<|Xy [] r (Le kk175 (Oc 0 r) H19 r)<|Aq [10] [] r<|A1 12<|Xy [] r (Y.index_arr (α := Wrd) ka176 (Oc 0 r) H17 r r)<|A1 13<|Xu [] r (Se (Wrd.mk (IntKind.u32.wrap (E16.v + E18.v))) 0 kk175 H17 r (Cp r) r)<|Az<|Bg () [0])<|Xy [] r (Le kk175 (Oc 0 r) H19 r)<|A1 4<|Xy [] r (Le kk175 (Oc 0 r) H17 r)<|Aq [10] [] r<|A1 12<|Xy [] r (Y.index_arr (α := Wrd) ka176 (Oc 0 r) H17 r r)<|A1 13<|Xu [] r (Se (Wrd.mk (IntKind.u32.wrap (E16.v + E18.v))) 0 kk175 H17 r (Cp r) r)<|Az<|Bg () [0]
   refine Xy [] r (Y.index_arr (α := Wrd) ka176 (Oc 0 r) H19 r r)<|A2 3 9 (?_)<|?_
   ·exact Xy [] r (Y.index_arr (α := Wrd) ka176 (Oc 0 r) H17 r r)<|A2 4 9 (Xy [] r (Le kk175 (Oc 0 r) H17 r)<|A1 9<|Xy [] r (Le kk175 (Oc 0 r) H19 r)<|Aq [10] [] r<|A1 12<|Xy [] r (Y.index_arr (α := Wrd) ka176 (Oc 0 r) H17 r r)<|A1 13<|Xu [] r (Se (Wrd.mk (IntKind.u32.wrap (E16.v + E18.v))) 0 kk175 H17 r (Cp r) r)<|Az<|Bg () [0])<|Xy [] r (Le kk175 (Oc 0 r) H19 r)<|A1 4<|Xy [] r (Le kk175 (Oc 0 r) H17 r)<|Aq [10] [] r<|A1 12<|Xy [] r (Y.index_arr (α := Wrd) ka176 (Oc 0 r) H17 r r)<|A1 13<|Xu [] r (Se (Wrd.mk (IntKind.u32.wrap (E16.v + E18.v))) 0 kk175 H17 r (Cp r) r)<|Az<|Bg () [0]
   exact Xy [] r (Le kk175 (Oc 0 r) H19 r)<|A1 3<|Xy [] r (Y.index_arr (α := Wrd) ka176 (Oc 0 r) H17 r r)<|A1 4<|Xy [] r (Le kk175 (Oc 0 r) H17 r)<|Aq [10] [] r<|A1 12<|Xy [] r (Y.index_arr (α := Wrd) ka176 (Oc 0 r) H17 r r)<|A1 13<|Xu [] r (Se (Wrd.mk (IntKind.u32.wrap (E16.v + E18.v))) 0 kk175 H17 r (Cp r) r)<|Az<|Bg () [0]
  refine Ne<|Sq<|Wi fun E22 H23=>Wi fun E24 H25=>Wi fun R26 H27=>Jw Unit [0,1,2,3,4] [] (fun _=>[]) (fun _=>[.own (arrS U0 16) (lc ((((w_.set a.toNat (Wrd.mk (IntKind.u32.wrap (E1.v + E3.v)))).set d.toNat (Wrd.mk R11)).set c.toNat (Wrd.mk (IntKind.u32.wrap (E16.v + E18.v)))).set b.toNat (Wrd.mk R26)))]) r1 r1 (?_) fun X30=>?_
  ·refine Dr [] r hMix<|Aq [0,1,2,3,4,7,8,9,14] [] r<|A2 5 10 (?_)<|?_
   ·refine Xy [] r (Y.index_arr (α := Wrd) ka176 (Oc 0 r) H23 r r)<|A2 6 10 (?_)<|?_
    ·exact Xy [] r (Le kk175 (Oc 0 r) H23 r)<|A1 10<|Xy [] r (Y.index_arr (α := Wrd) ka176 (Oc 0 r) H25 r r)<|A1 11<|Xy [] r (Le kk175 (Oc 0 r) H25 r)<|Aq [12] [] r<|A1 13<|Xe [] r (Cl [] math_bits_RotateLeft32_c H27 r r1) fun _=>A1 15<|Xy [] r (Y.index_arr (α := Wrd) ka176 (Oc 0 r) H23 r r)<|A1 16<|Xu [] r (Se (Wrd.mk R26) 0 kk175 H23 r (Cp r) r)<|Az<|Bg () [0]
    refine Xy [] r (Y.index_arr (α := Wrd) ka176 (Oc 0 r) H25 r r)<|A2 6 11 (?_)<|?_
    ·exact Xy [] r (Le kk175 (Oc 0 r) H23 r)<|A1 11<|Xy [] r (Le kk175 (Oc 0 r) H25 r)<|Aq [12] [] r<|A1 13<|Xe [] r (Cl [] math_bits_RotateLeft32_c H27 r r1) fun _=>A1 15<|Xy [] r (Y.index_arr (α := Wrd) ka176 (Oc 0 r) H23 r r)<|A1 16<|Xu [] r (Se (Wrd.mk R26) 0 kk175 H23 r (Cp r) r)<|Az<|Bg () [0]
    exact Xy [] r (Le kk175 (Oc 0 r) H25 r)<|A1 6<|Xy [] r (Le kk175 (Oc 0 r) H23 r)<|Aq [12] [] r<|A1 13<|Xe [] r (Cl [] math_bits_RotateLeft32_c H27 r r1) fun _=>A1 15<|Xy [] r (Y.index_arr (α := Wrd) ka176 (Oc 0 r) H23 r r)<|A1 16<|Xu [] r (Se (Wrd.mk R26) 0 kk175 H23 r (Cp r) r)<|Az<|Bg () [0]
   refine Xy [] r (Y.index_arr (α := Wrd) ka176 (Oc 0 r) H25 r r)<|A2 5 11 (?_)<|?_
   ·refine Xy [] r (Y.index_arr (α := Wrd) ka176 (Oc 0 r) H23 r r)<|A2 6 11 (?_)<|?_
    ·exact Xy [] r (Le kk175 (Oc 0 r) H23 r)<|A1 11<|Xy [] r (Le kk175 (Oc 0 r) H25 r)<|Aq [12] [] r<|A1 13<|Xe [] r (Cl [] math_bits_RotateLeft32_c H27 r r1) fun _=>A1 15<|Xy [] r (Y.index_arr (α := Wrd) ka176 (Oc 0 r) H23 r r)<|A1 16<|Xu [] r (Se (Wrd.mk R26) 0 kk175 H23 r (Cp r) r)<|Az<|Bg () [0]
    exact Xy [] r (Le kk175 (Oc 0 r) H25 r)<|A1 6<|Xy [] r (Le kk175 (Oc 0 r) H23 r)<|Aq [12] [] r<|A1 13<|Xe [] r (Cl [] math_bits_RotateLeft32_c H27 r r1) fun _=>A1 15<|Xy [] r (Y.index_arr (α := Wrd) ka176 (Oc 0 r) H23 r r)<|A1 16<|Xu [] r (Se (Wrd.mk R26) 0 kk175 H23 r (Cp r) r)<|Az<|Bg () [0]
   exact Xy [] r (Le kk175 (Oc 0 r) H25 r)<|A1 5<|Xy [] r (Y.index_arr (α := Wrd) ka176 (Oc 0 r) H23 r r)<|A1 6<|Xy [] r (Le kk175 (Oc 0 r) H23 r)<|Aq [12] [] r<|A1 13<|Xe [] r (Cl [] math_bits_RotateLeft32_c H27 r r1) fun _=>A1 15<|Xy [] r (Y.index_arr (α := Wrd) ka176 (Oc 0 r) H23 r r)<|A1 16<|Xu [] r (Se (Wrd.mk R26) 0 kk175 H23 r (Cp r) r)<|Az<|Bg () [0]
  refine Ne<|Sq<|Wi fun E31 H32=>Wi fun E33 H34=>Jw Unit [0,1,2,3,4] [] (fun _=>[]) (fun _=>[.own (arrS U0 16) (lc (((((w_.set a.toNat (Wrd.mk (IntKind.u32.wrap (E1.v + E3.v)))).set d.toNat (Wrd.mk R11)).set c.toNat (Wrd.mk (IntKind.u32.wrap (E16.v + E18.v)))).set b.toNat (Wrd.mk R26)).set a.toNat (Wrd.mk (IntKind.u32.wrap (E31.v + E33.v)))))]) r1 r1 (?_) fun X36=>?_
  ·refine Dr [] r hMix<|Aq [0,1,2,5,6,7,11] [] r<|A2 3 8 (?_)<|?_
   ·refine Xy [] r (Y.index_arr (α := Wrd) ka176 (Oc 0 r) H32 r r)<|A2 4 8 (?_)<|?_
    ·exact Xy [] r (Le kk175 (Oc 0 r) H32 r)<|A1 8<|Xy [] r (Y.index_arr (α := Wrd) ka176 (Oc 0 r) H34 r r)<|A1 9<|Xy [] r (Le kk175 (Oc 0 r) H34 r)<|Aq [10] [] r<|A1 12<|Xy [] r (Y.index_arr (α := Wrd) ka176 (Oc 0 r) H32 r r)<|A1 13<|Xu [] r (Se (Wrd.mk (IntKind.u32.wrap (E31.v + E33.v))) 0 kk175 H32 r (Cp r) r)<|Az<|Bg () [0]
    exact Xy [] r (Y.index_arr (α := Wrd) ka176 (Oc 0 r) H34 r r)<|A2 4 9 (Xy [] r (Le kk175 (Oc 0 r) H32 r)<|A1 9<|Xy [] r (Le kk175 (Oc 0 r) H34 r)<|Aq [10] [] r<|A1 12<|Xy [] r (Y.index_arr (α := Wrd) ka176 (Oc 0 r) H32 r r)<|A1 13<|Xu [] r (Se (Wrd.mk (IntKind.u32.wrap (E31.v + E33.v))) 0 kk175 H32 r (Cp r) r)<|Az<|Bg () [0])<|Xy [] r (Le kk175 (Oc 0 r) H34 r)<|A1 4<|Xy [] r (Le kk175 (Oc 0 r) H32 r)<|Aq [10] [] r<|A1 12<|Xy [] r (Y.index_arr (α := Wrd) ka176 (Oc 0 r) H32 r r)<|A1 13<|Xu [] r (Se (Wrd.mk (IntKind.u32.wrap (E31.v + E33.v))) 0 kk175 H32 r (Cp r) r)<|Az<|Bg () [0]
   refine Xy [] r (Y.index_arr (α := Wrd) ka176 (Oc 0 r) H34 r r)<|A2 3 9 (?_)<|?_
   ·exact Xy [] r (Y.index_arr (α := Wrd) ka176 (Oc 0 r) H32 r r)<|A2 4 9 (Xy [] r (Le kk175 (Oc 0 r) H32 r)<|A1 9<|Xy [] r (Le kk175 (Oc 0 r) H34 r)<|Aq [10] [] r<|A1 12<|Xy [] r (Y.index_arr (α := Wrd) ka176 (Oc 0 r) H32 r r)<|A1 13<|Xu [] r (Se (Wrd.mk (IntKind.u32.wrap (E31.v + E33.v))) 0 kk175 H32 r (Cp r) r)<|Az<|Bg () [0])<|Xy [] r (Le kk175 (Oc 0 r) H34 r)<|A1 4<|Xy [] r (Le kk175 (Oc 0 r) H32 r)<|Aq [10] [] r<|A1 12<|Xy [] r (Y.index_arr (α := Wrd) ka176 (Oc 0 r) H32 r r)<|A1 13<|Xu [] r (Se (Wrd.mk (IntKind.u32.wrap (E31.v + E33.v))) 0 kk175 H32 r (Cp r) r)<|Az<|Bg () [0]
   exact Xy [] r (Le kk175 (Oc 0 r) H34 r)<|A1 3<|Xy [] r (Y.index_arr (α := Wrd) ka176 (Oc 0 r) H32 r r)<|A1 4<|Xy [] r (Le kk175 (Oc 0 r) H32 r)<|Aq [10] [] r<|A1 12<|Xy [] r (Y.index_arr (α := Wrd) ka176 (Oc 0 r) H32 r r)<|A1 13<|Xu [] r (Se (Wrd.mk (IntKind.u32.wrap (E31.v + E33.v))) 0 kk175 H32 r (Cp r) r)<|Az<|Bg () [0]
  refine Ne<|Sq<|Wi fun E37 H38=>Wi fun E39 H40=>Wi fun R41 H42=>Jw Unit [0,2,3,4] [] (fun _=>[]) (fun _=>[.own (arrS U0 16) (lc ((((((w_.set a.toNat (Wrd.mk (IntKind.u32.wrap (E1.v + E3.v)))).set d.toNat (Wrd.mk R11)).set c.toNat (Wrd.mk (IntKind.u32.wrap (E16.v + E18.v)))).set b.toNat (Wrd.mk R26)).set a.toNat (Wrd.mk (IntKind.u32.wrap (E31.v + E33.v)))).set d.toNat (Wrd.mk R41)))]) r1 r1 (?_) fun X45=>?_
  ·refine Dr [] r hMix<|Aq [0,1,2,3,4,7,8,9,14] [] r<|A2 5 10 (?_)<|?_
   ·refine Xy [] r (Y.index_arr (α := Wrd) ka176 (Oc 0 r) H38 r r)<|A2 6 10 (?_)<|?_
    ·exact Xy [] r (Le kk175 (Oc 0 r) H38 r)<|A1 10<|Xy [] r (Y.index_arr (α := Wrd) ka176 (Oc 0 r) H40 r r)<|A1 11<|Xy [] r (Le kk175 (Oc 0 r) H40 r)<|Aq [12] [] r<|A1 13<|Xe [] r (Cl [] math_bits_RotateLeft32_c H42 r r1) fun _=>A1 15<|Xy [] r (Y.index_arr (α := Wrd) ka176 (Oc 0 r) H38 r r)<|A1 16<|Xu [] r (Se (Wrd.mk R41) 0 kk175 H38 r (Cp r) r)<|Az<|Bg () [0]
    refine Xy [] r (Y.index_arr (α := Wrd) ka176 (Oc 0 r) H40 r r)<|A2 6 11 (?_)<|?_
    ·exact Xy [] r (Le kk175 (Oc 0 r) H38 r)<|A1 11<|Xy [] r (Le kk175 (Oc 0 r) H40 r)<|Aq [12] [] r<|A1 13<|Xe [] r (Cl [] math_bits_RotateLeft32_c H42 r r1) fun _=>A1 15<|Xy [] r (Y.index_arr (α := Wrd) ka176 (Oc 0 r) H38 r r)<|A1 16<|Xu [] r (Se (Wrd.mk R41) 0 kk175 H38 r (Cp r) r)<|Az<|Bg () [0]
    exact Xy [] r (Le kk175 (Oc 0 r) H40 r)<|A1 6<|Xy [] r (Le kk175 (Oc 0 r) H38 r)<|Aq [12] [] r<|A1 13<|Xe [] r (Cl [] math_bits_RotateLeft32_c H42 r r1) fun _=>A1 15<|Xy [] r (Y.index_arr (α := Wrd) ka176 (Oc 0 r) H38 r r)<|A1 16<|Xu [] r (Se (Wrd.mk R41) 0 kk175 H38 r (Cp r) r)<|Az<|Bg () [0]
   refine Xy [] r (Y.index_arr (α := Wrd) ka176 (Oc 0 r) H40 r r)<|A2 5 11 (?_)<|?_
   ·refine Xy [] r (Y.index_arr (α := Wrd) ka176 (Oc 0 r) H38 r r)<|A2 6 11 (?_)<|?_
    ·exact Xy [] r (Le kk175 (Oc 0 r) H38 r)<|A1 11<|Xy [] r (Le kk175 (Oc 0 r) H40 r)<|Aq [12] [] r<|A1 13<|Xe [] r (Cl [] math_bits_RotateLeft32_c H42 r r1) fun _=>A1 15<|Xy [] r (Y.index_arr (α := Wrd) ka176 (Oc 0 r) H38 r r)<|A1 16<|Xu [] r (Se (Wrd.mk R41) 0 kk175 H38 r (Cp r) r)<|Az<|Bg () [0]
    exact Xy [] r (Le kk175 (Oc 0 r) H40 r)<|A1 6<|Xy [] r (Le kk175 (Oc 0 r) H38 r)<|Aq [12] [] r<|A1 13<|Xe [] r (Cl [] math_bits_RotateLeft32_c H42 r r1) fun _=>A1 15<|Xy [] r (Y.index_arr (α := Wrd) ka176 (Oc 0 r) H38 r r)<|A1 16<|Xu [] r (Se (Wrd.mk R41) 0 kk175 H38 r (Cp r) r)<|Az<|Bg () [0]
   exact Xy [] r (Le kk175 (Oc 0 r) H40 r)<|A1 5<|Xy [] r (Y.index_arr (α := Wrd) ka176 (Oc 0 r) H38 r r)<|A1 6<|Xy [] r (Le kk175 (Oc 0 r) H38 r)<|Aq [12] [] r<|A1 13<|Xe [] r (Cl [] math_bits_RotateLeft32_c H42 r r1) fun _=>A1 15<|Xy [] r (Y.index_arr (α := Wrd) ka176 (Oc 0 r) H38 r r)<|A1 16<|Xu [] r (Se (Wrd.mk R41) 0 kk175 H38 r (Cp r) r)<|Az<|Bg () [0]
  refine Ne<|Sq<|Wi fun E46 H47=>Wi fun E48 H49=>Jw Unit [0,2,3] [] (fun _=>[]) (fun _=>[.own (arrS U0 16) (lc (((((((w_.set a.toNat (Wrd.mk (IntKind.u32.wrap (E1.v + E3.v)))).set d.toNat (Wrd.mk R11)).set c.toNat (Wrd.mk (IntKind.u32.wrap (E16.v + E18.v)))).set b.toNat (Wrd.mk R26)).set a.toNat (Wrd.mk (IntKind.u32.wrap (E31.v + E33.v)))).set d.toNat (Wrd.mk R41)).set c.toNat (Wrd.mk (IntKind.u32.wrap (E46.v + E48.v)))))]) r1 r1 (?_) fun X51=>?_
  ·refine Dr [] r hMix<|Aq [0,1,2,5,6,7,11] [] r<|A2 3 8 (?_)<|?_
   ·refine Xy [] r (Y.index_arr (α := Wrd) ka176 (Oc 0 r) H47 r r)<|A2 4 8 (?_)<|?_
    ·exact Xy [] r (Le kk175 (Oc 0 r) H47 r)<|A1 8<|Xy [] r (Y.index_arr (α := Wrd) ka176 (Oc 0 r) H49 r r)<|A1 9<|Xy [] r (Le kk175 (Oc 0 r) H49 r)<|Aq [10] [] r<|A1 12<|Xy [] r (Y.index_arr (α := Wrd) ka176 (Oc 0 r) H47 r r)<|A1 13<|Xu [] r (Se (Wrd.mk (IntKind.u32.wrap (E46.v + E48.v))) 0 kk175 H47 r (Cp r) r)<|Az<|Bg () [0]
    exact Xy [] r (Y.index_arr (α := Wrd) ka176 (Oc 0 r) H49 r r)<|A2 4 9 (Xy [] r (Le kk175 (Oc 0 r) H47 r)<|A1 9<|Xy [] r (Le kk175 (Oc 0 r) H49 r)<|Aq [10] [] r<|A1 12<|Xy [] r (Y.index_arr (α := Wrd) ka176 (Oc 0 r) H47 r r)<|A1 13<|Xu [] r (Se (Wrd.mk (IntKind.u32.wrap (E46.v + E48.v))) 0 kk175 H47 r (Cp r) r)<|Az<|Bg () [0])<|Xy [] r (Le kk175 (Oc 0 r) H49 r)<|A1 4<|Xy [] r (Le kk175 (Oc 0 r) H47 r)<|Aq [10] [] r<|A1 12<|Xy [] r (Y.index_arr (α := Wrd) ka176 (Oc 0 r) H47 r r)<|A1 13<|Xu [] r (Se (Wrd.mk (IntKind.u32.wrap (E46.v + E48.v))) 0 kk175 H47 r (Cp r) r)<|Az<|Bg () [0]
   refine Xy [] r (Y.index_arr (α := Wrd) ka176 (Oc 0 r) H49 r r)<|A2 3 9 (?_)<|?_
   ·exact Xy [] r (Y.index_arr (α := Wrd) ka176 (Oc 0 r) H47 r r)<|A2 4 9 (Xy [] r (Le kk175 (Oc 0 r) H47 r)<|A1 9<|Xy [] r (Le kk175 (Oc 0 r) H49 r)<|Aq [10] [] r<|A1 12<|Xy [] r (Y.index_arr (α := Wrd) ka176 (Oc 0 r) H47 r r)<|A1 13<|Xu [] r (Se (Wrd.mk (IntKind.u32.wrap (E46.v + E48.v))) 0 kk175 H47 r (Cp r) r)<|Az<|Bg () [0])<|Xy [] r (Le kk175 (Oc 0 r) H49 r)<|A1 4<|Xy [] r (Le kk175 (Oc 0 r) H47 r)<|Aq [10] [] r<|A1 12<|Xy [] r (Y.index_arr (α := Wrd) ka176 (Oc 0 r) H47 r r)<|A1 13<|Xu [] r (Se (Wrd.mk (IntKind.u32.wrap (E46.v + E48.v))) 0 kk175 H47 r (Cp r) r)<|Az<|Bg () [0]
   exact Xy [] r (Le kk175 (Oc 0 r) H49 r)<|A1 3<|Xy [] r (Y.index_arr (α := Wrd) ka176 (Oc 0 r) H47 r r)<|A1 4<|Xy [] r (Le kk175 (Oc 0 r) H47 r)<|Aq [10] [] r<|A1 12<|Xy [] r (Y.index_arr (α := Wrd) ka176 (Oc 0 r) H47 r r)<|A1 13<|Xu [] r (Se (Wrd.mk (IntKind.u32.wrap (E46.v + E48.v))) 0 kk175 H47 r (Cp r) r)<|Az<|Bg () [0]
  refine Ne<|Wi fun E52 H53=>Wi fun E54 H55=>Wi fun R56 H57=>Jw Unit [] [] (fun _=>[]) (fun _=>[.own (arrS U0 16) (lc ((((((((w_.set a.toNat (Wrd.mk (IntKind.u32.wrap (E1.v + E3.v)))).set d.toNat (Wrd.mk R11)).set c.toNat (Wrd.mk (IntKind.u32.wrap (E16.v + E18.v)))).set b.toNat (Wrd.mk R26)).set a.toNat (Wrd.mk (IntKind.u32.wrap (E31.v + E33.v)))).set d.toNat (Wrd.mk R41)).set c.toNat (Wrd.mk (IntKind.u32.wrap (E46.v + E48.v)))).set b.toNat (Wrd.mk R56)))]) r1 r1 (?_) fun X60=>?_
  ·refine Dr [] r hMix<|Aq [0,1,2,3,4,7,8,9,14] [] r<|A2 5 10 (?_)<|?_
   ·refine Xy [] r (Y.index_arr (α := Wrd) ka176 (Oc 0 r) H53 r r)<|A2 6 10 (?_)<|?_
    ·exact Xy [] r (Le kk175 (Oc 0 r) H53 r)<|A1 10<|Xy [] r (Y.index_arr (α := Wrd) ka176 (Oc 0 r) H55 r r)<|A1 11<|Xy [] r (Le kk175 (Oc 0 r) H55 r)<|Aq [12] [] r<|A1 13<|Xe [] r (Cl [] math_bits_RotateLeft32_c H57 r r1) fun _=>A1 15<|Xy [] r (Y.index_arr (α := Wrd) ka176 (Oc 0 r) H53 r r)<|A1 16<|Xu [] r (Se (Wrd.mk R56) 0 kk175 H53 r (Cp r) r)<|Az<|Bg () [0]
    refine Xy [] r (Y.index_arr (α := Wrd) ka176 (Oc 0 r) H55 r r)<|A2 6 11 (?_)<|?_
    ·exact Xy [] r (Le kk175 (Oc 0 r) H53 r)<|A1 11<|Xy [] r (Le kk175 (Oc 0 r) H55 r)<|Aq [12] [] r<|A1 13<|Xe [] r (Cl [] math_bits_RotateLeft32_c H57 r r1) fun _=>A1 15<|Xy [] r (Y.index_arr (α := Wrd) ka176 (Oc 0 r) H53 r r)<|A1 16<|Xu [] r (Se (Wrd.mk R56) 0 kk175 H53 r (Cp r) r)<|Az<|Bg () [0]
    exact Xy [] r (Le kk175 (Oc 0 r) H55 r)<|A1 6<|Xy [] r (Le kk175 (Oc 0 r) H53 r)<|Aq [12] [] r<|A1 13<|Xe [] r (Cl [] math_bits_RotateLeft32_c H57 r r1) fun _=>A1 15<|Xy [] r (Y.index_arr (α := Wrd) ka176 (Oc 0 r) H53 r r)<|A1 16<|Xu [] r (Se (Wrd.mk R56) 0 kk175 H53 r (Cp r) r)<|Az<|Bg () [0]
   refine Xy [] r (Y.index_arr (α := Wrd) ka176 (Oc 0 r) H55 r r)<|A2 5 11 (?_)<|?_
   ·refine Xy [] r (Y.index_arr (α := Wrd) ka176 (Oc 0 r) H53 r r)<|A2 6 11 (?_)<|?_
    ·exact Xy [] r (Le kk175 (Oc 0 r) H53 r)<|A1 11<|Xy [] r (Le kk175 (Oc 0 r) H55 r)<|Aq [12] [] r<|A1 13<|Xe [] r (Cl [] math_bits_RotateLeft32_c H57 r r1) fun _=>A1 15<|Xy [] r (Y.index_arr (α := Wrd) ka176 (Oc 0 r) H53 r r)<|A1 16<|Xu [] r (Se (Wrd.mk R56) 0 kk175 H53 r (Cp r) r)<|Az<|Bg () [0]
    exact Xy [] r (Le kk175 (Oc 0 r) H55 r)<|A1 6<|Xy [] r (Le kk175 (Oc 0 r) H53 r)<|Aq [12] [] r<|A1 13<|Xe [] r (Cl [] math_bits_RotateLeft32_c H57 r r1) fun _=>A1 15<|Xy [] r (Y.index_arr (α := Wrd) ka176 (Oc 0 r) H53 r r)<|A1 16<|Xu [] r (Se (Wrd.mk R56) 0 kk175 H53 r (Cp r) r)<|Az<|Bg () [0]
   exact Xy [] r (Le kk175 (Oc 0 r) H55 r)<|A1 5<|Xy [] r (Y.index_arr (α := Wrd) ka176 (Oc 0 r) H53 r r)<|A1 6<|Xy [] r (Le kk175 (Oc 0 r) H53 r)<|Aq [12] [] r<|A1 13<|Xe [] r (Cl [] math_bits_RotateLeft32_c H57 r r1) fun _=>A1 15<|Xy [] r (Y.index_arr (α := Wrd) ka176 (Oc 0 r) H53 r r)<|A1 16<|Xu [] r (Se (Wrd.mk R56) 0 kk175 H53 r (Cp r) r)<|Az<|Bg () [0]
  exact Re () [0]
noncomputable def impl_ChaBlock (key : List UInt8) (counter : Int) (nonce : List UInt8) : Option (List UInt8) :=
  (impl_isCha key counter nonce).bind fun R1 =>
  if (!R1) = true then (some ([]))
  else ((impl_firstWords key counter nonce).bind fun R5 =>
  (lenIs 16 R5).bind fun E9 =>
  bindC (loopO (fun (S12 : Int × List Wrd) => if (decide (S12.1 < (10 : Int))) = true then (bindC (loopO (fun (S17 : Int × List Wrd) => if (decide (S17.1 < (4 : Int))) = true then ((impl_quarter S17.2 S17.1 (IntKind.i64.wrap ((4 : Int) + S17.1)) (IntKind.i64.wrap ((8 : Int) + S17.1)) (IntKind.i64.wrap ((12 : Int) + S17.1))).bind fun R22 =>
  some (.go (IntKind.i64.wrap (S17.1 + (1 : Int)), R22)))
  else (some (.done (.go S17.2))))
  ((0 : Int), S12.2))
  (fun (T19 : List Wrd) => bindC (loopO (fun (S25 : Int × List Wrd) => if (decide (S25.1 < (4 : Int))) = true then ((impl_quarter S25.2 S25.1 (IntKind.i64.wrap ((4 : Int) + (Int.tmod (IntKind.i64.wrap (S25.1 + (1 : Int))) (4 : Int)))) (IntKind.i64.wrap ((8 : Int) + (Int.tmod (IntKind.i64.wrap (S25.1 + (2 : Int))) (4 : Int)))) (IntKind.i64.wrap ((12 : Int) + (Int.tmod (IntKind.i64.wrap (S25.1 + (3 : Int))) (4 : Int))))).bind fun R30 =>
  some (.go (IntKind.i64.wrap (S25.1 + (1 : Int)), R30)))
  else (some (.done (.go S25.2))))
  ((0 : Int), T19))
  (fun (T27 : List Wrd) => some (.go (IntKind.i64.wrap (S12.1 + (1 : Int)), T27)))))
  else (some (.done (.go S12.2))))
  ((0 : Int), R5))
  (fun (T14 : List Wrd) => (mkLen 1 (64 : Int)).bind fun E34 =>
  bindC (loopO (fun (S36 : Int × List UInt8) => if (decide (S36.1 < (16 : Int))) = true then ((lenIs 16 T14).bind fun E41 =>
  (idx T14 S36.1).bind fun E43 =>
  (idx R5 S36.1).bind fun E45 =>
  (app 1 S36.2 ([toU8 (IntKind.u32.wrap (E43.v + E45.v)), toU8 (ishr .u32 (IntKind.u32.wrap (E43.v + E45.v)) (8 : Int)), toU8 (ishr .u32 (IntKind.u32.wrap (E43.v + E45.v)) (16 : Int)), toU8 (ishr .u32 (IntKind.u32.wrap (E43.v + E45.v)) (24 : Int))])).bind fun E49 =>
  some (.go (IntKind.i64.wrap (S36.1 + (1 : Int)), E49)))
  else (some (.done (.go S36.2))))
  ((0 : Int), ([] : List UInt8)))
  (fun (T38 : List UInt8) => some T38)))
theorem impl_ChaBlock_c {key : List UInt8} {counter : Int} {nonce : List UInt8} : Cn Tryz.prog 118 [strV key, iv counter, strV nonce] [] [] (impl_ChaBlock key counter nonce) (fun r (_ : Unit) => strV r) fun _ _ => [] := by
  unfold impl_ChaBlock
  refine Ci Tryz.func118 r r ?_
  rintro w S -
  refine Sr<|Qs 1 r<|Nx<|Sq<|Sr<|Qs 3 r<|Bi fun R1 H2=>Fo (Cl [] impl_isCha_c H2 r r1) fun _=>Qs 1 r<|Nx<|Wc r (fun H4=>Sr<|Qs 1 r<|Nx<|Wr<|Tr<|Re () []) fun H4=>Sn<|Sr<|Qs 3 r<|Bi fun R5 H6=>Fo (Cl [] impl_firstWords_c H6 r r1) fun _=>Fo (Ef.allocArr (α := Wrd) (List.replicate 16 (Wrd.mk 0)) kz176 r (by decide)) fun B8=>Bi fun E9 H10=>Fu (Ef.store_arr (α := Wrd) (is' := [.own (arrS B8 16) (lc R5)]) 0 kk176 r (by decide) (lenIs_eq H10) r r r r)<|Nx<|Sr<|Yo (Y.load_arr (α := Wrd) kk176 r (by decide) (Oc 0 r) r)<|Fo (Ef.allocArr (α := Wrd) (List.replicate 16 (Wrd.mk 0)) kz176 r (by decide)) fun B11=>?_
  refine Fu (Ef.store_arr (α := Wrd) (is' := [.own (arrS B11 16) (lc R5), .own (arrS B8 16) (lc R5)]) 0 kk176 r (by decide) (lenIs_eq H10) r r r r)<|Nx<|Sq<|Sr<|Qs 1 r<|Nx<|Jn Unit [7,8] [1] (fun _ _=>[]) (fun T _=>[.own (arrS B11 16) (lc T)]) r2 r2 (?_) fun T14 X15=>?_
  ·refine Wb<|Lp Unit [7,8] [1] (fun T _=>[(24, iv T.1)]) (fun T _=>[.own (arrS B11 16) (lc T.2)]) () [1,0] r2 r2 fun S12 X13=>Sr<|Qs 1 r<|Nx<|Sq<|Wc r (fun H16=>?_) fun H16=>?_
   ·refine Sn<|Sq<|Wb<|Sq<|Sr<|Qs 1 r<|Nx<|Jn Unit [7,8,24] [0] (fun _ _=>[]) (fun T _=>[.own (arrS B11 16) (lc T)]) r2 r2 (?_) fun T19 X20=>?_
    ·exact Wb<|Lp Unit [7,8,24] [0] (fun T _=>[(26, iv T.1)]) (fun T _=>[.own (arrS B11 16) (lc T.2)]) () [0,0] r2 r2 fun S17 X18=>Sr<|Qs 1 r<|Nx<|Sq<|Wc r (fun H21=>Sn<|Sq<|Wb<|Sr<|Qs 2 r<|Nx<|Rg<|Qs 7 r<|Bi fun R22 H23=>Fo (Cl [1] impl_quarter_c H23 r r1) fun _=>Nl<|Bn<|Ne<|Rg<|Qs 2 r<|Nl<|Lg () [1,0]) fun H21=>Wx<|Tx<|Ex<|Be<|Jg () [0,0]
    refine Ne<|Sr<|Qs 1 r<|Nx<|Jn Unit [7,8,24] [0] (fun _ _=>[]) (fun T _=>[.own (arrS B11 16) (lc T)]) r2 r2 (?_) fun T27 X28=>?_
    ·exact Wb<|Lp Unit [7,8,24] [0] (fun T _=>[(38, iv T.1)]) (fun T _=>[.own (arrS B11 16) (lc T.2)]) () [0,0] r2 r2 fun S25 X26=>Sr<|Qs 1 r<|Nx<|Sq<|Wc r (fun H29=>Sn<|Sq<|Wb<|Sr<|Qs 2 r<|Nx<|Rg<|Qs 3 r<|Yo (Y.rem (by decide) r r)<|Qs 3 r<|Yo (Y.rem (by decide) r r)<|Qs 3 r<|Yo (Y.rem (by decide) r r)<|Qs 1 r<|Bi fun R30 H31=>Fo (Cl [1] impl_quarter_c H31 r r1) fun _=>Nl<|Bn<|Ne<|Rg<|Qs 2 r<|Nl<|Lg () [1,0]) fun H29=>Wx<|Tx<|Ex<|Be<|Jg () [0,0]
    exact Bn<|Ne<|Rg<|Qs 2 r<|Nl<|Lg () [0,0]
   exact Wx<|Tx<|Ex<|Be<|Jg () [0,0]
  refine Ne<|Sr<|Bi fun E34 H35=>Fo (M0 (0 : UInt8) H35 ke22 kz5) fun V33=>Qs 1 r<|Nx<|Sq<|Sr<|Yo (Y.load_arr (α := Wrd) kk176 r (by decide) (Oc 2 r) r)<|Qs 1 r<|Nx<|Jn Value [] [] (fun _ X=>[(11, X)]) (fun T X=>[.own X (lc T)]) r2 r2 (?_) fun T38 X39=>?_
  ·refine Wb<|Lp Value [7,58] [1] (fun T X=>[(11, X), (59, iv T.1)]) (fun T X=>[.own X (lc T.2)]) V33 [1,0] r2 r2 fun S36 X37=>Sr<|Qs 1 r<|Nx<|Sq<|Wc r (fun H40=>?_) fun H40=>?_
   ·refine Sn<|Sq<|Wb<|Sr<|Qs 1 r<|Bi fun E41 H42=>Bi fun E43 H44=>Yo (Y.idx_arr ka176 kk175 (lenIs_eq H42) H44 r r)<|Qs 2 r<|Nx<|Sr<|Qs 2 r<|Bi fun E45 H46=>Yo (Y.index_arr (α := Wrd) ka176 (Oc 0 r) H46 r r)<|Yo (Le kk175 (Oc 0 r) H46 r)<|Qs 2 r<|Nx<|Rg<|Qs 2 r<|Yo (Y.conv8 ki175 ki5 r)<|Qs 1 r<|Yo (Y.shr (by decide) r r)<|Yo (Y.conv8 ki175 ki5 r)<|Qs 1 r<|Yo (Y.shr (by decide) r r)<|Yo (Y.conv8 ki175 ki5 r)<|Qs 1 r<|Yo (Y.shr (by decide) r r)<|Yo (Y.conv8 ki175 ki5 r)<|Fo (Bs [toU8 (IntKind.u32.wrap (E43.v + E45.v)), toU8 (ishr .u32 (IntKind.u32.wrap (E43.v + E45.v)) (8 : Int)), toU8 (ishr .u32 (IntKind.u32.wrap (E43.v + E45.v)) (16 : Int)), toU8 (ishr .u32 (IntKind.u32.wrap (E43.v + E45.v)) (24 : Int))] ke22 kz5) fun B47=>?_
    exact Bi fun E49 H50=>Fo (Ap [2] H50 ke22 kz5 r (Oc 0 r)) fun V48=>Qs 1 r<|Nl<|Bn<|Ne<|Rg<|Qs 2 r<|Nl<|Lg V48 [2,0]
   exact Wx<|Tx<|Ex<|Be<|Jg X37 [1]
  exact Ne<|Sr<|Qs 1 r<|Yo (Y.toStr ke22 ki5 ks9 (Oc 0 r) r)<|Qs 1 r<|Nx<|Wr<|Re () []
noncomputable def impl_MintToken (secret : List UInt8) (tenant : Int) (epoch : Int) : Option (List UInt8) :=
  (if (!(decide (((secret.length : Nat) : Int) = (32 : Int)))) = true then (some true)
  else ((impl_isTenant tenant).bind fun R4 =>
  if (!R4) = true then (some true)
  else ((impl_isNumber epoch).bind fun R8 =>
  some (!R8)))).bind (fun (T1 : Bool) =>
  if T1 = true then (some ([]))
  else ((impl_Var tenant).bind fun R12 =>
  (impl_Var epoch).bind fun R15 =>
  (cat R12 R15).bind fun E18 =>
  (impl_NonceOf (2 : Int) tenant).bind fun R20 =>
  (impl_ChaBlock secret epoch R20).bind fun R23 =>
  (ssub R23 0 (8 : Int)).bind fun E26 =>
  (cat E18 E26).bind fun E28 =>
  some E28))
theorem impl_MintToken_c {secret : List UInt8} {tenant : Int} {epoch : Int} : Cn Tryz.prog 72 [strV secret, iv tenant, iv epoch] [] [] (impl_MintToken secret tenant epoch) (fun r (_ : Unit) => strV r) fun _ _ => [] := by
  unfold impl_MintToken
  refine Ci Tryz.func72 r r ?_
  rintro w S -
  refine Sr<|Qs 1 r<|Nx<|Sq<|Sq<|Jv [0,1,2] (fun T=>[(19, .bool T)]) r1 (?_) fun T1=>?_
  ·exact Rg<|Qs 1 r<|Yo (Y.slen ks9 r)<|Qs 2 r<|It (fun H3=>Of 3 (beq_tf H3) r r<|Yo (Pt H3 r)<|Qs 1 r<|Of 3 r r r<|Yo (Pt r r)<|Nl<|Bg () []) fun H3=>Qg 1 (beq_ff H3) r r<|Bi fun R4 H5=>Fg (gdA (beq_ff H3)) (Cl [] impl_isTenant_c H5 r r1) fun _=>Qg 1 (beq_ff H3) r r<|Yo (Pf H3 r)<|Qs 1 r<|It (fun H7=>Of 3 (beq_tf H7) r r<|Yo (Pt H7 r)<|Nl<|Bg () []) fun H7=>Qg 1 (beq_ff H7) r r<|Bi fun R8 H9=>Fg (gdA (beq_ff H7)) (Cl [] impl_isNumber_c H9 r r1) fun _=>Qg 1 (beq_ff H7) r r<|Yo (Pf H7 r)<|Nl<|Bg () []
  exact Ne<|Wc r (fun H11=>Sr<|Qs 1 r<|Nx<|Wr<|Tr<|Re () []) fun H11=>Sn<|Sr<|Qs 1 r<|Bi fun R12 H13=>Fo (Cl [] impl_Var_c H13 r r1) fun _=>Qs 1 r<|Bi fun R15 H16=>Fo (Cl [] impl_Var_c H16 r r1) fun _=>Bi fun E18 H19=>Yo (Y.cat H19 r r)<|Qs 3 r<|Bi fun R20 H21=>Fo (Cl [] impl_NonceOf_c H21 r r1) fun _=>Bi fun R23 H24=>Fo (Cl [] impl_ChaBlock_c H24 r r1) fun _=>Bi fun E26 H27=>Yo (Y.ssub_to H27 ks9 r r)<|Bi fun E28 H29=>Yo (Y.cat H29 r r)<|Qs 1 r<|Nx<|Wr<|Re () []
noncomputable def impl_Model_create (m : Model) (c : Call) : Option (Reply × Model) :=
  ((impl_isTenant c.Tenant).bind fun R5 =>
  if (!R5) = true then (some true)
  else ((impl_isQuota c.N).bind fun R9 =>
  if (!R9) = true then (some true)
  else (if (!(decide (((c.Key.length : Nat) : Int) = (32 : Int)))) = true then (some true)
  else ((impl_tenAt m.Tens c.Tenant).bind fun R14 =>
  some (decide (R14 ≥ (0 : Int))))))).bind (fun (T3 : Bool) =>
  if T3 = true then ((impl_no (1 : Int)).bind fun R18 =>
  some (R18, m))
  else (if (decide (((m.Tens.length : Nat) : Int) ≥ (4 : Int))) = true then ((impl_no (4 : Int)).bind fun R22 =>
  some (R22, m))
  else ((impl_ShareSet m.Shares c.Tenant c.N).bind fun R25 =>
  if (!R25.2) = true then ((impl_no (6 : Int)).bind fun R35 =>
  some (R35, m))
  else ((impl_addTen m.Tens ({ Id := c.Tenant, Epoch := (0 : Int), Seq := (0 : Int), Map := ([] : List KV), Snaps := ([] : List MSnap) : MTen })).bind fun R40 =>
  (impl_addTen m.Base ({ Id := c.Tenant, Epoch := (0 : Int), Seq := (0 : Int), Map := ([] : List KV), Snaps := ([] : List MSnap) : MTen })).bind fun R45 =>
  (impl_MintToken m.Secret c.Tenant (0 : Int)).bind fun R48 =>
  some ({ Code := (0 : Int), N := (1 : Int), Text := R48, List := ([] : List KV) : Reply }, { Secret := m.Secret, Shares := R25.1, Tens := R40, Base := R45, Rows := m.Rows : Model })))))
theorem impl_Model_create_c {m : Model} {c : Call} {U0 U1 U2 U3 U5 : Value} {U4 : Nat} : Cn Tryz.prog 44 [pt U4, .agg #[iv c.Kind, strV c.Token, iv c.Tenant, iv c.N, strV c.Key, strV c.To, U5]] [.box U4 36 [strV m.Secret, iv m.Shares.Size, U0, U1, U2, U3], .own U0 (lc m.Shares.List), .own U1 (lc m.Tens), .own U2 (lc m.Base)] [(U3, lc m.Rows), (U5, lc c.Ops)] (impl_Model_create m c) (fun r (X : Value × Value × Value × Value) => .agg #[iv r.1.Code, iv r.1.N, strV r.1.Text, X.1]) fun r X => [.box U4 36 [strV r.2.Secret, iv r.2.Shares.Size, X.2.1, X.2.2.1, X.2.2.2, U3], .own X.2.1 (lc r.2.Shares.List), .own X.2.2.1 (lc r.2.Tens), .own X.2.2.2 (lc r.2.Base), .own X.1 (lc r.1.List)] := by
  unfold impl_Model_create
  refine Ci Tryz.func44 r r ?_
  rintro w S ⟨Z0,Z1,-⟩
  refine Sr<|Fo (Bx r (Ca ⟨Op',Op',Op',Op',Op',Op',Ob Z1,⟨⟩⟩)) fun B1=>Fo (Al kz41 r) fun B2=>Nx<|Sq<|Sq<|Jv [0,3,4] (fun T=>[(32, .bool T)]) r1 (?_) fun T3=>?_
  ·refine Dr [0,0,0,0,0,0] r hMix<|Ay 0 [0,0,0,0,0,0] r (Fb kf46_2 r)<|Ay 1 [0,0,0,0,0,0] r (Lb 1 kk3 r)<|Ai fun R5 H6=>A1 2<|Xe [0,0,0,0,0,0] r (Cl [] impl_isTenant_c H6 r r1) fun _=>Aq [3,4] [0,0,0,0,0,0] r<|Ia (fun H8=>?_) fun H8=>?_
   ·exact Ax [5,6,7,8] [0,0,0,0,0,0] (beq_tf H8) r r<|Ay 9 [0,0,0,0,0,0] r (Pt H8 r)<|Aq [10] [0,0,0,0,0,0] r<|Ax [11,12,13,14] [0,0,0,0,0,0] r r r<|Ay 15 [0,0,0,0,0,0] r (Pt r r)<|Aq [16] [0,0,0,0,0,0] r<|Ax [17,18,19,20,21,22,23,24] [0,0,0,0,0,0] r r r<|Ay 25 [0,0,0,0,0,0] r (Pt r r)<|Az<|Bg () [0,0,0,0,0,0]
   refine Ag 5 [0,0,0,0,0,0] (gdA (beq_ff H8)) r (Fb kf46_3 r)<|Ag 6 [0,0,0,0,0,0] (gdA (beq_ff H8)) r (Lb 1 kk3 r)<|Ai fun R9 H10=>A1 7<|Xeg [0,0,0,0,0,0] (gdA (beq_ff H8)) r (Cl [] impl_isQuota_c H10 r r1) fun _=>Ag 8 [0,0,0,0,0,0] (gdA (beq_ff H8)) r (Y.not r)<|Ay 9 [0,0,0,0,0,0] r (Pf H8 r)<|Aq [10] [0,0,0,0,0,0] r<|Ia (fun H12=>Ax [11,12,13,14] [0,0,0,0,0,0] (beq_tf H12) r r<|Ay 15 [0,0,0,0,0,0] r (Pt H12 r)<|Aq [16] [0,0,0,0,0,0] r<|Ax [17,18,19,20,21,22,23,24] [0,0,0,0,0,0] r r r<|Ay 25 [0,0,0,0,0,0] r (Pt r r)<|Az<|Bg () [0,0,0,0,0,0]) fun H12=>?_
   refine Ag 11 [0,0,0,0,0,0] (gdA (beq_ff H12)) r (Fb kf46_4 r)<|Ag 12 [0,0,0,0,0,0] (gdA (beq_ff H12)) r (Lb 1 kk9 r)<|Ag 13 [0,0,0,0,0,0] (gdA (beq_ff H12)) r (Y.slen ks9 r)<|Ag 14 [0,0,0,0,0,0] (gdA (beq_ff H12)) r (Y.neq r r)<|Ay 15 [0,0,0,0,0,0] r (Pf H12 r)<|Aq [16] [0,0,0,0,0,0] r<|Ia (fun H13=>Ax [17,18,19,20,21,22,23,24] [0,0,0,0,0,0] (beq_tf H13) r r<|Ay 25 [0,0,0,0,0,0] r (Pt H13 r)<|Az<|Bg () [0,0,0,0,0,0]) fun H13=>Ag 17 [0,0,0,0,0,0] (gdA (beq_ff H13)) r (Y.move r)<|Ag 18 [0,0,0,0,0,0] (gdA (beq_ff H13)) r (Y.nilCheck r)<|Ag 19 [0,0,0,0,0,0] (gdA (beq_ff H13)) r (Fb kf36_2 r)<|Ag 20 [0,0,0,0,0,0] (gdA (beq_ff H13)) r (Lb 2 kk33 r)<|Ag 21 [0,0,0,0,0,0] (gdA (beq_ff H13)) r (Fb kf46_2 r)<|Ag 22 [0,0,0,0,0,0] (gdA (beq_ff H13)) r (Lb 1 kk3 r)<|Ai fun R14 H15=>?_
   exact A1 23<|Xeg [0,0,0,0,0,0] (gdA (beq_ff H13)) r (Cl [] impl_tenAt_c H15 r r1 ⟨(Oc 4 r),⟨⟩⟩) fun _=>Ag 24 [0,0,0,0,0,0] (gdA (beq_ff H13)) r (Y.geq r r)<|Ay 25 [0,0,0,0,0,0] r (Pf H13 r)<|Az<|Bg () [0,0,0,0,0,0]
  refine Ne<|Wc r (fun H17=>?_) fun H17=>?_
  ·exact Sr<|Bi fun R18 H19=>Fo (Cl [] impl_no_c H19 r r1) fun Y20=>Fu (Sb 1 kk41 r (Ca ⟨Op',Op',Op',Ow' 0,⟨⟩⟩) r)<|Nx<|Wr<|Tr<|TE.leaf fun _ _ hf_ hs_ => ret_any (rs := [.cell 4 41]) (vs := [.agg #[iv R18.Code, iv R18.N, strV R18.Text, Y20]]) (.inl r) r (RV.cell 1 r r kk41 r ⟨⟩) hf_ hs_ ⟨(Y20, U0, U1, U2), r, hs_.pulls [3, 3, 3, 3, 0] r⟩
  refine Sn<|Sq<|Sr<|Qs 2 r<|Yo (Fb kf36_2 r)<|Yo (Lb 2 kk33 r)<|Yo (Ln ke33 (Oc 4 r) r)<|Qs 1 r<|Nx<|Wc r (fun H21=>?_) fun H21=>?_
  ·exact Sr<|Bi fun R22 H23=>Fo (Cl [] impl_no_c H23 r r1) fun Y24=>Fu (Sb 1 kk41 r (Ca ⟨Op',Op',Op',Ow' 0,⟨⟩⟩) r)<|Nx<|Wr<|Tr<|TE.leaf fun _ _ hf_ hs_ => ret_any (rs := [.cell 4 41]) (vs := [.agg #[iv R22.Code, iv R22.N, strV R22.Text, Y24]]) (.inl r) r (RV.cell 1 r r kk41 r ⟨⟩) hf_ hs_ ⟨(Y24, U0, U1, U2), r, hs_.pulls [3, 3, 3, 3, 0] r⟩
  refine Sn<|Sq<|Wi fun R25 H26=>Jw (Nat × Value) [0,3,4] [2,1,0,0,0,0] (fun X=>[(5, pt X.1), (6, .bool R25.2)]) (fun X=>[.box X.1 32 [iv R25.1.Size, X.2], .own X.2 (lc R25.1.List)]) r1 r1 (?_) fun X31=>?_
  ·refine Dr [0,0,0,0,0,0] r hMix<|Aq [0,1] [0,0,0,0,0,0] r<|Ay 2 [0,0,0,0,0,0] r (Fb kf36_1 r)<|Ay 3 [0,0,0,0,0,0] r (Lb 2 kk32 r)<|Ay 4 [0,0,0,0,0,0] r (Fb kf46_2 r)<|Ay 5 [0,0,0,0,0,0] r (Lb 1 kk3 r)<|Ay 6 [0,0,0,0,0,0] r (Fb kf46_3 r)<|Ay 7 [0,0,0,0,0,0] r (Lb 1 kk3 r)<|A2 8 12 (?_)<|?_
   ·exact Xe [1,1,1,1,1,1] r (Cl [] impl_ShareSet_c H26 r r1 ⟨(Oc 3 r),⟨⟩⟩) fun Y32=>Aq [9,10,11] [1,1,1,1,1,1] r<|A1 12<|Xe [2,2,2,2,2,2] r (Al kz32 r) fun B34=>A1 13<|Xu [2,2,2,2,2,2] r (Sb 0 kk32 r (Ca ⟨Op',Ow' 1,⟨⟩⟩) r)<|Aq [14] [2,2,2,2,2,2] r<|Az<|Bg (B34, Y32) [4,3,2,2,2,2,0,0]
   exact Xe [1,1,1,1,1,1] r (Al kz32 r) fun B33=>A1 8<|Xe [2,2,2,2,2,2] r (Cl [] impl_ShareSet_c H26 r r1 ⟨(Oc 4 r),⟨⟩⟩) fun Y34=>Aq [9,10,11] [2,2,2,2,2,2] r<|A1 13<|Xu [2,2,2,2,2,2] r (Sb 1 kk32 r (Ca ⟨Op',Ow' 0,⟨⟩⟩) r)<|Aq [14] [2,2,2,2,2,2] r<|Az<|Bg (B33, Y34) [4,3,2,2,2,2,1,0]
  refine Ne<|Sq<|Sr<|Qs 2 r<|Nx<|Wc r (fun H34=>?_) fun H34=>?_
  ·exact Sr<|Bi fun R35 H36=>Fo (Cl [] impl_no_c H36 r r1) fun Y37=>Fu (Sb 3 kk41 r (Ca ⟨Op',Op',Op',Ow' 0,⟨⟩⟩) r)<|Nx<|Wr<|Tr<|TE.leaf fun _ _ hf_ hs_ => ret_any (rs := [.cell 4 41]) (vs := [.agg #[iv R35.Code, iv R35.N, strV R35.Text, Y37]]) (.inl r) r (RV.cell 3 r r kk41 r ⟨⟩) hf_ hs_ ⟨(Y37, U0, U1, U2), r, hs_.pulls [1, 3, 3, 3, 0] r⟩
  refine Sn<|Sr<|Qs 1 r<|Yo (Lb 6 kk32 r)<|Qs 1 r<|Yo (Fb kf36_1 r)<|Fu (Sb 0 kk32 r (Ca ⟨Op',Ow' 7,⟨⟩⟩) r)<|Nx<|Sq<|Dr [1,1,1,2,2,2] r hMix<|Aq [0,1,2] [1,1,1,2,2,2] r<|Ay 3 [1,1,1,2,2,2] r (Fb kf36_2 r)<|Ay 5 [1,1,1,2,2,2] r (Fb kf46_2 r)<|Ay 6 [1,1,1,2,2,2] r (Lb 0 kk3 r)<|Ay 7 [1,1,1,2,2,2] r (Bd kp90 kz90 (Pc r (Cp r)<|Pz) r)<|A1 4<|Xy [1,1,1,2,2,2] r (Lb 0 kk33 r)<|Ai fun R40 H41=>Na 2<|Na 2<|A1 8<|Xe [2,2,2,2,2,2] r (Cl [6, 1, 0] impl_addTen_c H41 r r1) fun Y42=>Aq [9] [2,2,2,2,2,2] r<|Ay 10 [2,2,2,2,2,2] r (Fb kf36_2 r)<|A1 11<|Xu [2,2,2,2,2,2] r (Sb 1 kk33 r (Co 0) r)<|Az<|Ne<|Sq<|Dr [0,1,1,1,2,2] r hMix<|Aq [0,1,2] [0,1,1,1,2,2] r<|Ay 3 [0,1,1,1,2,2] r (Fb kf36_3 r)<|Ay 5 [0,1,1,1,2,2] r (Fb kf46_2 r)<|Ay 6 [0,1,1,1,2,2] r (Lb 1 kk3 r)<|Ay 7 [0,1,1,1,2,2] r (Bd kp90 kz90 (Pc r (Cp r)<|Pz) r)<|A1 4<|Xy [0,1,1,1,2,2] r (Lb 1 kk33 r)<|Ai fun R45 H46=>?_
  exact Na 2<|Na 2<|A1 8<|Xe [1,2,2,2,2,2] r (Cl [7, 1, 0] impl_addTen_c H46 r r1) fun Y47=>Aq [9] [1,2,2,2,2,2] r<|Ay 10 [1,2,2,2,2,2] r (Fb kf36_3 r)<|A1 11<|Xu [1,2,2,2,2,2] r (Sb 2 kk33 r (Co 0) r)<|Az<|Ne<|Sq<|Dr [0,0,0,0,1,1,1] r hMix<|Aq [0,1] [0,0,0,0,1,1,1] r<|Ay 2 [0,0,0,0,1,1,1] r (Fb kf36_0 r)<|Ay 3 [0,0,0,0,1,1,1] r (Lb 2 kk9 r)<|Ay 4 [0,0,0,0,1,1,1] r (Fb kf46_2 r)<|Ay 5 [0,0,0,0,1,1,1] r (Lb 3 kk3 r)<|Ai fun R48 H49=>A1 6<|Xe [0,0,0,0,1,1,1] r (Cl [] impl_MintToken_c H49 r r1) fun _=>Ay 7 [0,0,0,0,1,1,1] r (Bd kp41 kz41 (Pc r (Cp r)<|Pc r (Cp r)<|Pz) r)<|A1 8<|Xu [0,0,0,0,1,1,1] r (Sb 4 kk41 r (Cp r) r)<|Az<|Ne<|Wr<|TE.leaf fun _ _ hf_ hs_ => ret_any (rs := [.cell 4 41]) (vs := [.agg #[iv (0 : Int), iv (1 : Int), strV R48, .slice none 0 0]]) (.inl r) r (RV.cell 4 r r kk41 r ⟨⟩) hf_ hs_ ⟨((.slice none 0 0), X31.2, Y42, Y47), r, (hs_.nilItem 2).pulls [3, 7, 2, 1, 0] r⟩
end Go.Proofs.YtmigafjpdoeicaaGreat
