/-
  The functions that a law reaches, each as a pure function, with the proof that the program computes it, and the step from a pure law to the given statement. Conditions: none.
-/
import Derived.Test.YtkheimgjallpkaaGreatQ3
set_option linter.unusedVariables false
set_option maxRecDepth 100000
set_option maxHeartbeats 4000000
namespace Go.Proofs.YtkheimgjallpkaaGreat
open Go Sl

/-- slices.IndexFunc[[]loop.example/g00950/impl.Op,loop.example/g00950/impl.Op] -/
noncomputable def slices_IndexFunc_6733_at_impl_Eng_engPut_1 (s : List Op) (f_c0 : Op) : Option Int :=
  bindC (loopO (fun (S1 : Int) => if (decide (S1 < ((s.length : Nat) : Int))) = true then ((idx s S1).bind fun E6 =>
  (impl_Eng_engPut_1 E6 f_c0).bind fun R8 =>
  if R8 = true then (some (.done (.done S1)))
  else (some (.go (IntKind.i64.wrap (S1 + (1 : Int))))))
  else (some (.done (.go ()))))
  (0 : Int))
  (fun (T3 : Unit) => some (-1 : Int))

theorem slices_IndexFunc_6733_at_impl_Eng_engPut_1_c {s : List Op} {f_c0 : Op} {U0 : Value} {U1 : Nat} : Cn Tryz.prog 131 [U0, .func (.func 108) #[] #[pt U1]] [.box U1 129 [strV f_c0.Key, .bool f_c0.Del, strV f_c0.Val]] [(U0, lc s)] (slices_IndexFunc_6733_at_impl_Eng_engPut_1 s f_c0) (fun r (_ : Unit) => iv r) fun _ _ => [.box U1 129 [strV f_c0.Key, .bool f_c0.Del, strV f_c0.Val]] := by
  unfold slices_IndexFunc_6733_at_impl_Eng_engPut_1
  refine Ci Tryz.func131 r r ?_
  rintro w S ⟨Z0,-⟩
  refine Sr<|Qs 1 r<|Nx<|Sq<|Sr<|Qs 1 r<|Yo (Ln ke96 (Bc Z0) r)<|Qs 1 r<|Nx<|Ju [] (fun _=>[]) r1 (?_) fun T3=>?_
  ·refine Wb<|Lu [0,1,7] (fun T=>[(8, iv T)]) r1 fun S1=>Sr<|Qs 1 r<|Nx<|Sq<|Wc r (fun H5=>?_) fun H5=>?_
   ·exact Sn<|Sq<|Wb<|Sr<|Qs 2 r<|Nx<|Sr<|Qs 3 r<|Bi fun E6 H7=>Yo (Ix ke96 (Bc Z0) H7 r)<|Yo (Le kk129 (Bc Z0) H7 r)<|Bi fun R8 H9=>Fo (Cw [0] impl_Eng_engPut_1_c H9 r r r1) fun _=>Nx<|Wc r (fun H11=>Sr<|Qs 2 r<|Nx<|Wr<|Br<|Tr<|Er<|Br<|Jd<|Tr<|Re () [0]) fun H11=>Sk<|Bn<|Ne<|Rg<|Qs 2 r<|Nl<|Lg () [0]
   exact Wx<|Tx<|Ex<|Be<|Jg () [0]
  exact Ne<|Sr<|Qs 1 r<|Nx<|Wr<|Re () [0]

/-- slices.ContainsFunc[[]loop.example/g00950/impl.Op,loop.example/g00950/impl.Op] -/
noncomputable def slices_ContainsFunc_6733_at_impl_Eng_engPut_1 (s : List Op) (f_c0 : Op) : Option Bool :=
  (slices_IndexFunc_6733_at_impl_Eng_engPut_1 s f_c0).bind fun R1 =>
  some (decide (R1 ≥ (0 : Int)))

theorem slices_ContainsFunc_6733_at_impl_Eng_engPut_1_c {s : List Op} {f_c0 : Op} {U0 : Value} {U1 : Nat} : Cn Tryz.prog 107 [U0, .func (.func 108) #[] #[pt U1]] [.box U1 129 [strV f_c0.Key, .bool f_c0.Del, strV f_c0.Val]] [(U0, lc s)] (slices_ContainsFunc_6733_at_impl_Eng_engPut_1 s f_c0) (fun r (_ : Unit) => .bool r) fun _ _ => [.box U1 129 [strV f_c0.Key, .bool f_c0.Del, strV f_c0.Val]] := by
  unfold slices_ContainsFunc_6733_at_impl_Eng_engPut_1
  refine Ci Tryz.func107 r r ?_
  rintro w S ⟨Z0,-⟩
  exact Sr<|Qs 1 r<|Nx<|Sr<|Qs 2 r<|Bi fun R1 H2=>Fo (Cl [0] slices_IndexFunc_6733_at_impl_Eng_engPut_1_c H2 r r1 ⟨(Bc Z0),⟨⟩⟩) fun _=>Qs 2 r<|Nx<|Wr<|Re () [0]

/-- (*loop.example/g00950/impl.Eng).engPut -/
noncomputable def impl_Eng_engPut (e : Eng) (l : List Op) : Option (Bool × Eng) :=
  bindC (loopO (fun (S1 : Bool × Int × List Ent) => if (decide (S1.2.1 < ((l.length : Nat) : Int))) = true then ((idx l S1.2.1).bind fun E6 =>
  (piece l (IntKind.i64.wrap (S1.2.1 + (1 : Int))) ((l.length : Nat) : Int)).bind fun E9 =>
  (slices_ContainsFunc_6733_at_impl_Eng_engPut_1 E9 E6).bind fun R12 =>
  (if (!R12) = true then (some S1.1)
  else (some false)).bind (fun (T15 : Bool) =>
  bindC (if T15 = true then ((impl_put S1.2.2 ({ Key := E6.Key, Seq := IntKind.i64.wrap (e.Seq + (1 : Int)), Del := E6.Del, Val := E6.Val : Ent })).bind fun R21 =>
  some (.go (R21.2, R21.1)))
  else (some (.go (S1.1, S1.2.2))))
  (fun (T18 : Bool × List Ent) => some (.go (T18.1, IntKind.i64.wrap (S1.2.1 + (1 : Int)), T18.2)))))
  else (some (.done (.go (S1.1, S1.2.2)))))
  (true, (0 : Int), e.Mem))
  (fun (T3 : Bool × List Ent) => (if T3.1 = true then (if (decide (IntKind.i64.wrap (e.Seq + (1 : Int)) ≤ (1000000 : Int))) = true then (if (decide (((T3.2.length : Nat) : Int) ≤ (60 : Int))) = true then ((impl_totalOf e.Tables).bind fun R31 =>
  some (decide (IntKind.i64.wrap (R31 + ((T3.2.length : Nat) : Int)) ≤ (400 : Int))))
  else (some false))
  else (some false))
  else (some false)).bind (fun (T26 : Bool) =>
  some (T26, { Mem := T3.2, Tables := e.Tables, Seq := IntKind.i64.wrap (e.Seq + (1 : Int)), Snaps := e.Snaps : Eng })))

theorem impl_Eng_engPut_c {e : Eng} {l : List Op} {U0 U1 U2 U4 : Value} {U3 : Nat} : Cn Tryz.prog 80 [pt U3, U4] [.box U3 58 [U0, U1, iv e.Seq, U2], .own U0 (lc e.Mem)] [(U1, lc e.Tables), (U2, lc e.Snaps), (U4, lc l)] (impl_Eng_engPut e l) (fun r (_ : Value) => .bool r.1) fun r X => [.box U3 58 [X, U1, iv r.2.Seq, U2], .own X (lc r.2.Mem)] := by
  unfold impl_Eng_engPut
  refine Ci Tryz.func80 r r ?_
  rintro w S ⟨Z0,Z1,Z2,-⟩
  refine Sr<|Qs 1 r<|Nx<|Sr<|Qs 2 r<|Yo (Fb kf58_2 r)<|Yo (Lb 0 kk3 r)<|Qs 2 r<|Yo (Fb kf58_2 r)<|Fu (Sb 0 kk3 r (Cp r) r)<|Nx<|Sr<|Qs 1 r<|Nx<|Sq<|Sr<|Qs 1 r<|Yo (Ln ke96 (Bc Z2) r)<|Qs 1 r<|Nx<|Jn Value [0] [] (fun T _=>[(5, .bool T.1)]) (fun T X=>[.box U3 58 [X, U1, iv (IntKind.i64.wrap (e.Seq + (1 : Int))), U2], .own X (lc T.2)]) r2 r2 (?_) fun T3 X4=>?_
  ·refine Wb<|Lp Value [0,1,16,17] [] (fun T _=>[(5, .bool T.1), (18, iv T.2.1)]) (fun T X=>[.box U3 58 [X, U1, iv (IntKind.i64.wrap (e.Seq + (1 : Int))), U2], .own X (lc T.2.2)]) U0 [0,0] r2 r2 fun S1 X2=>Sr<|Qs 1 r<|Nx<|Sq<|Wc r (fun H5=>?_) fun H5=>?_
   ·refine Sn<|Sq<|Wb<|Sr<|Qs 1 r<|Bi fun E6 H7=>Yo (Ix ke96 (Bc Z2) H7 r)<|Yo (Le kk129 (Bc Z2) H7 r)<|Fo (Al kz129 r) fun B8=>Qs 1 r<|Fu (Sb 0 kk129 r (Cp r) r)<|Nx<|Sr<|Qs 3 r<|Bi fun E9 H10=>?_
    have Q11:=Base.sub (sz := 3) H10 r Z2
    refine Yo (Y.subs H10 ke96 (Bc Z2) r ⟨_, r⟩ r)<|Yo (Y.makeFunc r)<|Bi fun R12 H13=>Fo (Cl [0] slices_ContainsFunc_6733_at_impl_Eng_engPut_1_c H13 r r1 ⟨(Bc Q11),⟨⟩⟩) fun _=>Qs 1 r<|Nx<|Sq<|Jv [0,1,5,7,16,17,18] (fun T=>[(33, .bool T)]) r1 (Rg<|Qs 3 r<|It (fun H17=>Qg 1 (beq_tt H17) r r<|Yo (Pt H17 r)<|Nl<|Bg () [0,0,0]) fun H17=>Of 1 (beq_ft H17) r r<|Yo (Pf H17 r)<|Nl<|Bg () [0,0,0]) fun T15=>Ne<|Jn Value [0,1,16,17,18] [] (fun T _=>[(5, .bool T.1)]) (fun T X=>[.box U3 58 [X, U1, iv (IntKind.i64.wrap (e.Seq + (1 : Int))), U2], .own X (lc T.2)]) r2 r2 (?_) fun T18 X19=>?_
    ·refine Wc r (fun H20=>?_) fun H20=>?_
     ·refine Wi fun R21 H22=>Jw Value [0,1,16,17,18] [] (fun _=>[(5, .bool R21.2)]) (fun X=>[.box U3 58 [X, U1, iv (IntKind.i64.wrap (e.Seq + (1 : Int))), U2], .own X (lc R21.1)]) r1 r1 (?_) fun X25=>?_
      ·refine Dr [0] r hMix<|Aq [0,1,2] [0] r<|Ay 3 [0] r (Fb kf58_0 r)<|Ay 5 [0] r (Fb kf129_0 r)<|Ay 6 [0] r (Lb 0 kk9 r)<|Aq [7,8] [0] r<|Ay 9 [0] r (Fb kf58_2 r)<|Ay 11 [0] r (Fb kf129_1 r)<|Ay 12 [0] r (Lb 0 kk4 r)<|Ay 13 [0] r (Fb kf129_2 r)<|Ay 14 [0] r (Lb 0 kk9 r)<|A2 4 10 (?_)<|?_
       ·exact Xy [0] r (Lb 1 kk54 r)<|A1 10<|Xy [0] r (Lb 1 kk3 r)<|Ay 15 [0] r (Bd kp102 kz102 (Pc r (Cp r)<|Pc r (Cp r)<|Pc r (Cp r)<|Pc r (Cp r)<|Pz) r)<|A1 16<|Xe [1] r (Cl [2] impl_put_c H22 r r1) fun Y26=>Aq [17,18,19,20] [1] r<|Ay 21 [1] r (Fb kf58_0 r)<|A1 22<|Xu [1] r (Sb 2 kk54 r (Co 0) r)<|Aq [23] [1] r<|Az<|Bg Y26 [2,0]
       exact Xy [0] r (Lb 1 kk3 r)<|Ay 15 [0] r (Bd kp102 kz102 (Pc r (Cp r)<|Pc r (Cp r)<|Pc r (Cp r)<|Pc r (Cp r)<|Pz) r)<|A1 4<|Xy [0] r (Lb 1 kk54 r)<|A1 16<|Xe [1] r (Cl [2] impl_put_c H22 r r1) fun Y26=>Aq [17,18,19,20] [1] r<|Ay 21 [1] r (Fb kf58_0 r)<|A1 22<|Xu [1] r (Sb 2 kk54 r (Co 0) r)<|Aq [23] [1] r<|Az<|Bg Y26 [2,0]
      exact Jg X25 [0,0]
     exact Sk<|Jg X2 [1,1]
    exact Bn<|Ne<|Rg<|Qs 2 r<|Nl<|Lg X19 [0,0]
   exact Wx<|Tx<|Ex<|Be<|Jg X2 [0,0]
  refine Ne<|Sq<|Jv [] (fun T=>[(4, .bool T)]) r1 (?_) fun T26=>?_
  ·refine Dr [0,0] r hMix<|Aq [0,1] [0,0] r<|Ia (fun H28=>?_) fun H28=>?_
   ·refine Ag 2 [0,0] (gdA (beq_tt H28)) r (Y.move r)<|Ag 3 [0,0] (gdA (beq_tt H28)) r (Y.nilCheck r)<|Ag 4 [0,0] (gdA (beq_tt H28)) r (Fb kf58_2 r)<|Ag 5 [0,0] (gdA (beq_tt H28)) r (Lb 0 kk3 r)<|Ag 6 [0,0] (gdA (beq_tt H28)) r (Y.leq r r)<|Ay 7 [0,0] r (Pt H28 r)<|Aq [8] [0,0] r<|Ia (fun H29=>?_) fun H29=>?_
    ·refine Ag 9 [0,0] (gdA (beq_tt H29)) r (Y.move r)<|Ag 10 [0,0] (gdA (beq_tt H29)) r (Y.nilCheck r)<|Ag 11 [0,0] (gdA (beq_tt H29)) r (Fb kf58_0 r)<|Ag 12 [0,0] (gdA (beq_tt H29)) r (Lb 0 kk54 r)<|Ag 13 [0,0] (gdA (beq_tt H29)) r (Ln ke54 (Oc 1 r) r)<|Ag 14 [0,0] (gdA (beq_tt H29)) r (Y.leq r r)<|Ay 15 [0,0] r (Pt H29 r)<|Aq [16] [0,0] r<|Ia (fun H30=>?_) fun H30=>?_
     ·refine Ag 17 [0,0] (gdA (beq_tt H30)) r (Y.move r)<|Ag 18 [0,0] (gdA (beq_tt H30)) r (Y.nilCheck r)<|Ag 19 [0,0] (gdA (beq_tt H30)) r (Fb kf58_1 r)<|Ag 20 [0,0] (gdA (beq_tt H30)) r (Lb 0 kk55 r)<|Ag 22 [0,0] (gdA (beq_tt H30)) r (Y.move r)<|Ag 23 [0,0] (gdA (beq_tt H30)) r (Y.nilCheck r)<|Ag 24 [0,0] (gdA (beq_tt H30)) r (Fb kf58_0 r)<|Ag 25 [0,0] (gdA (beq_tt H30)) r (Lb 0 kk54 r)<|Ag 26 [0,0] (gdA (beq_tt H30)) r (Ln ke54 (Oc 1 r) r)<|Ai fun R31 H32=>A1 21<|Xeg [0,0] (gdA (beq_tt H30)) r (Cl [] impl_totalOf_c H32 r r1 ⟨(Bc Z0),⟨⟩⟩) fun _=>?_
      exact Ag 27 [0,0] (gdA (beq_tt H30)) r (Y.add r r)<|Ag 28 [0,0] (gdA (beq_tt H30)) r (Y.leq r r)<|Ay 29 [0,0] r (Pt H30 r)<|Aq [30] [0,0] r<|Az<|Bg () [0,0]
     exact Ax [17,18,19,20,21,22,23,24,25,26,27,28] [0,0] (beq_ft H30) r r<|Ay 29 [0,0] r (Pf H30 r)<|Aq [30] [0,0] r<|Az<|Bg () [0,0]
    exact Ax [9,10,11,12,13,14] [0,0] (beq_ft H29) r r<|Ay 15 [0,0] r (Pf H29 r)<|Aq [16] [0,0] r<|Ax [17,18,19,20,21,22,23,24,25,26,27,28] [0,0] r r r<|Ay 29 [0,0] r (Pf r r)<|Aq [30] [0,0] r<|Az<|Bg () [0,0]
   exact Ax [2,3,4,5,6] [0,0] (beq_ft H28) r r<|Ay 7 [0,0] r (Pf H28 r)<|Aq [8] [0,0] r<|Ax [9,10,11,12,13,14] [0,0] r r r<|Ay 15 [0,0] r (Pf r r)<|Aq [16] [0,0] r<|Ax [17,18,19,20,21,22,23,24,25,26,27,28] [0,0] r r r<|Ay 29 [0,0] r (Pf r r)<|Aq [30] [0,0] r<|Az<|Bg () [0,0]
  exact Ne<|Wr<|Re X4 [0,0]

/-- (*loop.example/g00950/impl.Store).replayed -/
noncomputable def impl_Store_replayed (s : Store) (t : STen) (rows : List LogRow) : Option (Eng × Bool) :=
  (impl_copyEng t.Eng).bind fun R3 =>
  (impl_KeyOf s.Keys t.Id).bind fun R13 =>
  bindC (loopO (fun (S16 : Int × Int × List Ent) => if (decide (S16.2.1 < ((rows.length : Nat) : Int))) = true then ((idx rows S16.2.1).bind fun E21 =>
  (impl_OpenBatch R13 E21.Boot E21.Seq E21.Text).bind fun R24 =>
  (if (!R24.2) = true then (some (S16.1, true, S16.2.2))
  else ((impl_Eng_engPut ({ Mem := S16.2.2, Tables := R3.Tables, Seq := S16.1, Snaps := ([] : List Int) : Eng }) R24.1).bind fun R30 =>
  some (R30.2.Seq, !R30.1, R30.2.Mem))).bind (fun (T27 : Int × Bool × List Ent) =>
  if T27.2.1 = true then (some (.done (.done ({ Mem := ([] : List Ent), Tables := ([] : List (List Ent)), Seq := (0 : Int), Snaps := ([] : List Int) : Eng }, false))))
  else (some (.go (T27.1, IntKind.i64.wrap (S16.2.1 + (1 : Int)), T27.2.2)))))
  else (some (.done (.go (S16.1, S16.2.2)))))
  (t.Base, (0 : Int), ([] : List Ent)))
  (fun (T18 : Int × List Ent) => some ({ Mem := T18.2, Tables := R3.Tables, Seq := T18.1, Snaps := ([] : List Int) : Eng }, true))

theorem impl_Store_replayed_c {s : Store} {t : STen} {rows : List LogRow} {U0 U1 U2 U3 U4 U6 U7 U8 U9 : Value} {U5 : Nat} : Cn Tryz.prog 52 [pt U5, .agg #[iv t.Id, iv t.Epoch, iv t.Base, U6, U7, iv t.Eng.Seq, U8], U9] [.box U5 43 [strV s.Secret, strV s.Keys.Master, U0, iv s.Keys.Wiped, iv s.Shares.Size, U1, U2, U3, U4, iv s.Boot]] [(U0, lc s.Keys.Slots), (U1, lc s.Shares.List), (U2, lc s.Tens), (U3, lc s.Rows), (U4, lc s.Hist), (U6, lc t.Eng.Mem), (U7, lc t.Eng.Tables), (U8, lc t.Eng.Snaps), (U9, lc rows)] (impl_Store_replayed s t rows) (fun r (X : Value × Value × Value) => .tuple #[.agg #[X.1, X.2.1, iv r.1.Seq, X.2.2], .bool r.2]) fun r X => [.box U5 43 [strV s.Secret, strV s.Keys.Master, U0, iv s.Keys.Wiped, iv s.Shares.Size, U1, U2, U3, U4, iv s.Boot], .own X.1 (lc r.1.Mem), .own X.2.1 (lc r.1.Tables), .own X.2.2 (lc r.1.Snaps)] := by
  unfold impl_Store_replayed
  refine Ci Tryz.func52 r r ?_
  rintro w S ⟨Z0,Z1,Z2,Z3,Z4,Z5,Z6,Z7,Z8,-⟩
  refine Sr<|Fo (Bx r (Ca ⟨Op',Op',Op',Ob Z5,Ob Z6,Op',Ob Z7,⟨⟩⟩)) fun B1=>Fo (Al kz58 r) fun B2=>Qs 1 r<|Nx<|Sq<|Wi fun R3 H4=>Jw (Nat × Value) [0,2,4,6] [2,1,0] (fun X=>[(8, pt X.1)]) (fun X=>[.box X.1 58 [.slice none 0 0, X.2, iv t.Base, .slice none 0 0], .own X.2 (lc R3.Tables)]) r1 r1 (?_) fun X10=>?_
  ·refine Dr [0,0,0] r hMix<|Ay 0 [0,0,0] r (Fb kf60_3 r)<|Ay 1 [0,0,0] r (Lb 1 kk58 r)<|Ay 4 [0,0,0] r (Fb kf60_2 r)<|Ay 5 [0,0,0] r (Lb 1 kk3 r)<|A2 2 7 (?_)<|?_
   ·exact Xe [3,3,3] r (Cl [] impl_copyEng_c H4 r r1 ⟨(Bc Z5),(Bc Z6),(Bc Z7),⟨⟩⟩) fun Y11=>Ay 3 [3,3,3] r (Fy kt58_1 kk55 r r)<|A2 6 7 (Xy [3,3,3] r (Bd kp58 kz58 (Pc r (Co 1)<|Pc r (Cp r)<|Pz) r)<|A1 7<|Xe [4,4,4] r (Al kz58 r) fun B14=>A1 8<|Xu [4,4,4] r (Sb 0 kk58 r (Ca ⟨Op',Ow' 2,Op',Op',⟨⟩⟩) r)<|Az<|Bg (B14, Y11.2.1) [6,5,4,0,1])<|Xe [4,4,4] r (Al kz58 r) fun B13=>A1 6<|Xy [4,4,4] r (Bd kp58 kz58 (Pc r (Co 2)<|Pc r (Cp r)<|Pz) r)<|A1 8<|Xu [4,4,4] r (Sb 0 kk58 r (Ca ⟨Op',Ow' 2,Op',Op',⟨⟩⟩) r)<|Az<|Bg (B13, Y11.2.1) [6,5,4,0,1]
   exact Xe [1,1,1] r (Al kz58 r) fun B12=>A1 2<|Xe [4,4,4] r (Cl [] impl_copyEng_c H4 r r1 ⟨(Bc Z5),(Bc Z6),(Bc Z7),⟨⟩⟩) fun Y13=>Ay 3 [4,4,4] r (Fy kt58_1 kk55 r r)<|A1 6<|Xy [4,4,4] r (Bd kp58 kz58 (Pc r (Co 1)<|Pc r (Cp r)<|Pz) r)<|A1 8<|Xu [4,4,4] r (Sb 3 kk58 r (Ca ⟨Op',Ow' 1,Op',Op',⟨⟩⟩) r)<|Az<|Bg (B12, Y13.2.1) [6,5,4,3,1]
  refine Ne<|Sq<|Dr [0,0,0,0,0] r hMix<|Aq [0,1] [0,0,0,0,0] r<|Ay 2 [0,0,0,0,0] r (Fb kf43_1 r)<|Ay 3 [0,0,0,0,0] r (Lb 0 kk36 r)<|Ay 4 [0,0,0,0,0] r (Fb kf60_0 r)<|Ay 5 [0,0,0,0,0] r (Lb 1 kk3 r)<|Ai fun R13 H14=>A1 6<|Xe [0,0,0,0,0] r (Cl [] impl_KeyOf_c H14 r r1 ⟨(Bc Z0),⟨⟩⟩) fun _=>Aq [7] [0,0,0,0,0] r<|Az<|Ne<|Sq<|Sr<|Qs 1 r<|Yo (Ln ke41 (Bc Z8) r)<|Qs 1 r<|Nx<|Jn Value [6,8] [2,0,2] (fun _ _=>[]) (fun T X=>[.box X10.1 58 [X, X10.2, iv T.1, .slice none 0 0], .own X (lc T.2)]) r2 r2 (?_) fun T18 X19=>?_
  ·refine Wb<|Nw 4<|Lp Value [6,8,9,28,29] [3,1,3] (fun T _=>[(30, iv T.2.1)]) (fun T X=>[.box X10.1 58 [X, X10.2, iv T.1, .slice none 0 0], .own X (lc T.2.2)]) (.slice none 0 0) [3,1,3,2,0] r2 r2 fun S16 X17=>Sr<|Qs 1 r<|Nx<|Sq<|Wc r (fun H20=>?_) fun H20=>?_
   ·refine Sn<|Sq<|Wb<|Sr<|Bi fun E21 H22=>Yo (Ix ke41 (Bc Z8) H22 r)<|Yo (Le kk69 (Bc Z8) H22 r)<|Fo (Al kz69 r) fun B23=>Fu (Sb 0 kk69 r (Cp r) r)<|Nx<|Sr<|Qs 1 r<|Yo (Fb kf69_1 r)<|Yo (Lb 0 kk3 r)<|Yo (Fb kf69_2 r)<|Yo (Lb 0 kk3 r)<|Yo (Fb kf69_3 r)<|Yo (Lb 0 kk9 r)<|Bi fun R24 H25=>Fo (Cl [] impl_OpenBatch_c H25 r r1) fun Y26=>Qs 5 r<|Nx<|Sq<|Jb Value [6,8,9,28,29,30] [2,2,2] (fun T _=>[(51, .bool T.2.1)]) (fun T X=>[.box X10.1 58 [X, X10.2, iv T.1, .slice none 0 0], .own X (lc T.2.2)]) r2 r2 (?_) fun T27 X28=>?_
    ·exact Rg<|Qs 3 r<|It (fun H29=>Of 3 (beq_tf H29) r r<|Yo (Pt H29 r)<|Nl<|Bg X17 [2,2,2,2,2]) fun H29=>Qg 1 (beq_ff H29) r r<|Bi fun R30 H31=>Fg (gdA (beq_ff H29)) (Cl [5, 5] impl_Eng_engPut_c H31 r r1 ⟨(Oc 4 r),(Can.plain fun _ => .nil _),(Oc 0 r),⟨⟩⟩) fun Y32=>Qg 1 (beq_ff H29) r r<|Yo (Pf H29 r)<|Nl<|Bg Y32 [4,4,4,0,0]
    refine Ne<|Wc r (fun H33=>?_) fun H33=>?_
    ·exact Sr<|Yo (Bd kp58 kz58 (Pz) r)<|Fu (Sb 0 kk58 r (Cp r) r)<|Qs 1 r<|Nx<|Wr<|Br<|Tr<|Er<|Br<|Jd<|Tr<|TE.leaf fun _ _ hf_ hs_ => ret_any (rs := [.cell 6 58, .tmp 7]) (vs := [.agg #[.slice none 0 0, .slice none 0 0, iv (0 : Int), .slice none 0 0], .bool false]) (.inl r) r (RV.cell 0 r r kk58 r ⟨r, ⟨⟩⟩) hf_ hs_ ⟨((.slice none 0 0), (.slice none 0 0), (.slice none 0 0)), r, (((hs_.nilItem 4).nilItem 1).nilItem 1).pulls [4, 2, 1, 0] r⟩
    exact Sk<|Bn<|Ne<|Rg<|Qs 2 r<|Nl<|Lg X28 [0,0,0,0,0]
   exact Wx<|Tx<|Ex<|Be<|Jg X17 [0,0,0,0,0]
  exact Ne<|Sr<|Yo (Lb 3 kk58 r)<|Fu (Sb 0 kk58 r (Ca ⟨Ow' 4,Ow' 2,Op',Op',⟨⟩⟩) r)<|Qs 1 r<|Nx<|Wr<|TE.leaf fun _ _ hf_ hs_ => ret_any (rs := [.cell 6 58, .tmp 7]) (vs := [.agg #[X19, X10.2, iv T18.1, .slice none 0 0], .bool true]) (.inl r) r (RV.cell 0 r r kk58 r ⟨r, ⟨⟩⟩) hf_ hs_ ⟨(X19, X10.2, (.slice none 0 0)), r, (hs_.nilItem 1).pulls [2, 4, 2, 0] r⟩

/-- slices.Equal[[]loop.example/g00950/impl.Ent,loop.example/g00950/impl.Ent] -/
noncomputable def slices_Equal_94167 (s1 : List Ent) (s2 : List Ent) : Option Bool :=
  if (!(decide (((s1.length : Nat) : Int) = ((s2.length : Nat) : Int)))) = true then (some false)
  else (bindC (loopO (fun (S2 : Int) => if (decide (S2 < ((s1.length : Nat) : Int))) = true then ((idx s1 S2).bind fun E7 =>
  (idx s2 S2).bind fun E9 =>
  if (!(decide (E7.Key = E9.Key) && (decide (E7.Seq = E9.Seq) && (decide (E7.Del = E9.Del) && (decide (E7.Val = E9.Val) && true))))) = true then (some (.done (.done false)))
  else (some (.go (IntKind.i64.wrap (S2 + (1 : Int))))))
  else (some (.done (.go ()))))
  (0 : Int))
  (fun (T4 : Unit) => some true))

theorem slices_Equal_94167_c {s1 : List Ent} {s2 : List Ent} {U0 U1 : Value} : Cn Tryz.prog 53 [U0, U1] [] [(U0, lc s1), (U1, lc s2)] (slices_Equal_94167 s1 s2) (fun r (_ : Unit) => .bool r) fun _ _ => [] := by
  unfold slices_Equal_94167
  refine Ci Tryz.func53 r r ?_
  rintro w S ⟨Z0,Z1,-⟩
  refine Sr<|Qs 1 r<|Nx<|Sq<|Sr<|Qs 1 r<|Yo (Ln ke54 (Bc Z0) r)<|Qs 1 r<|Yo (Ln ke54 (Bc Z1) r)<|Qs 1 r<|Nx<|Wc r (fun H1=>Sr<|Qs 1 r<|Nx<|Wr<|Tr<|Re () []) fun H1=>Sn<|Sq<|Sr<|Qs 1 r<|Yo (Ln ke54 (Bc Z0) r)<|Qs 1 r<|Nx<|Ju [] (fun _=>[]) r1 (?_) fun T4=>?_
  ·refine Wb<|Lu [0,1,12] (fun T=>[(13, iv T)]) r1 fun S2=>Sr<|Qs 1 r<|Nx<|Sq<|Wc r (fun H6=>?_) fun H6=>?_
   ·exact Sn<|Sq<|Wb<|Sr<|Qs 2 r<|Nx<|Sq<|Dr [] r hMix<|Aq [0,1] [] r<|Ai fun E7 H8=>Ay 2 [] r (Ix ke54 (Bc Z0) H8 r)<|Ay 3 [] r (Le kk102 (Bc Z0) H8 r)<|Aq [4,5] [] r<|Ai fun E9 H10=>Ay 6 [] r (Ix ke54 (Bc Z1) H10 r)<|Ay 7 [] r (Le kk102 (Bc Z1) H10 r)<|Ay 8 [] r (Y.neqA keq102 (EqA.str (EqA.int (EqA.bool (EqA.str EqA.nil)))) r r)<|Az<|Ne<|Wc r (fun H11=>Sr<|Qs 1 r<|Nx<|Wr<|Br<|Tr<|Er<|Br<|Jd<|Tr<|Re () []) fun H11=>Sk<|Bn<|Ne<|Rg<|Qs 2 r<|Nl<|Lg () []
   exact Wx<|Tx<|Ex<|Be<|Jg () []
  exact Ne<|Sr<|Qs 1 r<|Nx<|Wr<|Re () []

/-- (*loop.example/g00950/impl.Store).tenOk -/
noncomputable def impl_Store_tenOk (s : Store) (t : STen) : Option Bool :=
  ((impl_isNumber t.Epoch).bind fun R4 =>
  if (!R4) = true then (some true)
  else ((impl_isNumber t.Base).bind fun R8 =>
  if (!R8) = true then (some true)
  else (if (decide (((t.Eng.Snaps.length : Nat) : Int) > (2 : Int))) = true then (some true)
  else (if (decide (((t.Eng.Tables.length : Nat) : Int) > (1 : Int))) = true then (some true)
  else ((impl_EngOk t.Eng).bind fun R14 =>
  some (!R14)))))).bind (fun (T2 : Bool) =>
  if T2 = true then (some false)
  else ((impl_Store_rowsOf s t.Id).bind fun R18 =>
  (if (decide (((R18.length : Nat) : Int) > (6 : Int))) = true then (some true)
  else (some (!(decide (IntKind.i64.wrap (t.Base + ((R18.length : Nat) : Int)) = t.Eng.Seq))))).bind (fun (T21 : Bool) =>
  if T21 = true then (some false)
  else (bindC (loopO (fun (S25 : Int) => if (decide (S25 < ((R18.length : Nat) : Int))) = true then ((idx R18 S25).bind fun E30 =>
  if (!(decide (E30.Seq = IntKind.i64.wrap (IntKind.i64.wrap (t.Base + S25) + (1 : Int))))) = true then (some (.done (.done false)))
  else (some (.go (IntKind.i64.wrap (S25 + (1 : Int))))))
  else (some (.done (.go ()))))
  (0 : Int))
  (fun (T27 : Unit) => (impl_EngOk ({ Mem := ([] : List Ent), Tables := t.Eng.Tables, Seq := t.Base, Snaps := ([] : List Int) : Eng })).bind fun R34 =>
  if (!R34) = true then (some false)
  else ((impl_Store_replayed s t R18).bind fun R38 =>
  (if R38.2 = true then ((slices_Equal_94167 R38.1.Mem t.Eng.Mem).bind fun R45 =>
  some R45)
  else (some false)).bind (fun (T42 : Bool) =>
  some T42)))))))

theorem impl_Store_tenOk_c {s : Store} {t : STen} {U0 U1 U2 U3 U4 U6 U7 U8 : Value} {U5 : Nat} : Cn Tryz.prog 26 [pt U5, .agg #[iv t.Id, iv t.Epoch, iv t.Base, U6, U7, iv t.Eng.Seq, U8]] [.box U5 43 [strV s.Secret, strV s.Keys.Master, U0, iv s.Keys.Wiped, iv s.Shares.Size, U1, U2, U3, U4, iv s.Boot]] [(U0, lc s.Keys.Slots), (U1, lc s.Shares.List), (U2, lc s.Tens), (U3, lc s.Rows), (U4, lc s.Hist), (U6, lc t.Eng.Mem), (U7, lc t.Eng.Tables), (U8, lc t.Eng.Snaps)] (impl_Store_tenOk s t) (fun r (_ : Unit) => .bool r) fun _ _ => [.box U5 43 [strV s.Secret, strV s.Keys.Master, U0, iv s.Keys.Wiped, iv s.Shares.Size, U1, U2, U3, U4, iv s.Boot]] := by
  unfold impl_Store_tenOk
  refine Ci Tryz.func26 r r ?_
  rintro w S ⟨Z0,Z1,Z2,Z3,Z4,Z5,Z6,Z7,-⟩
  refine Sr<|Fo (Bx r (Ca ⟨Op',Op',Op',Ob Z5,Ob Z6,Op',Ob Z7,⟨⟩⟩)) fun B1=>Qs 1 r<|Nx<|Sq<|Sq<|Jv [0,3] (fun T=>[(39, .bool T)]) r1 (?_) fun T2=>?_
  ·refine Rg<|Yo (Fb kf60_1 r)<|Yo (Lb 0 kk3 r)<|Bi fun R4 H5=>Fo (Cl [] impl_isNumber_c H5 r r1) fun _=>Qs 2 r<|It (fun H7=>Of 4 (beq_tf H7) r r<|Yo (Pt H7 r)<|Qs 1 r<|Of 5 r r r<|Yo (Pt r r)<|Qs 1 r<|Of 5 r r r<|Yo (Pt r r)<|Qs 1 r<|Of 4 r r r<|Yo (Pt r r)<|Nl<|Bg () [0,0]) fun H7=>Yg (gdA (beq_ff H7)) (Fb kf60_2 r)<|Yg (gdA (beq_ff H7)) (Lb 0 kk3 r)<|Bi fun R8 H9=>Fg (gdA (beq_ff H7)) (Cl [] impl_isNumber_c H9 r r1) fun _=>Qg 1 (beq_ff H7) r r<|Yo (Pf H7 r)<|Qs 1 r<|It (fun H11=>Of 5 (beq_tf H11) r r<|Yo (Pt H11 r)<|Qs 1 r<|Of 5 r r r<|Yo (Pt r r)<|Qs 1 r<|Of 4 r r r<|Yo (Pt r r)<|Nl<|Bg () [0,0]) fun H11=>?_
   refine Yg (gdA (beq_ff H11)) (Fb kf60_3 r)<|Yg (gdA (beq_ff H11)) (Fb kf58_3 r)<|Yg (gdA (beq_ff H11)) (Lb 0 kk56 r)<|Yg (gdA (beq_ff H11)) (Ln ke56 (Bc Z7) r)<|Qg 1 (beq_ff H11) r r<|Yo (Pf H11 r)<|Qs 1 r<|It (fun H12=>Of 5 (beq_tf H12) r r<|Yo (Pt H12 r)<|Qs 1 r<|Of 4 r r r<|Yo (Pt r r)<|Nl<|Bg () [0,0]) fun H12=>Yg (gdA (beq_ff H12)) (Fb kf60_3 r)<|Yg (gdA (beq_ff H12)) (Fb kf58_1 r)<|Yg (gdA (beq_ff H12)) (Lb 0 kk55 r)<|Yg (gdA (beq_ff H12)) (Ln ke55 (Bc Z6) r)<|Qg 1 (beq_ff H12) r r<|Yo (Pf H12 r)<|Qs 1 r<|It (fun H13=>Of 4 (beq_tf H13) r r<|Yo (Pt H13 r)<|Nl<|Bg () [0,0]) fun H13=>?_
   exact Yg (gdA (beq_ff H13)) (Fb kf60_3 r)<|Yg (gdA (beq_ff H13)) (Lb 0 kk58 r)<|Bi fun R14 H15=>Fg (gdA (beq_ff H13)) (Cl [] impl_EngOk_c H15 r r1 ⟨(Bc Z5),(Bc Z6),(Bc Z7),⟨⟩⟩) fun _=>Qg 1 (beq_ff H13) r r<|Yo (Pf H13 r)<|Nl<|Bg () [0,0]
  refine Ne<|Wc r (fun H17=>Sr<|Qs 1 r<|Nx<|Wr<|Tr<|Re () [1]) fun H17=>Sn<|Sr<|Qs 1 r<|Yo (Fb kf60_0 r)<|Yo (Lb 0 kk3 r)<|Bi fun R18 H19=>Fo (Cl [1] impl_Store_rowsOf_c H19 r r1 ⟨(Bc Z0),(Bc Z1),(Bc Z2),(Bc Z3),(Bc Z4),⟨⟩⟩) fun Y20=>Qs 1 r<|Nx<|Sq<|Sq<|Jv [0,3,5] (fun T=>[(57, .bool T)]) r1 (?_) fun T21=>?_
  ·exact Rg<|Qs 1 r<|Yo (Ln ke41 (Oc 1 r) r)<|Qs 2 r<|It (fun H23=>Of 9 (beq_tf H23) r r<|Yo (Pt H23 r)<|Nl<|Bg () [0,0,0]) fun H23=>Yg (gdA (beq_ff H23)) (Fb kf60_2 r)<|Yg (gdA (beq_ff H23)) (Lb 2 kk3 r)<|Qg 1 (beq_ff H23) r r<|Yg (gdA (beq_ff H23)) (Ln ke41 (Oc 1 r) r)<|Qg 1 (beq_ff H23) r r<|Yg (gdA (beq_ff H23)) (Fb kf60_3 r)<|Yg (gdA (beq_ff H23)) (Fb kf58_2 r)<|Yg (gdA (beq_ff H23)) (Lb 2 kk3 r)<|Qg 1 (beq_ff H23) r r<|Yo (Pf H23 r)<|Nl<|Bg () [0,0,0]
  refine Ne<|Wc r (fun H24=>Sr<|Qs 1 r<|Nx<|Wr<|Tr<|Re () [0]) fun H24=>Sn<|Sq<|Sr<|Qs 1 r<|Yo (Ln ke41 (Oc 1 r) r)<|Qs 1 r<|Nx<|Ju [0,3,5] (fun _=>[]) r1 (?_) fun T27=>?_
  ·refine Wb<|Lu [0,3,5,58,59] (fun T=>[(60, iv T)]) r1 fun S25=>Sr<|Qs 1 r<|Nx<|Sq<|Wc r (fun H29=>?_) fun H29=>?_
   ·exact Sn<|Sq<|Wb<|Sr<|Qs 1 r<|Bi fun E30 H31=>Yo (Ix ke41 (Oc 1 r) H31 r)<|Yo (Le kk69 (Oc 1 r) H31 r)<|Fo (Al kz69 r) fun B32=>Qs 1 r<|Fu (Sb 0 kk69 r (Cp r) r)<|Nx<|Sr<|Yo (Fb kf69_2 r)<|Yo (Lb 0 kk3 r)<|Yo (Fb kf60_2 r)<|Yo (Lb 3 kk3 r)<|Qs 4 r<|Nx<|Wc r (fun H33=>Sr<|Qs 1 r<|Nx<|Wr<|Br<|Tr<|Er<|Br<|Jd<|Tr<|Re () [1]) fun H33=>Sk<|Bn<|Ne<|Rg<|Qs 2 r<|Nl<|Lg () [1,1,1]
   exact Wx<|Tx<|Ex<|Be<|Jg () [0,0,0]
  refine Ne<|Sq<|Sr<|Yo (Fb kf60_3 r)<|Yo (Fb kf58_1 r)<|Yo (Lb 2 kk55 r)<|Yo (Fb kf60_2 r)<|Yo (Lb 2 kk3 r)<|Yo (Bd kp58 kz58 (Pc r (Cb Z6)<|Pc r (Cp r)<|Pz) r)<|Bi fun R34 H35=>Fo (Cl [] impl_EngOk_c H35 r r1 ⟨(Can.plain fun _ => .nil _),(Bc Z6),(Can.plain fun _ => .nil _),⟨⟩⟩) fun _=>Qs 1 r<|Nx<|Wc r (fun H37=>Sr<|Qs 1 r<|Nx<|Wr<|Tr<|Re () [0]) fun H37=>Sn<|Sr<|Qs 1 r<|Yo (Lb 2 kk60 r)<|Qs 1 r<|Bi fun R38 H39=>Fo (Cl [0] impl_Store_replayed_c H39 r r1 ⟨(Bc Z0),(Bc Z1),(Bc Z2),(Bc Z3),(Bc Z4),(Bc Z5),(Bc Z6),(Bc Z7),(Oc 0 r),⟨⟩⟩) fun Y40=>?_
  refine Qs 3 r<|Fo (Al kz58 r) fun B41=>Fu (Sb 0 kk58 r (Ca ⟨Ow' 2,Ow' 3,Op',Ow' 4,⟨⟩⟩) r)<|Qs 1 r<|Nx<|Sq<|Jb Unit [] [1] (fun T _=>[(4, .bool T)]) (fun _ _=>[]) r2 r2 (?_) fun T42 X43=>?_
  ·refine Rg<|Qs 2 r<|It (fun H44=>?_) fun H44=>?_
   ·exact Yg (gdA (beq_tt H44)) (Fb kf58_0 r)<|Yg (gdA (beq_tt H44)) (Lb 0 kk54 r)<|Yg (gdA (beq_tt H44)) (Fb kf60_3 r)<|Yg (gdA (beq_tt H44)) (Fb kf58_0 r)<|Yg (gdA (beq_tt H44)) (Lb 6 kk54 r)<|Bi fun R45 H46=>Fg (gdA (beq_tt H44)) (Cl [] slices_Equal_94167_c H46 r r1 ⟨(Oc 2 r),(Bc Z5),⟨⟩⟩) fun _=>Yo (Pt H44 r)<|Qs 1 r<|Nl<|Bg () [1]
   exact Of 6 (beq_ft H44) r r<|Yo (Pf H44 r)<|Qs 1 r<|Nl<|Bg () [1]
  exact Ne<|Wr<|Re () [0]

/-- (*loop.example/g00950/impl.Store).at$1 -/
noncomputable def impl_Store_at_1 (t : STen) (c0_ : Int) : Option Bool :=
  some (decide (t.Id = c0_))

theorem impl_Store_at_1_c {t : STen} {c0_ : Int} {U0 U1 U2 : Value} {U3 : Nat} : Cn Tryz.prog 55 [.agg #[iv t.Id, iv t.Epoch, iv t.Base, U0, U1, iv t.Eng.Seq, U2], pt U3] [.box U3 3 [iv c0_]] [(U0, lc t.Eng.Mem), (U1, lc t.Eng.Tables), (U2, lc t.Eng.Snaps)] (impl_Store_at_1 t c0_) (fun r (_ : Unit) => .bool r) fun _ _ => [.box U3 3 [iv c0_]] := by
  unfold impl_Store_at_1
  refine Ci Tryz.func55 r r ?_
  rintro w S ⟨Z0,Z1,Z2,-⟩
  exact Sr<|Fo (Bx r (Ca ⟨Op',Op',Op',Ob Z0,Ob Z1,Op',Ob Z2,⟨⟩⟩)) fun B1=>Qs 1 r<|Nx<|Sr<|Yo (Fb kf60_0 r)<|Yo (Lb 0 kk3 r)<|Yo (Lb 1 kk3 r)<|Qs 2 r<|Nx<|Wr<|Re () [1]

/-- slices.IndexFunc[[]loop.example/g00950/impl.STen,loop.example/g00950/impl.STen] -/
noncomputable def slices_IndexFunc_91949_at_impl_Store_at_1 (s : List STen) (f_c0 : Int) : Option Int :=
  bindC (loopO (fun (S1 : Int) => if (decide (S1 < ((s.length : Nat) : Int))) = true then ((idx s S1).bind fun E6 =>
  (impl_Store_at_1 E6 f_c0).bind fun R11 =>
  if R11 = true then (some (.done (.done S1)))
  else (some (.go (IntKind.i64.wrap (S1 + (1 : Int))))))
  else (some (.done (.go ()))))
  (0 : Int))
  (fun (T3 : Unit) => some (-1 : Int))

theorem slices_IndexFunc_91949_at_impl_Store_at_1_c {s : List STen} {f_c0 : Int} {U0 : Value} {U1 : Nat} : Cn Tryz.prog 54 [U0, .func (.func 55) #[] #[pt U1]] [.box U1 3 [iv f_c0]] [(U0, lc s)] (slices_IndexFunc_91949_at_impl_Store_at_1 s f_c0) (fun r (_ : Unit) => iv r) fun _ _ => [.box U1 3 [iv f_c0]] := by
  unfold slices_IndexFunc_91949_at_impl_Store_at_1
  refine Ci Tryz.func54 r r ?_
  rintro w S ⟨Z0,-⟩
  refine Sr<|Qs 1 r<|Nx<|Sq<|Sr<|Qs 1 r<|Yo (Ln ke40 (Bc Z0) r)<|Qs 1 r<|Nx<|Ju [] (fun _=>[]) r1 (?_) fun T3=>?_
  ·refine Wb<|Lu [0,1,7] (fun T=>[(8, iv T)]) r1 fun S1=>Sr<|Qs 1 r<|Nx<|Sq<|Wc r (fun H5=>?_) fun H5=>?_
   ·refine Sn<|Sq<|Wb<|Sr<|Qs 2 r<|Nx<|Sr<|Qs 3 r<|Bi fun E6 H7=>Yo (Ix ke40 (Bc Z0) H7 r)<|?_
    have Q8 : Base w S (elv w U0 (S1.toNat * 7 + 3)) (lc E6.Eng.Mem):=Base.el Z0 (idx_get H7).2.2 r r
    have Q9 : Base w S (elv w U0 (S1.toNat * 7 + 4)) (lc E6.Eng.Tables):=Base.el Z0 (idx_get H7).2.2 r r
    have Q10 : Base w S (elv w U0 (S1.toNat * 7 + 6)) (lc E6.Eng.Snaps):=Base.el Z0 (idx_get H7).2.2 r r
    exact Yo (Lz kk60 Z0 H7 r)<|Bi fun R11 H12=>Fo (Cw [0] impl_Store_at_1_c H12 r r r1 ⟨(Bc Q8),(Bc Q9),(Bc Q10),⟨⟩⟩) fun _=>Nx<|Wc r (fun H14=>Sr<|Qs 2 r<|Nx<|Wr<|Br<|Tr<|Er<|Br<|Jd<|Tr<|Re () [0]) fun H14=>Sk<|Bn<|Ne<|Rg<|Qs 2 r<|Nl<|Lg () [0]
   exact Wx<|Tx<|Ex<|Be<|Jg () [0]
  exact Ne<|Sr<|Qs 1 r<|Nx<|Wr<|Re () [0]

/-- (*loop.example/g00950/impl.Store).at -/
noncomputable def impl_Store_at (s : Store) (id : Int) : Option Int :=
  (slices_IndexFunc_91949_at_impl_Store_at_1 s.Tens id).bind fun R2 =>
  some R2

theorem impl_Store_at_c {s : Store} {id : Int} {U0 U1 U2 U3 U4 : Value} {U5 : Nat} : Cn Tryz.prog 27 [pt U5, iv id] [.box U5 43 [strV s.Secret, strV s.Keys.Master, U0, iv s.Keys.Wiped, iv s.Shares.Size, U1, U2, U3, U4, iv s.Boot]] [(U0, lc s.Keys.Slots), (U1, lc s.Shares.List), (U2, lc s.Tens), (U3, lc s.Rows), (U4, lc s.Hist)] (impl_Store_at s id) (fun r (_ : Unit) => iv r) fun _ _ => [.box U5 43 [strV s.Secret, strV s.Keys.Master, U0, iv s.Keys.Wiped, iv s.Shares.Size, U1, U2, U3, U4, iv s.Boot]] := by
  unfold impl_Store_at
  refine Ci Tryz.func27 r r ?_
  rintro w S ⟨Z0,Z1,Z2,Z3,Z4,-⟩
  exact Sr<|Fo (Bx r (Cp r)) fun B1=>Qs 1 r<|Nx<|Sr<|Qs 2 r<|Yo (Fb kf43_3 r)<|Yo (Lb 1 kk40 r)<|Yo (Y.makeFunc r)<|Bi fun R2 H3=>Fo (Cl [0] slices_IndexFunc_91949_at_impl_Store_at_1_c H3 r r1 ⟨(Bc Z2),⟨⟩⟩) fun _=>Qs 1 r<|Nx<|Wr<|Re () [1]

/-- loop.example/g00950/impl.StoreOk -/
noncomputable def impl_StoreOk (s : Store) : Option Bool :=
  (if (!(decide (((s.Secret.length : Nat) : Int) = (32 : Int)))) = true then (some true)
  else ((impl_KeyOk s.Keys).bind fun R5 =>
  if (!R5) = true then (some true)
  else ((impl_SharesOk s.Shares).bind fun R9 =>
  if (!R9) = true then (some true)
  else ((impl_inRange s.Boot (0 : Int) (1000 : Int)).bind fun R13 =>
  if (!R13) = true then (some true)
  else (some (decide (((s.Hist.length : Nat) : Int) > (120 : Int)))))))).bind (fun (T2 : Bool) =>
  if T2 = true then (some false)
  else ((if (!(decide (((s.Tens.length : Nat) : Int) = ((s.Keys.Slots.length : Nat) : Int)))) = true then (some true)
  else (some (!(decide (((s.Tens.length : Nat) : Int) = ((s.Shares.List.length : Nat) : Int)))))).bind (fun (T18 : Bool) =>
  if T18 = true then (some false)
  else (bindC (loopO (fun (S22 : Int) => if (decide (S22 < ((s.Tens.length : Nat) : Int))) = true then ((idx s.Tens S22).bind fun E27 =>
  ((idx s.Keys.Slots S22).bind fun E35 =>
  if (!(decide (E35.Tenant = E27.Id))) = true then (some true)
  else ((idx s.Shares.List S22).bind fun E38 =>
  if (!(decide (E38.Tenant = E27.Id))) = true then (some true)
  else ((impl_Store_tenOk s E27).bind fun R41 =>
  some (!R41)))).bind (fun (T33 : Bool) =>
  if T33 = true then (some (.done (.done false)))
  else (some (.go (IntKind.i64.wrap (S22 + (1 : Int)))))))
  else (some (.done (.go ()))))
  (0 : Int))
  (fun (T24 : Unit) => bindC (loopO (fun (S45 : Int) => if (decide (S45 < ((s.Rows.length : Nat) : Int))) = true then ((idx s.Rows S45).bind fun E50 =>
  (impl_Store_at s E50.Tenant).bind fun R53 =>
  if (decide (R53 < (0 : Int))) = true then (some (.done (.done false)))
  else (some (.go (IntKind.i64.wrap (S45 + (1 : Int))))))
  else (some (.done (.go ()))))
  (0 : Int))
  (fun (T47 : Unit) => some true))))))

theorem impl_StoreOk_c {s : Store} {U0 U1 U2 U3 U4 : Value} : Cn Tryz.prog 7 [.agg #[strV s.Secret, strV s.Keys.Master, U0, iv s.Keys.Wiped, iv s.Shares.Size, U1, U2, U3, U4, iv s.Boot]] [] [(U0, lc s.Keys.Slots), (U1, lc s.Shares.List), (U2, lc s.Tens), (U3, lc s.Rows), (U4, lc s.Hist)] (impl_StoreOk s) (fun r (_ : Unit) => .bool r) fun _ _ => [] := by
  unfold impl_StoreOk
  refine Ci Tryz.func7 r r ?_
  rintro w S ⟨Z0,Z1,Z2,Z3,Z4,-⟩
  refine Sr<|Fo (Bx r (Ca ⟨Op',Op',Ob Z0,Op',Op',Ob Z1,Ob Z2,Ob Z3,Ob Z4,Op',⟨⟩⟩)) fun B1=>Qs 1 r<|Nx<|Sq<|Sq<|Jv [1] (fun T=>[(34, .bool T)]) r1 (?_) fun T2=>?_
  ·refine Rg<|Yo (Fb kf43_0 r)<|Yo (Lb 0 kk9 r)<|Yo (Y.slen ks9 r)<|Qs 2 r<|It (fun H4=>Of 4 (beq_tf H4) r r<|Yo (Pt H4 r)<|Qs 1 r<|Of 4 r r r<|Yo (Pt r r)<|Qs 1 r<|Of 4 r r r<|Yo (Pt r r)<|Qs 1 r<|Of 4 r r r<|Yo (Pt r r)<|Nl<|Bg () [0]) fun H4=>Yg (gdA (beq_ff H4)) (Fb kf43_1 r)<|Yg (gdA (beq_ff H4)) (Lb 0 kk36 r)<|Bi fun R5 H6=>Fg (gdA (beq_ff H4)) (Cl [] impl_KeyOk_c H6 r r1 ⟨(Bc Z0),⟨⟩⟩) fun _=>Qg 1 (beq_ff H4) r r<|Yo (Pf H4 r)<|Qs 1 r<|It (fun H8=>Of 4 (beq_tf H8) r r<|Yo (Pt H8 r)<|Qs 1 r<|Of 4 r r r<|Yo (Pt r r)<|Qs 1 r<|Of 4 r r r<|Yo (Pt r r)<|Nl<|Bg () [0]) fun H8=>?_
   refine Yg (gdA (beq_ff H8)) (Fb kf43_2 r)<|Yg (gdA (beq_ff H8)) (Lb 0 kk39 r)<|Bi fun R9 H10=>Fg (gdA (beq_ff H8)) (Cl [] impl_SharesOk_c H10 r r1 ⟨(Bc Z1),⟨⟩⟩) fun _=>Qg 1 (beq_ff H8) r r<|Yo (Pf H8 r)<|Qs 1 r<|It (fun H12=>Of 4 (beq_tf H12) r r<|Yo (Pt H12 r)<|Qs 1 r<|Of 4 r r r<|Yo (Pt r r)<|Nl<|Bg () [0]) fun H12=>Yg (gdA (beq_ff H12)) (Fb kf43_6 r)<|Yg (gdA (beq_ff H12)) (Lb 0 kk3 r)<|Bi fun R13 H14=>Fg (gdA (beq_ff H12)) (Cl [] impl_inRange_c H14 r r1) fun _=>Qg 1 (beq_ff H12) r r<|Yo (Pf H12 r)<|Qs 1 r<|It (fun H16=>Of 4 (beq_tf H16) r r<|Yo (Pt H16 r)<|Nl<|Bg () [0]) fun H16=>?_
   exact Yg (gdA (beq_ff H16)) (Fb kf43_5 r)<|Yg (gdA (beq_ff H16)) (Lb 0 kk41 r)<|Yg (gdA (beq_ff H16)) (Ln ke41 (Bc Z4) r)<|Qg 1 (beq_ff H16) r r<|Yo (Pf H16 r)<|Nl<|Bg () [0]
  refine Ne<|Wc r (fun H17=>Sr<|Qs 1 r<|Nx<|Wr<|Tr<|Re () []) fun H17=>Sn<|Sq<|Sq<|Jv [1] (fun T=>[(52, .bool T)]) r1 (?_) fun T18=>?_
  ·exact Rg<|Yo (Fb kf43_3 r)<|Yo (Lb 0 kk40 r)<|Yo (Ln ke40 (Bc Z2) r)<|Yo (Fb kf43_1 r)<|Yo (Fb kf36_1 r)<|Yo (Lb 0 kk34 r)<|Yo (Ln ke34 (Bc Z0) r)<|Qs 2 r<|It (fun H20=>Of 8 (beq_tf H20) r r<|Yo (Pt H20 r)<|Nl<|Bg () [0]) fun H20=>Yg (gdA (beq_ff H20)) (Fb kf43_3 r)<|Yg (gdA (beq_ff H20)) (Lb 0 kk40 r)<|Yg (gdA (beq_ff H20)) (Ln ke40 (Bc Z2) r)<|Yg (gdA (beq_ff H20)) (Fb kf43_2 r)<|Yg (gdA (beq_ff H20)) (Fb kf39_1 r)<|Yg (gdA (beq_ff H20)) (Lb 0 kk37 r)<|Yg (gdA (beq_ff H20)) (Ln ke37 (Bc Z1) r)<|Qg 1 (beq_ff H20) r r<|Yo (Pf H20 r)<|Nl<|Bg () [0]
  refine Ne<|Wc r (fun H21=>Sr<|Qs 1 r<|Nx<|Wr<|Tr<|Re () []) fun H21=>Sn<|Sq<|Sr<|Yo (Fb kf43_3 r)<|Yo (Lb 0 kk40 r)<|Yo (Ln ke40 (Bc Z2) r)<|Qs 1 r<|Nx<|Ju [1] (fun _=>[]) r1 (?_) fun T24=>?_
  ·refine Wb<|Lu [1,54,55] (fun T=>[(56, iv T)]) r1 fun S22=>Sr<|Qs 1 r<|Nx<|Sq<|Wc r (fun H26=>?_) fun H26=>?_
   ·refine Sn<|Sq<|Wb<|Sr<|Qs 1 r<|Bi fun E27 H28=>Yo (Ix ke40 (Bc Z2) H28 r)<|?_
    have Q29 : Base w S (elv w U2 (S22.toNat * 7 + 3)) (lc E27.Eng.Mem):=Base.el Z2 (idx_get H28).2.2 r r
    have Q30 : Base w S (elv w U2 (S22.toNat * 7 + 4)) (lc E27.Eng.Tables):=Base.el Z2 (idx_get H28).2.2 r r
    have Q31 : Base w S (elv w U2 (S22.toNat * 7 + 6)) (lc E27.Eng.Snaps):=Base.el Z2 (idx_get H28).2.2 r r
    refine Yo (Lz kk60 Z2 H28 r)<|Fo (Al kz60 r) fun B32=>Qs 1 r<|Fu (Sb 0 kk60 r (Ca ⟨Op',Op',Op',Ob Q29,Ob Q30,Op',Ob Q31,⟨⟩⟩) r)<|Nx<|Sq<|Jb Unit [1,54,55,56] [1] (fun T _=>[(87, .bool T)]) (fun _ _=>[]) r2 r2 (?_) fun T33 X34=>?_
    ·refine Dr [0,0] r hMix<|Ay 0 [0,0] r (Fb kf43_1 r)<|Ay 1 [0,0] r (Fb kf36_1 r)<|Ay 2 [0,0] r (Lb 1 kk34 r)<|Aq [3] [0,0] r<|Ai fun E35 H36=>Ay 4 [0,0] r (Ix ke34 (Bc Z0) H36 r)<|Ay 5 [0,0] r (Fe kf62_0 (Bc Z0) H36 r)<|Ay 6 [0,0] r (Le kk3 (Bc Z0) H36 r)<|Ay 7 [0,0] r (Fb kf60_0 r)<|Ay 8 [0,0] r (Lb 0 kk3 r)<|Aq [9,10] [0,0] r<|Ia (fun H37=>Ax [11,12,13,14,15,16,17,18,19,20] [0,0] (beq_tf H37) r r<|Ay 21 [0,0] r (Pt H37 r)<|Aq [22] [0,0] r<|Ax [23,24,25] [0,0] r r r<|Ay 26 [0,0] r (Pt r r)<|Az<|Bg () [1]) fun H37=>Ag 11 [0,0] (gdA (beq_ff H37)) r (Fb kf43_2 r)<|Ag 12 [0,0] (gdA (beq_ff H37)) r (Fb kf39_1 r)<|Ag 13 [0,0] (gdA (beq_ff H37)) r (Lb 1 kk37 r)<|Ag 14 [0,0] (gdA (beq_ff H37)) r (Y.move r)<|Ai fun E38 H39=>?_
     refine Ag 15 [0,0] (gdA (beq_ff H37)) r (Ix ke37 (Bc Z1) H39 r)<|Ag 16 [0,0] (gdA (beq_ff H37)) r (Fe kf64_0 (Bc Z1) H39 r)<|Ag 17 [0,0] (gdA (beq_ff H37)) r (Le kk3 (Bc Z1) H39 r)<|Ag 18 [0,0] (gdA (beq_ff H37)) r (Fb kf60_0 r)<|Ag 19 [0,0] (gdA (beq_ff H37)) r (Lb 0 kk3 r)<|Ag 20 [0,0] (gdA (beq_ff H37)) r (Y.neq r r)<|Ay 21 [0,0] r (Pf H37 r)<|Aq [22] [0,0] r<|Ia (fun H40=>Ax [23,24,25] [0,0] (beq_tf H40) r r<|Ay 26 [0,0] r (Pt H40 r)<|Az<|Bg () [1]) fun H40=>Ag 23 [0,0] (gdA (beq_ff H40)) r (Lb 0 kk60 r)<|Ai fun R41 H42=>?_
     exact A1 24<|Xeg [1,0] (gdA (beq_ff H40)) r (Cl [1] impl_Store_tenOk_c H42 r r1 ⟨(Bc Z0),(Bc Z1),(Bc Z2),(Bc Z3),(Bc Z4),(Bc Q29),(Bc Q30),(Bc Q31),⟨⟩⟩) fun _=>Ag 25 [1,0] (gdA (beq_ff H40)) r (Y.not r)<|Ay 26 [1,0] r (Pf H40 r)<|Az<|Bg () [0]
    exact Ne<|Wc r (fun H44=>Sr<|Qs 1 r<|Nx<|Wr<|Br<|Tr<|Er<|Br<|Jd<|Tr<|Re () []) fun H44=>Sk<|Bn<|Ne<|Rg<|Qs 2 r<|Nl<|Lg () [0]
   exact Wx<|Tx<|Ex<|Be<|Jg () [0]
  refine Ne<|Sq<|Sr<|Yo (Fb kf43_4 r)<|Yo (Lb 0 kk41 r)<|Yo (Ln ke41 (Bc Z3) r)<|Qs 1 r<|Nx<|Jn Unit [] [] (fun _ _=>[]) (fun _ _=>[]) r2 r2 (?_) fun T47 X48=>?_
  ·refine Wb<|Lu [1,90,91] (fun T=>[(92, iv T)]) r1 fun S45=>Sr<|Qs 1 r<|Nx<|Sq<|Wc r (fun H49=>?_) fun H49=>?_
   ·exact Sn<|Sq<|Wb<|Sr<|Bi fun E50 H51=>Yo (Ix ke41 (Bc Z3) H51 r)<|Yo (Le kk69 (Bc Z3) H51 r)<|Fo (Al kz69 r) fun B52=>Fu (Sb 0 kk69 r (Cp r) r)<|Nx<|Sr<|Yo (Fb kf69_0 r)<|Yo (Lb 0 kk3 r)<|Bi fun R53 H54=>Fo (Cl [1] impl_Store_at_c H54 r r1 ⟨(Bc Z0),(Bc Z1),(Bc Z2),(Bc Z3),(Bc Z4),⟨⟩⟩) fun _=>Qs 1 r<|Nx<|Wc r (fun H56=>Sr<|Qs 1 r<|Nx<|Wr<|Br<|Tr<|Er<|Br<|Jd<|Tr<|Re () []) fun H56=>Sk<|Bn<|Ne<|Rg<|Qs 2 r<|Nl<|Lg () [0]
   exact Wx<|Tx<|Ex<|Be<|Jg () []
  exact Ne<|Sr<|Qs 1 r<|Nx<|Wr<|Re () []

/-- loop.example/g00950/laws.eqKeySlot -/
noncomputable def laws_eqKeySlot (a : KeySlot) (b : KeySlot) : Option Bool :=
  if (!(decide (a.Tenant = b.Tenant))) = true then (some false)
  else (if (!(decide (a.Key = b.Key))) = true then (some false)
  else (some true))

theorem laws_eqKeySlot_c {a : KeySlot} {b : KeySlot} : Cn Tryz.prog 81 [.agg #[iv a.Tenant, strV a.Key], .agg #[iv b.Tenant, strV b.Key]] [] [] (laws_eqKeySlot a b) (fun r (_ : Unit) => .bool r) fun _ _ => [] := by
  unfold laws_eqKeySlot
  refine Ci Tryz.func81 r r ?_
  rintro w S -
  exact Sr<|Fo (Bx r (Cp r)) fun B1=>Fo (Bx r (Cp r)) fun B2=>Qs 1 r<|Nx<|Sq<|Sr<|Yo (Fb kf62_0 r)<|Yo (Lb 1 kk3 r)<|Yo (Fb kf62_0 r)<|Yo (Lb 0 kk3 r)<|Qs 1 r<|Nx<|Wc r (fun H3=>Sr<|Qs 1 r<|Nx<|Wr<|Tr<|Re () []) fun H3=>Sn<|Sq<|Sr<|Yo (Fb kf62_1 r)<|Yo (Lb 1 kk9 r)<|Yo (Fb kf62_1 r)<|Yo (Lb 0 kk9 r)<|Qs 1 r<|Nx<|Wc r (fun H4=>Sr<|Qs 1 r<|Nx<|Wr<|Tr<|Re () []) fun H4=>Sn<|Sr<|Qs 1 r<|Nx<|Wr<|Re () []

/-- loop.example/g00950/laws.eqKeySlotS -/
noncomputable def laws_eqKeySlotS (a : List KeySlot) (b : List KeySlot) : Option Bool :=
  if (!(decide (((a.length : Nat) : Int) = ((b.length : Nat) : Int)))) = true then (some false)
  else (bindC (loopO (fun (S2 : Int) => if (decide (S2 < ((a.length : Nat) : Int))) = true then ((idx a S2).bind fun E7 =>
  (idx b S2).bind fun E9 =>
  (laws_eqKeySlot E7 E9).bind fun R11 =>
  if (!R11) = true then (some (.done (.done false)))
  else (some (.go (IntKind.i64.wrap (S2 + (1 : Int))))))
  else (some (.done (.go ()))))
  (0 : Int))
  (fun (T4 : Unit) => some true))

theorem laws_eqKeySlotS_c {a : List KeySlot} {b : List KeySlot} {U0 U1 : Value} : Cn Tryz.prog 56 [U0, U1] [] [(U0, lc a), (U1, lc b)] (laws_eqKeySlotS a b) (fun r (_ : Unit) => .bool r) fun _ _ => [] := by
  unfold laws_eqKeySlotS
  refine Ci Tryz.func56 r r ?_
  rintro w S ⟨Z0,Z1,-⟩
  refine Sr<|Qs 1 r<|Nx<|Sq<|Sr<|Qs 1 r<|Yo (Ln ke34 (Bc Z0) r)<|Qs 1 r<|Yo (Ln ke34 (Bc Z1) r)<|Qs 1 r<|Nx<|Wc r (fun H1=>Sr<|Qs 1 r<|Nx<|Wr<|Tr<|Re () []) fun H1=>Sn<|Sq<|Sr<|Qs 1 r<|Nx<|Ju [] (fun _=>[]) r1 (?_) fun T4=>?_
  ·refine Wb<|Lu [0,1] (fun T=>[(5, iv T)]) r1 fun S2=>Sq<|Sr<|Qs 2 r<|Yo (Ln ke34 (Bc Z0) r)<|Qs 1 r<|Nx<|Wc r (fun H6=>?_) fun H6=>?_
   ·exact Sn<|Sq<|Wb<|Sq<|Dr [] r hMix<|Aq [0,1] [] r<|Ai fun E7 H8=>Ay 2 [] r (Ix ke34 (Bc Z0) H8 r)<|Ay 3 [] r (Le kk62 (Bc Z0) H8 r)<|Aq [4,5] [] r<|Ai fun E9 H10=>Ay 6 [] r (Ix ke34 (Bc Z1) H10 r)<|Ay 7 [] r (Le kk62 (Bc Z1) H10 r)<|Ai fun R11 H12=>A1 8<|Xe [] r (Cl [] laws_eqKeySlot_c H12 r r1) fun _=>Aq [9] [] r<|Az<|Ne<|Wc r (fun H14=>Sr<|Qs 1 r<|Nx<|Wr<|Br<|Tr<|Er<|Br<|Jd<|Tr<|Re () []) fun H14=>Sk<|Bn<|Ne<|Rg<|Qs 3 r<|Nl<|Lg () []
   exact Wx<|Tx<|Ex<|Be<|Jg () []
  exact Ne<|Sr<|Qs 1 r<|Nx<|Wr<|Re () []

/-- loop.example/g00950/laws.eqKeyDev -/
noncomputable def laws_eqKeyDev (a : KeyDev) (b : KeyDev) : Option Bool :=
  if (!(decide (a.Master = b.Master))) = true then (some false)
  else ((laws_eqKeySlotS a.Slots b.Slots).bind fun R4 =>
  if (!R4) = true then (some false)
  else (if (!(decide (a.Wiped = b.Wiped))) = true then (some false)
  else (some true)))

theorem laws_eqKeyDev_c {a : KeyDev} {b : KeyDev} {U0 U1 : Value} : Cn Tryz.prog 28 [.agg #[strV a.Master, U0, iv a.Wiped], .agg #[strV b.Master, U1, iv b.Wiped]] [] [(U0, lc a.Slots), (U1, lc b.Slots)] (laws_eqKeyDev a b) (fun r (_ : Unit) => .bool r) fun _ _ => [] := by
  unfold laws_eqKeyDev
  refine Ci Tryz.func28 r r ?_
  rintro w S ⟨Z0,Z1,-⟩
  refine Sr<|Fo (Bx r (Ca ⟨Op',Ob Z0,Op',⟨⟩⟩)) fun B1=>Fo (Bx r (Ca ⟨Op',Ob Z1,Op',⟨⟩⟩)) fun B2=>Qs 1 r<|Nx<|Sq<|Sr<|Yo (Fb kf36_0 r)<|Yo (Lb 1 kk9 r)<|Yo (Fb kf36_0 r)<|Yo (Lb 0 kk9 r)<|Qs 1 r<|Nx<|Wc r (fun H3=>Sr<|Qs 1 r<|Nx<|Wr<|Tr<|Re () []) fun H3=>Sn<|Sq<|Sr<|Yo (Fb kf36_1 r)<|Yo (Lb 1 kk34 r)<|Yo (Fb kf36_1 r)<|Yo (Lb 0 kk34 r)<|Bi fun R4 H5=>Fo (Cl [] laws_eqKeySlotS_c H5 r r1 ⟨(Bc Z0),(Bc Z1),⟨⟩⟩) fun _=>Qs 1 r<|Nx<|Wc r (fun H7=>Sr<|Qs 1 r<|Nx<|Wr<|Tr<|Re () []) fun H7=>Sn<|Sq<|Sr<|Yo (Fb kf36_2 r)<|Yo (Lb 1 kk3 r)<|Yo (Fb kf36_2 r)<|Yo (Lb 0 kk3 r)<|Qs 1 r<|Nx<|Wc r (fun H8=>Sr<|Qs 1 r<|Nx<|Wr<|Tr<|Re () []) fun H8=>?_
  exact Sn<|Sr<|Qs 1 r<|Nx<|Wr<|Re () []

/-- loop.example/g00950/laws.eqShare -/
noncomputable def laws_eqShare (a : Share) (b : Share) : Option Bool :=
  if (!(decide (a.Tenant = b.Tenant))) = true then (some false)
  else (if (!(decide (a.Quota = b.Quota))) = true then (some false)
  else (some true))

theorem laws_eqShare_c {a : Share} {b : Share} : Cn Tryz.prog 82 [.agg #[iv a.Tenant, iv a.Quota], .agg #[iv b.Tenant, iv b.Quota]] [] [] (laws_eqShare a b) (fun r (_ : Unit) => .bool r) fun _ _ => [] := by
  unfold laws_eqShare
  refine Ci Tryz.func82 r r ?_
  rintro w S -
  exact Sr<|Fo (Bx r (Cp r)) fun B1=>Fo (Bx r (Cp r)) fun B2=>Qs 1 r<|Nx<|Sq<|Sr<|Yo (Fb kf64_0 r)<|Yo (Lb 1 kk3 r)<|Yo (Fb kf64_0 r)<|Yo (Lb 0 kk3 r)<|Qs 1 r<|Nx<|Wc r (fun H3=>Sr<|Qs 1 r<|Nx<|Wr<|Tr<|Re () []) fun H3=>Sn<|Sq<|Sr<|Yo (Fb kf64_1 r)<|Yo (Lb 1 kk3 r)<|Yo (Fb kf64_1 r)<|Yo (Lb 0 kk3 r)<|Qs 1 r<|Nx<|Wc r (fun H4=>Sr<|Qs 1 r<|Nx<|Wr<|Tr<|Re () []) fun H4=>Sn<|Sr<|Qs 1 r<|Nx<|Wr<|Re () []

/-- loop.example/g00950/laws.eqShareS -/
noncomputable def laws_eqShareS (a : List Share) (b : List Share) : Option Bool :=
  if (!(decide (((a.length : Nat) : Int) = ((b.length : Nat) : Int)))) = true then (some false)
  else (bindC (loopO (fun (S2 : Int) => if (decide (S2 < ((a.length : Nat) : Int))) = true then ((idx a S2).bind fun E7 =>
  (idx b S2).bind fun E9 =>
  (laws_eqShare E7 E9).bind fun R11 =>
  if (!R11) = true then (some (.done (.done false)))
  else (some (.go (IntKind.i64.wrap (S2 + (1 : Int))))))
  else (some (.done (.go ()))))
  (0 : Int))
  (fun (T4 : Unit) => some true))

theorem laws_eqShareS_c {a : List Share} {b : List Share} {U0 U1 : Value} : Cn Tryz.prog 57 [U0, U1] [] [(U0, lc a), (U1, lc b)] (laws_eqShareS a b) (fun r (_ : Unit) => .bool r) fun _ _ => [] := by
  unfold laws_eqShareS
  refine Ci Tryz.func57 r r ?_
  rintro w S ⟨Z0,Z1,-⟩
  refine Sr<|Qs 1 r<|Nx<|Sq<|Sr<|Qs 1 r<|Yo (Ln ke37 (Bc Z0) r)<|Qs 1 r<|Yo (Ln ke37 (Bc Z1) r)<|Qs 1 r<|Nx<|Wc r (fun H1=>Sr<|Qs 1 r<|Nx<|Wr<|Tr<|Re () []) fun H1=>Sn<|Sq<|Sr<|Qs 1 r<|Nx<|Ju [] (fun _=>[]) r1 (?_) fun T4=>?_
  ·refine Wb<|Lu [0,1] (fun T=>[(5, iv T)]) r1 fun S2=>Sq<|Sr<|Qs 2 r<|Yo (Ln ke37 (Bc Z0) r)<|Qs 1 r<|Nx<|Wc r (fun H6=>?_) fun H6=>?_
   ·exact Sn<|Sq<|Wb<|Sq<|Dr [] r hMix<|Aq [0,1] [] r<|Ai fun E7 H8=>Ay 2 [] r (Ix ke37 (Bc Z0) H8 r)<|Ay 3 [] r (Le kk64 (Bc Z0) H8 r)<|Aq [4,5] [] r<|Ai fun E9 H10=>Ay 6 [] r (Ix ke37 (Bc Z1) H10 r)<|Ay 7 [] r (Le kk64 (Bc Z1) H10 r)<|Ai fun R11 H12=>A1 8<|Xe [] r (Cl [] laws_eqShare_c H12 r r1) fun _=>Aq [9] [] r<|Az<|Ne<|Wc r (fun H14=>Sr<|Qs 1 r<|Nx<|Wr<|Br<|Tr<|Er<|Br<|Jd<|Tr<|Re () []) fun H14=>Sk<|Bn<|Ne<|Rg<|Qs 3 r<|Nl<|Lg () []
   exact Wx<|Tx<|Ex<|Be<|Jg () []
  exact Ne<|Sr<|Qs 1 r<|Nx<|Wr<|Re () []

/-- loop.example/g00950/laws.eqShares -/
noncomputable def laws_eqShares (a : Shares) (b : Shares) : Option Bool :=
  if (!(decide (a.Size = b.Size))) = true then (some false)
  else ((laws_eqShareS a.List b.List).bind fun R4 =>
  if (!R4) = true then (some false)
  else (some true))

theorem laws_eqShares_c {a : Shares} {b : Shares} {U0 U1 : Value} : Cn Tryz.prog 29 [.agg #[iv a.Size, U0], .agg #[iv b.Size, U1]] [] [(U0, lc a.List), (U1, lc b.List)] (laws_eqShares a b) (fun r (_ : Unit) => .bool r) fun _ _ => [] := by
  unfold laws_eqShares
  refine Ci Tryz.func29 r r ?_
  rintro w S ⟨Z0,Z1,-⟩
  exact Sr<|Fo (Bx r (Ca ⟨Op',Ob Z0,⟨⟩⟩)) fun B1=>Fo (Bx r (Ca ⟨Op',Ob Z1,⟨⟩⟩)) fun B2=>Qs 1 r<|Nx<|Sq<|Sr<|Yo (Fb kf39_0 r)<|Yo (Lb 1 kk3 r)<|Yo (Fb kf39_0 r)<|Yo (Lb 0 kk3 r)<|Qs 1 r<|Nx<|Wc r (fun H3=>Sr<|Qs 1 r<|Nx<|Wr<|Tr<|Re () []) fun H3=>Sn<|Sq<|Sr<|Yo (Fb kf39_1 r)<|Yo (Lb 1 kk37 r)<|Yo (Fb kf39_1 r)<|Yo (Lb 0 kk37 r)<|Bi fun R4 H5=>Fo (Cl [] laws_eqShareS_c H5 r r1 ⟨(Bc Z0),(Bc Z1),⟨⟩⟩) fun _=>Qs 1 r<|Nx<|Wc r (fun H7=>Sr<|Qs 1 r<|Nx<|Wr<|Tr<|Re () []) fun H7=>Sn<|Sr<|Qs 1 r<|Nx<|Wr<|Re () []

/-- loop.example/g00950/laws.eqEnt -/
noncomputable def laws_eqEnt (a : Ent) (b : Ent) : Option Bool :=
  if (!(decide (a.Key = b.Key))) = true then (some false)
  else (if (!(decide (a.Seq = b.Seq))) = true then (some false)
  else (if (!(decide (a.Del = b.Del))) = true then (some false)
  else (if (!(decide (a.Val = b.Val))) = true then (some false)
  else (some true))))

theorem laws_eqEnt_c {a : Ent} {b : Ent} : Cn Tryz.prog 134 [.agg #[strV a.Key, iv a.Seq, .bool a.Del, strV a.Val], .agg #[strV b.Key, iv b.Seq, .bool b.Del, strV b.Val]] [] [] (laws_eqEnt a b) (fun r (_ : Unit) => .bool r) fun _ _ => [] := by
  unfold laws_eqEnt
  refine Ci Tryz.func134 r r ?_
  rintro w S -
  refine Sr<|Fo (Bx r (Cp r)) fun B1=>Fo (Bx r (Cp r)) fun B2=>Qs 1 r<|Nx<|Sq<|Sr<|Yo (Fb kf102_0 r)<|Yo (Lb 1 kk9 r)<|Yo (Fb kf102_0 r)<|Yo (Lb 0 kk9 r)<|Qs 1 r<|Nx<|Wc r (fun H3=>Sr<|Qs 1 r<|Nx<|Wr<|Tr<|Re () []) fun H3=>Sn<|Sq<|Sr<|Yo (Fb kf102_1 r)<|Yo (Lb 1 kk3 r)<|Yo (Fb kf102_1 r)<|Yo (Lb 0 kk3 r)<|Qs 1 r<|Nx<|Wc r (fun H4=>Sr<|Qs 1 r<|Nx<|Wr<|Tr<|Re () []) fun H4=>Sn<|Sq<|Sr<|Yo (Fb kf102_2 r)<|Yo (Lb 1 kk4 r)<|Yo (Fb kf102_2 r)<|Yo (Lb 0 kk4 r)<|Yo (Y.neb kb4 r r)<|Nx<|Wc r (fun H5=>Sr<|Qs 1 r<|Nx<|Wr<|Tr<|Re () []) fun H5=>?_
  exact Sn<|Sq<|Sr<|Yo (Fb kf102_3 r)<|Yo (Lb 1 kk9 r)<|Yo (Fb kf102_3 r)<|Yo (Lb 0 kk9 r)<|Qs 1 r<|Nx<|Wc r (fun H6=>Sr<|Qs 1 r<|Nx<|Wr<|Tr<|Re () []) fun H6=>Sn<|Sr<|Qs 1 r<|Nx<|Wr<|Re () []

/-- loop.example/g00950/laws.eqEntS -/
noncomputable def laws_eqEntS (a : List Ent) (b : List Ent) : Option Bool :=
  if (!(decide (((a.length : Nat) : Int) = ((b.length : Nat) : Int)))) = true then (some false)
  else (bindC (loopO (fun (S2 : Int) => if (decide (S2 < ((a.length : Nat) : Int))) = true then ((idx a S2).bind fun E7 =>
  (idx b S2).bind fun E9 =>
  (laws_eqEnt E7 E9).bind fun R11 =>
  if (!R11) = true then (some (.done (.done false)))
  else (some (.go (IntKind.i64.wrap (S2 + (1 : Int))))))
  else (some (.done (.go ()))))
  (0 : Int))
  (fun (T4 : Unit) => some true))

theorem laws_eqEntS_c {a : List Ent} {b : List Ent} {U0 U1 : Value} : Cn Tryz.prog 110 [U0, U1] [] [(U0, lc a), (U1, lc b)] (laws_eqEntS a b) (fun r (_ : Unit) => .bool r) fun _ _ => [] := by
  unfold laws_eqEntS
  refine Ci Tryz.func110 r r ?_
  rintro w S ⟨Z0,Z1,-⟩
  refine Sr<|Qs 1 r<|Nx<|Sq<|Sr<|Qs 1 r<|Yo (Ln ke54 (Bc Z0) r)<|Qs 1 r<|Yo (Ln ke54 (Bc Z1) r)<|Qs 1 r<|Nx<|Wc r (fun H1=>Sr<|Qs 1 r<|Nx<|Wr<|Tr<|Re () []) fun H1=>Sn<|Sq<|Sr<|Qs 1 r<|Nx<|Ju [] (fun _=>[]) r1 (?_) fun T4=>?_
  ·refine Wb<|Lu [0,1] (fun T=>[(5, iv T)]) r1 fun S2=>Sq<|Sr<|Qs 2 r<|Yo (Ln ke54 (Bc Z0) r)<|Qs 1 r<|Nx<|Wc r (fun H6=>?_) fun H6=>?_
   ·exact Sn<|Sq<|Wb<|Sq<|Dr [] r hMix<|Aq [0,1] [] r<|Ai fun E7 H8=>Ay 2 [] r (Ix ke54 (Bc Z0) H8 r)<|Ay 3 [] r (Le kk102 (Bc Z0) H8 r)<|Aq [4,5] [] r<|Ai fun E9 H10=>Ay 6 [] r (Ix ke54 (Bc Z1) H10 r)<|Ay 7 [] r (Le kk102 (Bc Z1) H10 r)<|Ai fun R11 H12=>A1 8<|Xe [] r (Cl [] laws_eqEnt_c H12 r r1) fun _=>Aq [9] [] r<|Az<|Ne<|Wc r (fun H14=>Sr<|Qs 1 r<|Nx<|Wr<|Br<|Tr<|Er<|Br<|Jd<|Tr<|Re () []) fun H14=>Sk<|Bn<|Ne<|Rg<|Qs 3 r<|Nl<|Lg () []
   exact Wx<|Tx<|Ex<|Be<|Jg () []
  exact Ne<|Sr<|Qs 1 r<|Nx<|Wr<|Re () []

/-- loop.example/g00950/laws.eqEntSS -/
noncomputable def laws_eqEntSS (a : List (List Ent)) (b : List (List Ent)) : Option Bool :=
  if (!(decide (((a.length : Nat) : Int) = ((b.length : Nat) : Int)))) = true then (some false)
  else (bindC (loopO (fun (S2 : Int) => if (decide (S2 < ((a.length : Nat) : Int))) = true then ((idx a S2).bind fun E7 =>
  (idx b S2).bind fun E10 =>
  (laws_eqEntS E7 E10).bind fun R13 =>
  if (!R13) = true then (some (.done (.done false)))
  else (some (.go (IntKind.i64.wrap (S2 + (1 : Int))))))
  else (some (.done (.go ()))))
  (0 : Int))
  (fun (T4 : Unit) => some true))

theorem laws_eqEntSS_c {a : List (List Ent)} {b : List (List Ent)} {U0 U1 : Value} : Cn Tryz.prog 111 [U0, U1] [] [(U0, lc a), (U1, lc b)] (laws_eqEntSS a b) (fun r (_ : Unit) => .bool r) fun _ _ => [] := by
  unfold laws_eqEntSS
  refine Ci Tryz.func111 r r ?_
  rintro w S ⟨Z0,Z1,-⟩
  refine Sr<|Qs 1 r<|Nx<|Sq<|Sr<|Qs 1 r<|Yo (Ln ke55 (Bc Z0) r)<|Qs 1 r<|Yo (Ln ke55 (Bc Z1) r)<|Qs 1 r<|Nx<|Wc r (fun H1=>Sr<|Qs 1 r<|Nx<|Wr<|Tr<|Re () []) fun H1=>Sn<|Sq<|Sr<|Qs 1 r<|Nx<|Ju [] (fun _=>[]) r1 (?_) fun T4=>?_
  ·refine Wb<|Lu [0,1] (fun T=>[(5, iv T)]) r1 fun S2=>Sq<|Sr<|Qs 2 r<|Yo (Ln ke55 (Bc Z0) r)<|Qs 1 r<|Nx<|Wc r (fun H6=>?_) fun H6=>?_
   ·refine Sn<|Sq<|Wb<|Sq<|Dr [] r hMix<|Aq [0,1] [] r<|Ai fun E7 H8=>Ay 2 [] r (Ix ke55 (Bc Z0) H8 r)<|?_
    have Q9 : Base w S (elv w U0 (S2.toNat * 1 + 0)) (lc E7):=Base.el Z0 (idx_get H8).2.2 r r
    refine Ay 3 [] r (Lz kk54 Z0 H8 r)<|Aq [4,5] [] r<|Ai fun E10 H11=>Ay 6 [] r (Ix ke55 (Bc Z1) H11 r)<|?_
    have Q12 : Base w S (elv w U1 (S2.toNat * 1 + 0)) (lc E10):=Base.el Z1 (idx_get H11).2.2 r r
    exact Ay 7 [] r (Lz kk54 Z1 H11 r)<|Ai fun R13 H14=>A1 8<|Xe [] r (Cl [] laws_eqEntS_c H14 r r1 ⟨(Bc Q9),(Bc Q12),⟨⟩⟩) fun _=>Aq [9] [] r<|Az<|Ne<|Wc r (fun H16=>Sr<|Qs 1 r<|Nx<|Wr<|Br<|Tr<|Er<|Br<|Jd<|Tr<|Re () []) fun H16=>Sk<|Bn<|Ne<|Rg<|Qs 3 r<|Nl<|Lg () []
   exact Wx<|Tx<|Ex<|Be<|Jg () []
  exact Ne<|Sr<|Qs 1 r<|Nx<|Wr<|Re () []

/-- loop.example/g00950/laws.eqIntS -/
noncomputable def laws_eqIntS (a : List Int) (b : List Int) : Option Bool :=
  if (!(decide (((a.length : Nat) : Int) = ((b.length : Nat) : Int)))) = true then (some false)
  else (bindC (loopO (fun (S2 : Int) => if (decide (S2 < ((a.length : Nat) : Int))) = true then ((idx a S2).bind fun E7 =>
  (idx b S2).bind fun E9 =>
  if (!(decide (E7 = E9))) = true then (some (.done (.done false)))
  else (some (.go (IntKind.i64.wrap (S2 + (1 : Int))))))
  else (some (.done (.go ()))))
  (0 : Int))
  (fun (T4 : Unit) => some true))

theorem laws_eqIntS_c {a : List Int} {b : List Int} {U0 U1 : Value} : Cn Tryz.prog 112 [U0, U1] [] [(U0, lc a), (U1, lc b)] (laws_eqIntS a b) (fun r (_ : Unit) => .bool r) fun _ _ => [] := by
  unfold laws_eqIntS
  refine Ci Tryz.func112 r r ?_
  rintro w S ⟨Z0,Z1,-⟩
  refine Sr<|Qs 1 r<|Nx<|Sq<|Sr<|Qs 1 r<|Yo (Ln ke56 (Bc Z0) r)<|Qs 1 r<|Yo (Ln ke56 (Bc Z1) r)<|Qs 1 r<|Nx<|Wc r (fun H1=>Sr<|Qs 1 r<|Nx<|Wr<|Tr<|Re () []) fun H1=>Sn<|Sq<|Sr<|Qs 1 r<|Nx<|Ju [] (fun _=>[]) r1 (?_) fun T4=>?_
  ·refine Wb<|Lu [0,1] (fun T=>[(5, iv T)]) r1 fun S2=>Sq<|Sr<|Qs 2 r<|Yo (Ln ke56 (Bc Z0) r)<|Qs 1 r<|Nx<|Wc r (fun H6=>?_) fun H6=>?_
   ·exact Sn<|Sq<|Wb<|Sq<|Dr [] r hMix<|Aq [0,1] [] r<|Ai fun E7 H8=>Ay 2 [] r (Ix ke56 (Bc Z0) H8 r)<|Ay 3 [] r (Le kk3 (Bc Z0) H8 r)<|Aq [4,5] [] r<|Ai fun E9 H10=>Ay 6 [] r (Ix ke56 (Bc Z1) H10 r)<|Ay 7 [] r (Le kk3 (Bc Z1) H10 r)<|Aq [8] [] r<|Az<|Ne<|Wc r (fun H11=>Sr<|Qs 1 r<|Nx<|Wr<|Br<|Tr<|Er<|Br<|Jd<|Tr<|Re () []) fun H11=>Sk<|Bn<|Ne<|Rg<|Qs 3 r<|Nl<|Lg () []
   exact Wx<|Tx<|Ex<|Be<|Jg () []
  exact Ne<|Sr<|Qs 1 r<|Nx<|Wr<|Re () []

/-- loop.example/g00950/laws.eqEng -/
noncomputable def laws_eqEng (a : Eng) (b : Eng) : Option Bool :=
  (laws_eqEntS a.Mem b.Mem).bind fun R3 =>
  if (!R3) = true then (some false)
  else ((laws_eqEntSS a.Tables b.Tables).bind fun R7 =>
  if (!R7) = true then (some false)
  else (if (!(decide (a.Seq = b.Seq))) = true then (some false)
  else ((laws_eqIntS a.Snaps b.Snaps).bind fun R12 =>
  if (!R12) = true then (some false)
  else (some true))))

theorem laws_eqEng_c {a : Eng} {b : Eng} {U0 U1 U2 U3 U4 U5 : Value} : Cn Tryz.prog 83 [.agg #[U0, U1, iv a.Seq, U2], .agg #[U3, U4, iv b.Seq, U5]] [] [(U0, lc a.Mem), (U1, lc a.Tables), (U2, lc a.Snaps), (U3, lc b.Mem), (U4, lc b.Tables), (U5, lc b.Snaps)] (laws_eqEng a b) (fun r (_ : Unit) => .bool r) fun _ _ => [] := by
  unfold laws_eqEng
  refine Ci Tryz.func83 r r ?_
  rintro w S ⟨Z0,Z1,Z2,Z3,Z4,Z5,-⟩
  refine Sr<|Fo (Bx r (Ca ⟨Ob Z0,Ob Z1,Op',Ob Z2,⟨⟩⟩)) fun B1=>Fo (Bx r (Ca ⟨Ob Z3,Ob Z4,Op',Ob Z5,⟨⟩⟩)) fun B2=>Qs 1 r<|Nx<|Sq<|Sr<|Yo (Fb kf58_0 r)<|Yo (Lb 1 kk54 r)<|Yo (Fb kf58_0 r)<|Yo (Lb 0 kk54 r)<|Bi fun R3 H4=>Fo (Cl [] laws_eqEntS_c H4 r r1 ⟨(Bc Z0),(Bc Z3),⟨⟩⟩) fun _=>Qs 1 r<|Nx<|Wc r (fun H6=>Sr<|Qs 1 r<|Nx<|Wr<|Tr<|Re () []) fun H6=>Sn<|Sq<|Sr<|Yo (Fb kf58_1 r)<|Yo (Lb 1 kk55 r)<|Yo (Fb kf58_1 r)<|Yo (Lb 0 kk55 r)<|Bi fun R7 H8=>Fo (Cl [] laws_eqEntSS_c H8 r r1 ⟨(Bc Z1),(Bc Z4),⟨⟩⟩) fun _=>?_
  exact Qs 1 r<|Nx<|Wc r (fun H10=>Sr<|Qs 1 r<|Nx<|Wr<|Tr<|Re () []) fun H10=>Sn<|Sq<|Sr<|Yo (Fb kf58_2 r)<|Yo (Lb 1 kk3 r)<|Yo (Fb kf58_2 r)<|Yo (Lb 0 kk3 r)<|Qs 1 r<|Nx<|Wc r (fun H11=>Sr<|Qs 1 r<|Nx<|Wr<|Tr<|Re () []) fun H11=>Sn<|Sq<|Sr<|Yo (Fb kf58_3 r)<|Yo (Lb 1 kk56 r)<|Yo (Fb kf58_3 r)<|Yo (Lb 0 kk56 r)<|Bi fun R12 H13=>Fo (Cl [] laws_eqIntS_c H13 r r1 ⟨(Bc Z2),(Bc Z5),⟨⟩⟩) fun _=>Qs 1 r<|Nx<|Wc r (fun H15=>Sr<|Qs 1 r<|Nx<|Wr<|Tr<|Re () []) fun H15=>Sn<|Sr<|Qs 1 r<|Nx<|Wr<|Re () []

/-- loop.example/g00950/laws.eqSTen -/
noncomputable def laws_eqSTen (a : STen) (b : STen) : Option Bool :=
  if (!(decide (a.Id = b.Id))) = true then (some false)
  else (if (!(decide (a.Epoch = b.Epoch))) = true then (some false)
  else (if (!(decide (a.Base = b.Base))) = true then (some false)
  else ((laws_eqEng a.Eng b.Eng).bind fun R6 =>
  if (!R6) = true then (some false)
  else (some true))))

theorem laws_eqSTen_c {a : STen} {b : STen} {U0 U1 U2 U3 U4 U5 : Value} : Cn Tryz.prog 58 [.agg #[iv a.Id, iv a.Epoch, iv a.Base, U0, U1, iv a.Eng.Seq, U2], .agg #[iv b.Id, iv b.Epoch, iv b.Base, U3, U4, iv b.Eng.Seq, U5]] [] [(U0, lc a.Eng.Mem), (U1, lc a.Eng.Tables), (U2, lc a.Eng.Snaps), (U3, lc b.Eng.Mem), (U4, lc b.Eng.Tables), (U5, lc b.Eng.Snaps)] (laws_eqSTen a b) (fun r (_ : Unit) => .bool r) fun _ _ => [] := by
  unfold laws_eqSTen
  refine Ci Tryz.func58 r r ?_
  rintro w S ⟨Z0,Z1,Z2,Z3,Z4,Z5,-⟩
  refine Sr<|Fo (Bx r (Ca ⟨Op',Op',Op',Ob Z0,Ob Z1,Op',Ob Z2,⟨⟩⟩)) fun B1=>Fo (Bx r (Ca ⟨Op',Op',Op',Ob Z3,Ob Z4,Op',Ob Z5,⟨⟩⟩)) fun B2=>Qs 1 r<|Nx<|Sq<|Sr<|Yo (Fb kf60_0 r)<|Yo (Lb 1 kk3 r)<|Yo (Fb kf60_0 r)<|Yo (Lb 0 kk3 r)<|Qs 1 r<|Nx<|Wc r (fun H3=>Sr<|Qs 1 r<|Nx<|Wr<|Tr<|Re () []) fun H3=>Sn<|Sq<|Sr<|Yo (Fb kf60_1 r)<|Yo (Lb 1 kk3 r)<|Yo (Fb kf60_1 r)<|Yo (Lb 0 kk3 r)<|Qs 1 r<|Nx<|Wc r (fun H4=>Sr<|Qs 1 r<|Nx<|Wr<|Tr<|Re () []) fun H4=>Sn<|Sq<|Sr<|Yo (Fb kf60_2 r)<|Yo (Lb 1 kk3 r)<|Yo (Fb kf60_2 r)<|Yo (Lb 0 kk3 r)<|Qs 1 r<|Nx<|Wc r (fun H5=>Sr<|Qs 1 r<|Nx<|Wr<|Tr<|Re () []) fun H5=>?_
  exact Sn<|Sq<|Sr<|Yo (Fb kf60_3 r)<|Yo (Lb 1 kk58 r)<|Yo (Fb kf60_3 r)<|Yo (Lb 0 kk58 r)<|Bi fun R6 H7=>Fo (Cl [] laws_eqEng_c H7 r r1 ⟨(Bc Z0),(Bc Z1),(Bc Z2),(Bc Z3),(Bc Z4),(Bc Z5),⟨⟩⟩) fun _=>Qs 1 r<|Nx<|Wc r (fun H9=>Sr<|Qs 1 r<|Nx<|Wr<|Tr<|Re () []) fun H9=>Sn<|Sr<|Qs 1 r<|Nx<|Wr<|Re () []

/-- loop.example/g00950/laws.eqSTenS -/
noncomputable def laws_eqSTenS (a : List STen) (b : List STen) : Option Bool :=
  if (!(decide (((a.length : Nat) : Int) = ((b.length : Nat) : Int)))) = true then (some false)
  else (bindC (loopO (fun (S2 : Int) => if (decide (S2 < ((a.length : Nat) : Int))) = true then ((idx a S2).bind fun E7 =>
  (idx b S2).bind fun E12 =>
  (laws_eqSTen E7 E12).bind fun R17 =>
  if (!R17) = true then (some (.done (.done false)))
  else (some (.go (IntKind.i64.wrap (S2 + (1 : Int))))))
  else (some (.done (.go ()))))
  (0 : Int))
  (fun (T4 : Unit) => some true))

theorem laws_eqSTenS_c {a : List STen} {b : List STen} {U0 U1 : Value} : Cn Tryz.prog 30 [U0, U1] [] [(U0, lc a), (U1, lc b)] (laws_eqSTenS a b) (fun r (_ : Unit) => .bool r) fun _ _ => [] := by
  unfold laws_eqSTenS
  refine Ci Tryz.func30 r r ?_
  rintro w S ⟨Z0,Z1,-⟩
  refine Sr<|Qs 1 r<|Nx<|Sq<|Sr<|Qs 1 r<|Yo (Ln ke40 (Bc Z0) r)<|Qs 1 r<|Yo (Ln ke40 (Bc Z1) r)<|Qs 1 r<|Nx<|Wc r (fun H1=>Sr<|Qs 1 r<|Nx<|Wr<|Tr<|Re () []) fun H1=>Sn<|Sq<|Sr<|Qs 1 r<|Nx<|Ju [] (fun _=>[]) r1 (?_) fun T4=>?_
  ·refine Wb<|Lu [0,1] (fun T=>[(5, iv T)]) r1 fun S2=>Sq<|Sr<|Qs 2 r<|Yo (Ln ke40 (Bc Z0) r)<|Qs 1 r<|Nx<|Wc r (fun H6=>?_) fun H6=>?_
   ·refine Sn<|Sq<|Wb<|Sq<|Dr [] r hMix<|Aq [0,1] [] r<|Ai fun E7 H8=>Ay 2 [] r (Ix ke40 (Bc Z0) H8 r)<|?_
    have Q9 : Base w S (elv w U0 (S2.toNat * 7 + 3)) (lc E7.Eng.Mem):=Base.el Z0 (idx_get H8).2.2 r r
    have Q10 : Base w S (elv w U0 (S2.toNat * 7 + 4)) (lc E7.Eng.Tables):=Base.el Z0 (idx_get H8).2.2 r r
    have Q11 : Base w S (elv w U0 (S2.toNat * 7 + 6)) (lc E7.Eng.Snaps):=Base.el Z0 (idx_get H8).2.2 r r
    refine Ay 3 [] r (Lz kk60 Z0 H8 r)<|Aq [4,5] [] r<|Ai fun E12 H13=>Ay 6 [] r (Ix ke40 (Bc Z1) H13 r)<|?_
    have Q14 : Base w S (elv w U1 (S2.toNat * 7 + 3)) (lc E12.Eng.Mem):=Base.el Z1 (idx_get H13).2.2 r r
    have Q15 : Base w S (elv w U1 (S2.toNat * 7 + 4)) (lc E12.Eng.Tables):=Base.el Z1 (idx_get H13).2.2 r r
    have Q16 : Base w S (elv w U1 (S2.toNat * 7 + 6)) (lc E12.Eng.Snaps):=Base.el Z1 (idx_get H13).2.2 r r
    exact Ay 7 [] r (Lz kk60 Z1 H13 r)<|Ai fun R17 H18=>A1 8<|Xe [] r (Cl [] laws_eqSTen_c H18 r r1 ⟨(Bc Q9),(Bc Q10),(Bc Q11),(Bc Q14),(Bc Q15),(Bc Q16),⟨⟩⟩) fun _=>Aq [9] [] r<|Az<|Ne<|Wc r (fun H20=>Sr<|Qs 1 r<|Nx<|Wr<|Br<|Tr<|Er<|Br<|Jd<|Tr<|Re () []) fun H20=>Sk<|Bn<|Ne<|Rg<|Qs 3 r<|Nl<|Lg () []
   exact Wx<|Tx<|Ex<|Be<|Jg () []
  exact Ne<|Sr<|Qs 1 r<|Nx<|Wr<|Re () []

/-- loop.example/g00950/laws.eqLogRow -/
noncomputable def laws_eqLogRow (a : LogRow) (b : LogRow) : Option Bool :=
  if (!(decide (a.Tenant = b.Tenant))) = true then (some false)
  else (if (!(decide (a.Boot = b.Boot))) = true then (some false)
  else (if (!(decide (a.Seq = b.Seq))) = true then (some false)
  else (if (!(decide (a.Text = b.Text))) = true then (some false)
  else (if (!(decide (a.Synced = b.Synced))) = true then (some false)
  else (some true)))))

theorem laws_eqLogRow_c {a : LogRow} {b : LogRow} : Cn Tryz.prog 59 [.agg #[iv a.Tenant, iv a.Boot, iv a.Seq, strV a.Text, .bool a.Synced], .agg #[iv b.Tenant, iv b.Boot, iv b.Seq, strV b.Text, .bool b.Synced]] [] [] (laws_eqLogRow a b) (fun r (_ : Unit) => .bool r) fun _ _ => [] := by
  unfold laws_eqLogRow
  refine Ci Tryz.func59 r r ?_
  rintro w S -
  refine Sr<|Fo (Bx r (Cp r)) fun B1=>Fo (Bx r (Cp r)) fun B2=>Qs 1 r<|Nx<|Sq<|Sr<|Yo (Fb kf69_0 r)<|Yo (Lb 1 kk3 r)<|Yo (Fb kf69_0 r)<|Yo (Lb 0 kk3 r)<|Qs 1 r<|Nx<|Wc r (fun H3=>Sr<|Qs 1 r<|Nx<|Wr<|Tr<|Re () []) fun H3=>Sn<|Sq<|Sr<|Yo (Fb kf69_1 r)<|Yo (Lb 1 kk3 r)<|Yo (Fb kf69_1 r)<|Yo (Lb 0 kk3 r)<|Qs 1 r<|Nx<|Wc r (fun H4=>Sr<|Qs 1 r<|Nx<|Wr<|Tr<|Re () []) fun H4=>Sn<|Sq<|Sr<|Yo (Fb kf69_2 r)<|Yo (Lb 1 kk3 r)<|Yo (Fb kf69_2 r)<|Yo (Lb 0 kk3 r)<|Qs 1 r<|Nx<|Wc r (fun H5=>Sr<|Qs 1 r<|Nx<|Wr<|Tr<|Re () []) fun H5=>Sn<|Sq<|Sr<|Yo (Fb kf69_3 r)<|Yo (Lb 1 kk9 r)<|Yo (Fb kf69_3 r)<|Yo (Lb 0 kk9 r)<|Qs 1 r<|Nx<|Wc r (fun H6=>Sr<|Qs 1 r<|Nx<|Wr<|Tr<|Re () []) fun H6=>?_
  exact Sn<|Sq<|Sr<|Yo (Fb kf69_4 r)<|Yo (Lb 1 kk4 r)<|Yo (Fb kf69_4 r)<|Yo (Lb 0 kk4 r)<|Yo (Y.neb kb4 r r)<|Nx<|Wc r (fun H7=>Sr<|Qs 1 r<|Nx<|Wr<|Tr<|Re () []) fun H7=>Sn<|Sr<|Qs 1 r<|Nx<|Wr<|Re () []

/-- loop.example/g00950/laws.eqLogRowS -/
noncomputable def laws_eqLogRowS (a : List LogRow) (b : List LogRow) : Option Bool :=
  if (!(decide (((a.length : Nat) : Int) = ((b.length : Nat) : Int)))) = true then (some false)
  else (bindC (loopO (fun (S2 : Int) => if (decide (S2 < ((a.length : Nat) : Int))) = true then ((idx a S2).bind fun E7 =>
  (idx b S2).bind fun E9 =>
  (laws_eqLogRow E7 E9).bind fun R11 =>
  if (!R11) = true then (some (.done (.done false)))
  else (some (.go (IntKind.i64.wrap (S2 + (1 : Int))))))
  else (some (.done (.go ()))))
  (0 : Int))
  (fun (T4 : Unit) => some true))

theorem laws_eqLogRowS_c {a : List LogRow} {b : List LogRow} {U0 U1 : Value} : Cn Tryz.prog 31 [U0, U1] [] [(U0, lc a), (U1, lc b)] (laws_eqLogRowS a b) (fun r (_ : Unit) => .bool r) fun _ _ => [] := by
  unfold laws_eqLogRowS
  refine Ci Tryz.func31 r r ?_
  rintro w S ⟨Z0,Z1,-⟩
  refine Sr<|Qs 1 r<|Nx<|Sq<|Sr<|Qs 1 r<|Yo (Ln ke41 (Bc Z0) r)<|Qs 1 r<|Yo (Ln ke41 (Bc Z1) r)<|Qs 1 r<|Nx<|Wc r (fun H1=>Sr<|Qs 1 r<|Nx<|Wr<|Tr<|Re () []) fun H1=>Sn<|Sq<|Sr<|Qs 1 r<|Nx<|Ju [] (fun _=>[]) r1 (?_) fun T4=>?_
  ·refine Wb<|Lu [0,1] (fun T=>[(5, iv T)]) r1 fun S2=>Sq<|Sr<|Qs 2 r<|Yo (Ln ke41 (Bc Z0) r)<|Qs 1 r<|Nx<|Wc r (fun H6=>?_) fun H6=>?_
   ·exact Sn<|Sq<|Wb<|Sq<|Dr [] r hMix<|Aq [0,1] [] r<|Ai fun E7 H8=>Ay 2 [] r (Ix ke41 (Bc Z0) H8 r)<|Ay 3 [] r (Le kk69 (Bc Z0) H8 r)<|Aq [4,5] [] r<|Ai fun E9 H10=>Ay 6 [] r (Ix ke41 (Bc Z1) H10 r)<|Ay 7 [] r (Le kk69 (Bc Z1) H10 r)<|Ai fun R11 H12=>A1 8<|Xe [] r (Cl [] laws_eqLogRow_c H12 r r1) fun _=>Aq [9] [] r<|Az<|Ne<|Wc r (fun H14=>Sr<|Qs 1 r<|Nx<|Wr<|Br<|Tr<|Er<|Br<|Jd<|Tr<|Re () []) fun H14=>Sk<|Bn<|Ne<|Rg<|Qs 3 r<|Nl<|Lg () []
   exact Wx<|Tx<|Ex<|Be<|Jg () []
  exact Ne<|Sr<|Qs 1 r<|Nx<|Wr<|Re () []

/-- loop.example/g00950/laws.eqStore -/
noncomputable def laws_eqStore (a : Store) (b : Store) : Option Bool :=
  if (!(decide (a.Secret = b.Secret))) = true then (some false)
  else ((laws_eqKeyDev a.Keys b.Keys).bind fun R4 =>
  if (!R4) = true then (some false)
  else ((laws_eqShares a.Shares b.Shares).bind fun R8 =>
  if (!R8) = true then (some false)
  else ((laws_eqSTenS a.Tens b.Tens).bind fun R12 =>
  if (!R12) = true then (some false)
  else ((laws_eqLogRowS a.Rows b.Rows).bind fun R16 =>
  if (!R16) = true then (some false)
  else ((laws_eqLogRowS a.Hist b.Hist).bind fun R20 =>
  if (!R20) = true then (some false)
  else (if (!(decide (a.Boot = b.Boot))) = true then (some false)
  else (some true)))))))

theorem laws_eqStore_c {a : Store} {b : Store} {U0 U1 U2 U3 U4 U5 U6 U7 U8 U9 : Value} : Cn Tryz.prog 8 [.agg #[strV a.Secret, strV a.Keys.Master, U0, iv a.Keys.Wiped, iv a.Shares.Size, U1, U2, U3, U4, iv a.Boot], .agg #[strV b.Secret, strV b.Keys.Master, U5, iv b.Keys.Wiped, iv b.Shares.Size, U6, U7, U8, U9, iv b.Boot]] [] [(U0, lc a.Keys.Slots), (U1, lc a.Shares.List), (U2, lc a.Tens), (U3, lc a.Rows), (U4, lc a.Hist), (U5, lc b.Keys.Slots), (U6, lc b.Shares.List), (U7, lc b.Tens), (U8, lc b.Rows), (U9, lc b.Hist)] (laws_eqStore a b) (fun r (_ : Unit) => .bool r) fun _ _ => [] := by
  unfold laws_eqStore
  refine Ci Tryz.func8 r r ?_
  rintro w S ⟨Z0,Z1,Z2,Z3,Z4,Z5,Z6,Z7,Z8,Z9,-⟩
  refine Sr<|Fo (Bx r (Ca ⟨Op',Op',Ob Z0,Op',Op',Ob Z1,Ob Z2,Ob Z3,Ob Z4,Op',⟨⟩⟩)) fun B1=>Fo (Bx r (Ca ⟨Op',Op',Ob Z5,Op',Op',Ob Z6,Ob Z7,Ob Z8,Ob Z9,Op',⟨⟩⟩)) fun B2=>Qs 1 r<|Nx<|Sq<|Sr<|Yo (Fb kf43_0 r)<|Yo (Lb 1 kk9 r)<|Yo (Fb kf43_0 r)<|Yo (Lb 0 kk9 r)<|Qs 1 r<|Nx<|Wc r (fun H3=>Sr<|Qs 1 r<|Nx<|Wr<|Tr<|Re () []) fun H3=>Sn<|Sq<|Sr<|Yo (Fb kf43_1 r)<|Yo (Lb 1 kk36 r)<|Yo (Fb kf43_1 r)<|Yo (Lb 0 kk36 r)<|Bi fun R4 H5=>Fo (Cl [] laws_eqKeyDev_c H5 r r1 ⟨(Bc Z0),(Bc Z5),⟨⟩⟩) fun _=>?_
  refine Qs 1 r<|Nx<|Wc r (fun H7=>Sr<|Qs 1 r<|Nx<|Wr<|Tr<|Re () []) fun H7=>Sn<|Sq<|Sr<|Yo (Fb kf43_2 r)<|Yo (Lb 1 kk39 r)<|Yo (Fb kf43_2 r)<|Yo (Lb 0 kk39 r)<|Bi fun R8 H9=>Fo (Cl [] laws_eqShares_c H9 r r1 ⟨(Bc Z1),(Bc Z6),⟨⟩⟩) fun _=>Qs 1 r<|Nx<|Wc r (fun H11=>Sr<|Qs 1 r<|Nx<|Wr<|Tr<|Re () []) fun H11=>Sn<|Sq<|Sr<|Yo (Fb kf43_3 r)<|Yo (Lb 1 kk40 r)<|Yo (Fb kf43_3 r)<|Yo (Lb 0 kk40 r)<|Bi fun R12 H13=>Fo (Cl [] laws_eqSTenS_c H13 r r1 ⟨(Bc Z2),(Bc Z7),⟨⟩⟩) fun _=>Qs 1 r<|Nx<|Wc r (fun H15=>Sr<|Qs 1 r<|Nx<|Wr<|Tr<|Re () []) fun H15=>?_
  refine Sn<|Sq<|Sr<|Yo (Fb kf43_4 r)<|Yo (Lb 1 kk41 r)<|Yo (Fb kf43_4 r)<|Yo (Lb 0 kk41 r)<|Bi fun R16 H17=>Fo (Cl [] laws_eqLogRowS_c H17 r r1 ⟨(Bc Z3),(Bc Z8),⟨⟩⟩) fun _=>Qs 1 r<|Nx<|Wc r (fun H19=>Sr<|Qs 1 r<|Nx<|Wr<|Tr<|Re () []) fun H19=>Sn<|Sq<|Sr<|Yo (Fb kf43_5 r)<|Yo (Lb 1 kk41 r)<|Yo (Fb kf43_5 r)<|Yo (Lb 0 kk41 r)<|Bi fun R20 H21=>Fo (Cl [] laws_eqLogRowS_c H21 r r1 ⟨(Bc Z4),(Bc Z9),⟨⟩⟩) fun _=>Qs 1 r<|Nx<|Wc r (fun H23=>Sr<|Qs 1 r<|Nx<|Wr<|Tr<|Re () []) fun H23=>Sn<|Sq<|Sr<|Yo (Fb kf43_6 r)<|Yo (Lb 1 kk3 r)<|Yo (Fb kf43_6 r)<|Yo (Lb 0 kk3 r)<|Qs 1 r<|Nx<|Wc r (fun H24=>Sr<|Qs 1 r<|Nx<|Wr<|Tr<|Re () []) fun H24=>?_
  exact Sn<|Sr<|Qs 1 r<|Nx<|Wr<|Re () []

/-- loop.example/g00950/laws.FnExactStoreOk -/
noncomputable def laws_FnExactStoreOk (aS : Store) : Option Bool :=
  (laws_szStore aS (1048576 : Int)).bind fun R2 =>
  if (decide (R2 < (0 : Int))) = true then (some true)
  else ((laws_toStore aS).bind fun R6 =>
  (spec_StoreOk R6).bind fun R9 =>
  (impl_StoreOk R6).bind fun R14 =>
  if (!(decide (R14 = R9))) = true then (some false)
  else ((laws_eqStore R6 R6).bind fun R19 =>
  if (!R19) = true then (some false)
  else (some true)))

theorem laws_FnExactStoreOk_c {aS : Store} {U0 U1 U2 U3 U4 : Value} : Cn Tryz.prog 3 [.agg #[strV aS.Secret, strV aS.Keys.Master, U0, iv aS.Keys.Wiped, iv aS.Shares.Size, U1, U2, U3, U4, iv aS.Boot]] [] [(U0, lc aS.Keys.Slots), (U1, lc aS.Shares.List), (U2, lc aS.Tens), (U3, lc aS.Rows), (U4, lc aS.Hist)] (laws_FnExactStoreOk aS) (fun r (_ : Unit) => .bool r) fun _ _ => [] := by
  unfold laws_FnExactStoreOk
  refine Ci Tryz.func3 r r ?_
  rintro w S ⟨Z0,Z1,Z2,Z3,Z4,-⟩
  refine Sr<|Fo (Bx r (Ca ⟨Op',Op',Ob Z0,Op',Op',Ob Z1,Ob Z2,Ob Z3,Ob Z4,Op',⟨⟩⟩)) fun B1=>Qs 1 r<|Nx<|Sr<|Qs 1 r<|Nx<|Sr<|Yo (Lb 0 kk31 r)<|Qs 1 r<|Bi fun R2 H3=>Fo (Cl [] laws_szStore_c H3 r r1 ⟨(Bc Z0),(Bc Z1),(Bc Z2),(Bc Z3),(Bc Z4),⟨⟩⟩) fun _=>Qs 1 r<|Nx<|Sq<|Sr<|Qs 2 r<|Nx<|Wc r (fun H5=>Sr<|Qs 1 r<|Nx<|Wr<|Tr<|Re () []) fun H5=>Sn<|Sr<|Yo (Lb 0 kk31 r)<|Bi fun R6 H7=>Fo (Cl [] laws_toStore_c H7 r r1 ⟨(Bc Z0),(Bc Z1),(Bc Z2),(Bc Z3),(Bc Z4),⟨⟩⟩) fun Y8=>?_
  refine Bi fun R9 H10=>Fo (Cl [] spec_StoreOk_c H10 r r1 ⟨(Oc 0 r),(Oc 1 r),(Oc 2 r),(Oc 3 r),(Oc 4 r),⟨⟩⟩) fun _=>Qs 1 r<|Nx<|Sr<|Yo (Lb 5 kk31 r)<|Fo (Cl [] laws_toStore_c H7 r r1 ⟨(Bc Z0),(Bc Z1),(Bc Z2),(Bc Z3),(Bc Z4),⟨⟩⟩) fun Y12=>Fo (Al kz43 r) fun B13=>Fu (Sb 0 kk43 r (Ca ⟨Op',Op',Ow' 1,Op',Op',Ow' 2,Ow' 3,Ow' 4,Ow' 5,Op',⟨⟩⟩) r)<|Nx<|Sr<|Yo (Lb 0 kk43 r)<|Bi fun R14 H15=>Fo (Cl [] impl_StoreOk_c H15 r r1 ⟨(Oc 1 r),(Oc 2 r),(Oc 3 r),(Oc 4 r),(Oc 5 r),⟨⟩⟩) fun _=>Qs 1 r<|Nx<|Sq<|Sr<|Qs 2 r<|Yo (Y.neb kb4 r r)<|Nx<|Wc r (fun H17=>Sr<|Qs 1 r<|Nx<|Wr<|Tr<|Re () []) fun H17=>?_
  refine Sn<|Sq<|Sq<|Dr [0,0,0,0,0,0,0,0,0,0,0,0] r hMix<|Ay 0 [0,0,0,0,0,0,0,0,0,0,0,0] r (Lb 0 kk43 r)<|Ay 1 [0,0,0,0,0,0,0,0,0,0,0,0] r (Lb 11 kk31 r)<|A1 2<|Xe [5,5,5,5,5,5,5,5,5,5,5,5] r (Cl [] laws_toStore_c H7 r r1 ⟨(Bc Z0),(Bc Z1),(Bc Z2),(Bc Z3),(Bc Z4),⟨⟩⟩) fun Y18=>Ai fun R19 H20=>A1 3<|Xe [5,5,5,5,5,5,5,5,5,5,5,5] r (Cl [] laws_eqStore_c H20 r r1 ⟨(Oc 6 r),(Oc 7 r),(Oc 8 r),(Oc 9 r),(Oc 10 r),(Oc 0 r),(Oc 1 r),(Oc 2 r),(Oc 3 r),(Oc 4 r),⟨⟩⟩) fun _=>Aq [4] [5,5,5,5,5,5,5,5,5,5,5,5] r<|Az<|Ne<|Wc r (fun H22=>Sr<|Qs 1 r<|Nx<|Wr<|Tr<|Re () []) fun H22=>?_
  exact Sn<|Sr<|Qs 1 r<|Nx<|Wr<|Re () []

end Go.Proofs.YtkheimgjallpkaaGreat
