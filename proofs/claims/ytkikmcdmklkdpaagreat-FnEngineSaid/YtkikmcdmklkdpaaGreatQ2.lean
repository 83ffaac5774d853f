/-
  The functions that a law reaches, each as a pure function, with the proof that the program computes it, and the step from a pure law to the given statement. Conditions: none.
-/
import Derived.Test.YtkikmcdmklkdpaaGreatQ1
set_option linter.unusedVariables false
set_option maxRecDepth 100000
set_option maxHeartbeats 4000000
namespace Go.Proofs.YtkikmcdmklkdpaaGreat
open Go Sl
noncomputable def impl_compacted (l : List Ent) (snaps : List Int) (bottom : Bool) : Option (List Ent) :=
  bindC (loopO (fun (S1 : Int × List Ent) => if (decide (S1.1 < ((l.length : Nat) : Int))) = true then ((idx l S1.1).bind fun E6 =>
  (impl_isSeen l S1.1 snaps).bind fun R9 =>
  bindC (if R9 = true then ((app 48 S1.2 ([E6])).bind fun E17 =>
  some (.go E17))
  else (some (.go S1.2)))
  (fun (T12 : List Ent) => some (.go (IntKind.i64.wrap (S1.1 + (1 : Int)), T12))))
  else (some (.done (.go S1.2))))
  ((0 : Int), ([] : List Ent)))
  (fun (T3 : List Ent) => if (!bottom) = true then (some T3)
  else (bindC (loopO (fun (S20 : Bool × Int × List Ent) => if (decide (S20.2.1 ≥ (0 : Int))) = true then ((if (decide (S20.2.1 = IntKind.i64.wrap (((T3.length : Nat) : Int) - (1 : Int)))) = true then (some true)
  else ((idx T3 S20.2.1).bind fun E28 =>
  (idx T3 (IntKind.i64.wrap (S20.2.1 + (1 : Int)))).bind fun E30 =>
  some (!(decide (E28.Key = E30.Key))))).bind (fun (T25 : Bool) =>
  bindC (if T25 = true then (some (.go false))
  else (some (.go S20.1)))
  (fun (T32 : Bool) => (if T32 = true then (some true)
  else ((idx T3 S20.2.1).bind fun E38 =>
  some (!E38.Del))).bind (fun (T35 : Bool) =>
  bindC (if T35 = true then ((idx T3 S20.2.1).bind fun E43 =>
  (app 48 S20.2.2 ([E43])).bind fun E47 =>
  some (.go (true, E47)))
  else (some (.go (T32, S20.2.2))))
  (fun (T40 : Bool × List Ent) => some (.go (T40.1, IntKind.i64.wrap (S20.2.1 - (1 : Int)), T40.2)))))))
  else (some (.done (.go S20.2.2))))
  (false, IntKind.i64.wrap (((T3.length : Nat) : Int) - (1 : Int)), ([] : List Ent)))
  (fun (T22 : List Ent) => (slices_Reverse_94167 T22).bind fun R49 =>
  some R49)))
theorem impl_compacted_c {l : List Ent} {snaps : List Int} {bottom : Bool} {U0 U1 : Value} : Cn Tryz.prog 45 [U0, U1, .bool bottom] [] [(U0, lc l), (U1, lc snaps)] (impl_compacted l snaps bottom) (fun _ (X : Value) => X) fun r X => [.own X (lc r)] := by
  unfold impl_compacted
  refine Ci Tryz.func45 r r ?_
  rintro w S ⟨Z0,Z1,-⟩
  refine Sr<|Qs 1 r<|Nx<|Sr<|Qs 1 r<|Nx<|Sq<|Sr<|Qs 1 r<|Yo (Ln ke24 (Bc Z0) r)<|Qs 1 r<|Nx<|Jn Value [2] [] (fun _ X=>[(7, X)]) (fun T X=>[.own X (lc T)]) r2 r2 (?_) fun T3 X4=>?_
  ·refine Wb<|Nw 4<|Lp Value [0,1,2,13,14] [] (fun T X=>[(7, X), (15, iv T.1)]) (fun T X=>[.own X (lc T.2)]) (.slice none 0 0) [0] r2 r2 fun S1 X2=>Sr<|Qs 1 r<|Nx<|Sq<|Wc r (fun H5=>?_) fun H5=>?_
   ·refine Sn<|Sq<|Wb<|Sr<|Qs 1 r<|Bi fun E6 H7=>Yo (Ix ke24 (Bc Z0) H7 r)<|Yo (Le kk72 (Bc Z0) H7 r)<|Fo (Al kz72 r) fun B8=>Qs 1 r<|Fu (Sb 0 kk72 r (Cp r) r)<|Nx<|Sr<|Qs 3 r<|Bi fun R9 H10=>Fo (Cl [] impl_isSeen_c H10 r r1 ⟨(Bc Z0),(Bc Z1),⟨⟩⟩) fun _=>Nx<|Jn Value [0,1,2,13,14,15] [] (fun _ X=>[(7, X)]) (fun T X=>[.own X (lc T)]) r2 r2 (Wc r (fun H14=>Rg<|Qs 1 r<|Yo (Lb 0 kk72 r)<|Fo (Bs [E6] ke24 kz72) fun B15=>Bi fun E17 H18=>Fo (Ap [2] H18 ke24 kz72 r (Oc 0 r)) fun V16=>Qs 1 r<|Nl<|Jg V16 [0]) fun H14=>Sk<|Jg X2 [1]) fun T12 X13=>?_
    exact Bn<|Ne<|Rg<|Qs 2 r<|Nl<|Lg X13 [0]
   exact Wx<|Tx<|Ex<|Be<|Jg X2 [0]
  refine Ne<|Sq<|Sr<|Qs 2 r<|Nx<|Wc r (fun H19=>Sr<|Qs 2 r<|Nx<|Wr<|Tr<|Re X4 [0]) fun H19=>Sn<|Sr<|Qs 1 r<|Nx<|Sr<|Qs 1 r<|Nx<|Sq<|Sr<|Qs 1 r<|Yo (Ln ke24 (Oc 0 r) r)<|Qs 2 r<|Nx<|Jn Value [] [] (fun _ X=>[(10, X)]) (fun T X=>[.own X (lc T)]) r2 r2 (?_) fun T22 X23=>?_
  ·refine Wb<|Nw 4<|Lp Value [7] [1] (fun T X=>[(10, X), (11, .bool T.1), (12, iv T.2.1)]) (fun T X=>[.own X (lc T.2.2)]) (.slice none 0 0) [1,0] r2 r2 fun S20 X21=>Sq<|Sr<|Qs 2 r<|Nx<|Wc r (fun H24=>?_) fun H24=>?_
   ·refine Sn<|Sq<|Wb<|Sq<|Sq<|Jv [7,10,11,12] (fun T=>[(57, .bool T)]) r1 (?_) fun T25=>?_
    ·refine Dr [0,0] r hMix<|Aq [0,1] [0,0] r<|Ay 2 [0,0] r (Ln ke24 (Oc 0 r) r)<|Aq [3,4,5] [0,0] r<|Ia (fun H27=>Ax [6,7,8,9,10,11,12,13,14,15,16,17] [0,0] (beq_tf H27) r r<|Ay 18 [0,0] r (Pt H27 r)<|Az<|Bg () [0,0]) fun H27=>Ag 6 [0,0] (gdA (beq_ff H27)) r (Y.move r)<|Ag 7 [0,0] (gdA (beq_ff H27)) r (Y.move r)<|Ai fun E28 H29=>Ag 8 [0,0] (gdA (beq_ff H27)) r (Ix ke24 (Oc 0 r) H29 r)<|Ag 9 [0,0] (gdA (beq_ff H27)) r (Fe kf72_0 (Oc 0 r) H29 r)<|Ag 10 [0,0] (gdA (beq_ff H27)) r (Le kk9 (Oc 0 r) H29 r)<|Ag 11 [0,0] (gdA (beq_ff H27)) r (Y.move r)<|Ag 12 [0,0] (gdA (beq_ff H27)) r (Y.move r)<|Ag 13 [0,0] (gdA (beq_ff H27)) r (Y.add r r)<|Ai fun E30 H31=>?_
     exact Ag 14 [0,0] (gdA (beq_ff H27)) r (Ix ke24 (Oc 0 r) H31 r)<|Ag 15 [0,0] (gdA (beq_ff H27)) r (Fe kf72_0 (Oc 0 r) H31 r)<|Ag 16 [0,0] (gdA (beq_ff H27)) r (Le kk9 (Oc 0 r) H31 r)<|Ag 17 [0,0] (gdA (beq_ff H27)) r (Y.sneq r r)<|Ay 18 [0,0] r (Pf H27 r)<|Az<|Bg () [0,0]
    refine Ne<|Ju [7,10,12] (fun T=>[(11, .bool T)]) r1 (Wc r (fun H34=>Rg<|Qs 1 r<|Nl<|Jg () [0,0]) fun H34=>Sk<|Jg () [0,0]) fun T32=>Ne<|Sq<|Jv [7,10,11,12] (fun T=>[(66, .bool T)]) r1 (?_) fun T35=>?_
    ·exact Rg<|Qs 2 r<|It (fun H37=>Of 6 (beq_tf H37) r r<|Yo (Pt H37 r)<|Nl<|Bg () [0,0]) fun H37=>Qg 2 (beq_ff H37) r r<|Bi fun E38 H39=>Yg (gdA (beq_ff H37)) (Ix ke24 (Oc 0 r) H39 r)<|Yg (gdA (beq_ff H37)) (Fe kf72_2 (Oc 0 r) H39 r)<|Yg (gdA (beq_ff H37)) (Le kk4 (Oc 0 r) H39 r)<|Qg 1 (beq_ff H37) r r<|Yo (Pf H37 r)<|Nl<|Bg () [0,0]
    exact Ne<|Jn Value [7,12] [0] (fun T X=>[(10, X), (11, .bool T.1)]) (fun T X=>[.own X (lc T.2)]) r2 r2 (Wc r (fun H42=>Sr<|Qs 1 r<|Nx<|Rg<|Qs 3 r<|Bi fun E43 H44=>Yo (Ix ke24 (Oc 0 r) H44 r)<|Yo (Le kk72 (Oc 0 r) H44 r)<|Fo (Bs [E43] ke24 kz72) fun B45=>Bi fun E47 H48=>Fo (Ap [2] H48 ke24 kz72 r (Oc 0 r)) fun V46=>Qs 1 r<|Nl<|Jg V46 [2,0]) fun H42=>Sk<|Jg X21 [0,0]) fun T40 X41=>Bn<|Ne<|Rg<|Qs 3 r<|Nl<|Lg X41 [0,0]
   exact Wx<|Tx<|Ex<|Be<|Jg X21 [1]
  exact Ne<|Sr<|Qs 1 r<|Bi fun R49 H50=>Fo (Cl [0] slices_Reverse_94167_c H50 r r1) fun _=>Nx<|Sr<|Qs 2 r<|Nx<|Wr<|Re X23 [0]
noncomputable def impl_Eng_merge (e : Eng) : Option (Bool × Eng) :=
  if (decide (((e.Tables.length : Nat) : Int) = (0 : Int))) = true then (some (false, e))
  else ((impl_merged e.Tables).bind fun R2 =>
  (impl_compacted R2 e.Snaps true).bind fun R5 =>
  bindC (if (decide (((R5.length : Nat) : Int) > (0 : Int))) = true then (some (.go ([R5])))
  else (some (.go ([] : List (List Ent)))))
  (fun (T8 : List (List Ent)) => some (true, { Mem := e.Mem, Tables := T8, Seq := e.Seq, Snaps := e.Snaps : Eng })))
theorem impl_Eng_merge_c {e : Eng} {U0 U1 U2 : Value} {U3 : Nat} : Cn Tryz.prog 21 [pt U3] [.box U3 28 [U0, U1, iv e.Seq, U2], .own U1 (lc e.Tables)] [(U2, lc e.Snaps)] (impl_Eng_merge e) (fun r (_ : Value) => .bool r.1) fun r X => [.box U3 28 [U0, X, iv r.2.Seq, U2], .own X (lc r.2.Tables)] := by
  unfold impl_Eng_merge
  refine Ci Tryz.func21 r r ?_
  rintro w S ⟨Z0,-⟩
  refine Sr<|Qs 1 r<|Nx<|Sq<|Sr<|Qs 2 r<|Yo (Fb kf28_1 r)<|Yo (Lb 0 kk25 r)<|Yo (Ln ke25 (Oc 1 r) r)<|Qs 1 r<|Nx<|Wc r (fun H1=>Sr<|Qs 1 r<|Nx<|Wr<|Tr<|Re U1 [0,0]) fun H1=>Sn<|Sq<|Dr [0,0] r hMix<|Aq [0,1] [0,0] r<|Ay 2 [0,0] r (Fb kf28_1 r)<|Ay 3 [0,0] r (Lb 0 kk25 r)<|Aq [5,6] [0,0] r<|Ay 7 [0,0] r (Fb kf28_3 r)<|Ay 8 [0,0] r (Lb 0 kk26 r)<|Ai fun R2 H3=>A1 4<|Xe [1,1] r (Cl [] impl_merged_c H3 r r1 ⟨(Oc 1 r),⟨⟩⟩) fun Y4=>Ai fun R5 H6=>A1 9<|Xe [2,2] r (Cl [] impl_compacted_c H6 r r1 ⟨(Oc 0 r),(Bc Z0),⟨⟩⟩) fun Y7=>Aq [10] [2,2] r<|Az<|Ne<|Sr<|Qs 2 r<|Yo (Fb kf28_1 r)<|Fu (Sb 2 kk25 r (Cp r) r)<|Nx<|Sq<|Sr<|Qs 1 r<|Yo (Ln ke24 (Oc 0 r) r)<|Qs 1 r<|Nx<|Jn Value [] [] (fun _ _=>[]) (fun T X=>[.box U3 28 [U0, X, iv e.Seq, U2], .own X (lc T)]) r2 r2 (?_) fun T8 X9=>?_
  ·exact Wc r (fun H10=>Rg<|Qs 2 r<|Fo (Bk [.raw Y7] ke25 kz24 r (Qc (Co 0)<|Qz)) fun B11=>Kt (Ha [0, 0] ([R5] : List (List Ent)) r (Cf Cz))<|Qs 1 r<|Yo (Fb kf28_1 r)<|Fu (Sb 2 kk25 r (Cp r) r)<|Nl<|Jg (.slice (some ⟨B11, 0, none⟩) 1 1) [2,0]) fun H10=>Sk<|Ni 1<|Jg (.slice none 0 0) [3,0]
  exact Ne<|Sr<|Qs 1 r<|Nx<|Wr<|Re X9 [0,0]
noncomputable def impl_EngMerge (e : Eng) : Option (Eng × Bool) :=
  (impl_EngOk e).bind fun R3 =>
  if (!R3) = true then (some ({ Mem := ([] : List Ent), Tables := ([] : List (List Ent)), Seq := (0 : Int), Snaps := ([] : List Int) : Eng }, false))
  else ((impl_copyEng e).bind fun R10 =>
  (impl_Eng_merge R10).bind fun R14 =>
  some ({ Mem := R10.Mem, Tables := R14.2.Tables, Seq := R14.2.Seq, Snaps := R10.Snaps : Eng }, R14.1))
theorem impl_EngMerge_c {e : Eng} {U0 U1 U2 : Value} : Cn Tryz.prog 7 [.agg #[U0, U1, iv e.Seq, U2]] [] [(U0, lc e.Mem), (U1, lc e.Tables), (U2, lc e.Snaps)] (impl_EngMerge e) (fun r (X : Value × Value × Value) => .tuple #[.agg #[X.1, X.2.1, iv r.1.Seq, X.2.2], .bool r.2]) fun r X => [.own X.1 (lc r.1.Mem), .own X.2.1 (lc r.1.Tables), .own X.2.2 (lc r.1.Snaps)] := by
  unfold impl_EngMerge
  refine Ci Tryz.func7 r r ?_
  rintro w S ⟨Z0,Z1,Z2,-⟩
  refine Sr<|Fo (Bx r (Ca ⟨Ob Z0,Ob Z1,Op',Ob Z2,⟨⟩⟩)) fun B1=>Fo (Al kz28 r) fun B2=>Qs 1 r<|Nx<|Sq<|Sr<|Yo (Lb 1 kk28 r)<|Bi fun R3 H4=>Fo (Cl [] impl_EngOk_c H4 r r1 ⟨(Bc Z0),(Bc Z1),(Bc Z2),⟨⟩⟩) fun _=>Qs 1 r<|Nx<|Wc r (fun H6=>Sr<|Yo (Bd kp28 kz28 (Pz) r)<|Fu (Sb 0 kk28 r (Cp r) r)<|Qs 1 r<|Nx<|Wr<|Tr<|Ni 4<|Ni 1<|Ni 1<|Rf ((.slice none 0 0), (.slice none 0 0), (.slice none 0 0)) [2,1,0] (RV.cell 3 r r kk28 r (Rt r Rz))) fun H6=>Sn<|Sr<|Yo (Lb 1 kk28 r)<|Bi fun R10 H11=>Fo (Cl [] impl_copyEng_c H11 r r1 ⟨(Bc Z0),(Bc Z1),(Bc Z2),⟨⟩⟩) fun Y12=>?_
  exact Fo (Al kz28 r) fun B13=>Fu (Sb 0 kk28 r (Ca ⟨Ow' 1,Ow' 2,Op',Ow' 3,⟨⟩⟩) r)<|Nx<|Sr<|Bi fun R14 H15=>Fo (Cl [0, 1] impl_Eng_merge_c H15 r r1 ⟨(Oc 1 r),⟨⟩⟩) fun Y16=>Qs 1 r<|Nx<|Sr<|Yo (Lb 0 kk28 r)<|Qs 1 r<|Fu (Sb 4 kk28 r (Ca ⟨Ow' 2,Ow' 1,Op',Ow' 3,⟨⟩⟩) r)<|Qs 1 r<|Nx<|Wr<|Rf (Y12.1, Y16, Y12.2.2) [2,1,1] (RV.cell 4 r r kk28 r (Rt r Rz))
noncomputable def slices_Index_88240 (s : List Int) (v : Int) : Option Int :=
  bindC (loopO (fun (S1 : Int) => if (decide (S1 < ((s.length : Nat) : Int))) = true then ((idx s S1).bind fun E6 =>
  if (decide (v = E6)) = true then (some (.done (.done S1)))
  else (some (.go (IntKind.i64.wrap (S1 + (1 : Int))))))
  else (some (.done (.go ()))))
  (0 : Int))
  (fun (T3 : Unit) => some (-1 : Int))
theorem slices_Index_88240_c {s : List Int} {v : Int} {U0 : Value} : Cn Tryz.prog 47 [U0, iv v] [] [(U0, lc s)] (slices_Index_88240 s v) (fun r (_ : Unit) => iv r) fun _ _ => [] := by
  unfold slices_Index_88240
  refine Ci Tryz.func47 r r ?_
  rintro w S ⟨Z0,-⟩
  refine Sr<|Qs 1 r<|Nx<|Sq<|Sr<|Qs 1 r<|Yo (Ln ke26 (Bc Z0) r)<|Qs 1 r<|Nx<|Ju [] (fun _=>[]) r1 (?_) fun T3=>?_
  ·exact Wb<|Lu [0,1,7] (fun T=>[(8, iv T)]) r1 fun S1=>Sr<|Qs 1 r<|Nx<|Sq<|Wc r (fun H5=>Sn<|Sq<|Wb<|Sr<|Qs 2 r<|Nx<|Sr<|Qs 3 r<|Bi fun E6 H7=>Yo (Ix ke26 (Bc Z0) H7 r)<|Yo (Le kk3 (Bc Z0) H7 r)<|Qs 1 r<|Nx<|Wc r (fun H8=>Sr<|Qs 2 r<|Nx<|Wr<|Br<|Tr<|Er<|Br<|Jd<|Tr<|Re () []) fun H8=>Sk<|Bn<|Ne<|Rg<|Qs 2 r<|Nl<|Lg () []) fun H5=>Wx<|Tx<|Ex<|Be<|Jg () []
  exact Ne<|Sr<|Qs 1 r<|Nx<|Wr<|Re () []
noncomputable def slices_Contains_88240 (s : List Int) (v : Int) : Option Bool :=
  (slices_Index_88240 s v).bind fun R1 =>
  some (decide (R1 ≥ (0 : Int)))
theorem slices_Contains_88240_c {s : List Int} {v : Int} {U0 : Value} : Cn Tryz.prog 22 [U0, iv v] [] [(U0, lc s)] (slices_Contains_88240 s v) (fun r (_ : Unit) => .bool r) fun _ _ => [] := by
  unfold slices_Contains_88240
  refine Ci Tryz.func22 r r ?_
  rintro w S ⟨Z0,-⟩
  exact Sr<|Qs 1 r<|Nx<|Sr<|Qs 2 r<|Bi fun R1 H2=>Fo (Cl [] slices_Index_88240_c H2 r r1 ⟨(Bc Z0),⟨⟩⟩) fun _=>Qs 2 r<|Nx<|Wr<|Re () []
noncomputable def impl_EngSnap (e : Eng) : Option (Eng × Int × Bool) :=
  (impl_EngOk e).bind fun R3 =>
  if (!R3) = true then (some ({ Mem := ([] : List Ent), Tables := ([] : List (List Ent)), Seq := (0 : Int), Snaps := ([] : List Int) : Eng }, (0 : Int), false))
  else ((impl_copyEng e).bind fun R10 =>
  (slices_Contains_88240 e.Snaps e.Seq).bind fun R14 =>
  if R14 = true then (some (R10, e.Seq, true))
  else (if (decide (((e.Snaps.length : Nat) : Int) = (4 : Int))) = true then (some (R10, (0 : Int), false))
  else ((app 8 R10.Snaps ([e.Seq])).bind fun E21 =>
  some ({ Mem := R10.Mem, Tables := R10.Tables, Seq := R10.Seq, Snaps := E21 : Eng }, e.Seq, true))))
theorem impl_EngSnap_c {e : Eng} {U0 U1 U2 : Value} : Cn Tryz.prog 8 [.agg #[U0, U1, iv e.Seq, U2]] [] [(U0, lc e.Mem), (U1, lc e.Tables), (U2, lc e.Snaps)] (impl_EngSnap e) (fun r (X : Value × Value × Value) => .tuple #[.agg #[X.1, X.2.1, iv r.1.Seq, X.2.2], iv r.2.1, .bool r.2.2]) fun r X => [.own X.1 (lc r.1.Mem), .own X.2.1 (lc r.1.Tables), .own X.2.2 (lc r.1.Snaps)] := by
  unfold impl_EngSnap
  refine Ci Tryz.func8 r r ?_
  rintro w S ⟨Z0,Z1,Z2,-⟩
  refine Sr<|Fo (Bx r (Ca ⟨Ob Z0,Ob Z1,Op',Ob Z2,⟨⟩⟩)) fun B1=>Fo (Al kz28 r) fun B2=>Qs 2 r<|Nx<|Sq<|Sr<|Yo (Lb 1 kk28 r)<|Bi fun R3 H4=>Fo (Cl [] impl_EngOk_c H4 r r1 ⟨(Bc Z0),(Bc Z1),(Bc Z2),⟨⟩⟩) fun _=>Qs 1 r<|Nx<|Wc r (fun H6=>Sr<|Yo (Bd kp28 kz28 (Pz) r)<|Fu (Sb 0 kk28 r (Cp r) r)<|Qs 2 r<|Nx<|Wr<|Tr<|Ni 4<|Ni 1<|Ni 1<|Rf ((.slice none 0 0), (.slice none 0 0), (.slice none 0 0)) [2,1,0] (RV.cell 3 r r kk28 r (Rt r (Rt r Rz)))) fun H6=>Sn<|Sr<|Yo (Lb 1 kk28 r)<|Bi fun R10 H11=>Fo (Cl [] impl_copyEng_c H11 r r1 ⟨(Bc Z0),(Bc Z1),(Bc Z2),⟨⟩⟩) fun Y12=>?_
  refine Fo (Al kz28 r) fun B13=>Fu (Sb 0 kk28 r (Ca ⟨Ow' 1,Ow' 2,Op',Ow' 3,⟨⟩⟩) r)<|Nx<|Sq<|Sr<|Yo (Fb kf28_3 r)<|Yo (Lb 5 kk26 r)<|Yo (Fb kf28_2 r)<|Yo (Lb 5 kk3 r)<|Bi fun R14 H15=>Fo (Cl [] slices_Contains_88240_c H15 r r1 ⟨(Bc Z2),⟨⟩⟩) fun _=>Nx<|Wc r (fun H17=>?_) fun H17=>?_
  ·exact Sq<|Dr [0,0,0,0,1] r hMix<|Ay 0 [0,0,0,0,1] r (Lb 0 kk28 r)<|Ay 1 [0,0,0,0,1] r (Fb kf28_2 r)<|Ay 2 [0,0,0,0,1] r (Lb 4 kk3 r)<|A1 3<|Xu [0,0,0,0,1] r (Sb 4 kk28 r (Ca ⟨Ow' 1,Ow' 2,Op',Ow' 3,⟨⟩⟩) r)<|Aq [4,5] [0,0,0,0,1] r<|Az<|Ne<|Wr<|Tr<|Rf (Y12.1, Y12.2.1, Y12.2.2) [1,1,1] (RV.cell 4 r r kk28 r (Rt r (Rt r Rz)))
  exact Sn<|Sq<|Sr<|Yo (Fb kf28_3 r)<|Yo (Lb 5 kk26 r)<|Yo (Ln ke26 (Bc Z2) r)<|Qs 1 r<|Nx<|Wc r (fun H18=>Sr<|Yo (Lb 0 kk28 r)<|Fu (Sb 4 kk28 r (Ca ⟨Ow' 1,Ow' 2,Op',Ow' 3,⟨⟩⟩) r)<|Qs 2 r<|Nx<|Wr<|Tr<|Rf (Y12.1, Y12.2.1, Y12.2.2) [1,1,1] (RV.cell 4 r r kk28 r (Rt r (Rt r Rz)))) fun H18=>Sn<|Sr<|Yo (Fb kf28_3 r)<|Yo (Lb 0 kk26 r)<|Yo (Fb kf28_2 r)<|Yo (Lb 5 kk3 r)<|Fo (Bs [e.Seq] ke26 kz3) fun B19=>Bi fun E21 H22=>Fo (Ap [4] H22 ke26 kz3 r (Oc 0 r)) fun V20=>Yo (Fb kf28_3 r)<|Fu (Sb 2 kk26 r (Co 0) r)<|Nx<|Sq<|Dr [0,0,0,0,0,1] r hMix<|Ay 0 [0,0,0,0,0,1] r (Lb 2 kk28 r)<|Ay 1 [0,0,0,0,0,1] r (Fb kf28_2 r)<|Ay 2 [0,0,0,0,0,1] r (Lb 5 kk3 r)<|A1 3<|Xu [0,0,0,0,0,1] r (Sb 5 kk28 r (Ca ⟨Ow' 3,Ow' 4,Op',Ow' 0,⟨⟩⟩) r)<|Aq [4,5] [0,0,0,0,0,1] r<|Az<|Ne<|Wr<|Rf (Y12.1, Y12.2.1, V20) [3,3,0] (RV.cell 5 r r kk28 r (Rt r (Rt r Rz)))
noncomputable def impl_EngTidy (e : Eng) : Option (Eng × Bool) :=
  (impl_EngOk e).bind fun R3 =>
  if (!R3) = true then (some ({ Mem := ([] : List Ent), Tables := ([] : List (List Ent)), Seq := (0 : Int), Snaps := ([] : List Int) : Eng }, false))
  else ((impl_copyEng e).bind fun R10 =>
  bindC (if (decide (((R10.Tables.length : Nat) : Int) = (6 : Int))) = true then ((impl_Eng_merge R10).bind fun R17 =>
  some (.go (R17.2.Seq, R17.1, R17.2.Tables)))
  else (some (.go (R10.Seq, false, R10.Tables))))
  (fun (T14 : Int × Bool × List (List Ent)) => bindC (if (decide (((R10.Mem.length : Nat) : Int) > (54 : Int))) = true then ((impl_Eng_flush ({ Mem := R10.Mem, Tables := T14.2.2, Seq := T14.1, Snaps := R10.Snaps : Eng })).bind fun R23 =>
  (if T14.2.1 = true then (some true)
  else (some R23.1)).bind (fun (T26 : Bool) =>
  some (.go (R23.2.Seq, T26, R23.2.Mem, R23.2.Tables))))
  else (some (.go (T14.1, T14.2.1, R10.Mem, T14.2.2))))
  (fun (T20 : Int × Bool × List Ent × List (List Ent)) => some ({ Mem := T20.2.2.1, Tables := T20.2.2.2, Seq := T20.1, Snaps := R10.Snaps : Eng }, T20.2.1))))
theorem impl_EngTidy_c {e : Eng} {U0 U1 U2 : Value} : Cn Tryz.prog 9 [.agg #[U0, U1, iv e.Seq, U2]] [] [(U0, lc e.Mem), (U1, lc e.Tables), (U2, lc e.Snaps)] (impl_EngTidy e) (fun r (X : Value × Value × Value) => .tuple #[.agg #[X.1, X.2.1, iv r.1.Seq, X.2.2], .bool r.2]) fun r X => [.own X.1 (lc r.1.Mem), .own X.2.1 (lc r.1.Tables), .own X.2.2 (lc r.1.Snaps)] := by
  unfold impl_EngTidy
  refine Ci Tryz.func9 r r ?_
  rintro w S ⟨Z0,Z1,Z2,-⟩
  refine Sr<|Fo (Bx r (Ca ⟨Ob Z0,Ob Z1,Op',Ob Z2,⟨⟩⟩)) fun B1=>Fo (Al kz28 r) fun B2=>Qs 1 r<|Nx<|Sq<|Sr<|Yo (Lb 1 kk28 r)<|Bi fun R3 H4=>Fo (Cl [] impl_EngOk_c H4 r r1 ⟨(Bc Z0),(Bc Z1),(Bc Z2),⟨⟩⟩) fun _=>Qs 1 r<|Nx<|Wc r (fun H6=>Sr<|Yo (Bd kp28 kz28 (Pz) r)<|Fu (Sb 0 kk28 r (Cp r) r)<|Qs 1 r<|Nx<|Wr<|Tr<|Ni 4<|Ni 1<|Ni 1<|Rf ((.slice none 0 0), (.slice none 0 0), (.slice none 0 0)) [2,1,0] (RV.cell 3 r r kk28 r (Rt r Rz))) fun H6=>Sn<|Sr<|Yo (Lb 1 kk28 r)<|Bi fun R10 H11=>Fo (Cl [] impl_copyEng_c H11 r r1 ⟨(Bc Z0),(Bc Z1),(Bc Z2),⟨⟩⟩) fun Y12=>?_
  refine Fo (Al kz28 r) fun B13=>Fu (Sb 0 kk28 r (Ca ⟨Ow' 1,Ow' 2,Op',Ow' 3,⟨⟩⟩) r)<|Nx<|Sr<|Qs 1 r<|Nx<|Sq<|Sr<|Yo (Fb kf28_1 r)<|Yo (Lb 0 kk25 r)<|Yo (Ln ke25 (Oc 2 r) r)<|Qs 1 r<|Nx<|Jn Value [2,4] [4,1,2] (fun T _=>[(5, .bool T.2.1)]) (fun T X=>[.box B13 28 [Y12.1, X, iv T.1, Y12.2.2], .own X (lc T.2.2)]) r2 r2 (Wc r (fun H16=>Rg<|Bi fun R17 H18=>Fo (Cl [0, 1] impl_Eng_merge_c H18 r r1 ⟨(Oc 1 r),⟨⟩⟩) fun Y19=>Qs 1 r<|Nl<|Jg Y19 [4,2,2,0,0]) fun H16=>Sk<|Jg Y12.2.1 [4,1,2,0,0]) fun T14 X15=>Ne<|Sq<|Sr<|Yo (Fb kf28_0 r)<|Yo (Lb 3 kk24 r)<|Yo (Ln ke24 (Oc 1 r) r)<|Qs 1 r<|Nx<|Jn (Value × Value) [2,4] [0,1] (fun T _=>[(5, .bool T.2.1)]) (fun T X=>[.box B13 28 [X.1, X.2, iv T.1, Y12.2.2], .own X.1 (lc T.2.2.1), .own X.2 (lc T.2.2.2)]) r2 r2 (?_) fun T20 X21=>?_
  ·refine Wc r (fun H22=>?_) fun H22=>?_
   ·exact Sr<|Bi fun R23 H24=>Fo (Cl [3, 1, 2] impl_Eng_flush_c H24 r r1) fun Y25=>Qs 1 r<|Nx<|Jv [2,4] (fun T=>[(5, .bool T)]) r1 (Rg<|Qs 2 r<|It (fun H28=>Of 1 (beq_tf H28) r r<|Yo (Pt H28 r)<|Qs 1 r<|Nl<|Bg () [0,0,0,0,0]) fun H28=>Qg 1 (beq_ff H28) r r<|Yo (Pf H28 r)<|Qs 1 r<|Nl<|Bg () [0,0,0,0,0]) fun T26=>Jg (Y25.1, Y25.2) [3,3,0,0,0]
   exact Sk<|Jg (Y12.1, X15) [0,1,1,0,0]
  exact Ne<|Sr<|Yo (Lb 2 kk28 r)<|Qs 1 r<|Fu (Sb 0 kk28 r (Ca ⟨Ow' 3,Ow' 4,Op',Ow' 1,⟨⟩⟩) r)<|Qs 1 r<|Nx<|Wr<|Rf (X21.1, X21.2, Y12.2.2) [3,3,1] (RV.cell 0 r r kk28 r (Rt r Rz))
noncomputable def laws_fresh (code : List UInt8) (salt : Int) : Option (List UInt8) :=
  bindC (loopO (fun (S2 : Int × List UInt8) => (if (decide (S2.1 < ((code.length : Nat) : Int))) = true then (some (decide (S2.1 < (600 : Int))))
  else (some false)).bind (fun (T6 : Bool) =>
  if T6 = true then ((idx code S2.1).bind fun E10 =>
  (app 1 S2.2 ([toU8 (IntKind.i64.wrap (IntKind.i64.wrap (IntKind.i64.wrap ((E10.toNat : Nat) : Int) * (3 : Int)) + (IntKind.i64.wrap (salt * (IntKind.i64.wrap (Int.tmod S2.1 (7 : Int) + (1 : Int)))))))])).bind fun E14 =>
  some (.go (IntKind.i64.wrap (S2.1 + (1 : Int)), E14)))
  else (some (.done (.go S2.2)))))
  ((0 : Int), ([toU8 salt])))
  (fun (T4 : List UInt8) => some T4)
theorem laws_fresh_c {code : List UInt8} {salt : Int} {U0 : Value} : Cn Tryz.prog 11 [U0, iv salt] [] [(U0, lc code)] (laws_fresh code salt) (fun _ (X : Value) => X) fun r X => [.own X (lc r)] := by
  unfold laws_fresh
  refine Ci Tryz.func11 r r ?_
  rintro w S ⟨Z0,-⟩
  refine Sr<|Qs 1 r<|Nx<|Sr<|Qs 1 r<|Yo (Y.conv8 ki3 ki5 r)<|Fo (Bs [toU8 salt] ke22 kz5) fun B1=>Qs 1 r<|Nx<|Sq<|Sr<|Qs 1 r<|Nx<|Jn Value [] [] (fun _ X=>[(5, X)]) (fun T X=>[.own X (lc T)]) r2 r2 (?_) fun T4 X5=>?_
  ·refine Wb<|Lp Value [0,1] [] (fun T X=>[(5, X), (6, iv T.1)]) (fun T X=>[.own X (lc T.2)]) (.slice (some ⟨B1, 0, none⟩) 1 1) [0] r2 r2 fun S2 X3=>Sq<|Sq<|Jv [0,1,5,6] (fun T=>[(17, .bool T)]) r1 (Rg<|Qs 2 r<|Yo (Ln ke22 (Bc Z0) r)<|Qs 2 r<|It (fun H8=>Qg 2 (beq_tt H8) r r<|Yo (Pt H8 r)<|Nl<|Bg () [0]) fun H8=>Of 2 (beq_ft H8) r r<|Yo (Pf H8 r)<|Nl<|Bg () [0]) fun T6=>Ne<|Wc r (fun H9=>?_) fun H9=>?_
   ·exact Sn<|Sq<|Wb<|Rg<|Qs 3 r<|Bi fun E10 H11=>Yo (Ix ke22 (Bc Z0) H11 r)<|Yo (Le kk5 (Bc Z0) H11 r)<|Yo (Y.conv ki5 ki3 r)<|Qs 3 r<|Yo (Y.rem (by decide) r r)<|Qs 3 r<|Yo (Y.conv8 ki3 ki5 r)<|Fo (Bs [toU8 (IntKind.i64.wrap (IntKind.i64.wrap (IntKind.i64.wrap ((E10.toNat : Nat) : Int) * (3 : Int)) + (IntKind.i64.wrap (salt * (IntKind.i64.wrap (Int.tmod S2.1 (7 : Int) + (1 : Int)))))))] ke22 kz5) fun B12=>Bi fun E14 H15=>Fo (Ap [1] H15 ke22 kz5 r (Oc 0 r)) fun V13=>Qs 1 r<|Nl<|Bn<|Ne<|Rg<|Qs 3 r<|Nl<|Lg V13 [0]
   exact Wx<|Tx<|Ex<|Be<|Jg X3 [0]
  exact Ne<|Sr<|Qs 2 r<|Nx<|Wr<|Re X5 [0]
noncomputable def spec_l1New (code : List UInt8) : Option L1Cur :=
  bindC (loopO (fun (S1 : Int × Int) => (if (decide (S1.2 < ((code.length : Nat) : Int))) = true then (some (decide (S1.2 < (4000 : Int))))
  else (some false)).bind (fun (T5 : Bool) =>
  if T5 = true then ((idx code S1.2).bind fun E9 =>
  some (.go (iand .i64 (IntKind.i64.wrap (IntKind.i64.wrap (IntKind.i64.wrap (S1.1 * (131 : Int)) + (IntKind.i64.wrap ((E9.toNat : Nat) : Int))) + (7 : Int))) (1073741823 : Int), IntKind.i64.wrap (S1.2 + (1 : Int)))))
  else (some (.done (.go S1.1)))))
  (IntKind.i64.wrap ((10101 : Int) + ((code.length : Nat) : Int)), (0 : Int)))
  (fun (T3 : Int) => some ({ b := code, i := (0 : Int), h := T3 : L1Cur }))
theorem spec_l1New_c {code : List UInt8} {U0 : Value} : Cn Tryz.prog 23 [U0] [] [(U0, lc code)] (spec_l1New code) (fun _ (X : Nat) => pt X) fun r X => [.box X 80 [U0, iv r.i, iv r.h]] := by
  unfold spec_l1New
  refine Ci Tryz.func23 r r ?_
  rintro w S ⟨Z0,-⟩
  refine Sr<|Qs 1 r<|Nx<|Sr<|Qs 1 r<|Yo (Ln ke22 (Bc Z0) r)<|Qs 2 r<|Nx<|Sq<|Sr<|Qs 1 r<|Nx<|Ju [0] (fun T=>[(3, iv T)]) r1 (?_) fun T3=>?_
  ·exact Wb<|Lu [0] (fun T=>[(3, iv T.1), (4, iv T.2)]) r1 fun S1=>Sq<|Sq<|Jv [0,3,4] (fun T=>[(15, .bool T)]) r1 (Rg<|Qs 2 r<|Yo (Ln ke22 (Bc Z0) r)<|Qs 2 r<|It (fun H7=>Qg 2 (beq_tt H7) r r<|Yo (Pt H7 r)<|Nl<|Bg () []) fun H7=>Of 2 (beq_ft H7) r r<|Yo (Pf H7 r)<|Nl<|Bg () []) fun T5=>Ne<|Wc r (fun H8=>Sn<|Sq<|Wb<|Rg<|Qs 4 r<|Bi fun E9 H10=>Yo (Ix ke22 (Bc Z0) H10 r)<|Yo (Le kk5 (Bc Z0) H10 r)<|Yo (Y.conv ki5 ki3 r)<|Qs 4 r<|Nl<|Bn<|Ne<|Rg<|Qs 3 r<|Nl<|Lg () []) fun H8=>Wx<|Tx<|Ex<|Be<|Jg () []
  exact Ne<|Sr<|Qs 2 r<|Yo (Bd kp80 kz80 (Pc r (Cb Z0)<|Pc r (Cp r)<|Pz) r)<|Fo (Bx r (Ca ⟨Ob Z0,Op',Op',⟨⟩⟩)) fun B11=>Qs 1 r<|Nx<|Wr<|Re B11 [0]
noncomputable def spec_l1Size (code : List UInt8) (most : Int) : Option Int :=
  if (decide (IntKind.i64.wrap ((2 : Int) + (IntKind.i64.wrap (Int.tdiv ((code.length : Nat) : Int) (20 : Int)))) > most)) = true then (some most)
  else (some (IntKind.i64.wrap ((2 : Int) + (IntKind.i64.wrap (Int.tdiv ((code.length : Nat) : Int) (20 : Int))))))
theorem spec_l1Size_c {code : List UInt8} {most : Int} {U0 : Value} : Cn Tryz.prog 25 [U0, iv most] [] [(U0, lc code)] (spec_l1Size code most) (fun r (_ : Unit) => iv r) fun _ _ => [] := by
  unfold spec_l1Size
  refine Ci Tryz.func25 r r ?_
  rintro w S ⟨Z0,-⟩
  exact Sr<|Qs 1 r<|Nx<|Sr<|Qs 1 r<|Yo (Ln ke22 (Bc Z0) r)<|Yo (Y.quo (by decide) r r)<|Qs 2 r<|Nx<|Sq<|Sr<|Qs 3 r<|Nx<|Wc r (fun H1=>Sr<|Qs 2 r<|Nx<|Wr<|Tr<|Re () []) fun H1=>Sn<|Sr<|Qs 2 r<|Nx<|Wr<|Re () []
noncomputable def spec_l1Byte (c : L1Cur) : Option (Int × L1Cur) :=
  bindC (if (decide (c.i < ((c.b.length : Nat) : Int))) = true then ((idx c.b c.i).bind fun E4 =>
  some (.go (iand .i64 (IntKind.i64.wrap (iand .i64 (ixor .i64 (ishr .i64 (IntKind.i64.wrap (IntKind.i64.wrap (c.h * (6364136223846793005 : Int)) + (1442695040888963407 : Int))) (33 : Int)) (ishr .i64 (IntKind.i64.wrap (IntKind.i64.wrap (c.h * (6364136223846793005 : Int)) + (1442695040888963407 : Int))) (45 : Int))) (255 : Int) + (IntKind.i64.wrap ((E4.toNat : Nat) : Int)))) (255 : Int), IntKind.i64.wrap (c.i + (1 : Int)))))
  else (some (.go (iand .i64 (ixor .i64 (ishr .i64 (IntKind.i64.wrap (IntKind.i64.wrap (c.h * (6364136223846793005 : Int)) + (1442695040888963407 : Int))) (33 : Int)) (ishr .i64 (IntKind.i64.wrap (IntKind.i64.wrap (c.h * (6364136223846793005 : Int)) + (1442695040888963407 : Int))) (45 : Int))) (255 : Int), c.i))))
  (fun (T1 : Int × Int) => some (T1.1, { b := c.b, i := T1.2, h := IntKind.i64.wrap (IntKind.i64.wrap (c.h * (6364136223846793005 : Int)) + (1442695040888963407 : Int)) : L1Cur }))
theorem spec_l1Byte_c {c : L1Cur} {U0 : Value} {U1 : Nat} : Cn Tryz.prog 83 [pt U1] [.box U1 80 [U0, iv c.i, iv c.h]] [(U0, lc c.b)] (spec_l1Byte c) (fun r (_ : Unit) => iv r.1) fun r _ => [.box U1 80 [U0, iv r.2.i, iv r.2.h]] := by
  unfold spec_l1Byte
  refine Ci Tryz.func83 r r ?_
  rintro w S ⟨Z0,-⟩
  refine Sr<|Qs 1 r<|Nx<|Sr<|Qs 3 r<|Yo (Fb kf80_2 r)<|Yo (Lb 0 kk3 r)<|Qs 3 r<|Yo (Fb kf80_2 r)<|Fu (Sb 0 kk3 r (Cp r) r)<|Nx<|Sq<|Dr [0] r hMix<|Aq [0,1] [0] r<|Ay 2 [0] r (Fb kf80_2 r)<|Ay 3 [0] r (Lb 0 kk3 r)<|Ay 4 [0] r (Y.shr (by decide) r r)<|Aq [5,6] [0] r<|Ay 7 [0] r (Fb kf80_2 r)<|Ay 8 [0] r (Lb 0 kk3 r)<|Ay 9 [0] r (Y.shr (by decide) r r)<|Aq [10,11,12] [0] r<|Az<|Ne<|Sq<|Sq<|Dr [0] r hMix<|Aq [0,1] [0] r<|Ay 2 [0] r (Fb kf80_1 r)<|Ay 3 [0] r (Lb 0 kk3 r)<|Aq [4,5] [0] r<|Ay 6 [0] r (Fb kf80_0 r)<|Ay 7 [0] r (Lb 0 kk22 r)<|Ay 8 [0] r (Ln ke22 (Bc Z0) r)<|Aq [9] [0] r<|Az<|Ne<|Jn Unit [] [] (fun T _=>[(3, iv T.1)]) (fun T _=>[.box U1 80 [U0, iv T.2, iv (IntKind.i64.wrap (IntKind.i64.wrap (c.h * (6364136223846793005 : Int)) + (1442695040888963407 : Int)))]]) r2 r2 (?_) fun T1 X2=>?_
  ·refine Wc r (fun H3=>?_) fun H3=>?_
   ·exact Sq<|Dr [0] r hMix<|Aq [0,1,2] [0] r<|Ay 3 [0] r (Fb kf80_0 r)<|Ay 4 [0] r (Lb 0 kk22 r)<|Aq [5,6] [0] r<|Ay 7 [0] r (Fb kf80_1 r)<|Ay 8 [0] r (Lb 0 kk3 r)<|Ai fun E4 H5=>Ay 9 [0] r (Ix ke22 (Bc Z0) H5 r)<|Ay 10 [0] r (Le kk5 (Bc Z0) H5 r)<|Ay 11 [0] r (Y.conv ki5 ki3 r)<|Aq [12,13,14] [0] r<|Az<|Ne<|Rg<|Qs 3 r<|Yo (Fb kf80_1 r)<|Yo (Lb 0 kk3 r)<|Qs 2 r<|Yo (Fb kf80_1 r)<|Fu (Sb 0 kk3 r (Cp r) r)<|Nl<|Jg () [0]
   exact Sk<|Jg () [0]
  exact Ne<|Sr<|Qs 2 r<|Nx<|Wr<|Re () [0]
noncomputable def spec_l1Below (c : L1Cur) (n : Int) : Option (Int × L1Cur) :=
  if (decide (n ≤ (0 : Int))) = true then (some ((0 : Int), c))
  else (if (decide (n ≤ (256 : Int))) = true then ((spec_l1Byte c).bind fun R3 =>
  (nz n).bind fun E6 =>
  some (Int.tmod R3.1 n, { b := c.b, i := R3.2.i, h := R3.2.h : L1Cur }))
  else ((spec_l1Byte c).bind fun R8 =>
  (spec_l1Byte ({ b := c.b, i := R8.2.i, h := R8.2.h : L1Cur })).bind fun R11 =>
  (spec_l1Byte ({ b := c.b, i := R11.2.i, h := R11.2.h : L1Cur })).bind fun R14 =>
  (spec_l1Byte ({ b := c.b, i := R14.2.i, h := R14.2.h : L1Cur })).bind fun R17 =>
  (nz n).bind fun E20 =>
  some (Int.tmod (IntKind.i64.wrap (IntKind.i64.wrap (IntKind.i64.wrap (IntKind.i64.wrap (R8.1 * (16777216 : Int)) + (IntKind.i64.wrap (R11.1 * (65536 : Int)))) + (IntKind.i64.wrap (R14.1 * (256 : Int)))) + R17.1)) n, { b := c.b, i := R17.2.i, h := R17.2.h : L1Cur })))
theorem spec_l1Below_c {c : L1Cur} {n : Int} {U0 : Value} {U1 : Nat} : Cn Tryz.prog 48 [pt U1, iv n] [.box U1 80 [U0, iv c.i, iv c.h]] [(U0, lc c.b)] (spec_l1Below c n) (fun r (_ : Unit) => iv r.1) fun r _ => [.box U1 80 [U0, iv r.2.i, iv r.2.h]] := by
  unfold spec_l1Below
  refine Ci Tryz.func48 r r ?_
  rintro w S ⟨Z0,-⟩
  refine Sr<|Qs 1 r<|Nx<|Sq<|Sr<|Qs 2 r<|Nx<|Wc r (fun H1=>Sr<|Qs 1 r<|Nx<|Wr<|Tr<|Re () [0]) fun H1=>Sn<|Sq<|Sr<|Qs 2 r<|Nx<|Wc r (fun H2=>Sr<|Qs 1 r<|Bi fun R3 H4=>Fo (Cl [0] spec_l1Byte_c H4 r r1 ⟨(Bc Z0),⟨⟩⟩) fun _=>Qs 1 r<|Bi fun E6 H7=>Yo (Y.rem (nz_ne H7) r r)<|Qs 1 r<|Nx<|Wr<|Tr<|Re () [0]) fun H2=>Sn<|Sr<|Qs 1 r<|Bi fun R8 H9=>Fo (Cl [0] spec_l1Byte_c H9 r r1 ⟨(Bc Z0),⟨⟩⟩) fun _=>Qs 1 r<|Nx<|Sr<|Qs 1 r<|Bi fun R11 H12=>Fo (Cl [0] spec_l1Byte_c H12 r r1 ⟨(Bc Z0),⟨⟩⟩) fun _=>Qs 1 r<|Nx<|Sr<|Qs 1 r<|Bi fun R14 H15=>?_
  exact Fo (Cl [0] spec_l1Byte_c H15 r r1 ⟨(Bc Z0),⟨⟩⟩) fun _=>Qs 1 r<|Nx<|Sr<|Qs 1 r<|Bi fun R17 H18=>Fo (Cl [0] spec_l1Byte_c H18 r r1 ⟨(Bc Z0),⟨⟩⟩) fun _=>Qs 1 r<|Nx<|Sr<|Qs 11 r<|Bi fun E20 H21=>Yo (Y.rem (nz_ne H21) r r)<|Qs 1 r<|Nx<|Wr<|Re () [0]
noncomputable def spec_l1In (x : Int) (low : Int) (high : Int) : Option Bool :=
  (if (decide (x ≥ low)) = true then (some (decide (x ≤ high)))
  else (some false)).bind (fun (T1 : Bool) =>
  some T1)
theorem spec_l1In_c {x : Int} {low : Int} {high : Int} : Cn Tryz.prog 33 [iv x, iv low, iv high] [] [] (spec_l1In x low high) (fun r (_ : Unit) => .bool r) fun _ _ => [] := by
  unfold spec_l1In
  refine Ci Tryz.func33 r r ?_
  rintro w S -
  exact Sr<|Qs 1 r<|Nx<|Sq<|Jv [] (fun T=>[(6, .bool T)]) r1 (Rg<|Qs 4 r<|It (fun H3=>Qg 3 (beq_tt H3) r r<|Yo (Pt H3 r)<|Qs 1 r<|Nl<|Bg () []) fun H3=>Of 3 (beq_ft H3) r r<|Yo (Pf H3 r)<|Qs 1 r<|Nl<|Bg () []) fun T1=>Ne<|Wr<|Re () []
noncomputable def spec_l7Op (o : Op) : Option Bool :=
  ((spec_l1In ((o.Key.length : Nat) : Int) (1 : Int) (10 : Int)).bind fun R4 =>
  if R4 = true then (if (decide (((o.Val.length : Nat) : Int) ≤ (16 : Int))) = true then (if (!o.Del) = true then (some true)
  else (some (decide (o.Val = ([])))))
  else (some false))
  else (some false)).bind (fun (T2 : Bool) =>
  some T2)
theorem spec_l7Op_c {o : Op} : Cn Tryz.prog 66 [.agg #[strV o.Key, .bool o.Del, strV o.Val]] [] [] (spec_l7Op o) (fun r (_ : Unit) => .bool r) fun _ _ => [] := by
  unfold spec_l7Op
  refine Ci Tryz.func66 r r ?_
  rintro w S -
  refine Sr<|Fo (Bx r (Cp r)) fun B1=>Qs 1 r<|Nx<|Sq<|Jb Unit [] [] (fun T _=>[(2, .bool T)]) (fun _ _=>[]) r2 r2 (?_) fun T2 X3=>?_
  ·refine Rg<|Yo (Fb kf61_0 r)<|Yo (Lb 0 kk9 r)<|Yo (Y.slen ks9 r)<|Bi fun R4 H5=>Fo (Cl [] spec_l1In_c H5 r r1) fun _=>Qs 1 r<|It (fun H7=>?_) fun H7=>?_
   ·refine Yg (gdA (beq_tt H7)) (Fb kf61_2 r)<|Yg (gdA (beq_tt H7)) (Lb 0 kk9 r)<|Yg (gdA (beq_tt H7)) (Y.slen ks9 r)<|Qg 1 (beq_tt H7) r r<|Yo (Pt H7 r)<|Qs 1 r<|It (fun H8=>?_) fun H8=>?_
    ·exact Yg (gdA (beq_tt H8)) (Fb kf61_1 r)<|Yg (gdA (beq_tt H8)) (Lb 0 kk4 r)<|Qg 2 (beq_tt H8) r r<|It (fun H9=>Of 3 (beq_tf H9) r r<|Yg (gdA (beq_tt H8)) (Pt H9 r)<|Yo (Pt H8 r)<|Qs 1 r<|Nl<|Bg () []) fun H9=>Yg (gdA (beq_ff H9)) (Fb kf61_2 r)<|Yg (gdA (beq_ff H9)) (Lb 0 kk9 r)<|Qg 1 (beq_ff H9) r r<|Yg (gdA (beq_tt H8)) (Pf H9 r)<|Yo (Pt H8 r)<|Qs 1 r<|Nl<|Bg () []
    exact Of 4 (beq_ft H8) r r<|Ou 3 r r<|Of 1 (beq_ft H8) r r<|Yo (Pf H8 r)<|Qs 1 r<|Nl<|Bg () []
   exact Of 4 (beq_ft H7) r r<|Yo (Pf H7 r)<|Qs 1 r<|Of 4 r r r<|Ou 3 r r<|Of 1 r r r<|Yo (Pf r r)<|Qs 1 r<|Nl<|Bg () []
  exact Ne<|Wr<|Re () []
noncomputable def spec_l9Ent (e : Ent) : Option Bool :=
  ((spec_l7Op ({ Key := e.Key, Del := e.Del, Val := e.Val : Op })).bind fun R4 =>
  if R4 = true then ((spec_l1In e.Seq (0 : Int) (1000000 : Int)).bind fun R8 =>
  some R8)
  else (some false)).bind (fun (T2 : Bool) =>
  some T2)
theorem spec_l9Ent_c {e : Ent} : Cn Tryz.prog 67 [.agg #[strV e.Key, iv e.Seq, .bool e.Del, strV e.Val]] [] [] (spec_l9Ent e) (fun r (_ : Unit) => .bool r) fun _ _ => [] := by
  unfold spec_l9Ent
  refine Ci Tryz.func67 r r ?_
  rintro w S -
  refine Sr<|Fo (Bx r (Cp r)) fun B1=>Qs 1 r<|Nx<|Sq<|Jb Unit [] [] (fun T _=>[(2, .bool T)]) (fun _ _=>[]) r2 r2 (?_) fun T2 X3=>?_
  ·exact Rg<|Yo (Fb kf72_0 r)<|Yo (Lb 0 kk9 r)<|Yo (Fb kf72_2 r)<|Yo (Lb 0 kk4 r)<|Yo (Fb kf72_3 r)<|Yo (Lb 0 kk9 r)<|Yo (Bd kp61 kz61 (Pc r (Cp r)<|Pc r (Cp r)<|Pc r (Cp r)<|Pz) r)<|Bi fun R4 H5=>Fo (Cl [] spec_l7Op_c H5 r r1) fun _=>Qs 1 r<|It (fun H7=>Yg (gdA (beq_tt H7)) (Fb kf72_1 r)<|Yg (gdA (beq_tt H7)) (Lb 0 kk3 r)<|Bi fun R8 H9=>Fg (gdA (beq_tt H7)) (Cl [] spec_l1In_c H9 r r1) fun _=>Yo (Pt H7 r)<|Qs 1 r<|Nl<|Bg () []) fun H7=>Of 3 (beq_ft H7) r r<|Yo (Pf H7 r)<|Qs 1 r<|Nl<|Bg () []
  exact Ne<|Wr<|Re () []
noncomputable def spec_l9Ahead (a : Ent) (b : Ent) : Option Bool :=
  (if (sLt a.Key b.Key) = true then (some true)
  else (if (decide (a.Key = b.Key)) = true then (some (decide (a.Seq > b.Seq)))
  else (some false))).bind (fun (T3 : Bool) =>
  some T3)
theorem spec_l9Ahead_c {a : Ent} {b : Ent} : Cn Tryz.prog 68 [.agg #[strV a.Key, iv a.Seq, .bool a.Del, strV a.Val], .agg #[strV b.Key, iv b.Seq, .bool b.Del, strV b.Val]] [] [] (spec_l9Ahead a b) (fun r (_ : Unit) => .bool r) fun _ _ => [] := by
  unfold spec_l9Ahead
  refine Ci Tryz.func68 r r ?_
  rintro w S -
  refine Sr<|Fo (Bx r (Cp r)) fun B1=>Fo (Bx r (Cp r)) fun B2=>Qs 1 r<|Nx<|Sq<|Jb Unit [] [] (fun T _=>[(4, .bool T)]) (fun _ _=>[]) r2 r2 (?_) fun T3 X4=>?_
  ·refine Rg<|Yo (Fb kf72_0 r)<|Yo (Lb 1 kk9 r)<|Yo (Fb kf72_0 r)<|Yo (Lb 0 kk9 r)<|Qs 2 r<|It (fun H5=>Of 6 (beq_tf H5) r r<|Ou 5 r r<|Of 1 (beq_tf H5) r r<|Yo (Pt H5 r)<|Qs 1 r<|Nl<|Bg () []) fun H5=>Yg (gdA (beq_ff H5)) (Fb kf72_0 r)<|Yg (gdA (beq_ff H5)) (Lb 1 kk9 r)<|Yg (gdA (beq_ff H5)) (Fb kf72_0 r)<|Yg (gdA (beq_ff H5)) (Lb 0 kk9 r)<|Qg 2 (beq_ff H5) r r<|It (fun H6=>Yg (gdA (beq_tt H6)) (Fb kf72_1 r)<|Yg (gdA (beq_tt H6)) (Lb 1 kk3 r)<|Yg (gdA (beq_tt H6)) (Fb kf72_1 r)<|Yg (gdA (beq_tt H6)) (Lb 0 kk3 r)<|Qg 1 (beq_tt H6) r r<|Yg (gdA (beq_ff H5)) (Pt H6 r)<|Yo (Pf H5 r)<|Qs 1 r<|Nl<|Bg () []) fun H6=>?_
   exact Of 5 (beq_ft H6) r r<|Yg (gdA (beq_ff H5)) (Pf H6 r)<|Yo (Pf H5 r)<|Qs 1 r<|Nl<|Bg () []
  exact Ne<|Wr<|Re () []
noncomputable def spec_l9Ents (l : List Ent) : Option Bool :=
  bindC (loopO (fun (S1 : Int) => if (decide (S1 < ((l.length : Nat) : Int))) = true then (((idx l S1).bind fun E8 =>
  (spec_l9Ent E8).bind fun R10 =>
  if (!R10) = true then (some true)
  else (if (decide (S1 > (0 : Int))) = true then ((idx l (IntKind.i64.wrap (S1 - (1 : Int)))).bind fun E15 =>
  (spec_l9Ahead E15 E8).bind fun R17 =>
  some (!R17))
  else (some false))).bind (fun (T6 : Bool) =>
  if T6 = true then (some (.done (.done false)))
  else (some (.go (IntKind.i64.wrap (S1 + (1 : Int)))))))
  else (some (.done (.go ()))))
  (0 : Int))
  (fun (T3 : Unit) => some true)
theorem spec_l9Ents_c {l : List Ent} {U0 : Value} : Cn Tryz.prog 35 [U0] [] [(U0, lc l)] (spec_l9Ents l) (fun r (_ : Unit) => .bool r) fun _ _ => [] := by
  unfold spec_l9Ents
  refine Ci Tryz.func35 r r ?_
  rintro w S ⟨Z0,-⟩
  refine Sr<|Qs 1 r<|Nx<|Sq<|Sr<|Qs 1 r<|Nx<|Ju [] (fun _=>[]) r1 (?_) fun T3=>?_
  ·refine Wb<|Lu [0] (fun T=>[(3, iv T)]) r1 fun S1=>Sq<|Sr<|Qs 2 r<|Yo (Ln ke24 (Bc Z0) r)<|Qs 1 r<|Nx<|Wc r (fun H5=>?_) fun H5=>?_
   ·refine Sn<|Sq<|Wb<|Sq<|Jv [0,3] (fun T=>[(32, .bool T)]) r1 (?_) fun T6=>?_
    ·refine Dr [] r hMix<|Aq [0,1] [] r<|Ai fun E8 H9=>Ay 2 [] r (Ix ke24 (Bc Z0) H9 r)<|Ay 3 [] r (Le kk72 (Bc Z0) H9 r)<|Ai fun R10 H11=>A1 4<|Xe [] r (Cl [] spec_l9Ent_c H11 r r1) fun _=>Aq [5,6] [] r<|Ia (fun H13=>Ax [7,8,9] [] (beq_tf H13) r r<|Au [10,11,12,13,14,15,16,17,18,19,20] [] r r<|Ax [21] [] (beq_tf H13) r r<|Ay 22 [] r (Pt H13 r)<|Az<|Bg () []) fun H13=>Ag 7 [] (gdA (beq_ff H13)) r (Y.move r)<|Ag 8 [] (gdA (beq_ff H13)) r (Y.gtr r r)<|Ag 9 [] (gdA (beq_ff H13)) r (Y.move r)<|Ia (fun H14=>?_) fun H14=>?_
     ·refine Ag 10 [] (gdA (beq_tt H14)) r (Y.move r)<|Ag 11 [] (gdA (beq_tt H14)) r (Y.move r)<|Ag 12 [] (gdA (beq_tt H14)) r (Y.sub r r)<|Ai fun E15 H16=>Ag 13 [] (gdA (beq_tt H14)) r (Ix ke24 (Bc Z0) H16 r)<|Ag 14 [] (gdA (beq_tt H14)) r (Le kk72 (Bc Z0) H16 r)<|Ag 15 [] (gdA (beq_tt H14)) r (Y.move r)<|Ag 16 [] (gdA (beq_tt H14)) r (Y.move r)<|Ag 17 [] (gdA (beq_tt H14)) r (Ix ke24 (Bc Z0) H9 r)<|Ag 18 [] (gdA (beq_tt H14)) r (Le kk72 (Bc Z0) H9 r)<|Ai fun R17 H18=>A1 19<|Xeg [] (gdA (beq_tt H14)) r (Cl [] spec_l9Ahead_c H18 r r1) fun _=>?_
      exact Ag 20 [] (gdA (beq_tt H14)) r (Y.not r)<|Ag 21 [] (gdA (beq_ff H13)) r (Pt H14 r)<|Ay 22 [] r (Pf H13 r)<|Az<|Bg () []
     exact Ax [10,11,12,13,14,15,16,17,18,19,20] [] (beq_ft H14) r r<|Ag 21 [] (gdA (beq_ff H13)) r (Pf H14 r)<|Ay 22 [] r (Pf H13 r)<|Az<|Bg () []
    exact Ne<|Wc r (fun H20=>Sr<|Qs 1 r<|Nx<|Wr<|Br<|Tr<|Er<|Br<|Jd<|Tr<|Re () []) fun H20=>Sk<|Bn<|Ne<|Rg<|Qs 3 r<|Nl<|Lg () []
   exact Wx<|Tx<|Ex<|Be<|Jg () []
  exact Ne<|Sr<|Qs 1 r<|Nx<|Wr<|Re () []
noncomputable def spec_MemOk (l : List Ent) : Option Bool :=
  (if (decide (((l.length : Nat) : Int) ≤ (60 : Int))) = true then ((spec_l9Ents l).bind fun R4 =>
  some R4)
  else (some false)).bind (fun (T1 : Bool) =>
  some T1)
theorem spec_MemOk_c {l : List Ent} {U0 : Value} : Cn Tryz.prog 32 [U0] [] [(U0, lc l)] (spec_MemOk l) (fun r (_ : Unit) => .bool r) fun _ _ => [] := by
  unfold spec_MemOk
  refine Ci Tryz.func32 r r ?_
  rintro w S ⟨Z0,-⟩
  refine Sr<|Qs 1 r<|Nx<|Sq<|Jv [] (fun T=>[(2, .bool T)]) r1 (?_) fun T1=>?_
  ·exact Rg<|Qs 1 r<|Yo (Ln ke24 (Bc Z0) r)<|Qs 2 r<|It (fun H3=>Qg 1 (beq_tt H3) r r<|Bi fun R4 H5=>Fg (gdA (beq_tt H3)) (Cl [] spec_l9Ents_c H5 r r1 ⟨(Bc Z0),⟨⟩⟩) fun _=>Yo (Pt H3 r)<|Qs 1 r<|Nl<|Bg () []) fun H3=>Of 2 (beq_ft H3) r r<|Yo (Pf H3 r)<|Qs 1 r<|Nl<|Bg () []
  exact Ne<|Wr<|Re () []
noncomputable def spec_l20Bounds (l : List Ent) : Option (Int × Int) :=
  bindC (loopO (fun (S1 : Int × Int × Int) => if (decide (S1.2.2 < ((l.length : Nat) : Int))) = true then ((idx l S1.2.2).bind fun E6 =>
  bindC (if (decide (E6.Seq < S1.1)) = true then (some (.go E6.Seq))
  else (some (.go S1.1)))
  (fun (T8 : Int) => bindC (if (decide (E6.Seq > S1.2.1)) = true then (some (.go E6.Seq))
  else (some (.go S1.2.1)))
  (fun (T11 : Int) => some (.go (T8, T11, IntKind.i64.wrap (S1.2.2 + (1 : Int)))))))
  else (some (.done (.go (S1.1, S1.2.1)))))
  ((1000001 : Int), (-1 : Int), (0 : Int)))
  (fun (T3 : Int × Int) => some (T3.1, T3.2))
theorem spec_l20Bounds_c {l : List Ent} {U0 : Value} : Cn Tryz.prog 34 [U0] [] [(U0, lc l)] (spec_l20Bounds l) (fun r (_ : Unit) => .tuple #[iv r.1, iv r.2]) fun _ _ => [] := by
  unfold spec_l20Bounds
  refine Ci Tryz.func34 r r ?_
  rintro w S ⟨Z0,-⟩
  refine Sr<|Qs 2 r<|Nx<|Sr<|Qs 1 r<|Nx<|Sr<|Qs 1 r<|Nx<|Sq<|Sr<|Qs 1 r<|Nx<|Ju [] (fun T=>[(4, iv T.1), (5, iv T.2)]) r1 (?_) fun T3=>?_
  ·refine Wb<|Lu [0] (fun T=>[(4, iv T.1), (5, iv T.2.1), (6, iv T.2.2)]) r1 fun S1=>Sq<|Sr<|Qs 2 r<|Yo (Ln ke24 (Bc Z0) r)<|Qs 1 r<|Nx<|Wc r (fun H5=>?_) fun H5=>?_
   ·refine Sn<|Sq<|Wb<|Sq<|Sr<|Qs 2 r<|Bi fun E6 H7=>Yo (Ix ke24 (Bc Z0) H7 r)<|Yo (Fe kf72_1 (Bc Z0) H7 r)<|Yo (Le kk3 (Bc Z0) H7 r)<|Qs 2 r<|Nx<|Ju [0,5,6] (fun T=>[(4, iv T)]) r1 (Wc r (fun H10=>Rg<|Qs 2 r<|Yo (Ix ke24 (Bc Z0) H7 r)<|Yo (Fe kf72_1 (Bc Z0) H7 r)<|Yo (Le kk3 (Bc Z0) H7 r)<|Qs 1 r<|Nl<|Jg () []) fun H10=>Sk<|Jg () []) fun T8=>Ne<|Sr<|Qs 2 r<|Yo (Ix ke24 (Bc Z0) H7 r)<|Yo (Fe kf72_1 (Bc Z0) H7 r)<|Yo (Le kk3 (Bc Z0) H7 r)<|Qs 2 r<|Nx<|Ju [0,4,6] (fun T=>[(5, iv T)]) r1 (Wc r (fun H13=>Rg<|Qs 2 r<|Yo (Ix ke24 (Bc Z0) H7 r)<|Yo (Fe kf72_1 (Bc Z0) H7 r)<|Yo (Le kk3 (Bc Z0) H7 r)<|Qs 1 r<|Nl<|Jg () []) fun H13=>Sk<|Jg () []) fun T11=>?_
    exact Bn<|Ne<|Rg<|Qs 3 r<|Nl<|Lg () []
   exact Wx<|Tx<|Ex<|Be<|Jg () []
  exact Ne<|Sr<|Qs 4 r<|Nx<|Wr<|Re () []
noncomputable def spec_EngOk (e : Eng) : Option Bool :=
  ((spec_MemOk e.Mem).bind fun R4 =>
  if (!R4) = true then (some true)
  else (if (decide (((e.Tables.length : Nat) : Int) > (6 : Int))) = true then (some true)
  else ((spec_l1In e.Seq (0 : Int) (1000000 : Int)).bind fun R9 =>
  if (!R9) = true then (some true)
  else (some (decide (((e.Snaps.length : Nat) : Int) > (4 : Int))))))).bind (fun (T2 : Bool) =>
  if T2 = true then (some false)
  else ((spec_l20Bounds e.Mem).bind fun R14 =>
  if (decide (R14.2 > e.Seq)) = true then (some false)
  else (bindC (loopO (fun (S18 : Int × Int × Int) => if (decide (S18.2.2 < ((e.Tables.length : Nat) : Int))) = true then ((idx e.Tables S18.2.2).bind fun E23 =>
  (spec_l20Bounds E23).bind fun R26 =>
  (if (decide (((E23.length : Nat) : Int) = (0 : Int))) = true then (some true)
  else ((spec_l9Ents E23).bind fun R32 =>
  if (!R32) = true then (some true)
  else (if (decide (R26.2 ≥ S18.1)) = true then (some true)
  else (some (decide (R26.2 > e.Seq)))))).bind (fun (T29 : Bool) =>
  if T29 = true then (some (.done (.done false)))
  else (some (.go (R26.1, IntKind.i64.wrap (S18.2.1 + ((E23.length : Nat) : Int)), IntKind.i64.wrap (S18.2.2 + (1 : Int)))))))
  else (some (.done (.go S18.2.1))))
  (R14.1, ((e.Mem.length : Nat) : Int), (0 : Int)))
  (fun (T20 : Int) => bindC (loopO (fun (S38 : Int) => if (decide (S38 < ((e.Snaps.length : Nat) : Int))) = true then (((idx e.Snaps S38).bind fun E45 =>
  (spec_l1In E45 (0 : Int) e.Seq).bind fun R47 =>
  if (!R47) = true then (some true)
  else (if (decide (S38 > (0 : Int))) = true then ((idx e.Snaps (IntKind.i64.wrap (S38 - (1 : Int)))).bind fun E52 =>
  some (decide (E52 ≥ E45)))
  else (some false))).bind (fun (T43 : Bool) =>
  if T43 = true then (some (.done (.done false)))
  else (some (.go (IntKind.i64.wrap (S38 + (1 : Int)))))))
  else (some (.done (.go ()))))
  (0 : Int))
  (fun (T40 : Unit) => some (decide (T20 ≤ (400 : Int))))))))
theorem spec_EngOk_c {e : Eng} {U0 U1 U2 : Value} : Cn Tryz.prog 14 [.agg #[U0, U1, iv e.Seq, U2]] [] [(U0, lc e.Mem), (U1, lc e.Tables), (U2, lc e.Snaps)] (spec_EngOk e) (fun r (_ : Unit) => .bool r) fun _ _ => [] := by
  unfold spec_EngOk
  refine Ci Tryz.func14 r r ?_
  rintro w S ⟨Z0,Z1,Z2,-⟩
  refine Sr<|Fo (Bx r (Ca ⟨Ob Z0,Ob Z1,Op',Ob Z2,⟨⟩⟩)) fun B1=>Qs 1 r<|Nx<|Sq<|Sq<|Jv [1] (fun T=>[(32, .bool T)]) r1 (?_) fun T2=>?_
  ·refine Rg<|Yo (Fb kf28_0 r)<|Yo (Lb 0 kk24 r)<|Bi fun R4 H5=>Fo (Cl [] spec_MemOk_c H5 r r1 ⟨(Bc Z0),⟨⟩⟩) fun _=>Qs 2 r<|It (fun H7=>Of 4 (beq_tf H7) r r<|Yo (Pt H7 r)<|Qs 1 r<|Of 4 r r r<|Yo (Pt r r)<|Qs 1 r<|Of 4 r r r<|Yo (Pt r r)<|Nl<|Bg () [0]) fun H7=>Yg (gdA (beq_ff H7)) (Fb kf28_1 r)<|Yg (gdA (beq_ff H7)) (Lb 0 kk25 r)<|Yg (gdA (beq_ff H7)) (Ln ke25 (Bc Z1) r)<|Qg 1 (beq_ff H7) r r<|Yo (Pf H7 r)<|Qs 1 r<|It (fun H8=>Of 4 (beq_tf H8) r r<|Yo (Pt H8 r)<|Qs 1 r<|Of 4 r r r<|Yo (Pt r r)<|Nl<|Bg () [0]) fun H8=>Yg (gdA (beq_ff H8)) (Fb kf28_2 r)<|Yg (gdA (beq_ff H8)) (Lb 0 kk3 r)<|Bi fun R9 H10=>?_
   exact Fg (gdA (beq_ff H8)) (Cl [] spec_l1In_c H10 r r1) fun _=>Qg 1 (beq_ff H8) r r<|Yo (Pf H8 r)<|Qs 1 r<|It (fun H12=>Of 4 (beq_tf H12) r r<|Yo (Pt H12 r)<|Nl<|Bg () [0]) fun H12=>Yg (gdA (beq_ff H12)) (Fb kf28_3 r)<|Yg (gdA (beq_ff H12)) (Lb 0 kk26 r)<|Yg (gdA (beq_ff H12)) (Ln ke26 (Bc Z2) r)<|Qg 1 (beq_ff H12) r r<|Yo (Pf H12 r)<|Nl<|Bg () [0]
  refine Ne<|Wc r (fun H13=>Sr<|Qs 1 r<|Nx<|Wr<|Tr<|Re () []) fun H13=>Sn<|Sr<|Yo (Fb kf28_0 r)<|Yo (Lb 0 kk24 r)<|Bi fun R14 H15=>Fo (Cl [] spec_l20Bounds_c H15 r r1 ⟨(Bc Z0),⟨⟩⟩) fun _=>Qs 5 r<|Nx<|Sq<|Sr<|Qs 1 r<|Yo (Fb kf28_2 r)<|Yo (Lb 0 kk3 r)<|Qs 1 r<|Nx<|Wc r (fun H17=>Sr<|Qs 1 r<|Nx<|Wr<|Tr<|Re () []) fun H17=>Sn<|Sr<|Yo (Fb kf28_0 r)<|Yo (Lb 0 kk24 r)<|Yo (Ln ke24 (Bc Z0) r)<|Qs 1 r<|Nx<|Sq<|Sr<|Qs 1 r<|Nx<|Ju [1] (fun T=>[(5, iv T)]) r1 (?_) fun T20=>?_
  ·refine Wb<|Lu [1] (fun T=>[(3, iv T.1), (5, iv T.2.1), (6, iv T.2.2)]) r1 fun S18=>Sq<|Sr<|Qs 1 r<|Yo (Fb kf28_1 r)<|Yo (Lb 0 kk25 r)<|Yo (Ln ke25 (Bc Z1) r)<|Qs 1 r<|Nx<|Wc r (fun H22=>?_) fun H22=>?_
   ·refine Sn<|Sq<|Wb<|Sr<|Yo (Fb kf28_1 r)<|Yo (Lb 0 kk25 r)<|Qs 1 r<|Bi fun E23 H24=>Yo (Ix ke25 (Bc Z1) H24 r)<|?_
    have Q25 : Base w S (elv w U1 (S18.2.2.toNat * 1 + 0)) (lc E23):=Base.el Z1 (idx_get H24).2.2 r r
    refine Yo (Lz kk24 Z1 H24 r)<|Qs 1 r<|Nx<|Sr<|Qs 1 r<|Bi fun R26 H27=>Fo (Cl [] spec_l20Bounds_c H27 r r1 ⟨(Bc Q25),⟨⟩⟩) fun _=>Qs 5 r<|Nx<|Sq<|Sq<|Jv [1,5,6,7,8] (fun T=>[(81, .bool T)]) r1 (?_) fun T29=>?_
    ·refine Rg<|Qs 1 r<|Yo (Ln ke24 (Bc Q25) r)<|Qs 2 r<|It (fun H31=>Of 3 (beq_tf H31) r r<|Yo (Pt H31 r)<|Qs 1 r<|Of 3 r r r<|Yo (Pt r r)<|Qs 1 r<|Of 4 r r r<|Yo (Pt r r)<|Nl<|Bg () [0]) fun H31=>Qg 1 (beq_ff H31) r r<|Bi fun R32 H33=>Fg (gdA (beq_ff H31)) (Cl [] spec_l9Ents_c H33 r r1 ⟨(Bc Q25),⟨⟩⟩) fun _=>Qg 1 (beq_ff H31) r r<|Yo (Pf H31 r)<|Qs 1 r<|It (fun H35=>Of 3 (beq_tf H35) r r<|Yo (Pt H35 r)<|Qs 1 r<|Of 4 r r r<|Yo (Pt r r)<|Nl<|Bg () [0]) fun H35=>Qg 3 (beq_ff H35) r r<|Yo (Pf H35 r)<|Qs 1 r<|It (fun H36=>Of 4 (beq_tf H36) r r<|Yo (Pt H36 r)<|Nl<|Bg () [0]) fun H36=>?_
     exact Qg 1 (beq_ff H36) r r<|Yg (gdA (beq_ff H36)) (Fb kf28_2 r)<|Yg (gdA (beq_ff H36)) (Lb 0 kk3 r)<|Qg 1 (beq_ff H36) r r<|Yo (Pf H36 r)<|Nl<|Bg () [0]
    exact Ne<|Wc r (fun H37=>Sr<|Qs 1 r<|Nx<|Wr<|Tr<|Br<|Tr<|Er<|Br<|Jd<|Tr<|Re () []) fun H37=>Sn<|Sr<|Qs 2 r<|Nx<|Rg<|Qs 2 r<|Yo (Ln ke24 (Bc Q25) r)<|Qs 2 r<|Nl<|Bn<|Ne<|Rg<|Qs 3 r<|Nl<|Lg () [0]
   exact Wx<|Tx<|Ex<|Be<|Jg () [0]
  refine Ne<|Sq<|Sr<|Qs 1 r<|Nx<|Jn Unit [5] [] (fun _ _=>[]) (fun _ _=>[]) r2 r2 (?_) fun T40 X41=>?_
  ·refine Wb<|Lu [1,5] (fun T=>[(10, iv T)]) r1 fun S38=>Sq<|Sr<|Qs 1 r<|Yo (Fb kf28_3 r)<|Yo (Lb 0 kk26 r)<|Yo (Ln ke26 (Bc Z2) r)<|Qs 1 r<|Nx<|Wc r (fun H42=>?_) fun H42=>?_
   ·refine Sn<|Sq<|Wb<|Sq<|Jv [1,5,10] (fun T=>[(120, .bool T)]) r1 (?_) fun T43=>?_
    ·refine Dr [0] r hMix<|Ay 0 [0] r (Fb kf28_3 r)<|Ay 1 [0] r (Lb 0 kk26 r)<|Aq [2] [0] r<|Ai fun E45 H46=>Ay 3 [0] r (Ix ke26 (Bc Z2) H46 r)<|Ay 4 [0] r (Le kk3 (Bc Z2) H46 r)<|Ay 5 [0] r (Fb kf28_2 r)<|Ay 6 [0] r (Lb 0 kk3 r)<|Ai fun R47 H48=>A1 7<|Xe [0] r (Cl [] spec_l1In_c H48 r r1) fun _=>Aq [8,9] [0] r<|Ia (fun H50=>Ax [10,11,12] [0] (beq_tf H50) r r<|Au [13,14,15,16,17,18,19,20,21,22,23,24] [0] r r<|Ax [25] [0] (beq_tf H50) r r<|Ay 26 [0] r (Pt H50 r)<|Az<|Bg () [0]) fun H50=>Ag 10 [0] (gdA (beq_ff H50)) r (Y.move r)<|Ag 11 [0] (gdA (beq_ff H50)) r (Y.gtr r r)<|Ag 12 [0] (gdA (beq_ff H50)) r (Y.move r)<|Ia (fun H51=>?_) fun H51=>?_
     ·exact Ag 13 [0] (gdA (beq_tt H51)) r (Fb kf28_3 r)<|Ag 14 [0] (gdA (beq_tt H51)) r (Lb 0 kk26 r)<|Ag 15 [0] (gdA (beq_tt H51)) r (Y.move r)<|Ag 16 [0] (gdA (beq_tt H51)) r (Y.sub r r)<|Ai fun E52 H53=>Ag 17 [0] (gdA (beq_tt H51)) r (Ix ke26 (Bc Z2) H53 r)<|Ag 18 [0] (gdA (beq_tt H51)) r (Le kk3 (Bc Z2) H53 r)<|Ag 19 [0] (gdA (beq_tt H51)) r (Fb kf28_3 r)<|Ag 20 [0] (gdA (beq_tt H51)) r (Lb 0 kk26 r)<|Ag 21 [0] (gdA (beq_tt H51)) r (Y.move r)<|Ag 22 [0] (gdA (beq_tt H51)) r (Ix ke26 (Bc Z2) H46 r)<|Ag 23 [0] (gdA (beq_tt H51)) r (Le kk3 (Bc Z2) H46 r)<|Ag 24 [0] (gdA (beq_tt H51)) r (Y.geq r r)<|Ag 25 [0] (gdA (beq_ff H50)) r (Pt H51 r)<|Ay 26 [0] r (Pf H50 r)<|Az<|Bg () [0]
     exact Ax [13,14,15,16,17,18,19,20,21,22,23,24] [0] (beq_ft H51) r r<|Ag 25 [0] (gdA (beq_ff H50)) r (Pf H51 r)<|Ay 26 [0] r (Pf H50 r)<|Az<|Bg () [0]
    exact Ne<|Wc r (fun H54=>Sr<|Qs 1 r<|Nx<|Wr<|Br<|Tr<|Er<|Br<|Jd<|Tr<|Re () []) fun H54=>Sk<|Bn<|Ne<|Rg<|Qs 3 r<|Nl<|Lg () [0]
   exact Wx<|Tx<|Ex<|Be<|Jg () []
  exact Ne<|Sr<|Qs 3 r<|Nx<|Wr<|Re () []
noncomputable def spec_l20Copy (e : Eng) : Option Eng :=
  (app 48 ([] : List Ent) e.Mem).bind fun E7 =>
  (app 8 ([] : List Int) e.Snaps).bind fun E14 =>
  bindC (loopO (fun (S24 : Int × List (List Ent)) => if (decide (S24.1 < ((e.Tables.length : Nat) : Int))) = true then ((idx e.Tables S24.1).bind fun E29 =>
  (app 48 ([] : List Ent) E29).bind fun E35 =>
  (app 24 S24.2 ([E35])).bind fun E39 =>
  some (.go (IntKind.i64.wrap (S24.1 + (1 : Int)), E39)))
  else (some (.done (.go S24.2))))
  ((0 : Int), ([] : List (List Ent))))
  (fun (T26 : List (List Ent)) => some ({ Mem := E7, Tables := T26, Seq := e.Seq, Snaps := E14 : Eng }))
theorem spec_l20Copy_c {e : Eng} {U0 U1 U2 : Value} : Cn Tryz.prog 84 [.agg #[U0, U1, iv e.Seq, U2]] [] [(U0, lc e.Mem), (U1, lc e.Tables), (U2, lc e.Snaps)] (spec_l20Copy e) (fun r (X : Value × Value × Value) => .agg #[X.1, X.2.1, iv r.Seq, X.2.2]) fun r X => [.own X.1 (lc r.Mem), .own X.2.1 (lc r.Tables), .own X.2.2 (lc r.Snaps)] := by
  unfold spec_l20Copy
  refine Ci Tryz.func84 r r ?_
  rintro w S ⟨Z0,Z1,Z2,-⟩
  refine Sr<|Fo (Bx r (Ca ⟨Ob Z0,Ob Z1,Op',Ob Z2,⟨⟩⟩)) fun B1=>Fo (Al kz28 r) fun B2=>Nx<|Sq<|Wi fun E7 H8=>Wi fun E14 H15=>Jw (Nat × Value × Value) [1,2] [1,0] (fun X=>[(3, pt X.1)]) (fun X=>[.box X.1 28 [X.2.1, .slice none 0 0, iv e.Seq, X.2.2], .own X.2.1 (lc E7), .own X.2.2 (lc E14)]) r1 r1 (?_) fun X20=>?_
  ·refine Dr [0,0] r hMix<|Ay 1 [0,0] r (Fb kf28_0 r)<|Ay 2 [0,0] r (Lb 1 kk24 r)<|Ay 4 [0,0] r (Fb kf28_2 r)<|Ay 5 [0,0] r (Lb 1 kk3 r)<|Ay 7 [0,0] r (Fb kf28_3 r)<|Ay 8 [0,0] r (Lb 1 kk26 r)<|A3 0 6 11 (?_) (?_)<|?_
   ·refine Xe [1,1] r (Bs ([] : List Ent) ke24 kz72) fun B21=>A3 3 6 11 (?_) (?_)<|?_
    ·refine Xe [1,1] r (Ap [0] H8 ke24 kz72 r (Bc Z0)) fun V24=>A2 6 11 (?_)<|?_
     ·refine Xe [2,2] r (Bs ([] : List Int) ke26 kz3) fun B27=>A2 9 11 (?_)<|?_
      ·exact Xe [2,2] r (Ap [0] H15 ke26 kz3 r (Bc Z2)) fun V29=>A2 10 11 (Xy [2,2] r (Bd kp28 kz28 (Pc r (Co 1)<|Pc r (Cp r)<|Pc r (Co 0)<|Pz) r)<|A1 11<|Xe [3,3] r (Al kz28 r) fun B32=>A1 12<|Xu [3,3] r (Sb 0 kk28 r (Ca ⟨Ow' 2,Op',Op',Ow' 1,⟨⟩⟩) r)<|Az<|Bg (B32, V24, V29) [4,3,0,1,0])<|Xe [3,3] r (Al kz28 r) fun B31=>A1 10<|Xy [3,3] r (Bd kp28 kz28 (Pc r (Co 2)<|Pc r (Cp r)<|Pc r (Co 1)<|Pz) r)<|A1 12<|Xu [3,3] r (Sb 0 kk28 r (Ca ⟨Ow' 2,Op',Op',Ow' 1,⟨⟩⟩) r)<|Az<|Bg (B31, V24, V29) [4,3,0,1,0]
      exact Xe [3,3] r (Al kz28 r) fun B30=>A1 9<|Xe [3,3] r (Ap [1] H15 ke26 kz3 r (Bc Z2)) fun V31=>A1 10<|Xy [3,3] r (Bd kp28 kz28 (Pc r (Co 2)<|Pc r (Cp r)<|Pc r (Co 0)<|Pz) r)<|A1 12<|Xu [3,3] r (Sb 1 kk28 r (Ca ⟨Ow' 2,Op',Op',Ow' 0,⟨⟩⟩) r)<|Az<|Bg (B30, V24, V31) [4,3,1,1,0]
     exact Xe [2,2] r (Al kz28 r) fun B28=>A1 6<|Xe [3,3] r (Bs ([] : List Int) ke26 kz3) fun B29=>A1 9<|Xe [3,3] r (Ap [0] H15 ke26 kz3 r (Bc Z2)) fun V30=>A1 10<|Xy [3,3] r (Bd kp28 kz28 (Pc r (Co 2)<|Pc r (Cp r)<|Pc r (Co 0)<|Pz) r)<|A1 12<|Xu [3,3] r (Sb 1 kk28 r (Ca ⟨Ow' 2,Op',Op',Ow' 0,⟨⟩⟩) r)<|Az<|Bg (B28, V24, V30) [4,3,1,1,0]
    ·refine Xe [2,2] r (Bs ([] : List Int) ke26 kz3) fun B25=>A2 3 11 (?_)<|?_
     ·refine Xe [2,2] r (Ap [1] H8 ke24 kz72 r (Bc Z0)) fun V27=>A2 9 11 (?_)<|?_
      ·exact Xe [2,2] r (Ap [1] H15 ke26 kz3 r (Bc Z2)) fun V29=>A2 10 11 (Xy [2,2] r (Bd kp28 kz28 (Pc r (Co 1)<|Pc r (Cp r)<|Pc r (Co 0)<|Pz) r)<|A1 11<|Xe [3,3] r (Al kz28 r) fun B32=>A1 12<|Xu [3,3] r (Sb 0 kk28 r (Ca ⟨Ow' 2,Op',Op',Ow' 1,⟨⟩⟩) r)<|Az<|Bg (B32, V27, V29) [4,3,0,1,0])<|Xe [3,3] r (Al kz28 r) fun B31=>A1 10<|Xy [3,3] r (Bd kp28 kz28 (Pc r (Co 2)<|Pc r (Cp r)<|Pc r (Co 1)<|Pz) r)<|A1 12<|Xu [3,3] r (Sb 0 kk28 r (Ca ⟨Ow' 2,Op',Op',Ow' 1,⟨⟩⟩) r)<|Az<|Bg (B31, V27, V29) [4,3,0,1,0]
      exact Xe [3,3] r (Al kz28 r) fun B30=>A1 9<|Xe [3,3] r (Ap [2] H15 ke26 kz3 r (Bc Z2)) fun V31=>A1 10<|Xy [3,3] r (Bd kp28 kz28 (Pc r (Co 2)<|Pc r (Cp r)<|Pc r (Co 0)<|Pz) r)<|A1 12<|Xu [3,3] r (Sb 1 kk28 r (Ca ⟨Ow' 2,Op',Op',Ow' 0,⟨⟩⟩) r)<|Az<|Bg (B30, V27, V31) [4,3,1,1,0]
     exact Xe [3,3] r (Al kz28 r) fun B28=>A1 3<|Xe [3,3] r (Ap [2] H8 ke24 kz72 r (Bc Z0)) fun V29=>A1 9<|Xe [3,3] r (Ap [2] H15 ke26 kz3 r (Bc Z2)) fun V30=>A1 10<|Xy [3,3] r (Bd kp28 kz28 (Pc r (Co 1)<|Pc r (Cp r)<|Pc r (Co 0)<|Pz) r)<|A1 12<|Xu [3,3] r (Sb 2 kk28 r (Ca ⟨Ow' 1,Op',Op',Ow' 0,⟨⟩⟩) r)<|Az<|Bg (B28, V29, V30) [4,3,2,1,0]
    refine Xe [2,2] r (Al kz28 r) fun B26=>A2 3 6 (?_)<|?_
    ·exact Xe [2,2] r (Ap [1] H8 ke24 kz72 r (Bc Z0)) fun V27=>A1 6<|Xe [3,3] r (Bs ([] : List Int) ke26 kz3) fun B29=>A1 9<|Xe [3,3] r (Ap [0] H15 ke26 kz3 r (Bc Z2)) fun V30=>A1 10<|Xy [3,3] r (Bd kp28 kz28 (Pc r (Co 1)<|Pc r (Cp r)<|Pc r (Co 0)<|Pz) r)<|A1 12<|Xu [3,3] r (Sb 2 kk28 r (Ca ⟨Ow' 1,Op',Op',Ow' 0,⟨⟩⟩) r)<|Az<|Bg (B26, V27, V30) [4,3,2,1,0]
    exact Xe [3,3] r (Bs ([] : List Int) ke26 kz3) fun B28=>A1 3<|Xe [3,3] r (Ap [2] H8 ke24 kz72 r (Bc Z0)) fun V29=>A1 9<|Xe [3,3] r (Ap [1] H15 ke26 kz3 r (Bc Z2)) fun V30=>A1 10<|Xy [3,3] r (Bd kp28 kz28 (Pc r (Co 1)<|Pc r (Cp r)<|Pc r (Co 0)<|Pz) r)<|A1 12<|Xu [3,3] r (Sb 2 kk28 r (Ca ⟨Ow' 1,Op',Op',Ow' 0,⟨⟩⟩) r)<|Az<|Bg (B26, V29, V30) [4,3,2,1,0]
   ·refine Xe [1,1] r (Bs ([] : List Int) ke26 kz3) fun B22=>A2 0 11 (?_)<|?_
    ·refine Xe [2,2] r (Bs ([] : List Ent) ke24 kz72) fun B24=>A2 3 11 (?_)<|?_
     ·refine Xe [2,2] r (Ap [0] H8 ke24 kz72 r (Bc Z0)) fun V26=>A2 9 11 (?_)<|?_
      ·exact Xe [2,2] r (Ap [1] H15 ke26 kz3 r (Bc Z2)) fun V28=>A2 10 11 (Xy [2,2] r (Bd kp28 kz28 (Pc r (Co 1)<|Pc r (Cp r)<|Pc r (Co 0)<|Pz) r)<|A1 11<|Xe [3,3] r (Al kz28 r) fun B31=>A1 12<|Xu [3,3] r (Sb 0 kk28 r (Ca ⟨Ow' 2,Op',Op',Ow' 1,⟨⟩⟩) r)<|Az<|Bg (B31, V26, V28) [4,3,0,1,0])<|Xe [3,3] r (Al kz28 r) fun B30=>A1 10<|Xy [3,3] r (Bd kp28 kz28 (Pc r (Co 2)<|Pc r (Cp r)<|Pc r (Co 1)<|Pz) r)<|A1 12<|Xu [3,3] r (Sb 0 kk28 r (Ca ⟨Ow' 2,Op',Op',Ow' 1,⟨⟩⟩) r)<|Az<|Bg (B30, V26, V28) [4,3,0,1,0]
      exact Xe [3,3] r (Al kz28 r) fun B29=>A1 9<|Xe [3,3] r (Ap [2] H15 ke26 kz3 r (Bc Z2)) fun V30=>A1 10<|Xy [3,3] r (Bd kp28 kz28 (Pc r (Co 2)<|Pc r (Cp r)<|Pc r (Co 0)<|Pz) r)<|A1 12<|Xu [3,3] r (Sb 1 kk28 r (Ca ⟨Ow' 2,Op',Op',Ow' 0,⟨⟩⟩) r)<|Az<|Bg (B29, V26, V30) [4,3,1,1,0]
     exact Xe [3,3] r (Al kz28 r) fun B27=>A1 3<|Xe [3,3] r (Ap [1] H8 ke24 kz72 r (Bc Z0)) fun V28=>A1 9<|Xe [3,3] r (Ap [2] H15 ke26 kz3 r (Bc Z2)) fun V29=>A1 10<|Xy [3,3] r (Bd kp28 kz28 (Pc r (Co 1)<|Pc r (Cp r)<|Pc r (Co 0)<|Pz) r)<|A1 12<|Xu [3,3] r (Sb 2 kk28 r (Ca ⟨Ow' 1,Op',Op',Ow' 0,⟨⟩⟩) r)<|Az<|Bg (B27, V28, V29) [4,3,2,1,0]
    exact Xe [2,2] r (Al kz28 r) fun B25=>A1 0<|Xe [3,3] r (Bs ([] : List Ent) ke24 kz72) fun B26=>A1 3<|Xe [3,3] r (Ap [0] H8 ke24 kz72 r (Bc Z0)) fun V27=>A1 9<|Xe [3,3] r (Ap [2] H15 ke26 kz3 r (Bc Z2)) fun V28=>A1 10<|Xy [3,3] r (Bd kp28 kz28 (Pc r (Co 1)<|Pc r (Cp r)<|Pc r (Co 0)<|Pz) r)<|A1 12<|Xu [3,3] r (Sb 2 kk28 r (Ca ⟨Ow' 1,Op',Op',Ow' 0,⟨⟩⟩) r)<|Az<|Bg (B25, V27, V28) [4,3,2,1,0]
   refine Xe [1,1] r (Al kz28 r) fun B23=>A2 0 6 (?_)<|?_
   ·refine Xe [2,2] r (Bs ([] : List Ent) ke24 kz72) fun B24=>A2 3 6 (?_)<|?_
    ·exact Xe [2,2] r (Ap [0] H8 ke24 kz72 r (Bc Z0)) fun V26=>A1 6<|Xe [3,3] r (Bs ([] : List Int) ke26 kz3) fun B28=>A1 9<|Xe [3,3] r (Ap [0] H15 ke26 kz3 r (Bc Z2)) fun V29=>A1 10<|Xy [3,3] r (Bd kp28 kz28 (Pc r (Co 1)<|Pc r (Cp r)<|Pc r (Co 0)<|Pz) r)<|A1 12<|Xu [3,3] r (Sb 2 kk28 r (Ca ⟨Ow' 1,Op',Op',Ow' 0,⟨⟩⟩) r)<|Az<|Bg (B23, V26, V29) [4,3,2,1,0]
    exact Xe [3,3] r (Bs ([] : List Int) ke26 kz3) fun B27=>A1 3<|Xe [3,3] r (Ap [1] H8 ke24 kz72 r (Bc Z0)) fun V28=>A1 9<|Xe [3,3] r (Ap [1] H15 ke26 kz3 r (Bc Z2)) fun V29=>A1 10<|Xy [3,3] r (Bd kp28 kz28 (Pc r (Co 1)<|Pc r (Cp r)<|Pc r (Co 0)<|Pz) r)<|A1 12<|Xu [3,3] r (Sb 2 kk28 r (Ca ⟨Ow' 1,Op',Op',Ow' 0,⟨⟩⟩) r)<|Az<|Bg (B23, V28, V29) [4,3,2,1,0]
   exact Xe [2,2] r (Bs ([] : List Int) ke26 kz3) fun B25=>A1 0<|Xe [3,3] r (Bs ([] : List Ent) ke24 kz72) fun B26=>A1 3<|Xe [3,3] r (Ap [0] H8 ke24 kz72 r (Bc Z0)) fun V27=>A1 9<|Xe [3,3] r (Ap [1] H15 ke26 kz3 r (Bc Z2)) fun V28=>A1 10<|Xy [3,3] r (Bd kp28 kz28 (Pc r (Co 1)<|Pc r (Cp r)<|Pc r (Co 0)<|Pz) r)<|A1 12<|Xu [3,3] r (Sb 2 kk28 r (Ca ⟨Ow' 1,Op',Op',Ow' 0,⟨⟩⟩) r)<|Az<|Bg (B23, V27, V28) [4,3,2,1,0]
  refine Ne<|Sq<|Sr<|Qs 1 r<|Nx<|Jn Value [2,3] [1,2,2] (fun _ _=>[]) (fun T X=>[.box X20.1 28 [X20.2.1, X, iv e.Seq, X20.2.2], .own X (lc T)]) r2 r2 (?_) fun T26 X27=>?_
  ·refine Wb<|Nw 1<|Lp Value [1,2,3] [1,1,2,2] (fun T _=>[(4, iv T.1)]) (fun T X=>[.box X20.1 28 [X20.2.1, X, iv e.Seq, X20.2.2], .own X (lc T.2)]) (.slice none 0 0) [1,1,2,2,1,0] r2 r2 fun S24 X25=>Sq<|Sr<|Qs 1 r<|Yo (Fb kf28_1 r)<|Yo (Lb 0 kk25 r)<|Yo (Ln ke25 (Bc Z1) r)<|Qs 1 r<|Nx<|Wc r (fun H28=>?_) fun H28=>?_
   ·refine Sn<|Sq<|Wb<|Wi fun E29 H30=>Wi fun E35 H36=>Wi fun E39 H40=>Jw Value [1,2,3,4] [0,0,0,0] (fun _=>[]) (fun X=>[.box X20.1 28 [X20.2.1, X, iv e.Seq, X20.2.2], .own X (lc E39)]) r1 r1 (?_) fun X42=>?_
    ·refine Dr [0,0,0,0] r hMix<|Ay 0 [0,0,0,0] r (Fb kf28_1 r)<|Ay 3 [0,0,0,0] r (Fb kf28_1 r)<|Ay 4 [0,0,0,0] r (Lb 0 kk25 r)<|Aq [5] [0,0,0,0] r<|Ay 6 [0,0,0,0] r (Ix ke25 (Bc Z1) H30 r)<|?_
     have Q43 : Base w S (elv w U1 (S24.1.toNat * 1 + 0)) (lc E29):=Base.el Z1 (idx_get H30).2.2 r r
     refine Ay 7 [0,0,0,0] r (Lz kk24 Z1 H30 r)<|A2 1 2 (?_)<|?_
     ·exact Xy [0,0,0,0] r (Lb 4 kk25 r)<|A1 2<|Xe [1,1,1,1] r (Bs ([] : List Ent) ke24 kz72) fun B45=>A1 8<|Xe [1,1,1,1] r (Ap [0] H36 ke24 kz72 r (Bc Q43)) fun V46=>A1 9<|Xe [2,2,2,2] r (Bk [.raw V46] ke25 kz24 r (Qc (Co 0)<|Qz)) fun B47=>Ka (Ha [0, 0] ([E35] : List (List Ent)) r (Cf Cz))<|A1 10<|Xe [1,1,1,1] r (Aw [6, 0] H40 ke25 kz24 r) fun V48=>Ay 11 [1,1,1,1] r (Fb kf28_1 r)<|A1 12<|Xu [1,1,1,1] r (Sb 5 kk25 r (Co 0) r)<|Az<|Bg V48 [1,1,1,1,1,0]
     refine Xe [1,1,1,1] r (Bs ([] : List Ent) ke24 kz72) fun B44=>A2 1 8 (?_)<|?_
     ·exact Xy [1,1,1,1] r (Lb 5 kk25 r)<|A1 8<|Xe [1,1,1,1] r (Ap [0] H36 ke24 kz72 r (Bc Q43)) fun V46=>A1 9<|Xe [2,2,2,2] r (Bk [.raw V46] ke25 kz24 r (Qc (Co 0)<|Qz)) fun B47=>Ka (Ha [0, 0] ([E35] : List (List Ent)) r (Cf Cz))<|A1 10<|Xe [1,1,1,1] r (Aw [6, 0] H40 ke25 kz24 r) fun V48=>Ay 11 [1,1,1,1] r (Fb kf28_1 r)<|A1 12<|Xu [1,1,1,1] r (Sb 5 kk25 r (Co 0) r)<|Az<|Bg V48 [1,1,1,1,1,0]
     refine Xe [1,1,1,1] r (Ap [0] H36 ke24 kz72 r (Bc Q43)) fun V45=>A2 1 9 (?_)<|?_
     ·exact Xy [1,1,1,1] r (Lb 5 kk25 r)<|A1 9<|Xe [2,2,2,2] r (Bk [.raw V45] ke25 kz24 r (Qc (Co 0)<|Qz)) fun B47=>Ka (Ha [0, 0] ([E35] : List (List Ent)) r (Cf Cz))<|A1 10<|Xe [1,1,1,1] r (Aw [6, 0] H40 ke25 kz24 r) fun V48=>Ay 11 [1,1,1,1] r (Fb kf28_1 r)<|A1 12<|Xu [1,1,1,1] r (Sb 5 kk25 r (Co 0) r)<|Az<|Bg V48 [1,1,1,1,1,0]
     exact Xe [2,2,2,2] r (Bk [.raw V45] ke25 kz24 r (Qc (Co 0)<|Qz)) fun B46=>Ka (Ha [0, 0] ([E35] : List (List Ent)) r (Cf Cz))<|A1 1<|Xy [1,1,1,1] r (Lb 5 kk25 r)<|A1 10<|Xe [1,1,1,1] r (Aw [6, 0] H40 ke25 kz24 r) fun V47=>Ay 11 [1,1,1,1] r (Fb kf28_1 r)<|A1 12<|Xu [1,1,1,1] r (Sb 5 kk25 r (Co 0) r)<|Az<|Bg V47 [1,1,1,1,1,0]
    exact Bn<|Ne<|Rg<|Qs 3 r<|Nl<|Lg X42 [0,0,0,0,0,0]
   exact Wx<|Tx<|Ex<|Be<|Jg X25 [1,1,1,1,1]
  exact Ne<|Sr<|Yo (Lb 3 kk28 r)<|Fu (Sb 0 kk28 r (Ca ⟨Ow' 1,Ow' 4,Op',Ow' 2,⟨⟩⟩) r)<|Nx<|Wr<|Rf (X20.2.1, X27, X20.2.2) [1,3,1] (RV.cell 0 r r kk28 r Rz)
noncomputable def spec_EngSnap (e : Eng) : Option (Eng × Int × Bool) :=
  (spec_EngOk e).bind fun R3 =>
  if (!R3) = true then (some ({ Mem := ([] : List Ent), Tables := ([] : List (List Ent)), Seq := (0 : Int), Snaps := ([] : List Int) : Eng }, (0 : Int), false))
  else ((spec_l20Copy e).bind fun R10 =>
  (if (decide (((e.Snaps.length : Nat) : Int) > (0 : Int))) = true then ((idx e.Snaps (IntKind.i64.wrap (((e.Snaps.length : Nat) : Int) - (1 : Int)))).bind fun E17 =>
  some (decide (E17 = e.Seq)))
  else (some false)).bind (fun (T14 : Bool) =>
  if T14 = true then (some (R10, e.Seq, true))
  else (if (decide (((e.Snaps.length : Nat) : Int) ≥ (4 : Int))) = true then (some (R10, (0 : Int), false))
  else ((app 8 R10.Snaps ([e.Seq])).bind fun E23 =>
  some ({ Mem := R10.Mem, Tables := R10.Tables, Seq := R10.Seq, Snaps := E23 : Eng }, e.Seq, true)))))
theorem spec_EngSnap_c {e : Eng} {U0 U1 U2 : Value} : Cn Tryz.prog 49 [.agg #[U0, U1, iv e.Seq, U2]] [] [(U0, lc e.Mem), (U1, lc e.Tables), (U2, lc e.Snaps)] (spec_EngSnap e) (fun r (X : Value × Value × Value) => .tuple #[.agg #[X.1, X.2.1, iv r.1.Seq, X.2.2], iv r.2.1, .bool r.2.2]) fun r X => [.own X.1 (lc r.1.Mem), .own X.2.1 (lc r.1.Tables), .own X.2.2 (lc r.1.Snaps)] := by
  unfold spec_EngSnap
  refine Ci Tryz.func49 r r ?_
  rintro w S ⟨Z0,Z1,Z2,-⟩
  refine Sr<|Fo (Bx r (Ca ⟨Ob Z0,Ob Z1,Op',Ob Z2,⟨⟩⟩)) fun B1=>Fo (Al kz28 r) fun B2=>Qs 2 r<|Nx<|Sq<|Sr<|Yo (Lb 1 kk28 r)<|Bi fun R3 H4=>Fo (Cl [] spec_EngOk_c H4 r r1 ⟨(Bc Z0),(Bc Z1),(Bc Z2),⟨⟩⟩) fun _=>Qs 1 r<|Nx<|Wc r (fun H6=>Sr<|Yo (Bd kp28 kz28 (Pz) r)<|Fu (Sb 0 kk28 r (Cp r) r)<|Qs 2 r<|Nx<|Wr<|Tr<|Ni 4<|Ni 1<|Ni 1<|Rf ((.slice none 0 0), (.slice none 0 0), (.slice none 0 0)) [2,1,0] (RV.cell 3 r r kk28 r (Rt r (Rt r Rz)))) fun H6=>Sn<|Sr<|Yo (Lb 1 kk28 r)<|Bi fun R10 H11=>Fo (Cl [] spec_l20Copy_c H11 r r1 ⟨(Bc Z0),(Bc Z1),(Bc Z2),⟨⟩⟩) fun Y12=>?_
  refine Fo (Al kz28 r) fun B13=>Fu (Sb 0 kk28 r (Ca ⟨Ow' 1,Ow' 2,Op',Ow' 3,⟨⟩⟩) r)<|Nx<|Sr<|Yo (Fb kf28_3 r)<|Yo (Lb 5 kk26 r)<|Yo (Ln ke26 (Bc Z2) r)<|Qs 1 r<|Nx<|Sq<|Sq<|Jv [1,2,5,6] (fun T=>[(28, .bool T)]) r1 (?_) fun T14=>?_
  ·refine Dr [0,0,0,0,0,0] r hMix<|Aq [0,1,2] [0,0,0,0,0,0] r<|Ia (fun H16=>?_) fun H16=>?_
   ·exact Ag 3 [0,0,0,0,0,0] (gdA (beq_tt H16)) r (Fb kf28_3 r)<|Ag 4 [0,0,0,0,0,0] (gdA (beq_tt H16)) r (Lb 5 kk26 r)<|Ag 5 [0,0,0,0,0,0] (gdA (beq_tt H16)) r (Y.move r)<|Ag 6 [0,0,0,0,0,0] (gdA (beq_tt H16)) r (Y.sub r r)<|Ai fun E17 H18=>Ag 7 [0,0,0,0,0,0] (gdA (beq_tt H16)) r (Ix ke26 (Bc Z2) H18 r)<|Ag 8 [0,0,0,0,0,0] (gdA (beq_tt H16)) r (Le kk3 (Bc Z2) H18 r)<|Ag 9 [0,0,0,0,0,0] (gdA (beq_tt H16)) r (Fb kf28_2 r)<|Ag 10 [0,0,0,0,0,0] (gdA (beq_tt H16)) r (Lb 5 kk3 r)<|Ag 11 [0,0,0,0,0,0] (gdA (beq_tt H16)) r (Y.eql r r)<|Ay 12 [0,0,0,0,0,0] r (Pt H16 r)<|Az<|Bg () [0,0,0,0,0,0]
   exact Ax [3,4,5,6,7,8,9,10,11] [0,0,0,0,0,0] (beq_ft H16) r r<|Ay 12 [0,0,0,0,0,0] r (Pf H16 r)<|Az<|Bg () [0,0,0,0,0,0]
  refine Ne<|Wc r (fun H19=>?_) fun H19=>?_
  ·exact Sq<|Dr [0,0,0,0,1] r hMix<|Ay 0 [0,0,0,0,1] r (Lb 0 kk28 r)<|Ay 1 [0,0,0,0,1] r (Fb kf28_2 r)<|Ay 2 [0,0,0,0,1] r (Lb 4 kk3 r)<|A1 3<|Xu [0,0,0,0,1] r (Sb 4 kk28 r (Ca ⟨Ow' 1,Ow' 2,Op',Ow' 3,⟨⟩⟩) r)<|Aq [4,5] [0,0,0,0,1] r<|Az<|Ne<|Wr<|Tr<|Rf (Y12.1, Y12.2.1, Y12.2.2) [1,1,1] (RV.cell 4 r r kk28 r (Rt r (Rt r Rz)))
  exact Sn<|Sq<|Sr<|Qs 2 r<|Nx<|Wc r (fun H20=>Sr<|Yo (Lb 0 kk28 r)<|Fu (Sb 4 kk28 r (Ca ⟨Ow' 1,Ow' 2,Op',Ow' 3,⟨⟩⟩) r)<|Qs 2 r<|Nx<|Wr<|Tr<|Rf (Y12.1, Y12.2.1, Y12.2.2) [1,1,1] (RV.cell 4 r r kk28 r (Rt r (Rt r Rz)))) fun H20=>Sn<|Sr<|Yo (Fb kf28_3 r)<|Yo (Lb 0 kk26 r)<|Yo (Fb kf28_2 r)<|Yo (Lb 5 kk3 r)<|Fo (Bs [e.Seq] ke26 kz3) fun B21=>Bi fun E23 H24=>Fo (Ap [4] H24 ke26 kz3 r (Oc 0 r)) fun V22=>Yo (Fb kf28_3 r)<|Fu (Sb 2 kk26 r (Co 0) r)<|Nx<|Sq<|Dr [0,0,0,0,0,1] r hMix<|Ay 0 [0,0,0,0,0,1] r (Lb 2 kk28 r)<|Ay 1 [0,0,0,0,0,1] r (Fb kf28_2 r)<|Ay 2 [0,0,0,0,0,1] r (Lb 5 kk3 r)<|A1 3<|Xu [0,0,0,0,0,1] r (Sb 5 kk28 r (Ca ⟨Ow' 3,Ow' 4,Op',Ow' 0,⟨⟩⟩) r)<|Aq [4,5] [0,0,0,0,0,1] r<|Az<|Ne<|Wr<|Rf (Y12.1, Y12.2.1, V22) [3,3,0] (RV.cell 5 r r kk28 r (Rt r (Rt r Rz)))
noncomputable def spec_EngDrop (e : Eng) (snap : Int) : Option (Eng × Bool) :=
  (spec_EngOk e).bind fun R3 =>
  if (!R3) = true then (some ({ Mem := ([] : List Ent), Tables := ([] : List (List Ent)), Seq := (0 : Int), Snaps := ([] : List Int) : Eng }, false))
  else ((spec_l20Copy e).bind fun R10 =>
  bindC (loopO (fun (S15 : Int × List Int) => if (decide (S15.1 < ((R10.Snaps.length : Nat) : Int))) = true then ((idx R10.Snaps S15.1).bind fun E20 =>
  bindC (if (!(decide (E20 = snap))) = true then ((app 8 S15.2 ([E20])).bind fun E27 =>
  some (.go E27))
  else (some (.go S15.2)))
  (fun (T22 : List Int) => some (.go (IntKind.i64.wrap (S15.1 + (1 : Int)), T22))))
  else (some (.done (.go S15.2))))
  ((0 : Int), ([] : List Int)))
  (fun (T17 : List Int) => if (decide (((T17.length : Nat) : Int) = ((R10.Snaps.length : Nat) : Int))) = true then (some (R10, false))
  else (some ({ Mem := R10.Mem, Tables := R10.Tables, Seq := R10.Seq, Snaps := T17 : Eng }, true))))
theorem spec_EngDrop_c {e : Eng} {snap : Int} {U0 U1 U2 : Value} : Cn Tryz.prog 50 [.agg #[U0, U1, iv e.Seq, U2], iv snap] [] [(U0, lc e.Mem), (U1, lc e.Tables), (U2, lc e.Snaps)] (spec_EngDrop e snap) (fun r (X : Value × Value × Value) => .tuple #[.agg #[X.1, X.2.1, iv r.1.Seq, X.2.2], .bool r.2]) fun r X => [.own X.1 (lc r.1.Mem), .own X.2.1 (lc r.1.Tables), .own X.2.2 (lc r.1.Snaps)] := by
  unfold spec_EngDrop
  refine Ci Tryz.func50 r r ?_
  rintro w S ⟨Z0,Z1,Z2,-⟩
  refine Sr<|Fo (Bx r (Ca ⟨Ob Z0,Ob Z1,Op',Ob Z2,⟨⟩⟩)) fun B1=>Fo (Al kz28 r) fun B2=>Qs 1 r<|Nx<|Sq<|Sr<|Yo (Lb 1 kk28 r)<|Bi fun R3 H4=>Fo (Cl [] spec_EngOk_c H4 r r1 ⟨(Bc Z0),(Bc Z1),(Bc Z2),⟨⟩⟩) fun _=>Qs 1 r<|Nx<|Wc r (fun H6=>Sr<|Yo (Bd kp28 kz28 (Pz) r)<|Fu (Sb 0 kk28 r (Cp r) r)<|Qs 1 r<|Nx<|Wr<|Tr<|Ni 4<|Ni 1<|Ni 1<|Rf ((.slice none 0 0), (.slice none 0 0), (.slice none 0 0)) [2,1,0] (RV.cell 3 r r kk28 r (Rt r Rz))) fun H6=>Sn<|Sr<|Yo (Lb 1 kk28 r)<|Bi fun R10 H11=>Fo (Cl [] spec_l20Copy_c H11 r r1 ⟨(Bc Z0),(Bc Z1),(Bc Z2),⟨⟩⟩) fun Y12=>?_
  refine Fo (Al kz28 r) fun B13=>Fu (Sb 0 kk28 r (Ca ⟨Ow' 1,Ow' 2,Op',Ow' 3,⟨⟩⟩) r)<|Nx<|Sr<|Fo (Bs ([] : List Int) ke26 kz3) fun B14=>Qs 1 r<|Nx<|Sq<|Sr<|Qs 1 r<|Nx<|Jn Value [4,6] [5,1,1,1,1] (fun _ X=>[(7, X)]) (fun T X=>[.own X (lc T)]) r2 r2 (?_) fun T17 X18=>?_
  ·refine Wb<|Lp Value [1,4,6] [5,1,1,1,1] (fun T X=>[(7, X), (8, iv T.1)]) (fun T X=>[.own X (lc T.2)]) (.slice (some ⟨B14, 0, none⟩) 0 0) [5,1,1,1,1,0] r2 r2 fun S15 X16=>Sq<|Sr<|Qs 1 r<|Yo (Fb kf28_3 r)<|Yo (Lb 1 kk26 r)<|Yo (Ln ke26 (Oc 4 r) r)<|Qs 1 r<|Nx<|Wc r (fun H19=>?_) fun H19=>?_
   ·refine Sn<|Sq<|Wb<|Sr<|Yo (Fb kf28_3 r)<|Yo (Lb 1 kk26 r)<|Qs 1 r<|Bi fun E20 H21=>Yo (Ix ke26 (Oc 4 r) H21 r)<|Yo (Le kk3 (Oc 4 r) H21 r)<|Qs 2 r<|Nx<|Jn Value [1,4,6,8] [0,0,0,0,0] (fun _ X=>[(7, X)]) (fun T X=>[.own X (lc T)]) r2 r2 (?_) fun T22 X23=>?_
    ·exact Wc r (fun H24=>Rg<|Qs 1 r<|Yo (Fb kf28_3 r)<|Yo (Lb 1 kk26 r)<|Qs 1 r<|Yo (Ix ke26 (Oc 4 r) H21 r)<|Yo (Le kk3 (Oc 4 r) H21 r)<|Fo (Bs [E20] ke26 kz3) fun B25=>Bi fun E27 H28=>Fo (Ap [6] H28 ke26 kz3 r (Oc 0 r)) fun V26=>Qs 1 r<|Nl<|Jg V26 [2,2,2,2,2,0]) fun H24=>Sk<|Jg X16 [0,0,0,0,0,0]
    exact Bn<|Ne<|Rg<|Qs 3 r<|Nl<|Lg X23 [0,0,0,0,0,0]
   exact Wx<|Tx<|Ex<|Be<|Jg X16 [0,0,0,0,0,0]
  exact Ne<|Sq<|Sr<|Qs 1 r<|Yo (Ln ke26 (Oc 5 r) r)<|Yo (Fb kf28_3 r)<|Yo (Lb 1 kk26 r)<|Yo (Ln ke26 (Oc 4 r) r)<|Qs 1 r<|Nx<|Wc r (fun H29=>Sr<|Yo (Lb 1 kk28 r)<|Fu (Sb 0 kk28 r (Ca ⟨Ow' 2,Ow' 3,Op',Ow' 4,⟨⟩⟩) r)<|Qs 1 r<|Nx<|Wr<|Tr<|Rf (Y12.1, Y12.2.1, Y12.2.2) [2,2,2] (RV.cell 0 r r kk28 r (Rt r Rz))) fun H29=>Sn<|Sr<|Qs 1 r<|Yo (Fb kf28_3 r)<|Fu (Sb 1 kk26 r (Co 5) r)<|Nx<|Sr<|Yo (Lb 1 kk28 r)<|Fu (Sb 0 kk28 r (Ca ⟨Ow' 2,Ow' 3,Op',Ow' 5,⟨⟩⟩) r)<|Qs 1 r<|Nx<|Wr<|Rf (Y12.1, Y12.2.1, X18) [2,2,3] (RV.cell 0 r r kk28 r (Rt r Rz))
noncomputable def spec_EngFlush (e : Eng) : Option (Eng × Bool) :=
  (spec_EngOk e).bind fun R3 =>
  if (!R3) = true then (some ({ Mem := ([] : List Ent), Tables := ([] : List (List Ent)), Seq := (0 : Int), Snaps := ([] : List Int) : Eng }, false))
  else ((spec_l20Copy e).bind fun R10 =>
  (if (decide (((R10.Mem.length : Nat) : Int) = (0 : Int))) = true then (some true)
  else (some (decide (((R10.Tables.length : Nat) : Int) ≥ (6 : Int))))).bind (fun (T14 : Bool) =>
  if T14 = true then (some (R10, false))
  else ((app 24 ([R10.Mem]) R10.Tables).bind fun E20 =>
  some ({ Mem := ([] : List Ent), Tables := E20, Seq := R10.Seq, Snaps := R10.Snaps : Eng }, true))))
theorem spec_EngFlush_c {e : Eng} {U0 U1 U2 : Value} : Cn Tryz.prog 51 [.agg #[U0, U1, iv e.Seq, U2]] [] [(U0, lc e.Mem), (U1, lc e.Tables), (U2, lc e.Snaps)] (spec_EngFlush e) (fun r (X : Value × Value × Value) => .tuple #[.agg #[X.1, X.2.1, iv r.1.Seq, X.2.2], .bool r.2]) fun r X => [.own X.1 (lc r.1.Mem), .own X.2.1 (lc r.1.Tables), .own X.2.2 (lc r.1.Snaps)] := by
  unfold spec_EngFlush
  refine Ci Tryz.func51 r r ?_
  rintro w S ⟨Z0,Z1,Z2,-⟩
  refine Sr<|Fo (Bx r (Ca ⟨Ob Z0,Ob Z1,Op',Ob Z2,⟨⟩⟩)) fun B1=>Fo (Al kz28 r) fun B2=>Qs 1 r<|Nx<|Sq<|Sr<|Yo (Lb 1 kk28 r)<|Bi fun R3 H4=>Fo (Cl [] spec_EngOk_c H4 r r1 ⟨(Bc Z0),(Bc Z1),(Bc Z2),⟨⟩⟩) fun _=>Qs 1 r<|Nx<|Wc r (fun H6=>Sr<|Yo (Bd kp28 kz28 (Pz) r)<|Fu (Sb 0 kk28 r (Cp r) r)<|Qs 1 r<|Nx<|Wr<|Tr<|Ni 4<|Ni 1<|Ni 1<|Rf ((.slice none 0 0), (.slice none 0 0), (.slice none 0 0)) [2,1,0] (RV.cell 3 r r kk28 r (Rt r Rz))) fun H6=>Sn<|Sr<|Yo (Lb 1 kk28 r)<|Bi fun R10 H11=>Fo (Cl [] spec_l20Copy_c H11 r r1 ⟨(Bc Z0),(Bc Z1),(Bc Z2),⟨⟩⟩) fun Y12=>?_
  refine Fo (Al kz28 r) fun B13=>Fu (Sb 0 kk28 r (Ca ⟨Ow' 1,Ow' 2,Op',Ow' 3,⟨⟩⟩) r)<|Nx<|Sq<|Sq<|Jb Unit [2,4] [4,0,0,0,0] (fun T _=>[(21, .bool T)]) (fun _ _=>[]) r2 r2 (?_) fun T14 X15=>?_
  ·exact Rg<|Yo (Fb kf28_0 r)<|Yo (Lb 0 kk24 r)<|Yo (Ln ke24 (Oc 1 r) r)<|Qs 2 r<|It (fun H16=>Of 4 (beq_tf H16) r r<|Yo (Pt H16 r)<|Nl<|Bg () [4,0,0,0,0]) fun H16=>Yg (gdA (beq_ff H16)) (Fb kf28_1 r)<|Yg (gdA (beq_ff H16)) (Lb 0 kk25 r)<|Yg (gdA (beq_ff H16)) (Ln ke25 (Oc 2 r) r)<|Qg 1 (beq_ff H16) r r<|Yo (Pf H16 r)<|Nl<|Bg () [4,0,0,0,0]
  refine Ne<|Wc r (fun H17=>Sr<|Yo (Lb 1 kk28 r)<|Fu (Sb 0 kk28 r (Ca ⟨Ow' 2,Ow' 3,Op',Ow' 4,⟨⟩⟩) r)<|Qs 1 r<|Nx<|Wr<|Tr<|Rf (Y12.1, Y12.2.1, Y12.2.2) [2,2,2] (RV.cell 0 r r kk28 r (Rt r Rz))) fun H17=>Sn<|Sr<|Yo (Fb kf28_0 r)<|Yo (Lb 1 kk24 r)<|Fo (Bk [.raw Y12.1] ke25 kz24 r (Qc (Co 2)<|Qz)) fun B18=>Kt (Ha [0, 2] ([R10.Mem] : List (List Ent)) r (Cf Cz))<|Qs 1 r<|Nx<|Sr<|Qs 1 r<|Yo (Fb kf28_1 r)<|Yo (Lb 2 kk25 r)<|Bi fun E20 H21=>Fo (Aw [0, 2] H21 ke25 kz24 r) fun V19=>Yo (Fb kf28_1 r)<|Fu (Sb 2 kk25 r (Co 0) r)<|Nx<|Sr<|Fo (Bs ([] : List Ent) ke24 kz72) fun B22=>?_
  exact Yo (Fb kf28_0 r)<|Fu (Sb 3 kk24 r (Cp r) r)<|Nx<|Sr<|Yo (Lb 3 kk28 r)<|Fu (Sb 2 kk28 r (Ca ⟨Op',Ow' 1,Op',Ow' 4,⟨⟩⟩) r)<|Qs 1 r<|Nx<|Wr<|Rf ((.slice (some ⟨B22, 0, none⟩) 0 0), V19, Y12.2.2) [0,0,2] (RV.cell 2 r r kk28 r (Rt r Rz))
noncomputable def spec_MergeEnts (l : List (List Ent)) : Option (List Ent) :=
  bindC (loopO (fun (S2 : Int × List Ent) => if (decide (S2.1 < ((l.length : Nat) : Int))) = true then (((idx l S2.1).bind fun E9 =>
  (spec_l9Ents E9).bind fun R12 =>
  if (!R12) = true then (some true)
  else (if (decide (((E9.length : Nat) : Int) > (400 : Int))) = true then (some true)
  else (some (decide (((S2.2.length : Nat) : Int) > (400 : Int)))))).bind (fun (T7 : Bool) =>
  if T7 = true then (some (.done (.done ([] : List Ent))))
  else ((idx l S2.1).bind fun E21 =>
  (app 48 ([] : List Ent) E21).bind fun E25 =>
  bindC (loopO (fun (S28 : Int × Int × List Ent) => if (decide (S28.2.1 < ((S2.2.length : Nat) : Int))) = true then (bindC (loopO (fun (S33 : Int × List Ent) => (if (decide (S33.1 < ((E25.length : Nat) : Int))) = true then ((idx E25 S33.1).bind fun E40 =>
  (idx S2.2 S28.2.1).bind fun E42 =>
  (spec_l9Ahead E40 E42).bind fun R44 =>
  some R44)
  else (some false)).bind (fun (T37 : Bool) =>
  if T37 = true then ((idx E25 S33.1).bind fun E48 =>
  (app 48 S33.2 ([E48])).bind fun E52 =>
  some (.go (IntKind.i64.wrap (S33.1 + (1 : Int)), E52)))
  else (some (.done (.go (S33.1, S33.2))))))
  (S28.1, S28.2.2))
  (fun (T35 : Int × List Ent) => (if (decide (T35.1 < ((E25.length : Nat) : Int))) = true then ((idx S2.2 S28.2.1).bind fun E57 =>
  (idx E25 T35.1).bind fun E59 =>
  (spec_l9Ahead E57 E59).bind fun R61 =>
  some (!R61))
  else (some false)).bind (fun (T54 : Bool) =>
  bindC (if T54 = true then (some (.go (IntKind.i64.wrap (T35.1 + (1 : Int)))))
  else (some (.go T35.1)))
  (fun (T64 : Int) => (idx S2.2 S28.2.1).bind fun E67 =>
  (app 48 T35.2 ([E67])).bind fun E71 =>
  some (.go (T64, IntKind.i64.wrap (S28.2.1 + (1 : Int)), E71))))))
  else (some (.done (.go (S28.1, S28.2.2)))))
  ((0 : Int), (0 : Int), ([] : List Ent)))
  (fun (T30 : Int × List Ent) => (piece E25 T30.1 ((E25.length : Nat) : Int)).bind fun E73 =>
  (app 48 T30.2 E73).bind fun E76 =>
  some (.go (IntKind.i64.wrap (S2.1 + (1 : Int)), E76))))))
  else (some (.done (.go S2.2))))
  ((0 : Int), ([] : List Ent)))
  (fun (T4 : List Ent) => bindC (loopO (fun (S78 : Int × Int) => if (decide (S78.2 < ((l.length : Nat) : Int))) = true then ((idx l S78.2).bind fun E83 =>
  some (.go (IntKind.i64.wrap (S78.1 + ((E83.length : Nat) : Int)), IntKind.i64.wrap (S78.2 + (1 : Int)))))
  else (some (.done (.go S78.1))))
  ((0 : Int), (0 : Int)))
  (fun (T80 : Int) => if (decide (T80 > (400 : Int))) = true then (some ([] : List Ent))
  else (some T4)))
theorem spec_MergeEnts_c {l : List (List Ent)} {U0 : Value} : Cn Tryz.prog 86 [U0] [] [(U0, lc l)] (spec_MergeEnts l) (fun _ (X : Value) => X) fun r X => [.own X (lc r)] := by
  unfold spec_MergeEnts
  refine Ci Tryz.func86 r r ?_
  rintro w S ⟨Z0,-⟩
  refine Sr<|Qs 1 r<|Nx<|Sr<|Fo (Bs ([] : List Ent) ke24 kz72) fun B1=>Qs 1 r<|Nx<|Sq<|Sr<|Qs 1 r<|Nx<|Jn Value [0] [] (fun _ X=>[(3, X)]) (fun T X=>[.own X (lc T)]) r2 r2 (?_) fun T4 X5=>?_
  ·refine Wb<|Lp Value [0] [] (fun T X=>[(3, X), (4, iv T.1)]) (fun T X=>[.own X (lc T.2)]) (.slice (some ⟨B1, 0, none⟩) 0 0) [0] r2 r2 fun S2 X3=>Sq<|Sr<|Qs 2 r<|Yo (Ln ke25 (Bc Z0) r)<|Qs 1 r<|Nx<|Wc r (fun H6=>?_) fun H6=>?_
   ·refine Sn<|Sq<|Wb<|Sq<|Sq<|Jv [0,3,4] (fun T=>[(36, .bool T)]) r1 (?_) fun T7=>?_
    ·refine Rg<|Qs 2 r<|Bi fun E9 H10=>Yo (Ix ke25 (Bc Z0) H10 r)<|?_
     have Q11 : Base w S (elv w U0 (S2.1.toNat * 1 + 0)) (lc E9):=Base.el Z0 (idx_get H10).2.2 r r
     refine Yo (Lz kk24 Z0 H10 r)<|Bi fun R12 H13=>Fo (Cl [] spec_l9Ents_c H13 r r1 ⟨(Bc Q11),⟨⟩⟩) fun _=>Qs 2 r<|It (fun H15=>Of 6 (beq_tf H15) r r<|Yo (Pt H15 r)<|Qs 1 r<|Of 3 r r r<|Yo (Pt r r)<|Nl<|Bg () [0]) fun H15=>Qg 2 (beq_ff H15) r r<|Yg (gdA (beq_ff H15)) (Ix ke25 (Bc Z0) H10 r)<|?_
     have Q16 : Base w S (elv w U0 (S2.1.toNat * 1 + 0)) (lc E9):=Base.el Z0 (idx_get H10).2.2 r r
     exact Yg (gdA (beq_ff H15)) (Lz kk24 Z0 H10 r)<|Yg (gdA (beq_ff H15)) (Ln ke24 (Bc Q16) r)<|Qg 1 (beq_ff H15) r r<|Yo (Pf H15 r)<|Qs 1 r<|It (fun H17=>Of 3 (beq_tf H17) r r<|Yo (Pt H17 r)<|Nl<|Bg () [0]) fun H17=>Qg 1 (beq_ff H17) r r<|Yg (gdA (beq_ff H17)) (Ln ke24 (Oc 0 r) r)<|Qg 1 (beq_ff H17) r r<|Yo (Pf H17 r)<|Nl<|Bg () [0]
    refine Ne<|Wc r (fun H18=>Sr<|Fo (Bs ([] : List Ent) ke24 kz72) fun B19=>Qs 1 r<|Nx<|Wr<|Tr<|Br<|Tr<|Er<|Br<|Jd<|Tr<|Re (.slice (some ⟨B19, 0, none⟩) 0 0) [0]) fun H18=>Sn<|Sr<|Fo (Bs ([] : List Ent) ke24 kz72) fun B20=>Qs 2 r<|Bi fun E21 H22=>Yo (Ix ke25 (Bc Z0) H22 r)<|?_
    have Q23 : Base w S (elv w U0 (S2.1.toNat * 1 + 0)) (lc E21):=Base.el Z0 (idx_get H22).2.2 r r
    refine Yo (Lz kk24 Z0 H22 r)<|Bi fun E25 H26=>Fo (Ap [0] H26 ke24 kz72 r (Bc Q23)) fun V24=>Qs 1 r<|Nx<|Sr<|Fo (Bs ([] : List Ent) ke24 kz72) fun B27=>Qs 1 r<|Nx<|Sr<|Qs 1 r<|Nx<|Sq<|Sr<|Qs 1 r<|Nx<|Jn Value [0,4,5] [1] (fun T X=>[(6, X), (7, iv T.1)]) (fun T X=>[.own X (lc T.2)]) r2 r2 (?_) fun T30 X31=>?_
    ·refine Wb<|Lp Value [0,3,4,5] [2,1] (fun T X=>[(6, X), (7, iv T.1), (8, iv T.2.1)]) (fun T X=>[.own X (lc T.2.2)]) (.slice (some ⟨B27, 0, none⟩) 0 0) [2,1,0] r2 r2 fun S28 X29=>Sq<|Sr<|Qs 2 r<|Yo (Ln ke24 (Oc 0 r) r)<|Qs 1 r<|Nx<|Wc r (fun H32=>?_) fun H32=>?_
     ·refine Sn<|Sq<|Wb<|Sq<|Jn Value [0,3,4,5,8] [0,0] (fun T X=>[(6, X), (7, iv T.1)]) (fun T X=>[.own X (lc T.2)]) r2 r2 (?_) fun T35 X36=>?_
      ·refine Wb<|Lp Value [0,3,4,5,8] [0,0] (fun T X=>[(6, X), (7, iv T.1)]) (fun T X=>[.own X (lc T.2)]) X29 [0,0,0] r2 r2 fun S33 X34=>Sq<|Sq<|Jv [0,3,4,5,6,7,8] (fun T=>[(65, .bool T)]) r1 (?_) fun T37=>?_
       ·refine Dr [0,0,0] r hMix<|Aq [0,1] [0,0,0] r<|Ay 2 [0,0,0] r (Ln ke24 (Oc 1 r) r)<|Aq [3,4] [0,0,0] r<|Ia (fun H39=>?_) fun H39=>?_
        ·refine Ag 5 [0,0,0] (gdA (beq_tt H39)) r (Y.move r)<|Ag 6 [0,0,0] (gdA (beq_tt H39)) r (Y.move r)<|Ai fun E40 H41=>Ag 7 [0,0,0] (gdA (beq_tt H39)) r (Ix ke24 (Oc 1 r) H41 r)<|Ag 8 [0,0,0] (gdA (beq_tt H39)) r (Le kk72 (Oc 1 r) H41 r)<|Ag 9 [0,0,0] (gdA (beq_tt H39)) r (Y.move r)<|Ag 10 [0,0,0] (gdA (beq_tt H39)) r (Y.move r)<|Ai fun E42 H43=>Ag 11 [0,0,0] (gdA (beq_tt H39)) r (Ix ke24 (Oc 0 r) H43 r)<|Ag 12 [0,0,0] (gdA (beq_tt H39)) r (Le kk72 (Oc 0 r) H43 r)<|Ai fun R44 H45=>A1 13<|Xeg [0,0,0] (gdA (beq_tt H39)) r (Cl [] spec_l9Ahead_c H45 r r1) fun _=>?_
         exact Ay 14 [0,0,0] r (Pt H39 r)<|Az<|Bg () [0,0,0]
        exact Ax [5,6,7,8,9,10,11,12,13] [0,0,0] (beq_ft H39) r r<|Ay 14 [0,0,0] r (Pf H39 r)<|Az<|Bg () [0,0,0]
       exact Ne<|Wc r (fun H47=>Sn<|Wb<|Sr<|Qs 3 r<|Bi fun E48 H49=>Yo (Ix ke24 (Oc 1 r) H49 r)<|Yo (Le kk72 (Oc 1 r) H49 r)<|Fo (Bs [E48] ke24 kz72) fun B50=>Bi fun E52 H53=>Fo (Ap [3] H53 ke24 kz72 r (Oc 0 r)) fun V51=>Qs 1 r<|Nx<|Rg<|Qs 3 r<|Nl<|Bn<|Lg V51 [2,2,0]) fun H47=>Wx<|Tx<|Ex<|Be<|Jg X34 [0,0,0]
      refine Ne<|Sq<|Sq<|Jv [0,3,4,5,6,7,8] (fun T=>[(90, .bool T)]) r1 (?_) fun T54=>?_
      ·refine Dr [0,0,0] r hMix<|Aq [0,1] [0,0,0] r<|Ay 2 [0,0,0] r (Ln ke24 (Oc 1 r) r)<|Aq [3,4] [0,0,0] r<|Ia (fun H56=>?_) fun H56=>?_
       ·refine Ag 5 [0,0,0] (gdA (beq_tt H56)) r (Y.move r)<|Ag 6 [0,0,0] (gdA (beq_tt H56)) r (Y.move r)<|Ai fun E57 H58=>Ag 7 [0,0,0] (gdA (beq_tt H56)) r (Ix ke24 (Oc 0 r) H58 r)<|Ag 8 [0,0,0] (gdA (beq_tt H56)) r (Le kk72 (Oc 0 r) H58 r)<|Ag 9 [0,0,0] (gdA (beq_tt H56)) r (Y.move r)<|Ag 10 [0,0,0] (gdA (beq_tt H56)) r (Y.move r)<|Ai fun E59 H60=>Ag 11 [0,0,0] (gdA (beq_tt H56)) r (Ix ke24 (Oc 1 r) H60 r)<|Ag 12 [0,0,0] (gdA (beq_tt H56)) r (Le kk72 (Oc 1 r) H60 r)<|Ai fun R61 H62=>A1 13<|Xeg [0,0,0] (gdA (beq_tt H56)) r (Cl [] spec_l9Ahead_c H62 r r1) fun _=>?_
        exact Ag 14 [0,0,0] (gdA (beq_tt H56)) r (Y.not r)<|Ay 15 [0,0,0] r (Pt H56 r)<|Az<|Bg () [0,0,0]
       exact Ax [5,6,7,8,9,10,11,12,13,14] [0,0,0] (beq_ft H56) r r<|Ay 15 [0,0,0] r (Pf H56 r)<|Az<|Bg () [0,0,0]
      exact Ne<|Ju [0,3,4,5,6,8] (fun T=>[(7, iv T)]) r1 (Wc r (fun H66=>Rg<|Qs 3 r<|Nl<|Jg () [0,0,0]) fun H66=>Sk<|Jg () [0,0,0]) fun T64=>Ne<|Rg<|Qs 3 r<|Bi fun E67 H68=>Yo (Ix ke24 (Oc 0 r) H68 r)<|Yo (Le kk72 (Oc 0 r) H68 r)<|Fo (Bs [E67] ke24 kz72) fun B69=>Bi fun E71 H72=>Fo (Ap [3] H72 ke24 kz72 r (Oc 0 r)) fun V70=>Qs 1 r<|Nl<|Bn<|Ne<|Rg<|Qs 3 r<|Nl<|Lg V70 [2,2,0]
     exact Wx<|Tx<|Ex<|Be<|Jg X29 [1,1]
    exact Ne<|Rg<|Qs 3 r<|Bi fun E73 H74=>Yo (Y.subs H74 ke24 (Oc 0 r) r ⟨_, r⟩ r)<|Bi fun E76 H77=>Fo (Ap [1] H77 ke24 kz72 r (Can.sub H74 r (Can.own 0 r))) fun V75=>Qs 1 r<|Nl<|Bn<|Ne<|Rg<|Qs 3 r<|Nl<|Lg V75 [0]
   exact Wx<|Tx<|Ex<|Be<|Jg X3 [0]
  refine Ne<|Sr<|Qs 1 r<|Nx<|Sq<|Sr<|Qs 1 r<|Nx<|Ju [3] (fun T=>[(9, iv T)]) r1 (?_) fun T80=>?_
  ·refine Wb<|Lu [0,3] (fun T=>[(9, iv T.1), (10, iv T.2)]) r1 fun S78=>Sq<|Sr<|Qs 2 r<|Yo (Ln ke25 (Bc Z0) r)<|Qs 1 r<|Nx<|Wc r (fun H82=>?_) fun H82=>?_
   ·refine Sn<|Sq<|Wb<|Rg<|Qs 3 r<|Bi fun E83 H84=>Yo (Ix ke25 (Bc Z0) H84 r)<|?_
    have Q85 : Base w S (elv w U0 (S78.2.toNat * 1 + 0)) (lc E83):=Base.el Z0 (idx_get H84).2.2 r r
    exact Yo (Lz kk24 Z0 H84 r)<|Yo (Ln ke24 (Bc Q85) r)<|Qs 2 r<|Nl<|Bn<|Ne<|Rg<|Qs 3 r<|Nl<|Lg () [0]
   exact Wx<|Tx<|Ex<|Be<|Jg () [0]
  exact Ne<|Sq<|Sr<|Qs 2 r<|Nx<|Wc r (fun H86=>Sr<|Fo (Bs ([] : List Ent) ke24 kz72) fun B87=>Qs 1 r<|Nx<|Wr<|Tr<|Re (.slice (some ⟨B87, 0, none⟩) 0 0) [0]) fun H86=>Sn<|Sr<|Qs 2 r<|Nx<|Wr<|Re X5 [0]
noncomputable def spec_l15Last (l : List Ent) (at_ : Int) : Option Int :=
  bindC (loopO (fun (S1 : Int) => (if (decide (S1 < ((l.length : Nat) : Int))) = true then ((idx l S1).bind fun E8 =>
  (idx l at_).bind fun E10 =>
  some (decide (E8.Key = E10.Key)))
  else (some false)).bind (fun (T5 : Bool) =>
  if T5 = true then (some (.go (IntKind.i64.wrap (S1 + (1 : Int)))))
  else (some (.done (.go S1)))))
  at_)
  (fun (T3 : Int) => some T3)
theorem spec_l15Last_c {l : List Ent} {at_ : Int} {U0 : Value} : Cn Tryz.prog 99 [U0, iv at_] [] [(U0, lc l)] (spec_l15Last l at_) (fun r (_ : Unit) => iv r) fun _ _ => [] := by
  unfold spec_l15Last
  refine Ci Tryz.func99 r r ?_
  rintro w S ⟨Z0,-⟩
  refine Sr<|Qs 1 r<|Nx<|Sr<|Qs 2 r<|Nx<|Sq<|Ju [] (fun T=>[(5, iv T)]) r1 (?_) fun T3=>?_
  ·refine Wb<|Lu [0,1] (fun T=>[(5, iv T)]) r1 fun S1=>Sq<|Sq<|Jv [0,1,5] (fun T=>[(23, .bool T)]) r1 (?_) fun T5=>?_
   ·refine Dr [] r hMix<|Aq [0,1] [] r<|Ay 2 [] r (Ln ke24 (Bc Z0) r)<|Aq [3,4] [] r<|Ia (fun H7=>?_) fun H7=>?_
    ·exact Ag 5 [] (gdA (beq_tt H7)) r (Y.move r)<|Ag 6 [] (gdA (beq_tt H7)) r (Y.move r)<|Ai fun E8 H9=>Ag 7 [] (gdA (beq_tt H7)) r (Ix ke24 (Bc Z0) H9 r)<|Ag 8 [] (gdA (beq_tt H7)) r (Fe kf72_0 (Bc Z0) H9 r)<|Ag 9 [] (gdA (beq_tt H7)) r (Le kk9 (Bc Z0) H9 r)<|Ag 10 [] (gdA (beq_tt H7)) r (Y.move r)<|Ag 11 [] (gdA (beq_tt H7)) r (Y.move r)<|Ai fun E10 H11=>Ag 12 [] (gdA (beq_tt H7)) r (Ix ke24 (Bc Z0) H11 r)<|Ag 13 [] (gdA (beq_tt H7)) r (Fe kf72_0 (Bc Z0) H11 r)<|Ag 14 [] (gdA (beq_tt H7)) r (Le kk9 (Bc Z0) H11 r)<|Ag 15 [] (gdA (beq_tt H7)) r (Y.seql r r)<|Ay 16 [] r (Pt H7 r)<|Az<|Bg () []
    exact Ax [5,6,7,8,9,10,11,12,13,14,15] [] (beq_ft H7) r r<|Ay 16 [] r (Pf H7 r)<|Az<|Bg () []
   exact Ne<|Wc r (fun H12=>Sn<|Wb<|Rg<|Qs 3 r<|Nl<|Bn<|Lg () []) fun H12=>Wx<|Tx<|Ex<|Be<|Jg () []
  exact Ne<|Sr<|Qs 2 r<|Nx<|Wr<|Re () []
noncomputable def spec_l9Get (l : List Ent) (key : List UInt8) (seq : Int) : Option (Ent × Bool) :=
  bindC (loopO (fun (S2 : Int) => if (decide (S2 < ((l.length : Nat) : Int))) = true then (((idx l S2).bind fun E9 =>
  if (decide (E9.Key = key)) = true then (some (decide (E9.Seq ≤ seq)))
  else (some false)).bind (fun (T7 : Bool) =>
  if T7 = true then ((idx l S2).bind fun E13 =>
  some (.done (.done (E13, true))))
  else (some (.go (IntKind.i64.wrap (S2 + (1 : Int)))))))
  else (some (.done (.go ()))))
  (0 : Int))
  (fun (T4 : Unit) => some ({ Key := [], Seq := (0 : Int), Del := false, Val := [] : Ent }, false))
theorem spec_l9Get_c {l : List Ent} {key : List UInt8} {seq : Int} {U0 : Value} : Cn Tryz.prog 109 [U0, strV key, iv seq] [] [(U0, lc l)] (spec_l9Get l key seq) (fun r (_ : Unit) => .tuple #[.agg #[strV r.1.Key, iv r.1.Seq, .bool r.1.Del, strV r.1.Val], .bool r.2]) fun _ _ => [] := by
  unfold spec_l9Get
  refine Ci Tryz.func109 r r ?_
  rintro w S ⟨Z0,-⟩
  refine Sr<|Fo (Al kz72 r) fun B1=>Qs 1 r<|Nx<|Sq<|Sr<|Qs 1 r<|Nx<|Ju [6] (fun _=>[]) r1 (?_) fun T4=>?_
  ·refine Wb<|Lu [0,1,2,6] (fun T=>[(8, iv T)]) r1 fun S2=>Sq<|Sr<|Qs 2 r<|Yo (Ln ke24 (Bc Z0) r)<|Qs 1 r<|Nx<|Wc r (fun H6=>?_) fun H6=>?_
   ·refine Sn<|Sq<|Wb<|Sq<|Jv [0,1,2,6,8] (fun T=>[(30, .bool T)]) r1 (?_) fun T7=>?_
    ·exact Rg<|Qs 2 r<|Bi fun E9 H10=>Yo (Ix ke24 (Bc Z0) H10 r)<|Yo (Fe kf72_0 (Bc Z0) H10 r)<|Yo (Le kk9 (Bc Z0) H10 r)<|Qs 3 r<|It (fun H11=>Qg 2 (beq_tt H11) r r<|Yg (gdA (beq_tt H11)) (Ix ke24 (Bc Z0) H10 r)<|Yg (gdA (beq_tt H11)) (Fe kf72_1 (Bc Z0) H10 r)<|Yg (gdA (beq_tt H11)) (Le kk3 (Bc Z0) H10 r)<|Qg 2 (beq_tt H11) r r<|Yo (Pt H11 r)<|Nl<|Bg () [0]) fun H11=>Of 7 (beq_ft H11) r r<|Yo (Pf H11 r)<|Nl<|Bg () [0]
    exact Ne<|Wc r (fun H12=>Sr<|Qs 2 r<|Bi fun E13 H14=>Yo (Ix ke24 (Bc Z0) H14 r)<|Yo (Le kk72 (Bc Z0) H14 r)<|Fu (Sb 0 kk72 r (Cp r) r)<|Qs 1 r<|Nx<|Wr<|Br<|Tr<|Er<|Br<|Jd<|Tr<|Rf () [] (RV.cell 0 r r kk72 r (Rt r Rz))) fun H12=>Sk<|Bn<|Ne<|Rg<|Qs 3 r<|Nl<|Lg () [0]
   exact Wx<|Tx<|Ex<|Be<|Jg () [0]
  exact Ne<|Sr<|Yo (Bd kp72 kz72 (Pz) r)<|Fu (Sb 0 kk72 r (Cp r) r)<|Qs 1 r<|Nx<|Wr<|Rf () [] (RV.cell 0 r r kk72 r (Rt r Rz))
noncomputable def spec_l15Key (l : List Ent) (snaps : List Int) (bottom : Bool) : Option (List Ent) :=
  bindC (loopO (fun (S2 : Int × List Ent) => if (decide (S2.1 < ((l.length : Nat) : Int))) = true then (bindC (loopO (fun (S7 : Bool × Int) => if (decide (S7.2 < ((snaps.length : Nat) : Int))) = true then ((idx l S2.1).bind fun E12 =>
  (idx snaps S7.2).bind fun E14 =>
  (spec_l9Get l E12.Key E14).bind fun R16 =>
  (if S7.1 = true then (some true)
  else (if R16.2 = true then (some (decide (R16.1.Seq = E12.Seq)))
  else (some false))).bind (fun (T25 : Bool) =>
  some (.go (T25, IntKind.i64.wrap (S7.2 + (1 : Int))))))
  else (some (.done (.go S7.1))))
  (decide (S2.1 = (0 : Int)), (0 : Int)))
  (fun (T9 : Bool) => bindC (if T9 = true then ((idx l S2.1).bind fun E32 =>
  (app 48 S2.2 ([E32])).bind fun E36 =>
  some (.go E36))
  else (some (.go S2.2)))
  (fun (T29 : List Ent) => some (.go (IntKind.i64.wrap (S2.1 + (1 : Int)), T29)))))
  else (some (.done (.go S2.2))))
  ((0 : Int), ([] : List Ent)))
  (fun (T4 : List Ent) => bindC (loopO (fun (S38 : List Ent) => (if bottom = true then (if (decide (((S38.length : Nat) : Int) > (0 : Int))) = true then ((idx S38 (IntKind.i64.wrap (((S38.length : Nat) : Int) - (1 : Int)))).bind fun E46 =>
  some E46.Del)
  else (some false))
  else (some false)).bind (fun (T42 : Bool) =>
  if T42 = true then ((piece S38 (0 : Int) (IntKind.i64.wrap (((S38.length : Nat) : Int) - (1 : Int)))).bind fun E50 =>
  (app 48 ([] : List Ent) E50).bind fun E53 =>
  some (.go E53))
  else (some (.done (.go S38)))))
  T4)
  (fun (T40 : List Ent) => some T40))
theorem spec_l15Key_c {l : List Ent} {snaps : List Int} {bottom : Bool} {U0 U1 : Value} : Cn Tryz.prog 100 [U0, U1, .bool bottom] [] [(U0, lc l), (U1, lc snaps)] (spec_l15Key l snaps bottom) (fun _ (X : Value) => X) fun r X => [.own X (lc r)] := by
  unfold spec_l15Key
  refine Ci Tryz.func100 r r ?_
  rintro w S ⟨Z0,Z1,-⟩
  refine Sr<|Qs 1 r<|Nx<|Sr<|Fo (Bs ([] : List Ent) ke24 kz72) fun B1=>Qs 1 r<|Nx<|Sq<|Sr<|Qs 1 r<|Nx<|Jn Value [2] [] (fun _ X=>[(7, X)]) (fun T X=>[.own X (lc T)]) r2 r2 (?_) fun T4 X5=>?_
  ·refine Wb<|Lp Value [0,1,2] [] (fun T X=>[(7, X), (8, iv T.1)]) (fun T X=>[.own X (lc T.2)]) (.slice (some ⟨B1, 0, none⟩) 0 0) [0] r2 r2 fun S2 X3=>Sq<|Sr<|Qs 2 r<|Yo (Ln ke24 (Bc Z0) r)<|Qs 1 r<|Nx<|Wc r (fun H6=>?_) fun H6=>?_
   ·refine Sn<|Sq<|Wb<|Sr<|Qs 3 r<|Nx<|Sq<|Sr<|Qs 1 r<|Nx<|Ju [0,1,2,7,8] (fun T=>[(9, .bool T)]) r1 (?_) fun T9=>?_
    ·refine Wb<|Lu [0,1,2,7,8] (fun T=>[(9, .bool T.1), (10, iv T.2)]) r1 fun S7=>Sq<|Sr<|Qs 2 r<|Yo (Ln ke26 (Bc Z1) r)<|Qs 1 r<|Nx<|Wc r (fun H11=>?_) fun H11=>?_
     ·refine Sn<|Sq<|Wb<|Sq<|Wi fun E12 H13=>Wi fun E14 H15=>Wi fun R16 H17=>Jw Nat [0,1,2,7,8,9,10] [0] (fun X=>[(11, pt X), (12, .bool R16.2)]) (fun X=>[.box X 72 [strV R16.1.Key, iv R16.1.Seq, .bool R16.1.Del, strV R16.1.Val]]) r1 r1 (?_) fun X22=>?_
      ·refine Dr [0] r hMix<|Aq [0,1,2] [0] r<|Ay 3 [0] r (Ix ke24 (Bc Z0) H13 r)<|Ay 4 [0] r (Fe kf72_0 (Bc Z0) H13 r)<|Ay 5 [0] r (Le kk9 (Bc Z0) H13 r)<|Aq [6,7] [0] r<|Ay 8 [0] r (Ix ke26 (Bc Z1) H15 r)<|Ay 9 [0] r (Le kk3 (Bc Z1) H15 r)<|A2 10 14 (Xe [0] r (Cl [] spec_l9Get_c H17 r r1 ⟨(Bc Z0),⟨⟩⟩) fun _=>Aq [11,12,13] [0] r<|A1 14<|Xe [1] r (Al kz72 r) fun B25=>A1 15<|Xu [1] r (Sb 0 kk72 r (Cp r) r)<|Aq [16] [1] r<|Az<|Bg B25 [1,0])<|Xe [1] r (Al kz72 r) fun B24=>A1 10<|Xe [1] r (Cl [] spec_l9Get_c H17 r r1 ⟨(Bc Z0),⟨⟩⟩) fun _=>?_
       exact Aq [11,12,13] [1] r<|A1 15<|Xu [1] r (Sb 0 kk72 r (Cp r) r)<|Aq [16] [1] r<|Az<|Bg B24 [1,0]
      refine Ne<|Jb Unit [0,1,2,7,8,10] [0] (fun T _=>[(9, .bool T)]) (fun _ _=>[]) r2 r2 (?_) fun T25 X26=>?_
      ·refine Dr [0,0] r hMix<|Aq [0,1] [0,0] r<|Ia (fun H27=>Ax [2,3] [0,0] (beq_tf H27) r r<|Au [4,5,6,7,8,9,10,11] [0,0] r r<|Ax [12] [0,0] (beq_tf H27) r r<|Ay 13 [0,0] r (Pt H27 r)<|Aq [14] [0,0] r<|Az<|Bg () [0]) fun H27=>Ag 2 [0,0] (gdA (beq_ff H27)) r (Y.move r)<|Ag 3 [0,0] (gdA (beq_ff H27)) r (Y.move r)<|Ia (fun H28=>?_) fun H28=>?_
       ·exact Ag 4 [0,0] (gdA (beq_tt H28)) r (Fb kf72_1 r)<|Ag 5 [0,0] (gdA (beq_tt H28)) r (Lb 1 kk3 r)<|Ag 6 [0,0] (gdA (beq_tt H28)) r (Y.move r)<|Ag 7 [0,0] (gdA (beq_tt H28)) r (Y.move r)<|Ag 8 [0,0] (gdA (beq_tt H28)) r (Ix ke24 (Bc Z0) H13 r)<|Ag 9 [0,0] (gdA (beq_tt H28)) r (Fe kf72_1 (Bc Z0) H13 r)<|Ag 10 [0,0] (gdA (beq_tt H28)) r (Le kk3 (Bc Z0) H13 r)<|Ag 11 [0,0] (gdA (beq_tt H28)) r (Y.eql r r)<|Ag 12 [0,0] (gdA (beq_ff H27)) r (Pt H28 r)<|Ay 13 [0,0] r (Pf H27 r)<|Aq [14] [0,0] r<|Az<|Bg () [0]
       exact Ax [4,5,6,7,8,9,10,11] [0,0] (beq_ft H28) r r<|Ag 12 [0,0] (gdA (beq_ff H27)) r (Pf H28 r)<|Ay 13 [0,0] r (Pf H27 r)<|Aq [14] [0,0] r<|Az<|Bg () [0]
      exact Bn<|Ne<|Rg<|Qs 3 r<|Nl<|Lg () [0]
     exact Wx<|Tx<|Ex<|Be<|Jg () [0]
    exact Ne<|Sr<|Qs 1 r<|Nx<|Jn Value [0,1,2,8] [] (fun _ X=>[(7, X)]) (fun T X=>[.own X (lc T)]) r2 r2 (Wc r (fun H31=>Rg<|Qs 3 r<|Bi fun E32 H33=>Yo (Ix ke24 (Bc Z0) H33 r)<|Yo (Le kk72 (Bc Z0) H33 r)<|Fo (Bs [E32] ke24 kz72) fun B34=>Bi fun E36 H37=>Fo (Ap [1] H37 ke24 kz72 r (Oc 0 r)) fun V35=>Qs 1 r<|Nl<|Jg V35 [0]) fun H31=>Sk<|Jg X3 [0]) fun T29 X30=>Bn<|Ne<|Rg<|Qs 3 r<|Nl<|Lg X30 [0]
   exact Wx<|Tx<|Ex<|Be<|Jg X3 [0]
  refine Ne<|Sq<|Jn Value [] [] (fun _ X=>[(7, X)]) (fun T X=>[.own X (lc T)]) r2 r2 (?_) fun T40 X41=>?_
  ·refine Wb<|Lp Value [2] [] (fun _ X=>[(7, X)]) (fun T X=>[.own X (lc T)]) X5 [0] r2 r2 fun S38 X39=>Sq<|Sq<|Jv [2,7] (fun T=>[(78, .bool T)]) r1 (?_) fun T42=>?_
   ·refine Rg<|Qs 2 r<|It (fun H44=>?_) fun H44=>?_
    ·refine Qg 1 (beq_tt H44) r r<|Yg (gdA (beq_tt H44)) (Ln ke24 (Oc 0 r) r)<|Qg 1 (beq_tt H44) r r<|Yo (Pt H44 r)<|Qs 1 r<|It (fun H45=>?_) fun H45=>?_
     ·exact Qg 2 (beq_tt H45) r r<|Yg (gdA (beq_tt H45)) (Ln ke24 (Oc 0 r) r)<|Qg 1 (beq_tt H45) r r<|Bi fun E46 H47=>Yg (gdA (beq_tt H45)) (Ix ke24 (Oc 0 r) H47 r)<|Yg (gdA (beq_tt H45)) (Fe kf72_2 (Oc 0 r) H47 r)<|Yg (gdA (beq_tt H45)) (Le kk4 (Oc 0 r) H47 r)<|Yo (Pt H45 r)<|Nl<|Bg () [0]
     exact Of 7 (beq_ft H45) r r<|Yo (Pf H45 r)<|Nl<|Bg () [0]
    exact Of 3 (beq_ft H44) r r<|Yo (Pf H44 r)<|Qs 1 r<|Of 7 r r r<|Yo (Pf r r)<|Nl<|Bg () [0]
   refine Ne<|Wc r (fun H48=>?_) fun H48=>?_
   ·exact Sn<|Wb<|Rg<|Fo (Bs ([] : List Ent) ke24 kz72) fun B49=>Qs 2 r<|Yo (Ln ke24 (Oc 1 r) r)<|Qs 1 r<|Bi fun E50 H51=>Yo (Y.subs H51 ke24 (Oc 1 r) r r ⟨_, r⟩)<|Bi fun E53 H54=>Fo (Ap [0] H54 ke24 kz72 r (Can.sub H51 r (Can.own 1 r))) fun V52=>Qs 1 r<|Nl<|Bn<|Lg V52 [0]
   exact Wx<|Tx<|Ex<|Be<|Jg X39 [0]
  exact Ne<|Sr<|Qs 2 r<|Nx<|Wr<|Re X41 [0]
noncomputable def spec_CompactEnts (l : List Ent) (snaps : List Int) (bottom : Bool) : Option (List Ent) :=
  (if (decide (((l.length : Nat) : Int) > (400 : Int))) = true then (some true)
  else ((spec_l9Ents l).bind fun R5 =>
  some (!R5))).bind (fun (T2 : Bool) =>
  if T2 = true then (some ([] : List Ent))
  else (bindC (loopO (fun (S9 : Int × List Ent) => if (decide (S9.1 < ((l.length : Nat) : Int))) = true then ((spec_l15Last l S9.1).bind fun R14 =>
  (piece l S9.1 R14).bind fun E17 =>
  (spec_l15Key E17 snaps bottom).bind fun R20 =>
  (app 48 S9.2 R20).bind fun E24 =>
  some (.go (R14, E24)))
  else (some (.done (.go S9.2))))
  ((0 : Int), ([] : List Ent)))
  (fun (T11 : List Ent) => some T11)))
theorem spec_CompactEnts_c {l : List Ent} {snaps : List Int} {bottom : Bool} {U0 U1 : Value} : Cn Tryz.prog 85 [U0, U1, .bool bottom] [] [(U0, lc l), (U1, lc snaps)] (spec_CompactEnts l snaps bottom) (fun _ (X : Value) => X) fun r X => [.own X (lc r)] := by
  unfold spec_CompactEnts
  refine Ci Tryz.func85 r r ?_
  rintro w S ⟨Z0,Z1,-⟩
  refine Sr<|Qs 1 r<|Nx<|Sr<|Fo (Bs ([] : List Ent) ke24 kz72) fun B1=>Qs 1 r<|Nx<|Sq<|Sq<|Jv [0,1,2,7] (fun T=>[(17, .bool T)]) r1 (?_) fun T2=>?_
  ·exact Rg<|Qs 1 r<|Yo (Ln ke24 (Bc Z0) r)<|Qs 2 r<|It (fun H4=>Of 3 (beq_tf H4) r r<|Yo (Pt H4 r)<|Nl<|Bg () [0]) fun H4=>Qg 1 (beq_ff H4) r r<|Bi fun R5 H6=>Fg (gdA (beq_ff H4)) (Cl [] spec_l9Ents_c H6 r r1 ⟨(Bc Z0),⟨⟩⟩) fun _=>Qg 1 (beq_ff H4) r r<|Yo (Pf H4 r)<|Nl<|Bg () [0]
  refine Ne<|Wc r (fun H8=>Sr<|Qs 2 r<|Nx<|Wr<|Tr<|Re (.slice (some ⟨B1, 0, none⟩) 0 0) [0]) fun H8=>Sn<|Sq<|Sr<|Qs 1 r<|Nx<|Jn Value [] [] (fun _ X=>[(7, X)]) (fun T X=>[.own X (lc T)]) r2 r2 (?_) fun T11 X12=>?_
  ·refine Wb<|Lp Value [0,1,2] [] (fun T X=>[(7, X), (8, iv T.1)]) (fun T X=>[.own X (lc T.2)]) (.slice (some ⟨B1, 0, none⟩) 0 0) [0] r2 r2 fun S9 X10=>Sq<|Sr<|Qs 2 r<|Yo (Ln ke24 (Bc Z0) r)<|Qs 1 r<|Nx<|Wc r (fun H13=>?_) fun H13=>?_
   ·refine Sn<|Sq<|Wb<|Rg<|Qs 5 r<|Bi fun R14 H15=>Fo (Cl [] spec_l15Last_c H15 r r1 ⟨(Bc Z0),⟨⟩⟩) fun _=>Bi fun E17 H18=>?_
    have Q19:=Base.sub (sz := 4) H18 r Z0
    exact Yo (Y.subs H18 ke24 (Bc Z0) r ⟨_, r⟩ ⟨_, r⟩)<|Qs 2 r<|Bi fun R20 H21=>Fo (Cl [] spec_l15Key_c H21 r r1 ⟨(Bc Q19),(Bc Z1),⟨⟩⟩) fun Y22=>Bi fun E24 H25=>Fo (Ap [1] H25 ke24 kz72 r (Oc 0 r)) fun V23=>Qs 1 r<|Nl<|Bn<|Ne<|Rg<|Qs 2 r<|Fo (Cl [] spec_l15Last_c H15 r r1 ⟨(Bc Z0),⟨⟩⟩) fun _=>Qs 1 r<|Nl<|Lg V23 [0]
   exact Wx<|Tx<|Ex<|Be<|Jg X10 [0]
  exact Ne<|Sr<|Qs 2 r<|Nx<|Wr<|Re X12 [0]
noncomputable def spec_EngMerge (e : Eng) : Option (Eng × Bool) :=
  (spec_EngOk e).bind fun R3 =>
  if (!R3) = true then (some ({ Mem := ([] : List Ent), Tables := ([] : List (List Ent)), Seq := (0 : Int), Snaps := ([] : List Int) : Eng }, false))
  else ((spec_l20Copy e).bind fun R10 =>
  if (decide (((R10.Tables.length : Nat) : Int) = (0 : Int))) = true then (some (R10, false))
  else ((spec_MergeEnts R10.Tables).bind fun R15 =>
  (spec_CompactEnts R15 R10.Snaps true).bind fun R18 =>
  bindC (if (decide (((R18.length : Nat) : Int) > (0 : Int))) = true then ((app 24 ([] : List (List Ent)) ([R18])).bind fun E27 =>
  some (.go E27))
  else (some (.go ([] : List (List Ent)))))
  (fun (T22 : List (List Ent)) => some ({ Mem := R10.Mem, Tables := T22, Seq := R10.Seq, Snaps := R10.Snaps : Eng }, true))))
theorem spec_EngMerge_c {e : Eng} {U0 U1 U2 : Value} : Cn Tryz.prog 52 [.agg #[U0, U1, iv e.Seq, U2]] [] [(U0, lc e.Mem), (U1, lc e.Tables), (U2, lc e.Snaps)] (spec_EngMerge e) (fun r (X : Value × Value × Value) => .tuple #[.agg #[X.1, X.2.1, iv r.1.Seq, X.2.2], .bool r.2]) fun r X => [.own X.1 (lc r.1.Mem), .own X.2.1 (lc r.1.Tables), .own X.2.2 (lc r.1.Snaps)] := by
  unfold spec_EngMerge
  refine Ci Tryz.func52 r r ?_
  rintro w S ⟨Z0,Z1,Z2,-⟩
  refine Sr<|Fo (Bx r (Ca ⟨Ob Z0,Ob Z1,Op',Ob Z2,⟨⟩⟩)) fun B1=>Fo (Al kz28 r) fun B2=>Qs 1 r<|Nx<|Sq<|Sr<|Yo (Lb 1 kk28 r)<|Bi fun R3 H4=>Fo (Cl [] spec_EngOk_c H4 r r1 ⟨(Bc Z0),(Bc Z1),(Bc Z2),⟨⟩⟩) fun _=>Qs 1 r<|Nx<|Wc r (fun H6=>Sr<|Yo (Bd kp28 kz28 (Pz) r)<|Fu (Sb 0 kk28 r (Cp r) r)<|Qs 1 r<|Nx<|Wr<|Tr<|Ni 4<|Ni 1<|Ni 1<|Rf ((.slice none 0 0), (.slice none 0 0), (.slice none 0 0)) [2,1,0] (RV.cell 3 r r kk28 r (Rt r Rz))) fun H6=>Sn<|Sr<|Yo (Lb 1 kk28 r)<|Bi fun R10 H11=>Fo (Cl [] spec_l20Copy_c H11 r r1 ⟨(Bc Z0),(Bc Z1),(Bc Z2),⟨⟩⟩) fun Y12=>?_
  refine Fo (Al kz28 r) fun B13=>Fu (Sb 0 kk28 r (Ca ⟨Ow' 1,Ow' 2,Op',Ow' 3,⟨⟩⟩) r)<|Nx<|Sq<|Sr<|Yo (Fb kf28_1 r)<|Yo (Lb 0 kk25 r)<|Yo (Ln ke25 (Oc 2 r) r)<|Qs 1 r<|Nx<|Wc r (fun H14=>Sr<|Yo (Lb 0 kk28 r)<|Fu (Sb 4 kk28 r (Ca ⟨Ow' 1,Ow' 2,Op',Ow' 3,⟨⟩⟩) r)<|Qs 1 r<|Nx<|Wr<|Tr<|Rf (Y12.1, Y12.2.1, Y12.2.2) [1,1,1] (RV.cell 4 r r kk28 r (Rt r Rz))) fun H14=>Sn<|Sq<|Dr [0,0,0,0,0,0] r hMix<|Ay 0 [0,0,0,0,0,0] r (Fb kf28_1 r)<|Ay 1 [0,0,0,0,0,0] r (Lb 0 kk25 r)<|Ay 3 [0,0,0,0,0,0] r (Fb kf28_3 r)<|Ay 4 [0,0,0,0,0,0] r (Lb 0 kk26 r)<|Ai fun R15 H16=>?_
  refine A1 2<|Xe [1,1,1,1,1,1] r (Cl [] spec_MergeEnts_c H16 r r1 ⟨(Oc 2 r),⟨⟩⟩) fun Y17=>Ai fun R18 H19=>A1 5<|Xe [2,2,2,2,2,2] r (Cl [] spec_CompactEnts_c H19 r r1 ⟨(Oc 0 r),(Oc 4 r),⟨⟩⟩) fun Y20=>Aq [6] [2,2,2,2,2,2] r<|Az<|Ne<|Sr<|Fo (Bk [] ke25 kz24 r (Qz)) fun B21=>Kt (Ha [0] ([] : List (List Ent)) r Cz)<|Yo (Fb kf28_1 r)<|Fu (Sb 3 kk25 r (Cp r) r)<|Nx<|Sq<|Sr<|Qs 1 r<|Yo (Ln ke24 (Oc 1 r) r)<|Qs 1 r<|Nx<|Jn Value [2,4] [7,4,5] (fun _ _=>[]) (fun T X=>[.box B13 28 [Y12.1, X, iv R10.Seq, Y12.2.2], .own X (lc T)]) r2 r2 (?_) fun T22 X23=>?_
  ·refine Wc r (fun H24=>?_) fun H24=>?_
   ·exact Rg<|Yo (Fb kf28_1 r)<|Yo (Lb 3 kk25 r)<|Qs 1 r<|Fo (Bk [.raw Y20] ke25 kz24 r (Qc (Co 1)<|Qz)) fun B25=>Kt (Ha [0, 1] ([R18] : List (List Ent)) r (Cf Cz))<|Bi fun E27 H28=>Fo (Aw [1, 0] H28 ke25 kz24 r) fun V26=>Yo (Fb kf28_1 r)<|Fu (Sb 2 kk25 r (Co 0) r)<|Nl<|Jg V26 [6,3,4,2,0]
   exact Sk<|Jg (.slice (some ⟨B21, 0, none⟩) 0 0) [7,4,5,3,0]
  exact Ne<|Sr<|Yo (Lb 3 kk28 r)<|Fu (Sb 0 kk28 r (Ca ⟨Ow' 1,Ow' 4,Op',Ow' 2,⟨⟩⟩) r)<|Qs 1 r<|Nx<|Wr<|Rf (Y12.1, X23, Y12.2.2) [1,3,1] (RV.cell 0 r r kk28 r (Rt r Rz))
noncomputable def spec_l1Pick (c : L1Cur) (list : List (List UInt8)) : Option (List UInt8 × L1Cur) :=
  (spec_l1Below c ((list.length : Nat) : Int)).bind fun R1 =>
  (idx list R1.1).bind fun E4 =>
  some (E4, { b := c.b, i := R1.2.i, h := R1.2.h : L1Cur })
theorem spec_l1Pick_c {c : L1Cur} {list : List (List UInt8)} {U0 U2 : Value} {U1 : Nat} : Cn Tryz.prog 59 [pt U1, U2] [.box U1 80 [U0, iv c.i, iv c.h]] [(U0, lc c.b), (U2, lc list)] (spec_l1Pick c list) (fun r (_ : Unit) => strV r.1) fun r _ => [.box U1 80 [U0, iv r.2.i, iv r.2.h]] := by
  unfold spec_l1Pick
  refine Ci Tryz.func59 r r ?_
  rintro w S ⟨Z0,Z1,-⟩
  exact Sr<|Qs 1 r<|Nx<|Sr<|Qs 3 r<|Yo (Ln ke89 (Bc Z1) r)<|Bi fun R1 H2=>Fo (Cl [0] spec_l1Below_c H2 r r1 ⟨(Bc Z0),⟨⟩⟩) fun _=>Bi fun E4 H5=>Yo (Ix ke89 (Bc Z1) H5 r)<|Yo (Le kk9 (Bc Z1) H5 r)<|Qs 1 r<|Nx<|Wr<|Re () [0]
noncomputable def spec_l7Key (c : L1Cur) : Option (List UInt8 × L1Cur) :=
  (spec_l1Pick c ([[97], [98], [97, 98], [97, 98, 99], [98, 48], [99], [0], [122, 122]])).bind fun R2 =>
  some (R2.1, { b := c.b, i := R2.2.i, h := R2.2.h : L1Cur })
theorem spec_l7Key_c {c : L1Cur} {U0 : Value} {U1 : Nat} : Cn Tryz.prog 57 [pt U1] [.box U1 80 [U0, iv c.i, iv c.h]] [(U0, lc c.b)] (spec_l7Key c) (fun r (_ : Unit) => strV r.1) fun r _ => [.box U1 80 [U0, iv r.2.i, iv r.2.h]] := by
  unfold spec_l7Key
  refine Ci Tryz.func57 r r ?_
  rintro w S ⟨Z0,-⟩
  exact Sr<|Qs 1 r<|Nx<|Sr<|Qs 1 r<|Fo (Bs [[97], [98], [97, 98], [97, 98, 99], [98, 48], [99], [0], [122, 122]] ke89 kz9) fun B1=>Bi fun R2 H3=>Fo (Cl [1] spec_l1Pick_c H3 r r1 ⟨(Bc Z0),(Oc 0 r),⟨⟩⟩) fun _=>Qs 1 r<|Nx<|Wr<|Re () [0]
noncomputable def spec_l1Once (c : L1Cur) (n : Int) : Option (Bool × L1Cur) :=
  (spec_l1Below c n).bind fun R1 =>
  some (decide (R1.1 = (0 : Int)), { b := c.b, i := R1.2.i, h := R1.2.h : L1Cur })
theorem spec_l1Once_c {c : L1Cur} {n : Int} {U0 : Value} {U1 : Nat} : Cn Tryz.prog 54 [pt U1, iv n] [.box U1 80 [U0, iv c.i, iv c.h]] [(U0, lc c.b)] (spec_l1Once c n) (fun r (_ : Unit) => .bool r.1) fun r _ => [.box U1 80 [U0, iv r.2.i, iv r.2.h]] := by
  unfold spec_l1Once
  refine Ci Tryz.func54 r r ?_
  rintro w S ⟨Z0,-⟩
  exact Sr<|Qs 1 r<|Nx<|Sr<|Qs 2 r<|Bi fun R1 H2=>Fo (Cl [0] spec_l1Below_c H2 r r1 ⟨(Bc Z0),⟨⟩⟩) fun _=>Qs 2 r<|Nx<|Wr<|Re () [0]
noncomputable def spec_l1Text (c : L1Cur) (most : Int) : Option (List UInt8 × L1Cur) :=
  (spec_l1Below c (4 : Int)).bind fun R2 =>
  (spec_l1Below ({ b := c.b, i := R2.2.i, h := R2.2.h : L1Cur }) (IntKind.i64.wrap (most + (1 : Int)))).bind fun R5 =>
  bindC (loopO (fun (S8 : Int × Int × Int × List UInt8) => if (decide (S8.2.2.1 > (0 : Int))) = true then ((spec_l1Byte ({ b := c.b, i := S8.1, h := S8.2.1 : L1Cur })).bind fun R13 =>
  bindC (if (decide (R2.1 = (1 : Int))) = true then (some (.go (Int.tmod R13.1 (2 : Int))))
  else (some (.go R13.1)))
  (fun (T16 : Int) => bindC (if (decide (R2.1 = (2 : Int))) = true then (some (.go (IntKind.i64.wrap ((97 : Int) + (Int.tmod T16 (4 : Int))))))
  else (some (.go T16)))
  (fun (T19 : Int) => (app 1 S8.2.2.2 ([toU8 T19])).bind fun E24 =>
  some (.go (R13.2.i, R13.2.h, IntKind.i64.wrap (S8.2.2.1 - (1 : Int)), E24)))))
  else (some (.done (.go (S8.1, S8.2.1, S8.2.2.2)))))
  (R5.2.i, R5.2.h, R5.1, ([] : List UInt8)))
  (fun (T10 : Int × Int × List UInt8) => some (T10.2.2, { b := c.b, i := T10.1, h := T10.2.1 : L1Cur }))
theorem spec_l1Text_c {c : L1Cur} {most : Int} {U0 : Value} {U1 : Nat} : Cn Tryz.prog 58 [pt U1, iv most] [.box U1 80 [U0, iv c.i, iv c.h]] [(U0, lc c.b)] (spec_l1Text c most) (fun r (_ : Unit) => strV r.1) fun r _ => [.box U1 80 [U0, iv r.2.i, iv r.2.h]] := by
  unfold spec_l1Text
  refine Ci Tryz.func58 r r ?_
  rintro w S ⟨Z0,-⟩
  refine Sr<|Qs 1 r<|Nx<|Sr<|Fo (Bs ([] : List UInt8) ke22 kz5) fun B1=>Qs 1 r<|Nx<|Sr<|Qs 1 r<|Bi fun R2 H3=>Fo (Cl [1] spec_l1Below_c H3 r r1 ⟨(Bc Z0),⟨⟩⟩) fun _=>Qs 1 r<|Nx<|Sq<|Sr<|Qs 3 r<|Bi fun R5 H6=>Fo (Cl [0] spec_l1Below_c H6 r r1 ⟨(Bc Z0),⟨⟩⟩) fun _=>Qs 1 r<|Nx<|Jn Value [] [] (fun _ X=>[(5, X)]) (fun T X=>[.box U1 80 [U0, iv T.1, iv T.2.1], .own X (lc T.2.2)]) r2 r2 (?_) fun T10 X11=>?_
  ·refine Wb<|Lp Value [0,6] [] (fun T X=>[(5, X), (7, iv T.2.2.1)]) (fun T X=>[.box U1 80 [U0, iv T.1, iv T.2.1], .own X (lc T.2.2.2)]) (.slice (some ⟨B1, 0, none⟩) 0 0) [0,0] r2 r2 fun S8 X9=>Sq<|Sr<|Qs 2 r<|Nx<|Wc r (fun H12=>?_) fun H12=>?_
   ·refine Sn<|Sq<|Wb<|Sr<|Qs 1 r<|Bi fun R13 H14=>Fo (Cl [0] spec_l1Byte_c H14 r r1 ⟨(Bc Z0),⟨⟩⟩) fun _=>Qs 1 r<|Nx<|Sq<|Sr<|Qs 2 r<|Nx<|Ju [0,5,6,7] (fun T=>[(8, iv T)]) r1 (Wc r (fun H18=>Rg<|Qs 1 r<|Yo (Y.rem (by decide) r r)<|Qs 1 r<|Nl<|Jg () [0,0]) fun H18=>Sk<|Jg () [0,0]) fun T16=>Ne<|Sq<|Sr<|Qs 2 r<|Nx<|Ju [0,5,6,7] (fun T=>[(8, iv T)]) r1 (Wc r (fun H21=>Rg<|Qs 1 r<|Yo (Y.rem (by decide) r r)<|Qs 2 r<|Nl<|Jg () [0,0]) fun H21=>Sk<|Jg () [0,0]) fun T19=>Ne<|Rg<|Qs 2 r<|Yo (Y.conv8 ki3 ki5 r)<|Fo (Bs [toU8 T19] ke22 kz5) fun B22=>?_
    exact Bi fun E24 H25=>Fo (Ap [2] H25 ke22 kz5 r (Oc 0 r)) fun V23=>Qs 1 r<|Nl<|Bn<|Ne<|Rg<|Qs 3 r<|Nl<|Lg V23 [2,0]
   exact Wx<|Tx<|Ex<|Be<|Jg X9 [0,0]
  exact Ne<|Sr<|Qs 1 r<|Yo (Y.toStr ke22 ki5 ks9 (Oc 1 r) r)<|Qs 1 r<|Nx<|Wr<|Re () [0]
noncomputable def spec_l7Batch (c : L1Cur) : Option (List Op × L1Cur) :=
  (spec_l1Below c (4 : Int)).bind fun R2 =>
  bindC (loopO (fun (S5 : Int × Int × Int × List Op) => if (decide (S5.2.2.1 > (0 : Int))) = true then ((spec_l7Key ({ b := c.b, i := S5.1, h := S5.2.1 : L1Cur })).bind fun R10 =>
  (spec_l1Once ({ b := c.b, i := R10.2.i, h := R10.2.h : L1Cur }) (3 : Int)).bind fun R14 =>
  bindC (if R14.1 = true then (some (.go (R14.2.i, R14.2.h, true, [])))
  else ((spec_l1Text ({ b := c.b, i := R14.2.i, h := R14.2.h : L1Cur }) (5 : Int)).bind fun R20 =>
  some (.go (R20.2.i, R20.2.h, false, R20.1))))
  (fun (T17 : Int × Int × Bool × List UInt8) => (app 40 S5.2.2.2 ([{ Key := R10.1, Del := T17.2.2.1, Val := T17.2.2.2 : Op }])).bind fun E25 =>
  some (.go (T17.1, T17.2.1, IntKind.i64.wrap (S5.2.2.1 - (1 : Int)), E25))))
  else (some (.done (.go (S5.1, S5.2.1, S5.2.2.2)))))
  (R2.2.i, R2.2.h, IntKind.i64.wrap ((1 : Int) + R2.1), ([] : List Op)))
  (fun (T7 : Int × Int × List Op) => (spec_l1Once ({ b := c.b, i := T7.1, h := T7.2.1 : L1Cur }) (10 : Int)).bind fun R27 =>
  bindC (if R27.1 = true then ((spec_l1Below ({ b := c.b, i := R27.2.i, h := R27.2.h : L1Cur }) ((T7.2.2.length : Nat) : Int)).bind fun R33 =>
  (spec_l1Below ({ b := c.b, i := R33.2.i, h := R33.2.h : L1Cur }) (4 : Int)).bind fun R36 =>
  bindC (if (decide (R36.1 = (0 : Int))) = true then ((spec_l1Pick ({ b := c.b, i := R36.2.i, h := R36.2.h : L1Cur }) ([[], [97, 97, 97, 97, 97, 97, 97, 97, 97, 97], [97, 97, 97, 97, 97, 97, 97, 97, 97, 97, 97]])).bind fun R43 =>
  (idx T7.2.2 R33.1).bind fun E46 =>
  some (.go (R43.2.i, R43.2.h, (T7.2.2.set R33.1.toNat ({ Key := R43.1, Del := E46.Del, Val := E46.Val : Op })))))
  else (bindC (if (decide (R36.1 = (1 : Int))) = true then ((spec_l1Text ({ b := c.b, i := R36.2.i, h := R36.2.h : L1Cur }) (1 : Int)).bind fun R51 =>
  (cat ([97, 97, 97, 97, 97, 97, 97, 97, 97, 97, 97, 97, 97, 97, 97, 97]) R51.1).bind fun E54 =>
  (idx T7.2.2 R33.1).bind fun E56 =>
  some (.go (R51.2.i, R51.2.h, (T7.2.2.set R33.1.toNat ({ Key := E56.Key, Del := E56.Del, Val := E54 : Op })))))
  else (bindC (if (decide (R36.1 = (2 : Int))) = true then ((app 40 T7.2.2 T7.2.2).bind fun E62 =>
  some (.go E62))
  else (some (.go ([] : List Op))))
  (fun (T58 : List Op) => some (.go (R36.2.i, R36.2.h, T58)))))
  (fun (T48 : Int × Int × List Op) => some (.go (T48.1, T48.2.1, T48.2.2)))))
  (fun (T39 : Int × Int × List Op) => some (.go (T39.1, T39.2.1, T39.2.2))))
  else (some (.go (R27.2.i, R27.2.h, T7.2.2))))
  (fun (T30 : Int × Int × List Op) => some (T30.2.2, { b := c.b, i := T30.1, h := T30.2.1 : L1Cur })))
theorem spec_l7Batch_c {c : L1Cur} {U0 : Value} {U1 : Nat} : Cn Tryz.prog 26 [pt U1] [.box U1 80 [U0, iv c.i, iv c.h]] [(U0, lc c.b)] (spec_l7Batch c) (fun _ (X : Value) => X) fun r X => [.box U1 80 [U0, iv r.2.i, iv r.2.h], .own X (lc r.1)] := by
  unfold spec_l7Batch
  refine Ci Tryz.func26 r r ?_
  rintro w S ⟨Z0,-⟩
  refine Sr<|Qs 1 r<|Nx<|Sr<|Fo (Bs ([] : List Op) ke36 kz61) fun B1=>Qs 1 r<|Nx<|Sq<|Sr<|Qs 1 r<|Bi fun R2 H3=>Fo (Cl [1] spec_l1Below_c H3 r r1 ⟨(Bc Z0),⟨⟩⟩) fun _=>Qs 2 r<|Nx<|Jn Value [0] [] (fun _ X=>[(3, X)]) (fun T X=>[.box U1 80 [U0, iv T.1, iv T.2.1], .own X (lc T.2.2)]) r2 r2 (?_) fun T7 X8=>?_
  ·refine Wb<|Lp Value [0] [] (fun T X=>[(3, X), (4, iv T.2.2.1)]) (fun T X=>[.box U1 80 [U0, iv T.1, iv T.2.1], .own X (lc T.2.2.2)]) (.slice (some ⟨B1, 0, none⟩) 0 0) [0,0] r2 r2 fun S5 X6=>Sq<|Sr<|Qs 2 r<|Nx<|Wc r (fun H9=>?_) fun H9=>?_
   ·refine Sn<|Sq<|Wb<|Sr<|Qs 1 r<|Bi fun R10 H11=>Fo (Cl [0] spec_l7Key_c H11 r r1 ⟨(Bc Z0),⟨⟩⟩) fun _=>Yo (Bd kp61 kz61 (Pc r (Cp r)<|Pz) r)<|Fo (Al kz61 r) fun B13=>Fu (Sb 0 kk61 r (Cp r) r)<|Nx<|Sq<|Sr<|Qs 1 r<|Bi fun R14 H15=>Fo (Cl [1] spec_l1Once_c H15 r r1 ⟨(Bc Z0),⟨⟩⟩) fun _=>Nx<|Jn Unit [0,3,4,5] [2] (fun _ _=>[]) (fun T _=>[.box U1 80 [U0, iv T.1, iv T.2.1], .box B13 61 [strV R10.1, .bool T.2.2.1, strV T.2.2.2]]) r2 r2 (Wc r (fun H19=>Rg<|Yo (Fb kf61_1 r)<|Fu (Sb 1 kk4 r (Cp r) r)<|Nl<|Jg () [2,0,0]) fun H19=>Rg<|Qs 1 r<|Bi fun R20 H21=>Fo (Cl [0] spec_l1Text_c H21 r r1 ⟨(Bc Z0),⟨⟩⟩) fun _=>Yo (Fb kf61_2 r)<|Fu (Sb 1 kk9 r (Cp r) r)<|Nl<|Jg () [2,0,0]) fun T17 X18=>?_
    exact Ne<|Rg<|Qs 1 r<|Yo (Lb 2 kk61 r)<|Fo (Bs [{ Key := R10.1, Del := T17.2.2.1, Val := T17.2.2.2 : Op }] ke36 kz61) fun B23=>Bi fun E25 H26=>Fo (Ap [1] H26 ke36 kz61 r (Oc 0 r)) fun V24=>Qs 1 r<|Nl<|Bn<|Ne<|Rg<|Qs 3 r<|Nl<|Lg V24 [2,0]
   exact Wx<|Tx<|Ex<|Be<|Jg X6 [0,0]
  refine Ne<|Sq<|Sr<|Qs 1 r<|Bi fun R27 H28=>Fo (Cl [0] spec_l1Once_c H28 r r1 ⟨(Bc Z0),⟨⟩⟩) fun _=>Nx<|Jn Value [] [] (fun _ X=>[(3, X)]) (fun T X=>[.box U1 80 [U0, iv T.1, iv T.2.1], .own X (lc T.2.2)]) r2 r2 (?_) fun T30 X31=>?_
  ·refine Wc r (fun H32=>?_) fun H32=>?_
   ·refine Sr<|Qs 2 r<|Yo (Ln ke36 (Oc 1 r) r)<|Bi fun R33 H34=>Fo (Cl [0] spec_l1Below_c H34 r r1 ⟨(Bc Z0),⟨⟩⟩) fun _=>Qs 1 r<|Nx<|Sr<|Qs 1 r<|Bi fun R36 H37=>Fo (Cl [0] spec_l1Below_c H37 r r1 ⟨(Bc Z0),⟨⟩⟩) fun _=>Nx<|Wb<|Sr<|Qs 2 r<|Nx<|Jn Value [] [] (fun _ X=>[(3, X)]) (fun T X=>[.box U1 80 [U0, iv T.1, iv T.2.1], .own X (lc T.2.2)]) r2 r2 (?_) fun T39 X40=>?_
    ·refine Wc r (fun H41=>?_) fun H41=>?_
     ·exact Rg<|Qs 3 r<|Fo (Bs [[], [97, 97, 97, 97, 97, 97, 97, 97, 97, 97], [97, 97, 97, 97, 97, 97, 97, 97, 97, 97, 97]] ke89 kz9) fun B42=>Bi fun R43 H44=>Fo (Cl [1] spec_l1Pick_c H44 r r1 ⟨(Bc Z0),(Oc 0 r),⟨⟩⟩) fun _=>Bi fun E46 H47=>Yo (Ix ke36 (Oc 2 r) H47 r)<|Yo (Fe kf61_0 (Oc 2 r) H47 r)<|Fu (Se ({ Key := R43.1, Del := E46.Del, Val := E46.Val : Op }) 2 kk9 H47 r (Cp r) r)<|Nl<|Jg X8 [0,1]
     refine Sr<|Qs 2 r<|Nx<|Jn Value [] [] (fun _ X=>[(3, X)]) (fun T X=>[.box U1 80 [U0, iv T.1, iv T.2.1], .own X (lc T.2.2)]) r2 r2 (?_) fun T48 X49=>?_
     ·refine Wc r (fun H50=>?_) fun H50=>?_
      ·exact Rg<|Qs 3 r<|Bi fun R51 H52=>Fo (Cl [0] spec_l1Text_c H52 r r1 ⟨(Bc Z0),⟨⟩⟩) fun _=>Bi fun E54 H55=>Yo (Y.cat H55 r r)<|Bi fun E56 H57=>Yo (Ix ke36 (Oc 1 r) H57 r)<|Yo (Fe kf61_2 (Oc 1 r) H57 r)<|Fu (Se ({ Key := E56.Key, Del := E56.Del, Val := E54 : Op }) 1 kk9 H57 r (Cp r) r)<|Nl<|Jg X8 [0,0]
      exact Sr<|Qs 2 r<|Nx<|Jn Value [] [0] (fun _ X=>[(3, X)]) (fun T X=>[.own X (lc T)]) r2 r2 (Wc r (fun H60=>Rg<|Qs 2 r<|Bi fun E62 H63=>Fo (Ap [1] H63 ke36 kz61 r (Oc 1 r)) fun V61=>Qs 1 r<|Nl<|Jg V61 [1,0]) fun H60=>Rg<|Fo (Bs ([] : List Op) ke36 kz61) fun B64=>Qs 1 r<|Nl<|Jg (.slice (some ⟨B64, 0, none⟩) 0 0) [1,0]) fun T58 X59=>Jg X59 [0,0]
     exact Jg X49 [0,0]
    exact Bn<|Jg X40 [0,0]
   exact Sk<|Jg X8 [0,0]
  exact Ne<|Sr<|Qs 2 r<|Nx<|Wr<|Re X31 [0,0]
noncomputable def spec_BatchOk (l : List Op) : Option Bool :=
  (spec_l1In ((l.length : Nat) : Int) (1 : Int) (6 : Int)).bind fun R1 =>
  if (!R1) = true then (some false)
  else (bindC (loopO (fun (S5 : Int) => if (decide (S5 < ((l.length : Nat) : Int))) = true then ((idx l S5).bind fun E10 =>
  (spec_l7Op E10).bind fun R12 =>
  if (!R12) = true then (some (.done (.done false)))
  else (some (.go (IntKind.i64.wrap (S5 + (1 : Int))))))
  else (some (.done (.go ()))))
  (0 : Int))
  (fun (T7 : Unit) => some true))
theorem spec_BatchOk_c {l : List Op} {U0 : Value} : Cn Tryz.prog 30 [U0] [] [(U0, lc l)] (spec_BatchOk l) (fun r (_ : Unit) => .bool r) fun _ _ => [] := by
  unfold spec_BatchOk
  refine Ci Tryz.func30 r r ?_
  rintro w S ⟨Z0,-⟩
  refine Sr<|Qs 1 r<|Nx<|Sq<|Sr<|Qs 1 r<|Yo (Ln ke36 (Bc Z0) r)<|Bi fun R1 H2=>Fo (Cl [] spec_l1In_c H2 r r1) fun _=>Qs 1 r<|Nx<|Wc r (fun H4=>Sr<|Qs 1 r<|Nx<|Wr<|Tr<|Re () []) fun H4=>Sn<|Sq<|Sr<|Qs 1 r<|Nx<|Ju [] (fun _=>[]) r1 (?_) fun T7=>?_
  ·refine Wb<|Lu [0] (fun T=>[(3, iv T)]) r1 fun S5=>Sq<|Sr<|Qs 2 r<|Yo (Ln ke36 (Bc Z0) r)<|Qs 1 r<|Nx<|Wc r (fun H9=>?_) fun H9=>?_
   ·exact Sn<|Sq<|Wb<|Sr<|Qs 2 r<|Bi fun E10 H11=>Yo (Ix ke36 (Bc Z0) H11 r)<|Yo (Le kk61 (Bc Z0) H11 r)<|Bi fun R12 H13=>Fo (Cl [] spec_l7Op_c H13 r r1) fun _=>Qs 1 r<|Nx<|Wc r (fun H15=>Sr<|Qs 1 r<|Nx<|Wr<|Br<|Tr<|Er<|Br<|Jd<|Tr<|Re () []) fun H15=>Sk<|Bn<|Ne<|Rg<|Qs 3 r<|Nl<|Lg () []
   exact Wx<|Tx<|Ex<|Be<|Jg () []
  exact Ne<|Sr<|Qs 1 r<|Nx<|Wr<|Re () []
noncomputable def spec_l9Put (l : List Ent) (e : Ent) : Option (List Ent) :=
  bindC (loopO (fun (S3 : Bool × Int × List Ent) => if (decide (S3.2.1 < ((l.length : Nat) : Int))) = true then ((if (!S3.1) = true then ((idx l S3.2.1).bind fun E11 =>
  (spec_l9Ahead e E11).bind fun R13 =>
  some R13)
  else (some false)).bind (fun (T8 : Bool) =>
  bindC (if T8 = true then ((app 48 S3.2.2 ([e])).bind fun E21 =>
  some (.go (true, E21)))
  else (some (.go (S3.1, S3.2.2))))
  (fun (T16 : Bool × List Ent) => (idx l S3.2.1).bind fun E23 =>
  (app 48 T16.2 ([E23])).bind fun E27 =>
  some (.go (T16.1, IntKind.i64.wrap (S3.2.1 + (1 : Int)), E27)))))
  else (some (.done (.go (S3.1, S3.2.2)))))
  (false, (0 : Int), ([] : List Ent)))
  (fun (T5 : Bool × List Ent) => bindC (if (!T5.1) = true then ((app 48 T5.2 ([e])).bind fun E34 =>
  some (.go E34))
  else (some (.go T5.2)))
  (fun (T29 : List Ent) => some T29))
theorem spec_l9Put_c {l : List Ent} {e : Ent} {U0 : Value} : Cn Tryz.prog 87 [U0, .agg #[strV e.Key, iv e.Seq, .bool e.Del, strV e.Val]] [] [(U0, lc l)] (spec_l9Put l e) (fun _ (X : Value) => X) fun r X => [.own X (lc r)] := by
  unfold spec_l9Put
  refine Ci Tryz.func87 r r ?_
  rintro w S ⟨Z0,-⟩
  refine Sr<|Fo (Bx r (Cp r)) fun B1=>Qs 1 r<|Nx<|Sr<|Fo (Bs ([] : List Ent) ke24 kz72) fun B2=>Qs 1 r<|Nx<|Sr<|Qs 1 r<|Nx<|Sq<|Sr<|Qs 1 r<|Nx<|Jn Value [3] [1] (fun T X=>[(5, X), (6, .bool T.1)]) (fun T X=>[.own X (lc T.2)]) r2 r2 (?_) fun T5 X6=>?_
  ·refine Wb<|Lp Value [0,3] [1] (fun T X=>[(5, X), (6, .bool T.1), (7, iv T.2.1)]) (fun T X=>[.own X (lc T.2.2)]) (.slice (some ⟨B2, 0, none⟩) 0 0) [1,0] r2 r2 fun S3 X4=>Sq<|Sr<|Qs 2 r<|Yo (Ln ke24 (Bc Z0) r)<|Qs 1 r<|Nx<|Wc r (fun H7=>?_) fun H7=>?_
   ·refine Sn<|Sq<|Wb<|Sq<|Sq<|Jv [0,3,5,6,7] (fun T=>[(24, .bool T)]) r1 (?_) fun T8=>?_
    ·refine Dr [0,0] r hMix<|Aq [0,1,2] [0,0] r<|Ia (fun H10=>?_) fun H10=>?_
     ·exact Ag 3 [0,0] (gdA (beq_tt H10)) r (Lb 0 kk72 r)<|Ag 4 [0,0] (gdA (beq_tt H10)) r (Y.move r)<|Ag 5 [0,0] (gdA (beq_tt H10)) r (Y.move r)<|Ai fun E11 H12=>Ag 6 [0,0] (gdA (beq_tt H10)) r (Ix ke24 (Bc Z0) H12 r)<|Ag 7 [0,0] (gdA (beq_tt H10)) r (Le kk72 (Bc Z0) H12 r)<|Ai fun R13 H14=>A1 8<|Xeg [0,0] (gdA (beq_tt H10)) r (Cl [] spec_l9Ahead_c H14 r r1) fun _=>Ay 9 [0,0] r (Pt H10 r)<|Az<|Bg () [0,0]
     exact Ax [3,4,5,6,7,8] [0,0] (beq_ft H10) r r<|Ay 9 [0,0] r (Pf H10 r)<|Az<|Bg () [0,0]
    exact Ne<|Jn Value [0,3,7] [0] (fun T X=>[(5, X), (6, .bool T.1)]) (fun T X=>[.own X (lc T.2)]) r2 r2 (Wc r (fun H18=>Sr<|Qs 1 r<|Yo (Lb 0 kk72 r)<|Fo (Bs [e] ke24 kz72) fun B19=>Bi fun E21 H22=>Fo (Ap [2] H22 ke24 kz72 r (Oc 0 r)) fun V20=>Qs 1 r<|Nx<|Rg<|Qs 1 r<|Nl<|Jg V20 [2,0]) fun H18=>Sk<|Jg X4 [0,0]) fun T16 X17=>Ne<|Rg<|Qs 3 r<|Bi fun E23 H24=>Yo (Ix ke24 (Bc Z0) H24 r)<|Yo (Le kk72 (Bc Z0) H24 r)<|Fo (Bs [E23] ke24 kz72) fun B25=>Bi fun E27 H28=>Fo (Ap [2] H28 ke24 kz72 r (Oc 0 r)) fun V26=>Qs 1 r<|Nl<|Bn<|Ne<|Rg<|Qs 3 r<|Nl<|Lg V26 [2,0]
   exact Wx<|Tx<|Ex<|Be<|Jg X4 [0,0]
  exact Ne<|Sq<|Sr<|Qs 2 r<|Nx<|Jn Value [] [] (fun _ X=>[(5, X)]) (fun T X=>[.own X (lc T)]) r2 r2 (Wc r (fun H31=>Rg<|Qs 1 r<|Yo (Lb 0 kk72 r)<|Fo (Bs [e] ke24 kz72) fun B32=>Bi fun E34 H35=>Fo (Ap [2] H35 ke24 kz72 r (Oc 0 r)) fun V33=>Qs 1 r<|Nl<|Jg V33 [0]) fun H31=>Sk<|Jg X6 [1]) fun T29 X30=>Ne<|Sr<|Qs 2 r<|Nx<|Wr<|Re X30 [0]
end Go.Proofs.YtkikmcdmklkdpaaGreat
