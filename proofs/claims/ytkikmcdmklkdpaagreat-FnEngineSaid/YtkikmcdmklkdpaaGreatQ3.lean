/-
  The functions that a law reaches, each as a pure function, with the proof that the program computes it, and the step from a pure law to the given statement. Conditions: none.
-/
import Derived.Test.YtkikmcdmklkdpaaGreatQ2
set_option linter.unusedVariables false
set_option maxRecDepth 100000
set_option maxHeartbeats 4000000
namespace Go.Proofs.YtkikmcdmklkdpaaGreat
open Go Sl
noncomputable def spec_EngPut (e : Eng) (l : List Op) : Option (Eng × Bool) :=
  (spec_EngOk e).bind fun R3 =>
  if (!R3) = true then (some ({ Mem := ([] : List Ent), Tables := ([] : List (List Ent)), Seq := (0 : Int), Snaps := ([] : List Int) : Eng }, false))
  else ((spec_l20Copy e).bind fun R10 =>
  (spec_BatchOk l).bind fun R14 =>
  if (!R14) = true then (some (R10, false))
  else (bindC (loopO (fun (S18 : Int × List Ent) => if (decide (S18.1 < ((l.length : Nat) : Int))) = true then (bindC (loopO (fun (S23 : Bool × Int) => if (decide (S23.2 < ((l.length : Nat) : Int))) = true then ((if S23.1 = true then ((idx l S23.2).bind fun E31 =>
  (idx l S18.1).bind fun E33 =>
  some (!(decide (E31.Key = E33.Key))))
  else (some false)).bind (fun (T28 : Bool) =>
  some (.go (T28, IntKind.i64.wrap (S23.2 + (1 : Int))))))
  else (some (.done (.go S23.1))))
  (true, IntKind.i64.wrap (S18.1 + (1 : Int))))
  (fun (T25 : Bool) => bindC (if T25 = true then ((idx l S18.1).bind fun E38 =>
  (spec_l9Put S18.2 ({ Key := E38.Key, Seq := IntKind.i64.wrap (R10.Seq + (1 : Int)), Del := E38.Del, Val := E38.Val : Ent })).bind fun R40 =>
  some (.go R40))
  else (some (.go S18.2)))
  (fun (T35 : List Ent) => some (.go (IntKind.i64.wrap (S18.1 + (1 : Int)), T35)))))
  else (some (.done (.go S18.2))))
  ((0 : Int), R10.Mem))
  (fun (T20 : List Ent) => (spec_EngOk ({ Mem := T20, Tables := R10.Tables, Seq := IntKind.i64.wrap (R10.Seq + (1 : Int)), Snaps := R10.Snaps : Eng })).bind fun R45 =>
  if (!R45) = true then (some (R10, false))
  else (some ({ Mem := T20, Tables := R10.Tables, Seq := IntKind.i64.wrap (R10.Seq + (1 : Int)), Snaps := R10.Snaps : Eng }, true)))))
theorem spec_EngPut_c {e : Eng} {l : List Op} {U0 U1 U2 U3 : Value} : Cn Tryz.prog 53 [.agg #[U0, U1, iv e.Seq, U2], U3] [] [(U0, lc e.Mem), (U1, lc e.Tables), (U2, lc e.Snaps), (U3, lc l)] (spec_EngPut e l) (fun r (X : Value × Value × Value) => .tuple #[.agg #[X.1, X.2.1, iv r.1.Seq, X.2.2], .bool r.2]) fun r X => [.own X.1 (lc r.1.Mem), .own X.2.1 (lc r.1.Tables), .own X.2.2 (lc r.1.Snaps)] := by
  unfold spec_EngPut
  refine Ci Tryz.func53 r r ?_
  rintro w S ⟨Z0,Z1,Z2,Z3,-⟩
  refine Sr<|Fo (Bx r (Ca ⟨Ob Z0,Ob Z1,Op',Ob Z2,⟨⟩⟩)) fun B1=>Fo (Al kz28 r) fun B2=>Qs 1 r<|Nx<|Sq<|Sr<|Yo (Lb 1 kk28 r)<|Bi fun R3 H4=>Fo (Cl [] spec_EngOk_c H4 r r1 ⟨(Bc Z0),(Bc Z1),(Bc Z2),⟨⟩⟩) fun _=>Qs 1 r<|Nx<|Wc r (fun H6=>Sr<|Yo (Bd kp28 kz28 (Pz) r)<|Fu (Sb 0 kk28 r (Cp r) r)<|Qs 1 r<|Nx<|Wr<|Tr<|Ni 4<|Ni 1<|Ni 1<|Rf ((.slice none 0 0), (.slice none 0 0), (.slice none 0 0)) [2,1,0] (RV.cell 3 r r kk28 r (Rt r Rz))) fun H6=>Sn<|Sr<|Yo (Lb 1 kk28 r)<|Bi fun R10 H11=>Fo (Cl [] spec_l20Copy_c H11 r r1 ⟨(Bc Z0),(Bc Z1),(Bc Z2),⟨⟩⟩) fun Y12=>?_
  refine Fo (Al kz28 r) fun B13=>Fu (Sb 0 kk28 r (Ca ⟨Ow' 1,Ow' 2,Op',Ow' 3,⟨⟩⟩) r)<|Nx<|Sq<|Sr<|Qs 1 r<|Bi fun R14 H15=>Fo (Cl [] spec_BatchOk_c H15 r r1 ⟨(Bc Z3),⟨⟩⟩) fun _=>Qs 1 r<|Nx<|Wc r (fun H17=>Sr<|Yo (Lb 0 kk28 r)<|Fu (Sb 4 kk28 r (Ca ⟨Ow' 1,Ow' 2,Op',Ow' 3,⟨⟩⟩) r)<|Qs 1 r<|Nx<|Wr<|Tr<|Rf (Y12.1, Y12.2.1, Y12.2.2) [1,1,1] (RV.cell 4 r r kk28 r (Rt r Rz))) fun H17=>Sn<|Sr<|Yo (Fb kf28_2 r)<|Yo (Lb 0 kk3 r)<|Qs 1 r<|Yo (Fb kf28_2 r)<|Fu (Sb 0 kk3 r (Cp r) r)<|Nx<|Sq<|Sr<|Qs 1 r<|Nx<|Jn Value [2,4,6] [5,4,2,2] (fun _ _=>[]) (fun T X=>[.box B13 28 [X, Y12.2.1, iv (IntKind.i64.wrap (R10.Seq + (1 : Int))), Y12.2.2], .own X (lc T)]) r2 r2 (?_) fun T20 X21=>?_
  ·refine Wb<|Lp Value [1,2,4,6] [5,4,2,2] (fun T _=>[(7, iv T.1)]) (fun T X=>[.box B13 28 [X, Y12.2.1, iv (IntKind.i64.wrap (R10.Seq + (1 : Int))), Y12.2.2], .own X (lc T.2)]) Y12.1 [5,4,2,2,0,0] r2 r2 fun S18 X19=>Sq<|Sr<|Qs 2 r<|Yo (Ln ke36 (Bc Z3) r)<|Qs 1 r<|Nx<|Wc r (fun H22=>?_) fun H22=>?_
   ·refine Sn<|Sq<|Wb<|Sr<|Qs 1 r<|Nx<|Sq<|Sr<|Qs 3 r<|Nx<|Ju [1,2,4,6,7] (fun T=>[(8, .bool T)]) r1 (?_) fun T25=>?_
    ·refine Wb<|Lu [1,2,4,6,7] (fun T=>[(8, .bool T.1), (9, iv T.2)]) r1 fun S23=>Sq<|Sr<|Qs 2 r<|Yo (Ln ke36 (Bc Z3) r)<|Qs 1 r<|Nx<|Wc r (fun H27=>?_) fun H27=>?_
     ·refine Sn<|Sq<|Wb<|Jv [1,2,4,6,7,9] (fun T=>[(8, .bool T)]) r1 (?_) fun T28=>?_
      ·refine Dr [0,0,0,0,0,0] r hMix<|Aq [0,1] [0,0,0,0,0,0] r<|Ia (fun H30=>?_) fun H30=>?_
       ·exact Ag 2 [0,0,0,0,0,0] (gdA (beq_tt H30)) r (Y.move r)<|Ag 3 [0,0,0,0,0,0] (gdA (beq_tt H30)) r (Y.move r)<|Ai fun E31 H32=>Ag 4 [0,0,0,0,0,0] (gdA (beq_tt H30)) r (Ix ke36 (Bc Z3) H32 r)<|Ag 5 [0,0,0,0,0,0] (gdA (beq_tt H30)) r (Fe kf61_0 (Bc Z3) H32 r)<|Ag 6 [0,0,0,0,0,0] (gdA (beq_tt H30)) r (Le kk9 (Bc Z3) H32 r)<|Ag 7 [0,0,0,0,0,0] (gdA (beq_tt H30)) r (Y.move r)<|Ag 8 [0,0,0,0,0,0] (gdA (beq_tt H30)) r (Y.move r)<|Ai fun E33 H34=>Ag 9 [0,0,0,0,0,0] (gdA (beq_tt H30)) r (Ix ke36 (Bc Z3) H34 r)<|Ag 10 [0,0,0,0,0,0] (gdA (beq_tt H30)) r (Fe kf61_0 (Bc Z3) H34 r)<|Ag 11 [0,0,0,0,0,0] (gdA (beq_tt H30)) r (Le kk9 (Bc Z3) H34 r)<|Ag 12 [0,0,0,0,0,0] (gdA (beq_tt H30)) r (Y.sneq r r)<|Ay 13 [0,0,0,0,0,0] r (Pt H30 r)<|Aq [14] [0,0,0,0,0,0] r<|Az<|Bg () [0,0,0,0,0,0]
       exact Ax [2,3,4,5,6,7,8,9,10,11,12] [0,0,0,0,0,0] (beq_ft H30) r r<|Ay 13 [0,0,0,0,0,0] r (Pf H30 r)<|Aq [14] [0,0,0,0,0,0] r<|Az<|Bg () [0,0,0,0,0,0]
      exact Bn<|Ne<|Rg<|Qs 3 r<|Nl<|Lg () [0,0,0,0,0,0]
     exact Wx<|Tx<|Ex<|Be<|Jg () [0,0,0,0,0,0]
    refine Ne<|Sr<|Qs 1 r<|Nx<|Jn Value [1,2,4,6,7] [0,0,0,0] (fun _ _=>[]) (fun T X=>[.box B13 28 [X, Y12.2.1, iv (IntKind.i64.wrap (R10.Seq + (1 : Int))), Y12.2.2], .own X (lc T)]) r2 r2 (?_) fun T35 X36=>?_
    ·refine Wc r (fun H37=>?_) fun H37=>?_
     ·refine Wi fun E38 H39=>Wi fun R40 H41=>Jw Value [1,2,4,6,7] [0,0,0,0] (fun _=>[]) (fun X=>[.box B13 28 [X, Y12.2.1, iv (IntKind.i64.wrap (R10.Seq + (1 : Int))), Y12.2.2], .own X (lc R40)]) r1 r1 (?_) fun X44=>?_
      ·refine Dr [0,0,0,0,1] r hMix<|Ay 0 [0,0,0,0,1] r (Fb kf28_0 r)<|Aq [2,3] [0,0,0,0,1] r<|Ay 4 [0,0,0,0,1] r (Ix ke36 (Bc Z3) H39 r)<|Ay 5 [0,0,0,0,1] r (Fe kf61_0 (Bc Z3) H39 r)<|Ay 6 [0,0,0,0,1] r (Le kk9 (Bc Z3) H39 r)<|Ay 7 [0,0,0,0,1] r (Fb kf28_2 r)<|Aq [9,10] [0,0,0,0,1] r<|Ay 11 [0,0,0,0,1] r (Ix ke36 (Bc Z3) H39 r)<|Ay 12 [0,0,0,0,1] r (Fe kf61_1 (Bc Z3) H39 r)<|Ay 13 [0,0,0,0,1] r (Le kk4 (Bc Z3) H39 r)<|Aq [14,15] [0,0,0,0,1] r<|Ay 16 [0,0,0,0,1] r (Ix ke36 (Bc Z3) H39 r)<|Ay 17 [0,0,0,0,1] r (Fe kf61_2 (Bc Z3) H39 r)<|Ay 18 [0,0,0,0,1] r (Le kk9 (Bc Z3) H39 r)<|A2 1 8 (?_)<|?_
       ·exact Xy [0,0,0,0,1] r (Lb 4 kk24 r)<|A1 8<|Xy [0,0,0,0,1] r (Lb 4 kk3 r)<|Ay 19 [0,0,0,0,1] r (Bd kp72 kz72 (Pc r (Cp r)<|Pc r (Cp r)<|Pc r (Cp r)<|Pc r (Cp r)<|Pz) r)<|A1 20<|Xe [1,1,1,1,2] r (Cl [] spec_l9Put_c H41 r r1 ⟨(Oc 5 r),⟨⟩⟩) fun Y45=>Ay 21 [1,1,1,1,2] r (Fb kf28_0 r)<|A1 22<|Xu [1,1,1,1,2] r (Sb 5 kk24 r (Co 0) r)<|Az<|Bg Y45 [1,1,1,1,1,0]
       exact Xy [0,0,0,0,1] r (Lb 4 kk3 r)<|Ay 19 [0,0,0,0,1] r (Bd kp72 kz72 (Pc r (Cp r)<|Pc r (Cp r)<|Pc r (Cp r)<|Pc r (Cp r)<|Pz) r)<|A1 1<|Xy [0,0,0,0,1] r (Lb 4 kk24 r)<|A1 20<|Xe [1,1,1,1,2] r (Cl [] spec_l9Put_c H41 r r1 ⟨(Oc 5 r),⟨⟩⟩) fun Y45=>Ay 21 [1,1,1,1,2] r (Fb kf28_0 r)<|A1 22<|Xu [1,1,1,1,2] r (Sb 5 kk24 r (Co 0) r)<|Az<|Bg Y45 [1,1,1,1,1,0]
      exact Jg X44 [0,0,0,0,0,0]
     exact Sk<|Jg X19 [0,0,0,0,0,0]
    exact Bn<|Ne<|Rg<|Qs 3 r<|Nl<|Lg X36 [0,0,0,0,0,0]
   exact Wx<|Tx<|Ex<|Be<|Jg X19 [0,0,0,0,0,0]
  exact Ne<|Sq<|Sr<|Yo (Lb 4 kk28 r)<|Bi fun R45 H46=>Fo (Cl [] spec_EngOk_c H46 r r1 ⟨(Oc 5 r),(Oc 2 r),(Oc 3 r),⟨⟩⟩) fun _=>Qs 1 r<|Nx<|Wc r (fun H48=>Sr<|Yo (Lb 0 kk28 r)<|Fo (Cl [] spec_l20Copy_c H11 r r1 ⟨(Bc Z0),(Bc Z1),(Bc Z2),⟨⟩⟩) fun Y49=>Fu (Sb 4 kk28 r (Ca ⟨Ow' 0,Ow' 1,Op',Ow' 2,⟨⟩⟩) r)<|Qs 1 r<|Nx<|Wr<|Tr<|Rf (Y49.1, Y49.2.1, Y49.2.2) [0,0,0] (RV.cell 4 r r kk28 r (Rt r Rz))) fun H48=>Sn<|Sr<|Yo (Lb 4 kk28 r)<|Fu (Sb 1 kk28 r (Ca ⟨Ow' 5,Ow' 2,Op',Ow' 3,⟨⟩⟩) r)<|Qs 1 r<|Nx<|Wr<|Rf (X21, Y12.2.1, Y12.2.2) [5,2,2] (RV.cell 1 r r kk28 r (Rt r Rz))
noncomputable def spec_l1PickInt (c : L1Cur) (list : List Int) : Option (Int × L1Cur) :=
  (spec_l1Below c ((list.length : Nat) : Int)).bind fun R1 =>
  (idx list R1.1).bind fun E4 =>
  some (E4, { b := c.b, i := R1.2.i, h := R1.2.h : L1Cur })
theorem spec_l1PickInt_c {c : L1Cur} {list : List Int} {U0 U2 : Value} {U1 : Nat} : Cn Tryz.prog 55 [pt U1, U2] [.box U1 80 [U0, iv c.i, iv c.h]] [(U0, lc c.b), (U2, lc list)] (spec_l1PickInt c list) (fun r (_ : Unit) => iv r.1) fun r _ => [.box U1 80 [U0, iv r.2.i, iv r.2.h]] := by
  unfold spec_l1PickInt
  refine Ci Tryz.func55 r r ?_
  rintro w S ⟨Z0,Z1,-⟩
  exact Sr<|Qs 1 r<|Nx<|Sr<|Qs 3 r<|Yo (Ln ke26 (Bc Z1) r)<|Bi fun R1 H2=>Fo (Cl [0] spec_l1Below_c H2 r r1 ⟨(Bc Z0),⟨⟩⟩) fun _=>Bi fun E4 H5=>Yo (Ix ke26 (Bc Z1) H5 r)<|Yo (Le kk3 (Bc Z1) H5 r)<|Qs 1 r<|Nx<|Wr<|Re () [0]
noncomputable def spec_MemPut (l : List Ent) (e : Ent) : Option (List Ent × Bool) :=
  (spec_MemOk l).bind fun R2 =>
  if (!R2) = true then (some (([] : List Ent), false))
  else ((spec_l9Put l e).bind fun R7 =>
  (spec_MemOk R7).bind fun R10 =>
  if (!R10) = true then ((app 48 ([] : List Ent) l).bind fun E16 =>
  some (E16, false))
  else (some (R7, true)))
theorem spec_MemPut_c {l : List Ent} {e : Ent} {U0 : Value} : Cn Tryz.prog 101 [U0, .agg #[strV e.Key, iv e.Seq, .bool e.Del, strV e.Val]] [] [(U0, lc l)] (spec_MemPut l e) (fun r (X : Value) => .tuple #[X, .bool r.2]) fun r X => [.own X (lc r.1)] := by
  unfold spec_MemPut
  refine Ci Tryz.func101 r r ?_
  rintro w S ⟨Z0,-⟩
  refine Sr<|Fo (Bx r (Cp r)) fun B1=>Qs 2 r<|Nx<|Sq<|Sr<|Qs 1 r<|Bi fun R2 H3=>Fo (Cl [] spec_MemOk_c H3 r r1 ⟨(Bc Z0),⟨⟩⟩) fun _=>Qs 1 r<|Nx<|Wc r (fun H5=>Sr<|Fo (Bs ([] : List Ent) ke24 kz72) fun B6=>Qs 2 r<|Nx<|Wr<|Tr<|Re (.slice (some ⟨B6, 0, none⟩) 0 0) [0]) fun H5=>Sn<|Sr<|Qs 1 r<|Yo (Lb 0 kk72 r)<|Bi fun R7 H8=>Fo (Cl [] spec_l9Put_c H8 r r1 ⟨(Bc Z0),⟨⟩⟩) fun Y9=>Qs 1 r<|Nx<|Sq<|Sr<|Qs 1 r<|Bi fun R10 H11=>Fo (Cl [] spec_MemOk_c H11 r r1 ⟨(Oc 0 r),⟨⟩⟩) fun _=>Qs 1 r<|Nx<|Wc r (fun H13=>Sr<|Fo (Bs ([] : List Ent) ke24 kz72) fun B14=>Qs 1 r<|Bi fun E16 H17=>Fo (Ap [0] H17 ke24 kz72 r (Bc Z0)) fun V15=>Qs 2 r<|Nx<|Wr<|Tr<|Re V15 [0]) fun H13=>?_
  exact Sn<|Sr<|Qs 3 r<|Nx<|Wr<|Re Y9 [0]
noncomputable def spec_l9Some (c : L1Cur) (most : Int) : Option (List Ent × L1Cur) :=
  (spec_l1Below c most).bind fun R2 =>
  bindC (loopO (fun (S5 : Int × Int × Int × List Ent) => if (decide (S5.2.2.1 > (0 : Int))) = true then ((spec_l7Key ({ b := c.b, i := S5.1, h := S5.2.1 : L1Cur })).bind fun R10 =>
  (spec_l1Below ({ b := c.b, i := R10.2.i, h := R10.2.h : L1Cur }) (20 : Int)).bind fun R13 =>
  (spec_l1Once ({ b := c.b, i := R13.2.i, h := R13.2.h : L1Cur }) (4 : Int)).bind fun R17 =>
  bindC (if R17.1 = true then (some (.go (R17.2.i, R17.2.h, true, [])))
  else ((spec_l1Text ({ b := c.b, i := R17.2.i, h := R17.2.h : L1Cur }) (4 : Int)).bind fun R23 =>
  some (.go (R23.2.i, R23.2.h, false, R23.1))))
  (fun (T20 : Int × Int × Bool × List UInt8) => (spec_MemPut S5.2.2.2 ({ Key := R10.1, Seq := R13.1, Del := T20.2.2.1, Val := T20.2.2.2 : Ent })).bind fun R26 =>
  bindC (if R26.2 = true then (some (.go R26.1))
  else (some (.go S5.2.2.2)))
  (fun (T29 : List Ent) => some (.go (T20.1, T20.2.1, IntKind.i64.wrap (S5.2.2.1 - (1 : Int)), T29)))))
  else (some (.done (.go (S5.1, S5.2.1, S5.2.2.2)))))
  (R2.2.i, R2.2.h, R2.1, ([] : List Ent)))
  (fun (T7 : Int × Int × List Ent) => some (T7.2.2, { b := c.b, i := T7.1, h := T7.2.1 : L1Cur }))
theorem spec_l9Some_c {c : L1Cur} {most : Int} {U0 : Value} {U1 : Nat} : Cn Tryz.prog 88 [pt U1, iv most] [.box U1 80 [U0, iv c.i, iv c.h]] [(U0, lc c.b)] (spec_l9Some c most) (fun _ (X : Value) => X) fun r X => [.box U1 80 [U0, iv r.2.i, iv r.2.h], .own X (lc r.1)] := by
  unfold spec_l9Some
  refine Ci Tryz.func88 r r ?_
  rintro w S ⟨Z0,-⟩
  refine Sr<|Qs 1 r<|Nx<|Sr<|Fo (Bs ([] : List Ent) ke24 kz72) fun B1=>Qs 1 r<|Nx<|Sq<|Sr<|Qs 2 r<|Bi fun R2 H3=>Fo (Cl [1] spec_l1Below_c H3 r r1 ⟨(Bc Z0),⟨⟩⟩) fun _=>Qs 1 r<|Nx<|Jn Value [] [] (fun _ X=>[(5, X)]) (fun T X=>[.box U1 80 [U0, iv T.1, iv T.2.1], .own X (lc T.2.2)]) r2 r2 (?_) fun T7 X8=>?_
  ·refine Wb<|Lp Value [0] [] (fun T X=>[(5, X), (6, iv T.2.2.1)]) (fun T X=>[.box U1 80 [U0, iv T.1, iv T.2.1], .own X (lc T.2.2.2)]) (.slice (some ⟨B1, 0, none⟩) 0 0) [0,0] r2 r2 fun S5 X6=>Sq<|Sr<|Qs 2 r<|Nx<|Wc r (fun H9=>?_) fun H9=>?_
   ·refine Sn<|Sq<|Wb<|Sr<|Qs 1 r<|Bi fun R10 H11=>Fo (Cl [0] spec_l7Key_c H11 r r1 ⟨(Bc Z0),⟨⟩⟩) fun _=>Qs 1 r<|Bi fun R13 H14=>Fo (Cl [0] spec_l1Below_c H14 r r1 ⟨(Bc Z0),⟨⟩⟩) fun _=>Yo (Bd kp72 kz72 (Pc r (Cp r)<|Pc r (Cp r)<|Pz) r)<|Fo (Al kz72 r) fun B16=>Fu (Sb 0 kk72 r (Cp r) r)<|Nx<|Sq<|Sr<|Qs 1 r<|Bi fun R17 H18=>Fo (Cl [1] spec_l1Once_c H18 r r1 ⟨(Bc Z0),⟨⟩⟩) fun _=>Nx<|Jn Unit [0,5,6,7] [2] (fun _ _=>[]) (fun T _=>[.box U1 80 [U0, iv T.1, iv T.2.1], .box B16 72 [strV R10.1, iv R13.1, .bool T.2.2.1, strV T.2.2.2]]) r2 r2 (Wc r (fun H22=>Rg<|Yo (Fb kf72_2 r)<|Fu (Sb 1 kk4 r (Cp r) r)<|Nl<|Jg () [2,0,0]) fun H22=>Rg<|Qs 1 r<|Bi fun R23 H24=>Fo (Cl [0] spec_l1Text_c H24 r r1 ⟨(Bc Z0),⟨⟩⟩) fun _=>Yo (Fb kf72_3 r)<|Fu (Sb 1 kk9 r (Cp r) r)<|Nl<|Jg () [2,0,0]) fun T20 X21=>?_
    exact Ne<|Sr<|Qs 1 r<|Yo (Lb 2 kk72 r)<|Bi fun R26 H27=>Fo (Cl [] spec_MemPut_c H27 r r1 ⟨(Oc 0 r),⟨⟩⟩) fun Y28=>Qs 5 r<|Nx<|Sr<|Qs 1 r<|Nx<|Jn Value [0,6] [2] (fun _ X=>[(5, X)]) (fun T X=>[.own X (lc T)]) r2 r2 (Wc r (fun H31=>Rg<|Qs 2 r<|Nl<|Jg Y28 [2,0]) fun H31=>Sk<|Jg X6 [2,1]) fun T29 X30=>Bn<|Ne<|Rg<|Qs 3 r<|Nl<|Lg X30 [0,0]
   exact Wx<|Tx<|Ex<|Be<|Jg X6 [0,0]
  exact Ne<|Sr<|Qs 2 r<|Nx<|Wr<|Re X8 [0,0]
noncomputable def spec_l9Any (c : L1Cur) (most : Int) : Option (List Ent × L1Cur) :=
  (spec_l9Some c most).bind fun R1 =>
  (if (decide (((R1.1.length : Nat) : Int) > (0 : Int))) = true then ((spec_l1Once ({ b := c.b, i := R1.2.i, h := R1.2.h : L1Cur }) (10 : Int)).bind fun R7 =>
  some (R7.2.i, R7.2.h, R7.1))
  else (some (R1.2.i, R1.2.h, false))).bind (fun (T4 : Int × Int × Bool) =>
  bindC (if T4.2.2 = true then ((spec_l1Below ({ b := c.b, i := T4.1, h := T4.2.1 : L1Cur }) ((R1.1.length : Nat) : Int)).bind fun R13 =>
  (spec_l1Below ({ b := c.b, i := R13.2.i, h := R13.2.h : L1Cur }) (4 : Int)).bind fun R16 =>
  bindC (if (decide (R16.1 = (0 : Int))) = true then ((spec_l1Pick ({ b := c.b, i := R16.2.i, h := R16.2.h : L1Cur }) ([[], [98], [97, 97, 97, 97, 97, 97, 97, 97, 97, 97, 97]])).bind fun R23 =>
  (idx R1.1 R13.1).bind fun E26 =>
  some (.go (R23.2.i, R23.2.h, (R1.1.set R13.1.toNat ({ Key := R23.1, Seq := E26.Seq, Del := E26.Del, Val := E26.Val : Ent })))))
  else (bindC (if (decide (R16.1 = (1 : Int))) = true then ((spec_l1PickInt ({ b := c.b, i := R16.2.i, h := R16.2.h : L1Cur }) ([(-1 : Int), (5 : Int), (1000000 : Int), (1000001 : Int)])).bind fun R32 =>
  (idx R1.1 R13.1).bind fun E35 =>
  some (.go (R32.2.i, R32.2.h, (R1.1.set R13.1.toNat ({ Key := E35.Key, Seq := R32.1, Del := E35.Del, Val := E35.Val : Ent })))))
  else (bindC (if (decide (R16.1 = (2 : Int))) = true then ((idx R1.1 R13.1).bind fun E40 =>
  some (.go (R16.2.i, R16.2.h, (R1.1.set R13.1.toNat ({ Key := E40.Key, Seq := E40.Seq, Del := !E40.Del, Val := E40.Val : Ent })))))
  else (bindC (loopO (fun (S42 : Int × Int × Int × List Ent) => (spec_l1Below ({ b := c.b, i := S42.1, h := S42.2.1 : L1Cur }) (3 : Int)).bind fun R46 =>
  if (decide (((S42.2.2.2.length : Nat) : Int) < IntKind.i64.wrap ((59 : Int) + R46.1))) = true then ((app 48 S42.2.2.2 ([{ Key := [122, 122, 122], Seq := IntKind.i64.wrap ((500 : Int) - S42.2.2.1), Del := false, Val := [] : Ent }])).bind fun E52 =>
  some (.go (R46.2.i, R46.2.h, IntKind.i64.wrap (S42.2.2.1 + (1 : Int)), E52)))
  else (some (.done (.go (R46.2.i, R46.2.h, S42.2.2.2)))))
  (R16.2.i, R16.2.h, (0 : Int), R1.1))
  (fun (T44 : Int × Int × List Ent) => some (.go (T44.1, T44.2.1, T44.2.2)))))
  (fun (T37 : Int × Int × List Ent) => some (.go (T37.1, T37.2.1, T37.2.2)))))
  (fun (T28 : Int × Int × List Ent) => some (.go (T28.1, T28.2.1, T28.2.2)))))
  (fun (T19 : Int × Int × List Ent) => some (.go (T19.1, T19.2.1, T19.2.2))))
  else (some (.go (T4.1, T4.2.1, R1.1))))
  (fun (T10 : Int × Int × List Ent) => some (T10.2.2, { b := c.b, i := T10.1, h := T10.2.1 : L1Cur })))
theorem spec_l9Any_c {c : L1Cur} {most : Int} {U0 : Value} {U1 : Nat} : Cn Tryz.prog 56 [pt U1, iv most] [.box U1 80 [U0, iv c.i, iv c.h]] [(U0, lc c.b)] (spec_l9Any c most) (fun _ (X : Value) => X) fun r X => [.box U1 80 [U0, iv r.2.i, iv r.2.h], .own X (lc r.1)] := by
  unfold spec_l9Any
  refine Ci Tryz.func56 r r ?_
  rintro w S ⟨Z0,-⟩
  refine Sr<|Qs 1 r<|Nx<|Sr<|Qs 2 r<|Bi fun R1 H2=>Fo (Cl [0] spec_l9Some_c H2 r r1 ⟨(Bc Z0),⟨⟩⟩) fun Y3=>Qs 1 r<|Nx<|Sq<|Sq<|Jb Unit [0,5] [1] (fun T _=>[(17, .bool T.2.2)]) (fun T _=>[.box U1 80 [U0, iv T.1, iv T.2.1]]) r2 r2 (Rg<|Qs 1 r<|Yo (Ln ke24 (Oc 1 r) r)<|Qs 2 r<|It (fun H6=>Qg 1 (beq_tt H6) r r<|Bi fun R7 H8=>Fg (gdA (beq_tt H6)) (Cl [0] spec_l1Once_c H8 r r1 ⟨(Bc Z0),⟨⟩⟩) fun _=>Yo (Pt H6 r)<|Nl<|Bg () [1,0]) fun H6=>Of 2 (beq_ft H6) r r<|Yo (Pf H6 r)<|Nl<|Bg () [1,0]) fun T4 X5=>Ne<|Jn Value [] [] (fun _ X=>[(5, X)]) (fun T X=>[.box U1 80 [U0, iv T.1, iv T.2.1], .own X (lc T.2.2)]) r2 r2 (?_) fun T10 X11=>?_
  ·refine Wc r (fun H12=>?_) fun H12=>?_
   ·refine Sr<|Qs 2 r<|Yo (Ln ke24 (Oc 0 r) r)<|Bi fun R13 H14=>Fo (Cl [1] spec_l1Below_c H14 r r1 ⟨(Bc Z0),⟨⟩⟩) fun _=>Qs 1 r<|Nx<|Sr<|Qs 1 r<|Bi fun R16 H17=>Fo (Cl [0] spec_l1Below_c H17 r r1 ⟨(Bc Z0),⟨⟩⟩) fun _=>Nx<|Wb<|Sr<|Qs 2 r<|Nx<|Jn Value [] [] (fun _ X=>[(5, X)]) (fun T X=>[.box U1 80 [U0, iv T.1, iv T.2.1], .own X (lc T.2.2)]) r2 r2 (?_) fun T19 X20=>?_
    ·refine Wc r (fun H21=>?_) fun H21=>?_
     ·exact Rg<|Qs 3 r<|Fo (Bs [[], [98], [97, 97, 97, 97, 97, 97, 97, 97, 97, 97, 97]] ke89 kz9) fun B22=>Bi fun R23 H24=>Fo (Cl [1] spec_l1Pick_c H24 r r1 ⟨(Bc Z0),(Oc 0 r),⟨⟩⟩) fun _=>Bi fun E26 H27=>Yo (Ix ke24 (Oc 2 r) H27 r)<|Yo (Fe kf72_0 (Oc 2 r) H27 r)<|Fu (Se ({ Key := R23.1, Seq := E26.Seq, Del := E26.Del, Val := E26.Val : Ent }) 2 kk9 H27 r (Cp r) r)<|Nl<|Jg Y3 [0,1]
     refine Sr<|Qs 2 r<|Nx<|Jn Value [] [] (fun _ X=>[(5, X)]) (fun T X=>[.box U1 80 [U0, iv T.1, iv T.2.1], .own X (lc T.2.2)]) r2 r2 (?_) fun T28 X29=>?_
     ·refine Wc r (fun H30=>?_) fun H30=>?_
      ·exact Rg<|Qs 3 r<|Fo (Bs [(-1 : Int), (5 : Int), (1000000 : Int), (1000001 : Int)] ke26 kz3) fun B31=>Bi fun R32 H33=>Fo (Cl [1] spec_l1PickInt_c H33 r r1 ⟨(Bc Z0),(Oc 0 r),⟨⟩⟩) fun _=>Bi fun E35 H36=>Yo (Ix ke24 (Oc 2 r) H36 r)<|Yo (Fe kf72_1 (Oc 2 r) H36 r)<|Fu (Se ({ Key := E35.Key, Seq := R32.1, Del := E35.Del, Val := E35.Val : Ent }) 2 kk3 H36 r (Cp r) r)<|Nl<|Jg Y3 [0,1]
      refine Sr<|Qs 2 r<|Nx<|Jn Value [] [] (fun _ X=>[(5, X)]) (fun T X=>[.box U1 80 [U0, iv T.1, iv T.2.1], .own X (lc T.2.2)]) r2 r2 (?_) fun T37 X38=>?_
      ·refine Wc r (fun H39=>?_) fun H39=>?_
       ·exact Rg<|Qs 4 r<|Bi fun E40 H41=>Yo (Ix ke24 (Oc 1 r) H41 r)<|Yo (Fe kf72_2 (Oc 1 r) H41 r)<|Yo (Le kk4 (Oc 1 r) H41 r)<|Qs 1 r<|Yo (Ix ke24 (Oc 1 r) H41 r)<|Yo (Fe kf72_2 (Oc 1 r) H41 r)<|Fu (Se ({ Key := E40.Key, Seq := E40.Seq, Del := !E40.Del, Val := E40.Val : Ent }) 1 kk4 H41 r (Cp r) r)<|Nl<|Jg Y3 [0,0]
       refine Sr<|Qs 1 r<|Nx<|Jn Value [] [] (fun _ X=>[(5, X)]) (fun T X=>[.box U1 80 [U0, iv T.1, iv T.2.1], .own X (lc T.2.2)]) r2 r2 (?_) fun T44 X45=>?_
       ·refine Wb<|Lp Value [0] [] (fun T X=>[(5, X), (7, iv T.2.2.1)]) (fun T X=>[.box U1 80 [U0, iv T.1, iv T.2.1], .own X (lc T.2.2.2)]) Y3 [0,0] r2 r2 fun S42 X43=>Sq<|Sr<|Qs 1 r<|Yo (Ln ke24 (Oc 1 r) r)<|Qs 1 r<|Bi fun R46 H47=>Fo (Cl [0] spec_l1Below_c H47 r r1 ⟨(Bc Z0),⟨⟩⟩) fun _=>Qs 2 r<|Nx<|Wc r (fun H49=>?_) fun H49=>?_
        ·exact Sn<|Sq<|Wb<|Rg<|Qs 3 r<|Yo (Bd kp72 kz72 (Pc r (Cp r)<|Pc r (Cp r)<|Pz) r)<|Fo (Bs [{ Key := [122, 122, 122], Seq := IntKind.i64.wrap ((500 : Int) - S42.2.2.1), Del := false, Val := [] : Ent }] ke24 kz72) fun B50=>Bi fun E52 H53=>Fo (Ap [2] H53 ke24 kz72 r (Oc 0 r)) fun V51=>Qs 1 r<|Nl<|Bn<|Ne<|Rg<|Qs 3 r<|Nl<|Lg V51 [2,0]
        exact Wx<|Tx<|Ex<|Be<|Jg X43 [0,0]
       exact Jg X45 [0,0]
      exact Jg X38 [0,0]
     exact Jg X29 [0,0]
    exact Bn<|Jg X20 [0,0]
   exact Sk<|Jg Y3 [1,0]
  exact Ne<|Sr<|Qs 2 r<|Nx<|Wr<|Re X11 [0,0]
noncomputable def spec_l20Some (c : L1Cur) (most : Int) : Option (Eng × L1Cur) :=
  (spec_l1Below c most).bind fun R3 =>
  bindC (loopO (fun (S6 : Int × Int × Int × Int × List Ent × List (List Ent) × List Int) => if (decide (S6.2.2.2.1 > (0 : Int))) = true then ((spec_l1Below ({ b := c.b, i := S6.1, h := S6.2.1 : L1Cur }) (10 : Int)).bind fun R11 =>
  bindC (if (decide (R11.1 = (0 : Int))) = true then ((spec_EngSnap ({ Mem := S6.2.2.2.2.1, Tables := S6.2.2.2.2.2.1, Seq := S6.2.2.1, Snaps := S6.2.2.2.2.2.2 : Eng })).bind fun R17 =>
  some (.go (R11.2.i, R11.2.h, R17.1.Seq, R17.1.Mem, R17.1.Tables, R17.1.Snaps)))
  else (bindC (if (decide (R11.1 = (1 : Int))) = true then (bindC (if (decide (((S6.2.2.2.2.2.2.length : Nat) : Int) > (0 : Int))) = true then ((spec_l1Below ({ b := c.b, i := R11.2.i, h := R11.2.h : L1Cur }) ((S6.2.2.2.2.2.2.length : Nat) : Int)).bind fun R27 =>
  (idx S6.2.2.2.2.2.2 R27.1).bind fun E31 =>
  (spec_EngDrop ({ Mem := S6.2.2.2.2.1, Tables := S6.2.2.2.2.2.1, Seq := S6.2.2.1, Snaps := S6.2.2.2.2.2.2 : Eng }) E31).bind fun R33 =>
  some (.go (R27.2.i, R27.2.h, R33.1.Seq, R33.1.Mem, R33.1.Tables, R33.1.Snaps)))
  else (some (.go (R11.2.i, R11.2.h, S6.2.2.1, S6.2.2.2.2.1, S6.2.2.2.2.2.1, S6.2.2.2.2.2.2))))
  (fun (T24 : Int × Int × Int × List Ent × List (List Ent) × List Int) => some (.go (T24.1, T24.2.1, T24.2.2.1, T24.2.2.2.1, T24.2.2.2.2.1, T24.2.2.2.2.2))))
  else (bindC (if (decide (R11.1 = (2 : Int))) = true then (some (.go (decide (R11.1 = (2 : Int)))))
  else (some (.go (decide (R11.1 = (3 : Int))))))
  (fun (T42 : Bool) => bindC (if T42 = true then ((spec_EngFlush ({ Mem := S6.2.2.2.2.1, Tables := S6.2.2.2.2.2.1, Seq := S6.2.2.1, Snaps := S6.2.2.2.2.2.2 : Eng })).bind fun R48 =>
  some (.go (R11.2.i, R11.2.h, R48.1.Seq, R48.1.Mem, R48.1.Tables, R48.1.Snaps)))
  else (bindC (if (decide (R11.1 = (4 : Int))) = true then ((spec_EngMerge ({ Mem := S6.2.2.2.2.1, Tables := S6.2.2.2.2.2.1, Seq := S6.2.2.1, Snaps := S6.2.2.2.2.2.2 : Eng })).bind fun R55 =>
  some (.go (R11.2.i, R11.2.h, R55.1.Seq, R55.1.Mem, R55.1.Tables, R55.1.Snaps)))
  else ((spec_l7Batch ({ b := c.b, i := R11.2.i, h := R11.2.h : L1Cur })).bind fun R59 =>
  (spec_EngPut ({ Mem := S6.2.2.2.2.1, Tables := S6.2.2.2.2.2.1, Seq := S6.2.2.1, Snaps := S6.2.2.2.2.2.2 : Eng }) R59.1).bind fun R63 =>
  some (.go (R59.2.i, R59.2.h, R63.1.Seq, R63.1.Mem, R63.1.Tables, R63.1.Snaps))))
  (fun (T52 : Int × Int × Int × List Ent × List (List Ent) × List Int) => some (.go (T52.1, T52.2.1, T52.2.2.1, T52.2.2.2.1, T52.2.2.2.2.1, T52.2.2.2.2.2)))))
  (fun (T45 : Int × Int × Int × List Ent × List (List Ent) × List Int) => some (.go (T45.1, T45.2.1, T45.2.2.1, T45.2.2.2.1, T45.2.2.2.2.1, T45.2.2.2.2.2))))))
  (fun (T21 : Int × Int × Int × List Ent × List (List Ent) × List Int) => some (.go (T21.1, T21.2.1, T21.2.2.1, T21.2.2.2.1, T21.2.2.2.2.1, T21.2.2.2.2.2)))))
  (fun (T14 : Int × Int × Int × List Ent × List (List Ent) × List Int) => some (.go (T14.1, T14.2.1, T14.2.2.1, IntKind.i64.wrap (S6.2.2.2.1 - (1 : Int)), T14.2.2.2.1, T14.2.2.2.2.1, T14.2.2.2.2.2))))
  else (some (.done (.go (S6.1, S6.2.1, S6.2.2.1, S6.2.2.2.2.1, S6.2.2.2.2.2.1, S6.2.2.2.2.2.2)))))
  (R3.2.i, R3.2.h, (0 : Int), R3.1, ([] : List Ent), ([] : List (List Ent)), ([] : List Int)))
  (fun (T8 : Int × Int × Int × List Ent × List (List Ent) × List Int) => (spec_l1Once ({ b := c.b, i := T8.1, h := T8.2.1 : L1Cur }) (10 : Int)).bind fun R72 =>
  bindC (if R72.1 = true then ((spec_l1Below ({ b := c.b, i := R72.2.i, h := R72.2.h : L1Cur }) (5 : Int)).bind fun R78 =>
  bindC (if (decide (R78.1 = (0 : Int))) = true then ((spec_l1PickInt ({ b := c.b, i := R78.2.i, h := R78.2.h : L1Cur }) ([(-1 : Int), (0 : Int), (1000000 : Int), (1000001 : Int)])).bind fun R85 =>
  some (.go (R85.1, R85.2.i, R85.2.h, T8.2.2.2.1, T8.2.2.2.2.1, T8.2.2.2.2.2)))
  else (bindC (if (decide (R78.1 = (1 : Int))) = true then ((spec_l1Below ({ b := c.b, i := R78.2.i, h := R78.2.h : L1Cur }) (9 : Int)).bind fun R91 =>
  (app 8 T8.2.2.2.2.2 ([IntKind.i64.wrap (R91.1 - (1 : Int))])).bind fun E97 =>
  some (.go (R91.2.i, R91.2.h, T8.2.2.2.1, T8.2.2.2.2.1, E97)))
  else (bindC (if (decide (R78.1 = (2 : Int))) = true then ((spec_l1Below ({ b := c.b, i := R78.2.i, h := R78.2.h : L1Cur }) (4 : Int)).bind fun R105 =>
  (app 24 T8.2.2.2.2.1 ([[{ Key := [97], Seq := R105.1, Del := false, Val := [] : Ent }]])).bind fun E112 =>
  some (.go (R105.2.i, R105.2.h, T8.2.2.2.1, E112)))
  else (bindC (if (decide (R78.1 = (3 : Int))) = true then ((spec_l9Any ({ b := c.b, i := R78.2.i, h := R78.2.h : L1Cur }) (9 : Int)).bind fun R120 =>
  some (.go (R120.2.i, R120.2.h, R120.1, T8.2.2.2.2.1)))
  else ((app 24 T8.2.2.2.2.1 ([([] : List Ent)])).bind fun E126 =>
  some (.go (R78.2.i, R78.2.h, T8.2.2.2.1, E126))))
  (fun (T117 : Int × Int × List Ent × List (List Ent)) => some (.go (T117.1, T117.2.1, T117.2.2.1, T117.2.2.2)))))
  (fun (T102 : Int × Int × List Ent × List (List Ent)) => some (.go (T102.1, T102.2.1, T102.2.2.1, T102.2.2.2, T8.2.2.2.2.2)))))
  (fun (T88 : Int × Int × List Ent × List (List Ent) × List Int) => some (.go (T8.2.2.1, T88.1, T88.2.1, T88.2.2.1, T88.2.2.2.1, T88.2.2.2.2)))))
  (fun (T81 : Int × Int × Int × List Ent × List (List Ent) × List Int) => some (.go (T81.1, T81.2.1, T81.2.2.1, T81.2.2.2.1, T81.2.2.2.2.1, T81.2.2.2.2.2))))
  else (some (.go (T8.2.2.1, R72.2.i, R72.2.h, T8.2.2.2.1, T8.2.2.2.2.1, T8.2.2.2.2.2))))
  (fun (T75 : Int × Int × Int × List Ent × List (List Ent) × List Int) => some ({ Mem := T75.2.2.2.1, Tables := T75.2.2.2.2.1, Seq := T75.1, Snaps := T75.2.2.2.2.2 : Eng }, { b := c.b, i := T75.2.1, h := T75.2.2.1 : L1Cur })))
theorem spec_l20Some_c {c : L1Cur} {most : Int} {U0 : Value} {U1 : Nat} : Cn Tryz.prog 24 [pt U1, iv most] [.box U1 80 [U0, iv c.i, iv c.h]] [(U0, lc c.b)] (spec_l20Some c most) (fun r (X : Value × Value × Value) => .agg #[X.1, X.2.1, iv r.1.Seq, X.2.2]) fun r X => [.box U1 80 [U0, iv r.2.i, iv r.2.h], .own X.1 (lc r.1.Mem), .own X.2.1 (lc r.1.Tables), .own X.2.2 (lc r.1.Snaps)] := by
  unfold spec_l20Some
  refine Ci Tryz.func24 r r ?_
  rintro w S ⟨Z0,-⟩
  refine Sr<|Fo (Al kz28 r) fun B1=>Nx<|Sr<|Yo (Bd kp28 kz28 (Pz) r)<|Fo (Al kz28 r) fun B2=>Fu (Sb 0 kk28 r (Cp r) r)<|Nx<|Sq<|Sr<|Qs 2 r<|Bi fun R3 H4=>Fo (Cl [2] spec_l1Below_c H4 r r1 ⟨(Bc Z0),⟨⟩⟩) fun _=>Qs 1 r<|Nx<|Jn (Value × Value × Value) [0,4,5] [2] (fun _ _=>[]) (fun T X=>[.box U1 80 [U0, iv T.1, iv T.2.1], .box B2 28 [X.1, X.2.1, iv T.2.2.1, X.2.2], .own X.1 (lc T.2.2.2.1), .own X.2.1 (lc T.2.2.2.2.1), .own X.2.2 (lc T.2.2.2.2.2)]) r2 r2 (?_) fun T8 X9=>?_
  ·refine Wb<|Nw 4<|Nw 1<|Nw 1<|Lp (Value × Value × Value) [0,4,5] [5] (fun T _=>[(6, iv T.2.2.2.1)]) (fun T X=>[.box U1 80 [U0, iv T.1, iv T.2.1], .box B2 28 [X.1, X.2.1, iv T.2.2.1, X.2.2], .own X.1 (lc T.2.2.2.2.1), .own X.2.1 (lc T.2.2.2.2.2.1), .own X.2.2 (lc T.2.2.2.2.2.2)]) (.slice none 0 0, .slice none 0 0, .slice none 0 0) [5,3,3,2,1,0] r2 r2 fun S6 X7=>Sq<|Sr<|Qs 2 r<|Nx<|Wc r (fun H10=>?_) fun H10=>?_
   ·refine Sn<|Sq<|Wb<|Sr<|Qs 1 r<|Bi fun R11 H12=>Fo (Cl [1] spec_l1Below_c H12 r r1 ⟨(Bc Z0),⟨⟩⟩) fun _=>Nx<|Wb<|Sr<|Qs 2 r<|Nx<|Jn (Value × Value × Value) [0,4,5,6] [1] (fun _ _=>[]) (fun T X=>[.box U1 80 [U0, iv T.1, iv T.2.1], .box B2 28 [X.1, X.2.1, iv T.2.2.1, X.2.2], .own X.1 (lc T.2.2.2.1), .own X.2.1 (lc T.2.2.2.2.1), .own X.2.2 (lc T.2.2.2.2.2)]) r2 r2 (?_) fun T14 X15=>?_
    ·refine Wc r (fun H16=>?_) fun H16=>?_
     ·exact Sr<|Yo (Lb 2 kk28 r)<|Bi fun R17 H18=>Fo (Cl [] spec_EngSnap_c H18 r r1 ⟨(Oc 3 r),(Oc 4 r),(Oc 5 r),⟨⟩⟩) fun Y19=>Qs 4 r<|Fo (Al kz28 r) fun B20=>Fu (Sb 0 kk28 r (Ca ⟨Ow' 1,Ow' 2,Op',Ow' 3,⟨⟩⟩) r)<|Qs 2 r<|Nx<|Rg<|Yo (Lb 0 kk28 r)<|Fu (Sb 6 kk28 r (Ca ⟨Ow' 1,Ow' 2,Op',Ow' 3,⟨⟩⟩) r)<|Nl<|Jg (Y19.1, Y19.2.1, Y19.2.2) [5,4,4,1,1,1]
     refine Sr<|Qs 2 r<|Nx<|Jn (Value × Value × Value) [0,4,5,6] [1] (fun _ _=>[]) (fun T X=>[.box U1 80 [U0, iv T.1, iv T.2.1], .box B2 28 [X.1, X.2.1, iv T.2.2.1, X.2.2], .own X.1 (lc T.2.2.2.1), .own X.2.1 (lc T.2.2.2.2.1), .own X.2.2 (lc T.2.2.2.2.2)]) r2 r2 (?_) fun T21 X22=>?_
     ·refine Wc r (fun H23=>?_) fun H23=>?_
      ·refine Sr<|Yo (Fb kf28_3 r)<|Yo (Lb 2 kk26 r)<|Yo (Ln ke26 (Oc 5 r) r)<|Qs 1 r<|Nx<|Jn (Value × Value × Value) [0,4,5,6] [1] (fun _ _=>[]) (fun T X=>[.box U1 80 [U0, iv T.1, iv T.2.1], .box B2 28 [X.1, X.2.1, iv T.2.2.1, X.2.2], .own X.1 (lc T.2.2.2.1), .own X.2.1 (lc T.2.2.2.2.1), .own X.2.2 (lc T.2.2.2.2.2)]) r2 r2 (?_) fun T24 X25=>?_
       ·refine Wc r (fun H26=>?_) fun H26=>?_
        ·refine Sq<|Wi fun R27 H28=>Wi fun E31 H32=>Wi fun R33 H34=>Jw (Nat × Value × Value × Value) [0,4,5,6] [1,1,1,1,1] (fun X=>[(10, pt X.1)]) (fun X=>[.box U1 80 [U0, iv R27.2.i, iv R27.2.h], .box X.1 28 [X.2.1, X.2.2.1, iv R33.1.Seq, X.2.2.2], .own X.2.1 (lc R33.1.Mem), .own X.2.2.1 (lc R33.1.Tables), .own X.2.2.2 (lc R33.1.Snaps)]) r1 r1 (?_) fun X39=>?_
         ·refine Dr [1,1,1,1,1] r hMix<|Ay 0 [1,1,1,1,1] r (Lb 1 kk28 r)<|Ay 1 [1,1,1,1,1] r (Fb kf28_3 r)<|Ay 2 [1,1,1,1,1] r (Lb 1 kk26 r)<|Aq [3] [1,1,1,1,1] r<|Ay 4 [1,1,1,1,1] r (Fb kf28_3 r)<|Ay 5 [1,1,1,1,1] r (Lb 1 kk26 r)<|Ay 6 [1,1,1,1,1] r (Ln ke26 (Oc 4 r) r)<|A2 7 14 (?_)<|?_
          ·refine Xe [1,1,1,1,1] r (Cl [0] spec_l1Below_c H28 r r1 ⟨(Bc Z0),⟨⟩⟩) fun _=>Ay 8 [1,1,1,1,1] r (Ix ke26 (Oc 4 r) H32 r)<|Ay 9 [1,1,1,1,1] r (Le kk3 (Oc 4 r) H32 r)<|A2 10 14 (?_)<|?_
           ·exact Xe [4,4,4,4,4] r (Cl [] spec_EngDrop_c H34 r r1 ⟨(Oc 3 r),(Oc 4 r),(Oc 5 r),⟨⟩⟩) fun Y42=>Aq [11,12,13] [4,4,4,4,4] r<|A1 14<|Xe [5,5,5,5,5] r (Al kz28 r) fun B44=>A1 15<|Xu [5,5,5,5,5] r (Sb 0 kk28 r (Ca ⟨Ow' 1,Ow' 2,Op',Ow' 3,⟨⟩⟩) r)<|Aq [16] [5,5,5,5,5] r<|Az<|Bg (B44, Y42.1, Y42.2.1, Y42.2.2) [5,5,5,5,5,4,0,0,0,0]
           exact Xe [2,2,2,2,2] r (Al kz28 r) fun B43=>A1 10<|Xe [5,5,5,5,5] r (Cl [] spec_EngDrop_c H34 r r1 ⟨(Oc 4 r),(Oc 5 r),(Oc 6 r),⟨⟩⟩) fun Y44=>Aq [11,12,13] [5,5,5,5,5] r<|A1 15<|Xu [5,5,5,5,5] r (Sb 3 kk28 r (Ca ⟨Ow' 0,Ow' 1,Op',Ow' 2,⟨⟩⟩) r)<|Aq [16] [5,5,5,5,5] r<|Az<|Bg (B43, Y44.1, Y44.2.1, Y44.2.2) [5,5,5,5,5,4,3,0,0,0]
          exact Xe [2,2,2,2,2] r (Al kz28 r) fun B41=>A1 7<|Xe [2,2,2,2,2] r (Cl [1] spec_l1Below_c H28 r r1 ⟨(Bc Z0),⟨⟩⟩) fun _=>Ay 8 [2,2,2,2,2] r (Ix ke26 (Oc 4 r) H32 r)<|Ay 9 [2,2,2,2,2] r (Le kk3 (Oc 4 r) H32 r)<|A1 10<|Xe [5,5,5,5,5] r (Cl [] spec_EngDrop_c H34 r r1 ⟨(Oc 4 r),(Oc 5 r),(Oc 6 r),⟨⟩⟩) fun Y43=>Aq [11,12,13] [5,5,5,5,5] r<|A1 15<|Xu [5,5,5,5,5] r (Sb 4 kk28 r (Ca ⟨Ow' 0,Ow' 1,Op',Ow' 2,⟨⟩⟩) r)<|Aq [16] [5,5,5,5,5] r<|Az<|Bg (B41, Y43.1, Y43.2.1, Y43.2.2) [5,5,5,5,5,3,3,0,0,0]
         exact Ne<|Rg<|Yo (Lb 6 kk28 r)<|Fu (Sb 1 kk28 r (Ca ⟨Ow' 7,Ow' 8,Op',Ow' 9,⟨⟩⟩) r)<|Nl<|Jg (X39.2.1, X39.2.2.1, X39.2.2.2) [0,4,0,4,4,4]
        exact Sk<|Jg (X7.1, X7.2.1, X7.2.2) [1,0,0,0,0,0]
       exact Jg (X25.1, X25.2.1, X25.2.2) [0,0,0,0,0,0]
      refine Sq<|Sr<|Qs 2 r<|Nx<|Ju [0,4,5,6,27] (fun T=>[(66, .bool T)]) r1 (Wc r (fun H44=>Sk<|Jg () [0,0,0,0,0,0]) fun H44=>Rg<|Qs 2 r<|Nl<|Jg () [0,0,0,0,0,0]) fun T42=>Ne<|Jn (Value × Value × Value) [0,4,5,6] [1] (fun _ _=>[]) (fun T X=>[.box U1 80 [U0, iv T.1, iv T.2.1], .box B2 28 [X.1, X.2.1, iv T.2.2.1, X.2.2], .own X.1 (lc T.2.2.2.1), .own X.2.1 (lc T.2.2.2.2.1), .own X.2.2 (lc T.2.2.2.2.2)]) r2 r2 (?_) fun T45 X46=>?_
      ·refine Wc r (fun H47=>?_) fun H47=>?_
       ·exact Sr<|Yo (Lb 2 kk28 r)<|Bi fun R48 H49=>Fo (Cl [] spec_EngFlush_c H49 r r1 ⟨(Oc 3 r),(Oc 4 r),(Oc 5 r),⟨⟩⟩) fun Y50=>Qs 3 r<|Fo (Al kz28 r) fun B51=>Fu (Sb 0 kk28 r (Ca ⟨Ow' 1,Ow' 2,Op',Ow' 3,⟨⟩⟩) r)<|Qs 1 r<|Nx<|Rg<|Yo (Lb 0 kk28 r)<|Fu (Sb 6 kk28 r (Ca ⟨Ow' 1,Ow' 2,Op',Ow' 3,⟨⟩⟩) r)<|Nl<|Jg (Y50.1, Y50.2.1, Y50.2.2) [5,4,4,1,1,1]
       refine Sr<|Qs 2 r<|Nx<|Jn (Value × Value × Value) [0,4,5,6] [1] (fun _ _=>[]) (fun T X=>[.box U1 80 [U0, iv T.1, iv T.2.1], .box B2 28 [X.1, X.2.1, iv T.2.2.1, X.2.2], .own X.1 (lc T.2.2.2.1), .own X.2.1 (lc T.2.2.2.2.1), .own X.2.2 (lc T.2.2.2.2.2)]) r2 r2 (?_) fun T52 X53=>?_
       ·refine Wc r (fun H54=>?_) fun H54=>?_
        ·exact Sr<|Yo (Lb 2 kk28 r)<|Bi fun R55 H56=>Fo (Cl [] spec_EngMerge_c H56 r r1 ⟨(Oc 3 r),(Oc 4 r),(Oc 5 r),⟨⟩⟩) fun Y57=>Qs 3 r<|Fo (Al kz28 r) fun B58=>Fu (Sb 0 kk28 r (Ca ⟨Ow' 1,Ow' 2,Op',Ow' 3,⟨⟩⟩) r)<|Qs 1 r<|Nx<|Rg<|Yo (Lb 0 kk28 r)<|Fu (Sb 6 kk28 r (Ca ⟨Ow' 1,Ow' 2,Op',Ow' 3,⟨⟩⟩) r)<|Nl<|Jg (Y57.1, Y57.2.1, Y57.2.2) [5,4,4,1,1,1]
        refine Sq<|Wi fun R59 H60=>Wi fun R63 H64=>Jw (Nat × Value × Value × Value) [0,4,5,6] [1,1,1,1,1] (fun X=>[(16, pt X.1)]) (fun X=>[.box U1 80 [U0, iv R59.2.i, iv R59.2.h], .box X.1 28 [X.2.1, X.2.2.1, iv R63.1.Seq, X.2.2.2], .own X.2.1 (lc R63.1.Mem), .own X.2.2.1 (lc R63.1.Tables), .own X.2.2.2 (lc R63.1.Snaps)]) r1 r1 (?_) fun X69=>?_
        ·refine Dr [1,1,1,1,1] r hMix<|Ay 0 [1,1,1,1,1] r (Lb 1 kk28 r)<|Aq [1] [1,1,1,1,1] r<|A2 2 7 (?_)<|?_
         ·refine Xe [2,2,2,2,2] r (Cl [0] spec_l7Batch_c H60 r r1 ⟨(Bc Z0),⟨⟩⟩) fun Y70=>A2 3 7 (?_)<|?_
          ·exact Xe [5,5,5,5,5] r (Cl [] spec_EngPut_c H64 r r1 ⟨(Oc 4 r),(Oc 5 r),(Oc 6 r),(Oc 1 r),⟨⟩⟩) fun Y72=>Aq [4,5,6] [5,5,5,5,5] r<|A1 7<|Xe [6,6,6,6,6] r (Al kz28 r) fun B74=>A1 8<|Xu [6,6,6,6,6] r (Sb 0 kk28 r (Ca ⟨Ow' 1,Ow' 2,Op',Ow' 3,⟨⟩⟩) r)<|Aq [9] [6,6,6,6,6] r<|Az<|Bg (B74, Y72.1, Y72.2.1, Y72.2.2) [6,6,6,6,6,4,0,0,0,0]
          exact Xe [3,3,3,3,3] r (Al kz28 r) fun B73=>A1 3<|Xe [6,6,6,6,6] r (Cl [] spec_EngPut_c H64 r r1 ⟨(Oc 5 r),(Oc 6 r),(Oc 7 r),(Oc 2 r),⟨⟩⟩) fun Y74=>Aq [4,5,6] [6,6,6,6,6] r<|A1 8<|Xu [6,6,6,6,6] r (Sb 3 kk28 r (Ca ⟨Ow' 0,Ow' 1,Op',Ow' 2,⟨⟩⟩) r)<|Aq [9] [6,6,6,6,6] r<|Az<|Bg (B73, Y74.1, Y74.2.1, Y74.2.2) [6,6,6,6,6,4,3,0,0,0]
         exact Xe [2,2,2,2,2] r (Al kz28 r) fun B71=>A1 2<|Xe [3,3,3,3,3] r (Cl [1] spec_l7Batch_c H60 r r1 ⟨(Bc Z0),⟨⟩⟩) fun Y72=>A1 3<|Xe [6,6,6,6,6] r (Cl [] spec_EngPut_c H64 r r1 ⟨(Oc 5 r),(Oc 6 r),(Oc 7 r),(Oc 1 r),⟨⟩⟩) fun Y73=>Aq [4,5,6] [6,6,6,6,6] r<|A1 8<|Xu [6,6,6,6,6] r (Sb 5 kk28 r (Ca ⟨Ow' 0,Ow' 1,Op',Ow' 2,⟨⟩⟩) r)<|Aq [9] [6,6,6,6,6] r<|Az<|Bg (B71, Y73.1, Y73.2.1, Y73.2.2) [6,6,6,6,6,3,4,0,0,0]
        exact Ne<|Rg<|Yo (Lb 6 kk28 r)<|Fu (Sb 1 kk28 r (Ca ⟨Ow' 7,Ow' 8,Op',Ow' 9,⟨⟩⟩) r)<|Nl<|Jg (X69.2.1, X69.2.2.1, X69.2.2.2) [0,4,0,4,4,4]
       exact Jg (X53.1, X53.2.1, X53.2.2) [0,0,0,0,0,0]
      exact Jg (X46.1, X46.2.1, X46.2.2) [0,0,0,0,0,0]
     exact Jg (X22.1, X22.2.1, X22.2.2) [0,0,0,0,0,0]
    exact Bn<|Bn<|Ne<|Rg<|Qs 3 r<|Nl<|Lg (X15.1, X15.2.1, X15.2.2) [0,0,0,0,0,0]
   exact Wx<|Tx<|Ex<|Be<|Jg (X7.1, X7.2.1, X7.2.2) [0,0,0,0,0,0]
  refine Ne<|Sq<|Sr<|Qs 1 r<|Bi fun R72 H73=>Fo (Cl [1] spec_l1Once_c H73 r r1 ⟨(Bc Z0),⟨⟩⟩) fun _=>Nx<|Jn (Value × Value × Value) [4,5] [1] (fun _ _=>[]) (fun T X=>[.box B2 28 [X.1, X.2.1, iv T.1, X.2.2], .box U1 80 [U0, iv T.2.1, iv T.2.2.1], .own X.1 (lc T.2.2.2.1), .own X.2.1 (lc T.2.2.2.2.1), .own X.2.2 (lc T.2.2.2.2.2)]) r2 r2 (?_) fun T75 X76=>?_
  ·refine Wc r (fun H77=>?_) fun H77=>?_
   ·refine Sr<|Qs 1 r<|Bi fun R78 H79=>Fo (Cl [0] spec_l1Below_c H79 r r1 ⟨(Bc Z0),⟨⟩⟩) fun _=>Nx<|Wb<|Sr<|Qs 2 r<|Nx<|Jn (Value × Value × Value) [4,5] [1] (fun _ _=>[]) (fun T X=>[.box B2 28 [X.1, X.2.1, iv T.1, X.2.2], .box U1 80 [U0, iv T.2.1, iv T.2.2.1], .own X.1 (lc T.2.2.2.1), .own X.2.1 (lc T.2.2.2.2.1), .own X.2.2 (lc T.2.2.2.2.2)]) r2 r2 (?_) fun T81 X82=>?_
    ·refine Wc r (fun H83=>?_) fun H83=>?_
     ·exact Rg<|Qs 1 r<|Fo (Bs [(-1 : Int), (0 : Int), (1000000 : Int), (1000001 : Int)] ke26 kz3) fun B84=>Bi fun R85 H86=>Fo (Cl [1] spec_l1PickInt_c H86 r r1 ⟨(Bc Z0),(Oc 0 r),⟨⟩⟩) fun _=>Yo (Fb kf28_2 r)<|Fu (Sb 3 kk3 r (Cp r) r)<|Nl<|Jg (X9.1, X9.2.1, X9.2.2) [2,2,0,1,1,1]
     refine Sr<|Qs 2 r<|Nx<|Jn (Value × Value × Value) [4,5] [1] (fun _ _=>[]) (fun T X=>[.box B2 28 [X.1, X.2.1, iv T8.2.2.1, X.2.2], .box U1 80 [U0, iv T.1, iv T.2.1], .own X.1 (lc T.2.2.1), .own X.2.1 (lc T.2.2.2.1), .own X.2.2 (lc T.2.2.2.2)]) r2 r2 (?_) fun T88 X89=>?_
     ·refine Wc r (fun H90=>?_) fun H90=>?_
      ·refine Wi fun R91 H92=>Wi fun E97 H98=>Jw Value [4,5] [1,2,2] (fun _=>[]) (fun X=>[.box B2 28 [X9.1, X9.2.1, iv T8.2.2.1, X], .box U1 80 [U0, iv R91.2.i, iv R91.2.h], .own X (lc E97)]) r1 r1 (?_) fun X100=>?_
       ·refine Dr [1,2,2] r hMix<|Ay 0 [1,2,2] r (Fb kf28_3 r)<|Aq [2] [1,2,2] r<|A2 1 3 (?_)<|?_
        ·exact Xy [1,2,2] r (Lb 2 kk26 r)<|A1 3<|Xe [1,2,2] r (Cl [0] spec_l1Below_c H92 r r1 ⟨(Bc Z0),⟨⟩⟩) fun _=>Aq [4] [1,2,2] r<|A1 5<|Xe [2,3,3] r (Bs [IntKind.i64.wrap (R91.1 - (1 : Int))] ke26 kz3) fun B103=>A1 6<|Xe [3,4,4] r (Ap [6] H98 ke26 kz3 r (Oc 0 r)) fun V104=>Ay 7 [3,4,4] r (Fb kf28_3 r)<|A1 8<|Xu [3,4,4] r (Sb 4 kk26 r (Co 0) r)<|Az<|Bg V104 [3,4,4,3,2,0]
        refine Xe [1,2,2] r (Cl [0] spec_l1Below_c H92 r r1 ⟨(Bc Z0),⟨⟩⟩) fun _=>Aq [4] [1,2,2] r<|A2 1 5 (?_)<|?_
        ·exact Xy [1,2,2] r (Lb 2 kk26 r)<|A1 5<|Xe [2,3,3] r (Bs [IntKind.i64.wrap (R91.1 - (1 : Int))] ke26 kz3) fun B103=>A1 6<|Xe [3,4,4] r (Ap [6] H98 ke26 kz3 r (Oc 0 r)) fun V104=>Ay 7 [3,4,4] r (Fb kf28_3 r)<|A1 8<|Xu [3,4,4] r (Sb 4 kk26 r (Co 0) r)<|Az<|Bg V104 [3,4,4,3,2,0]
        exact Xe [2,3,3] r (Bs [IntKind.i64.wrap (R91.1 - (1 : Int))] ke26 kz3) fun B102=>A1 1<|Xy [2,3,3] r (Lb 3 kk26 r)<|A1 6<|Xe [3,4,4] r (Ap [6] H98 ke26 kz3 r (Oc 0 r)) fun V103=>Ay 7 [3,4,4] r (Fb kf28_3 r)<|A1 8<|Xu [3,4,4] r (Sb 4 kk26 r (Co 0) r)<|Az<|Bg V103 [3,4,4,3,2,0]
       exact Jg (X9.1, X9.2.1, X100) [0,2,2,0,0,0]
      refine Sr<|Qs 2 r<|Nx<|Jn (Value × Value) [4,5] [1,4] (fun _ _=>[]) (fun T X=>[.box B2 28 [X.1, X.2, iv T8.2.2.1, X9.2.2], .box U1 80 [U0, iv T.1, iv T.2.1], .own X.1 (lc T.2.2.1), .own X.2 (lc T.2.2.2)]) r2 r2 (?_) fun T102 X103=>?_
      ·refine Wc r (fun H104=>?_) fun H104=>?_
       ·refine Wi fun R105 H106=>Wi fun E112 H113=>Jw Value [4,5] [1,2,3] (fun _=>[]) (fun X=>[.box B2 28 [X9.1, X, iv T8.2.2.1, X9.2.2], .box U1 80 [U0, iv R105.2.i, iv R105.2.h], .own X (lc E112)]) r1 r1 (?_) fun X115=>?_
        ·refine Dr [1,2,3] r hMix<|Ay 0 [1,2,3] r (Fb kf28_1 r)<|Aq [2] [1,2,3] r<|A2 1 3 (?_)<|?_
         ·refine Xy [1,2,3] r (Lb 2 kk25 r)<|A1 3<|Xe [1,2,3] r (Cl [0] spec_l1Below_c H106 r r1 ⟨(Bc Z0),⟨⟩⟩) fun _=>Ay 4 [1,2,3] r (Bd kp72 kz72 (Pc r (Cp r)<|Pc r (Cp r)<|Pz) r)<|A1 5<|Xe [2,3,4] r (Bs [{ Key := [97], Seq := R105.1, Del := false, Val := [] : Ent }] ke24 kz72) fun B118=>A1 6<|Xe [3,4,5] r (Bk [.raw (.slice (some ⟨B118, 0, none⟩) 1 1)] ke25 kz24 r (Qc (Cp r)<|Qz)) fun B119=>Ka (Ha [0, 0] ([[{ Key := [97], Seq := R105.1, Del := false, Val := [] : Ent }]] : List (List Ent)) r (Cf Cz))<|A1 7<|Xe [2,3,3] r (Aw [5, 0] H113 ke25 kz24 r) fun V120=>?_
          exact Ay 8 [2,3,3] r (Fb kf28_1 r)<|A1 9<|Xu [2,3,3] r (Sb 3 kk25 r (Co 0) r)<|Az<|Bg V120 [2,3,3,2,1,0]
         refine Xe [1,2,3] r (Cl [0] spec_l1Below_c H106 r r1 ⟨(Bc Z0),⟨⟩⟩) fun _=>Ay 4 [1,2,3] r (Bd kp72 kz72 (Pc r (Cp r)<|Pc r (Cp r)<|Pz) r)<|A2 1 5 (?_)<|?_
         ·exact Xy [1,2,3] r (Lb 2 kk25 r)<|A1 5<|Xe [2,3,4] r (Bs [{ Key := [97], Seq := R105.1, Del := false, Val := [] : Ent }] ke24 kz72) fun B118=>A1 6<|Xe [3,4,5] r (Bk [.raw (.slice (some ⟨B118, 0, none⟩) 1 1)] ke25 kz24 r (Qc (Cp r)<|Qz)) fun B119=>Ka (Ha [0, 0] ([[{ Key := [97], Seq := R105.1, Del := false, Val := [] : Ent }]] : List (List Ent)) r (Cf Cz))<|A1 7<|Xe [2,3,3] r (Aw [5, 0] H113 ke25 kz24 r) fun V120=>Ay 8 [2,3,3] r (Fb kf28_1 r)<|A1 9<|Xu [2,3,3] r (Sb 3 kk25 r (Co 0) r)<|Az<|Bg V120 [2,3,3,2,1,0]
         refine Xe [2,3,4] r (Bs [{ Key := [97], Seq := R105.1, Del := false, Val := [] : Ent }] ke24 kz72) fun B117=>A2 1 6 (?_)<|?_
         ·exact Xy [2,3,4] r (Lb 3 kk25 r)<|A1 6<|Xe [3,4,5] r (Bk [.raw (.slice (some ⟨B117, 0, none⟩) 1 1)] ke25 kz24 r (Qc (Cp r)<|Qz)) fun B119=>Ka (Ha [0, 0] ([[{ Key := [97], Seq := R105.1, Del := false, Val := [] : Ent }]] : List (List Ent)) r (Cf Cz))<|A1 7<|Xe [2,3,3] r (Aw [5, 0] H113 ke25 kz24 r) fun V120=>Ay 8 [2,3,3] r (Fb kf28_1 r)<|A1 9<|Xu [2,3,3] r (Sb 3 kk25 r (Co 0) r)<|Az<|Bg V120 [2,3,3,2,1,0]
         exact Xe [3,4,5] r (Bk [.raw (.slice (some ⟨B117, 0, none⟩) 1 1)] ke25 kz24 r (Qc (Cp r)<|Qz)) fun B118=>Ka (Ha [0, 0] ([[{ Key := [97], Seq := R105.1, Del := false, Val := [] : Ent }]] : List (List Ent)) r (Cf Cz))<|A1 1<|Xy [2,3,4] r (Lb 3 kk25 r)<|A1 7<|Xe [2,3,3] r (Aw [5, 0] H113 ke25 kz24 r) fun V119=>Ay 8 [2,3,3] r (Fb kf28_1 r)<|A1 9<|Xu [2,3,3] r (Sb 3 kk25 r (Co 0) r)<|Az<|Bg V119 [2,3,3,2,1,0]
        exact Jg (X9.1, X115) [0,1,1,1,0,0]
       refine Sr<|Qs 2 r<|Nx<|Jn (Value × Value) [4,5] [1,4] (fun _ _=>[]) (fun T X=>[.box B2 28 [X.1, X.2, iv T8.2.2.1, X9.2.2], .box U1 80 [U0, iv T.1, iv T.2.1], .own X.1 (lc T.2.2.1), .own X.2 (lc T.2.2.2)]) r2 r2 (?_) fun T117 X118=>?_
       ·exact Wc r (fun H119=>Rg<|Qs 1 r<|Bi fun R120 H121=>Fo (Cl [0] spec_l9Any_c H121 r r1 ⟨(Bc Z0),⟨⟩⟩) fun Y122=>Yo (Fb kf28_0 r)<|Fu (Sb 3 kk24 r (Co 1) r)<|Nl<|Jg (Y122, X9.2.1) [2,5,2,0,0,1]) fun H119=>Rg<|Yo (Fb kf28_1 r)<|Yo (Lb 2 kk25 r)<|Fo (Bs ([] : List Ent) ke24 kz72) fun B123=>Fo (Bk [.raw (.slice (some ⟨B123, 0, none⟩) 0 0)] ke25 kz24 r (Qc (Cp r)<|Qz)) fun B124=>Kt (Ha [0, 0] ([([] : List Ent)] : List (List Ent)) r (Cf Cz))<|Bi fun E126 H127=>Fo (Aw [5, 0] H127 ke25 kz24 r) fun V125=>Yo (Fb kf28_1 r)<|Fu (Sb 3 kk25 r (Co 0) r)<|Nl<|Jg (X9.1, V125) [2,4,2,1,1,0]
       exact Jg (X118.1, X118.2) [0,0,0,0,0,0]
      exact Jg (X103.1, X103.2, X9.2.2) [0,1,1,1,1,0]
     exact Jg (X89.1, X89.2.1, X89.2.2) [0,0,0,0,0,0]
    exact Bn<|Jg (X82.1, X82.2.1, X82.2.2) [0,0,0,0,0,0]
   exact Sk<|Jg (X9.1, X9.2.1, X9.2.2) [1,1,0,0,0,0]
  exact Ne<|Sr<|Yo (Lb 1 kk28 r)<|Fu (Sb 0 kk28 r (Ca ⟨Ow' 3,Ow' 4,Op',Ow' 5,⟨⟩⟩) r)<|Nx<|Wr<|Rf (X76.1, X76.2.1, X76.2.2) [2,2,2,2] (RV.cell 0 r r kk28 r Rz)
noncomputable def spec_DrawEngPut (code : List UInt8) : Option (Eng × List Op) :=
  (spec_l1New code).bind fun R2 =>
  (spec_l1Size code (24 : Int)).bind fun R5 =>
  (spec_l20Some ({ b := code, i := R2.i, h := R2.h : L1Cur }) R5).bind fun R8 =>
  (spec_l7Batch ({ b := code, i := R8.2.i, h := R8.2.h : L1Cur })).bind fun R12 =>
  some (R8.1, R12.1)
theorem spec_DrawEngPut_c {code : List UInt8} {U0 : Value} : Cn Tryz.prog 10 [U0] [] [(U0, lc code)] (spec_DrawEngPut code) (fun r (X : Value × Value × Value × Value) => .tuple #[.agg #[X.1, X.2.1, iv r.1.Seq, X.2.2.1], X.2.2.2]) fun r X => [.own X.1 (lc r.1.Mem), .own X.2.1 (lc r.1.Tables), .own X.2.2.1 (lc r.1.Snaps), .own X.2.2.2 (lc r.2)] := by
  unfold spec_DrawEngPut
  refine Ci Tryz.func10 r r ?_
  rintro w S ⟨Z0,-⟩
  refine Sr<|Fo (Al kz28 r) fun B1=>Qs 1 r<|Nx<|Sr<|Qs 1 r<|Bi fun R2 H3=>Fo (Cl [] spec_l1New_c H3 r r1 ⟨(Bc Z0),⟨⟩⟩) fun Y4=>Qs 1 r<|Nx<|Sr<|Qs 2 r<|Bi fun R5 H6=>Fo (Cl [] spec_l1Size_c H6 r r1 ⟨(Bc Z0),⟨⟩⟩) fun _=>Bi fun R8 H9=>Fo (Cl [0] spec_l20Some_c H9 r r1 ⟨(Bc Z0),⟨⟩⟩) fun Y10=>Fo (Al kz28 r) fun B11=>Fu (Sb 0 kk28 r (Ca ⟨Ow' 2,Ow' 3,Op',Ow' 4,⟨⟩⟩) r)<|Nx<|Sq<|Dr [0,1,1,1] r hMix<|Ay 0 [0,1,1,1] r (Lb 0 kk28 r)<|Aq [1] [0,1,1,1] r<|Ai fun R12 H13=>A1 2<|Xe [2,2,2,2] r (Cl [1] spec_l7Batch_c H13 r r1 ⟨(Bc Z0),⟨⟩⟩) fun Y14=>?_
  exact A1 3<|Xu [2,2,2,2] r (Sb 6 kk28 r (Ca ⟨Ow' 3,Ow' 4,Op',Ow' 5,⟨⟩⟩) r)<|Aq [4] [2,2,2,2] r<|Az<|Ne<|Wr<|Rf (Y10.1, Y10.2.1, Y10.2.2, Y14) [3,3,3,1] (RV.cell 6 r r kk28 r (Rt r Rz))
noncomputable def impl_BatchOk (l : List Op) : Option Bool :=
  bindC (loopO (fun (S1 : Int) => if (decide (S1 < ((l.length : Nat) : Int))) = true then ((idx l S1).bind fun E6 =>
  ((impl_isKey E6.Key).bind fun R11 =>
  if (!R11) = true then (some true)
  else ((impl_isVal E6.Del E6.Val).bind fun R15 =>
  some (!R15))).bind (fun (T9 : Bool) =>
  if T9 = true then (some (.done (.done false)))
  else (some (.go (IntKind.i64.wrap (S1 + (1 : Int)))))))
  else (some (.done (.go ()))))
  (0 : Int))
  (fun (T3 : Unit) => (impl_inRange ((l.length : Nat) : Int) (1 : Int) (6 : Int)).bind fun R19 =>
  some R19)
theorem impl_BatchOk_c {l : List Op} {U0 : Value} : Cn Tryz.prog 27 [U0] [] [(U0, lc l)] (impl_BatchOk l) (fun r (_ : Unit) => .bool r) fun _ _ => [] := by
  unfold impl_BatchOk
  refine Ci Tryz.func27 r r ?_
  rintro w S ⟨Z0,-⟩
  refine Sr<|Qs 1 r<|Nx<|Sq<|Sr<|Qs 1 r<|Yo (Ln ke36 (Bc Z0) r)<|Qs 1 r<|Nx<|Ju [0] (fun _=>[]) r1 (?_) fun T3=>?_
  ·refine Wb<|Lu [0,5,6] (fun T=>[(7, iv T)]) r1 fun S1=>Sr<|Qs 1 r<|Nx<|Sq<|Wc r (fun H5=>?_) fun H5=>?_
   ·refine Sn<|Sq<|Wb<|Sr<|Bi fun E6 H7=>Yo (Ix ke36 (Bc Z0) H7 r)<|Yo (Le kk61 (Bc Z0) H7 r)<|Fo (Al kz61 r) fun B8=>Fu (Sb 0 kk61 r (Cp r) r)<|Nx<|Sq<|Jb Unit [0,5,6,7] [] (fun T _=>[(22, .bool T)]) (fun _ _=>[]) r2 r2 (?_) fun T9 X10=>?_
    ·exact Rg<|Yo (Fb kf61_0 r)<|Yo (Lb 0 kk9 r)<|Bi fun R11 H12=>Fo (Cl [] impl_isKey_c H12 r r1) fun _=>Qs 2 r<|It (fun H14=>Of 6 (beq_tf H14) r r<|Yo (Pt H14 r)<|Nl<|Bg () []) fun H14=>Yg (gdA (beq_ff H14)) (Fb kf61_1 r)<|Yg (gdA (beq_ff H14)) (Lb 0 kk4 r)<|Yg (gdA (beq_ff H14)) (Fb kf61_2 r)<|Yg (gdA (beq_ff H14)) (Lb 0 kk9 r)<|Bi fun R15 H16=>Fg (gdA (beq_ff H14)) (Cl [] impl_isVal_c H16 r r1) fun _=>Qg 1 (beq_ff H14) r r<|Yo (Pf H14 r)<|Nl<|Bg () []
    exact Ne<|Wc r (fun H18=>Sr<|Qs 1 r<|Nx<|Wr<|Br<|Tr<|Er<|Br<|Jd<|Tr<|Re () []) fun H18=>Sk<|Bn<|Ne<|Rg<|Qs 2 r<|Nl<|Lg () []
   exact Wx<|Tx<|Ex<|Be<|Jg () []
  exact Ne<|Sr<|Qs 1 r<|Yo (Ln ke36 (Bc Z0) r)<|Bi fun R19 H20=>Fo (Cl [] impl_inRange_c H20 r r1) fun _=>Qs 1 r<|Nx<|Wr<|Re () []
noncomputable def slices_Insert_94167 (s : List Ent) (i : Int) (v : List Ent) : Option (List Ent) := ins 48 s i v
theorem slices_Insert_94167_con (s : List Ent) (i : Int) (v : List Ent) (V_s0 V_v0 : Value) (r : List Ent) (hm : slices_Insert_94167 s i v = some r) :
    Con Tryz.prog 91 [V_s0, .int .i64 i, V_v0] [.own V_s0 (lc s), .own V_v0 (lc v)] [] (fun X : Value => X) (fun X => [.own X (lc r)]) := by
  refine Con.intro (args := [V_s0, .int .i64 i, V_v0]) (n := 95) (val := fun _ (X : Value) => X) (post := fun r X => [.own X (lc r)]) (m := slices_Insert_94167 s i v) Tryz.func91 rfl rfl rfl hm ?_
  intro w S _
  unfold slices_Insert_94167
  refine TW.known fun r0 hr0 => ?_
  obtain ⟨h0, h1, h2, h3, rfl⟩ := ins_eq hr0
  obtain ⟨I, rfl⟩ := Int.eq_ofNat_of_zero_le h0
  rw [Int.toNat_natCast]
  have h1n : I ≤ s.length := by omega
  clear hr0 hm
  have wr : ∀ q : Nat, q ≤ 4611686018427387904 → IntKind.i64.wrap (q : Int) = (q : Int) := fun q hq => by rw [IntKind.wrap_i64]; omega
  have wr2 : ∀ a b : Nat, a + b ≤ 4611686018427387904 → IntKind.i64.wrap ((a : Int) + (b : Int)) = ((a + b : Nat) : Int) := fun a b hq => by rw [IntKind.wrap_i64]; omega
  obtain ⟨z0, hpc⟩ : ∃ z, piece s (I : Int) ((s.length : Nat) : Int) = some z := ⟨_, if_pos ⟨by omega, by omega, by omega⟩⟩
  refine TW.seq ?_
  refine TW.region ?_
  refine TO.y (Y.assign rfl) rfl rfl rfl ?_
  refine TO.nil ?_
  refine TE.next ?_
  refine TW.seq ?_
  refine TW.region ?_
  refine TO.y (Y.move rfl) rfl rfl rfl ?_
  refine TO.y (Y.move rfl) rfl rfl rfl ?_
  refine TO.y (Y.subs hpc ke24 (Can.own 0 rfl) rfl ⟨_, rfl⟩ rfl) rfl rfl rfl ?_
  refine TO.nil ?_
  refine TE.next ?_
  refine TW.seq ?_
  refine TW.region ?_
  refine TO.y (Y.move rfl) rfl rfl rfl ?_
  refine TO.y (Y.len (l := v) ke24 (Can.own 1 rfl) rfl) rfl rfl rfl ?_
  refine TO.y (Y.assign rfl) rfl rfl rfl ?_
  refine TO.nil ?_
  refine TE.next ?_
  refine TW.seq ?_
  refine TW.seq ?_
  refine TW.region ?_
  refine TO.y (Y.move rfl) rfl rfl rfl ?_
  refine TO.y (Y.eql rfl rfl) rfl rfl rfl ?_
  refine TO.nil ?_
  refine TE.next ?_
  by_cases hm0 : v = []
  · subst hm0
    rw [show s.take I ++ ([] ++ s.drop I) = s by simp]
    refine TW.cond_t rfl (by simp) ?_
    refine TW.seq ?_
    refine TW.region ?_
    refine TO.y (Y.move rfl) rfl rfl rfl ?_
    refine TO.y (Y.assign rfl) rfl rfl rfl ?_
    refine TO.nil ?_
    refine TE.next ?_
    refine TW.ret ?_
    refine TE.then_ret ?_
    exact TE.leaf fun _ _ hf_ hs_ => ret_any (rs := [.tmp 6]) (vs := [V_s0]) (.inl rfl) rfl ⟨rfl, trivial⟩ hf_ hs_ ⟨V_s0, rfl, hs_.pulls [0] rfl⟩
  · have hm1 : 0 < v.length := List.length_pos_iff.2 hm0
    refine TW.cond_f rfl (decide_eq_false (by omega)) ?_
    refine TW.skip ?_
    refine TE.next ?_
    refine TW.seq ?_
    refine TW.region ?_
    refine TO.y (Y.move rfl) rfl rfl rfl ?_
    refine TO.y (Y.len (l := s) ke24 (Can.own 0 rfl) rfl) rfl rfl rfl ?_
    refine TO.y (Y.assign rfl) rfl rfl rfl ?_
    refine TO.nil ?_
    refine TE.next ?_
    refine TW.seq ?_
    refine TW.seq ?_
    refine TW.region ?_
    refine TO.y (Y.move rfl) rfl rfl rfl ?_
    refine TO.y (Y.move rfl) rfl rfl rfl ?_
    refine TO.y (Y.eql rfl rfl) rfl rfl rfl ?_
    refine TO.nil ?_
    refine TE.next ?_
    by_cases hin : I = s.length
    · have happ : app 48 s v = some (s ++ v) := by unfold app; rw [if_pos ⟨h2, by omega⟩]
      rw [show s.take I ++ (v ++ s.drop I) = s ++ v by rw [hin]; simp]
      refine TW.cond_t rfl (decide_eq_true (by omega)) ?_
      refine TW.seq ?_
      refine TW.region ?_
      refine TO.y (Y.move rfl) rfl rfl rfl ?_
      refine TO.y (Y.move rfl) rfl rfl rfl ?_
      refine TO.ef (Ef.appN (α := Ent) (is' := []) [0, 0] happ ke24 kz72 rfl rfl rfl rfl rfl) rfl rfl rfl (fun X => ?_)
      refine TO.y (Y.assign rfl) rfl rfl rfl ?_
      refine TO.nil ?_
      refine TE.next ?_
      refine TW.ret ?_
      refine TE.then_ret ?_
      exact TE.leaf fun _ _ hf_ hs_ => ret_any (rs := [.tmp 6]) (vs := [X]) (.inl rfl) rfl ⟨rfl, trivial⟩ hf_ hs_ ⟨X, rfl, hs_.pulls [0] rfl⟩
    · refine TW.cond_f rfl (decide_eq_false (by omega)) ?_
      refine TW.skip ?_
      refine TE.next ?_
      refine TW.openRows (α := Ent) (by omega) hm1 ?_
      intro b cap e cur b2 cap2 e2 cur2 hV hU hbb hc1 hc2 hc3 hc4 hl1 hl2 ho1 ho2
      subst hV hU
      have hsz : Enc.sz Ent = 4 := rfl
      rw [hsz] at hl1 hl2 ho1 ho2
      have e1 := wr2 s.length v.length h3
      refine TW.seq ?_
      refine TW.seq ?_
      refine TW.region ?_
      refine TO.y (Y.move rfl) rfl rfl rfl ?_
      refine TO.y (Y.move rfl) rfl rfl rfl ?_
      refine TO.y (Y.add rfl rfl) rfl rfl rfl ?_
      refine TO.y (Y.move rfl) rfl rfl rfl ?_
      refine TO.y (Y.capRaw ke24 rfl) rfl rfl rfl ?_
      refine TO.y (Y.gtr rfl rfl) rfl rfl rfl ?_
      refine TO.nil ?_
      refine TE.next ?_
      by_cases hroom : cap < s.length + v.length
      · refine TW.cond_t rfl (by rw [e1]; exact decide_eq_true (by omega)) ?_
        refine TW.seq ?_
        refine TW.region ?_
        refine TO.y (Y.move rfl) rfl rfl rfl ?_
        refine TO.y (Y.move rfl) rfl rfl rfl ?_
        refine TO.y (Y.toRaw (hi := I) ke24 (by omega) rfl rfl rfl) rfl rfl rfl ?_
        refine TO.y (Y.move rfl) rfl rfl rfl ?_
        refine TO.y (Y.move rfl) rfl rfl rfl ?_
        refine TO.y (Y.add rfl rfl) rfl rfl rfl ?_
        refine TO.y (Y.move rfl) rfl rfl rfl ?_
        refine TO.y (Y.sub rfl rfl) rfl rfl rfl ?_
        have e2 : IntKind.i64.wrap (IntKind.i64.wrap ((s.length : Int) + (v.length : Int)) - (I : Int)) = ((s.length + v.length - I : Nat) : Int) := by rw [e1, IntKind.wrap_i64]; omega
        refine TO.ef (Ef.rawGrow (N := s.length + v.length) (q := s.length + v.length - I) 0 ke24 ki3 kz72 rfl rfl rfl rfl rfl e2 (by omega) (by omega) hl1 (by omega) hroom (by omega) h2) rfl rfl rfl (fun X => ?_)
        refine TO.y (Y.assign rfl) rfl rfl rfl ?_
        refine TO.nil ?_
        refine TE.next ?_
        obtain ⟨⟨⟨g, gc⟩, ge, zs⟩, hz1, hz2, hz3⟩ := X
        dsimp only at hz1 hz2 hz3 ⊢
        obtain ⟨q1, q2, q3, q4, q5, q6⟩ := insA (G := gc) (zs := zs) h1n hc1 hc3 hl1 hl2 hz1 hz2
        have m1 : 0 + I * 4 + v.length * 4 ≤ gc * 4 := by omega
        have m2 : 0 + (I + v.length) * 4 + (s.length - I) * 4 ≤ gc * 4 := by omega
        have m3 : 0 + v.length * 4 ≤ cap2 * 4 := by omega
        have m4 : 0 + I * 4 + (s.length - I) * 4 ≤ cap * 4 := by omega
        refine TW.seq ?_
        refine TW.region ?_
        refine TO.y (Y.move rfl) rfl rfl rfl ?_
        refine TO.y (Y.move rfl) rfl rfl rfl ?_
        refine TO.y (Y.fromRaw (lo := I) ke24 (by omega) (by omega) rfl rfl rfl) rfl rfl rfl ?_
        refine TO.y (Y.move rfl) rfl rfl rfl ?_
        refine TO.ef (Ef.rawCopy (sl := v.length) 0 2 ke24 rfl rfl rfl rfl (by omega) (by rw [q3]; exact m1) (Nat.le_trans m3 hl2) (by rw [List.drop_zero]; exact ho2) rfl) rfl rfl rfl (fun _ => ?_)
        refine TO.nil ?_
        refine TE.next ?_
        refine TW.seq ?_
        refine TW.draw (isH := []) hMix ?_
        refine TA.y 0 [] rfl (Y.move rfl) rfl rfl rfl (by kernel_rfl) rfl ?_
        refine TA.y 1 [] rfl (Y.move rfl) rfl rfl rfl (by kernel_rfl) rfl ?_
        refine TA.y 2 [] rfl (Y.move rfl) rfl rfl rfl (by kernel_rfl) rfl ?_
        refine TA.y 3 [] rfl (Y.add rfl rfl) rfl rfl rfl (by kernel_rfl) rfl ?_
        refine TA.y 4 [] rfl (Y.fromRaw (lo := I + v.length) ke24 (by omega) (by omega) (wr2 I v.length (by omega)) rfl rfl) rfl rfl rfl (by kernel_rfl) rfl ?_
        refine TA.y 5 [] rfl (Y.move rfl) rfl rfl rfl (by kernel_rfl) rfl ?_
        refine TA.y 6 [] rfl (Y.move rfl) rfl rfl rfl (by kernel_rfl) rfl ?_
        refine TA.y 7 [] rfl (Y.fromRaw (lo := I) ke24 (by omega) (by omega) rfl rfl rfl) rfl rfl rfl (by kernel_rfl) rfl ?_
        refine TA.one 8 (by kernel_rfl) ?_
        refine TX.ef [] rfl (Ef.rawCopy (sl := s.length - I) 0 1 ke24 rfl rfl rfl rfl (by omega) (by rw [q4]; exact m2) (Nat.le_trans m4 hl1) (ins_one ho1 h1n) rfl) rfl rfl rfl (fun _ => rfl) (fun _ => ?_)
        refine TA.nil (by kernel_rfl) ?_
        refine TE.next ?_
        refine TW.seq ?_
        refine TW.region ?_
        refine TO.y (Y.move rfl) rfl rfl rfl ?_
        refine TO.y (Y.assign rfl) rfl rfl rfl ?_
        refine TO.nil ?_
        refine TE.next ?_
        refine TW.ret ?_
        refine TE.then_ret ?_
        refine TE.ghost (Gh.fold (α := Ent) (l := s) (k := v) (i := I) [0, 2, 2, 0, 0] rfl h1n hz2 hz3 (Nat.le_of_eq q5.symm) q6) (fun _ => ?_)
        exact TE.leaf fun _ _ hf_ hs_ => ret_any (rs := [.tmp 6]) (vs := [.slice (some ⟨g, 0, none⟩) (s.length + v.length) gc]) (.inl rfl) rfl ⟨rfl, trivial⟩ hf_ hs_ ⟨(.slice (some ⟨g, 0, none⟩) (s.length + v.length) gc), rfl, hs_.pulls [0] rfl⟩
      · refine TW.cond_f rfl (by rw [e1]; exact decide_eq_false (by omega)) ?_
        refine TW.skip ?_
        refine TE.next ?_
        refine TW.seq ?_
        refine TW.region ?_
        refine TO.y (Y.move rfl) rfl rfl rfl ?_
        refine TO.y (Y.move rfl) rfl rfl rfl ?_
        refine TO.y (Y.move rfl) rfl rfl rfl ?_
        refine TO.y (Y.add rfl rfl) rfl rfl rfl ?_
        refine TO.y (Y.toRaw (hi := s.length + v.length) ke24 (by omega) e1 rfl rfl) rfl rfl rfl ?_
        refine TO.y (Y.assign rfl) rfl rfl rfl ?_
        refine TO.nil ?_
        refine TE.next ?_
        obtain ⟨q1, q2, q3, q4, q5⟩ := insB h1n (by omega) hc3 hl1 hl2
        have m1 : 0 + I * 4 + v.length * 4 ≤ cap * 4 := by omega
        have m2 : 0 + (I + v.length) * 4 + (s.length - I) * 4 ≤ cap * 4 := by omega
        have m3 : 0 + v.length * 4 ≤ cap2 * 4 := by omega
        have m4 : 0 + I * 4 + (s.length - I) * 4 ≤ cap * 4 := by omega
        have hne : cur ≠ [] := by intro e; rw [e] at hl1; simp at hl1; omega
        refine TW.seq ?_
        refine TW.seq ?_
        refine TW.region ?_
        refine TO.y (Y.move rfl) rfl rfl rfl ?_
        refine TO.y (Y.move rfl) rfl rfl rfl ?_
        refine TO.y (Y.move rfl) rfl rfl rfl ?_
        refine TO.y (Y.move rfl) rfl rfl rfl ?_
        refine TO.y (Y.add rfl rfl) rfl rfl rfl ?_
        refine TO.y (Y.fromRaw (lo := I + v.length) ke24 (by omega) (by omega) (wr2 I v.length (by omega)) rfl rfl) rfl rfl rfl ?_
        refine TO.ef (Ef.overlaps (tr := 4) 1 0 Tryz.func102 (by kernel_rfl) (by kernel_rfl) (by kernel_rfl) (by kernel_rfl) ke24 rfl rfl (Ne.symm hbb) rfl rfl hne) rfl rfl rfl (fun _ => ?_)
        refine TO.y (Y.not rfl) rfl rfl rfl ?_
        refine TO.nil ?_
        refine TE.next ?_
        refine TW.cond_true rfl ?_
        refine TW.seq ?_
        refine TW.draw (isH := []) hMix ?_
        refine TA.y 0 [] rfl (Y.move rfl) rfl rfl rfl (by kernel_rfl) rfl ?_
        refine TA.y 1 [] rfl (Y.move rfl) rfl rfl rfl (by kernel_rfl) rfl ?_
        refine TA.y 2 [] rfl (Y.move rfl) rfl rfl rfl (by kernel_rfl) rfl ?_
        refine TA.y 3 [] rfl (Y.add rfl rfl) rfl rfl rfl (by kernel_rfl) rfl ?_
        refine TA.y 4 [] rfl (Y.fromRaw (lo := I + v.length) ke24 (by omega) (by omega) (wr2 I v.length (by omega)) rfl rfl) rfl rfl rfl (by kernel_rfl) rfl ?_
        refine TA.y 5 [] rfl (Y.move rfl) rfl rfl rfl (by kernel_rfl) rfl ?_
        refine TA.y 6 [] rfl (Y.move rfl) rfl rfl rfl (by kernel_rfl) rfl ?_
        refine TA.y 7 [] rfl (Y.fromRaw (lo := I) ke24 (by omega) (by omega) rfl rfl rfl) rfl rfl rfl (by kernel_rfl) rfl ?_
        refine TA.one 8 (by kernel_rfl) ?_
        refine TX.ef [] rfl (Ef.rawCopy (sl := s.length - I) 0 0 ke24 rfl rfl rfl rfl (by omega) (Nat.le_trans m2 hl1) (Nat.le_trans m4 hl1) (ins_one ho1 h1n) rfl) rfl rfl rfl (fun _ => rfl) (fun _ => ?_)
        refine TA.nil (by kernel_rfl) ?_
        refine TE.next ?_
        refine TW.seq ?_
        refine TW.region ?_
        refine TO.y (Y.move rfl) rfl rfl rfl ?_
        refine TO.y (Y.move rfl) rfl rfl rfl ?_
        refine TO.y (Y.fromRaw (lo := I) ke24 (by omega) (by omega) rfl rfl rfl) rfl rfl rfl ?_
        refine TO.y (Y.move rfl) rfl rfl rfl ?_
        refine TO.ef (Ef.rawCopy (sl := v.length) 0 1 ke24 rfl rfl rfl rfl (by omega) (by rw [q3]; exact Nat.le_trans m1 hl1) (Nat.le_trans m3 hl2) (by rw [List.drop_zero]; exact ho2) rfl) rfl rfl rfl (fun _ => ?_)
        refine TO.nil ?_
        refine TE.next ?_
        refine TW.seq ?_
        refine TW.region ?_
        refine TO.y (Y.move rfl) rfl rfl rfl ?_
        refine TO.y (Y.assign rfl) rfl rfl rfl ?_
        refine TO.nil ?_
        refine TE.next ?_
        refine TW.ret ?_
        refine TE.then_ret ?_
        refine TE.ghost (Gh.fold (α := Ent) (l := s) (k := v) (i := I) [0, 1, 1, 0] rfl h1n (by omega) hc2 (by rw [q4]; exact hl1) q5) (fun _ => ?_)
        exact TE.leaf fun _ _ hf_ hs_ => ret_any (rs := [.tmp 6]) (vs := [.slice (some ⟨b, 0, none⟩) (s.length + v.length) cap]) (.inl rfl) rfl ⟨rfl, trivial⟩ hf_ hs_ ⟨(.slice (some ⟨b, 0, none⟩) (s.length + v.length) cap), rfl, hs_.pulls [0] rfl⟩
theorem slices_Insert_94167_c {s : List Ent} {i : Int} {v : List Ent} {V_s0 V_v0 : Value} : Cn Tryz.prog 91 [V_s0, iv i, V_v0] [.own V_s0 (lc s), .own V_v0 (lc v)] [] (slices_Insert_94167 s i v) (fun _ (X : Value) => X) fun r X => [.own X (lc r)] := ⟨by kernel_rfl, fun _ h => slices_Insert_94167_con s i v _ _ _ h⟩
noncomputable def slices_BinarySearchFunc_39542_at_impl_compareEnts (x : List Ent) (target : Ent) : Option (Int × Bool) :=
  bindC (loopO (fun (S2 : Int × Int) => if (decide (S2.1 < S2.2)) = true then ((idx x (IntKind.i64.wrap (ishr .u64 (IntKind.u64.wrap (IntKind.i64.wrap (S2.1 + S2.2))) (1 : Int)))).bind fun E7 =>
  (impl_compareEnts E7 target).bind fun R9 =>
  bindC (if (decide (R9 < (0 : Int))) = true then (some (.go (IntKind.i64.wrap (IntKind.i64.wrap (ishr .u64 (IntKind.u64.wrap (IntKind.i64.wrap (S2.1 + S2.2))) (1 : Int)) + (1 : Int)), S2.2)))
  else (some (.go (S2.1, IntKind.i64.wrap (ishr .u64 (IntKind.u64.wrap (IntKind.i64.wrap (S2.1 + S2.2))) (1 : Int))))))
  (fun (T12 : Int × Int) => some (.go (T12.1, T12.2))))
  else (some (.done (.go S2.1))))
  ((0 : Int), ((x.length : Nat) : Int)))
  (fun (T4 : Int) => (if (decide (T4 < ((x.length : Nat) : Int))) = true then ((idx x T4).bind fun E18 =>
  (impl_compareEnts E18 target).bind fun R20 =>
  some (decide (R20 = (0 : Int))))
  else (some false)).bind (fun (T15 : Bool) =>
  some (T4, T15)))
theorem slices_BinarySearchFunc_39542_at_impl_compareEnts_c {x : List Ent} {target : Ent} {U0 : Value} : Cn Tryz.prog 90 [U0, .agg #[strV target.Key, iv target.Seq, .bool target.Del, strV target.Val], .func (.func 79) #[] #[]] [] [(U0, lc x)] (slices_BinarySearchFunc_39542_at_impl_compareEnts x target) (fun r (_ : Unit) => .tuple #[iv r.1, .bool r.2]) fun _ _ => [] := by
  unfold slices_BinarySearchFunc_39542_at_impl_compareEnts
  refine Ci Tryz.func90 r r ?_
  rintro w S ⟨Z0,-⟩
  refine Sr<|Fo (Bx r (Cp r)) fun B1=>Qs 2 r<|Nx<|Sr<|Qs 1 r<|Yo (Ln ke24 (Bc Z0) r)<|Qs 1 r<|Nx<|Sr<|Qs 3 r<|Nx<|Sq<|Ju [0,2,4,8] (fun T=>[(9, iv T)]) r1 (?_) fun T4=>?_
  ·refine Wb<|Lu [0,2,4,8] (fun T=>[(9, iv T.1), (10, iv T.2)]) r1 fun S2=>Sq<|Sr<|Qs 3 r<|Nx<|Wc r (fun H6=>?_) fun H6=>?_
   ·exact Sn<|Wb<|Sr<|Qs 3 r<|Yo (Y.conv ki3 ki120 r)<|Yo (Y.shr (by decide) r r)<|Yo (Y.conv ki120 ki3 r)<|Qs 1 r<|Nx<|Sq<|Dr [0] r hMix<|Aq [0,1,2] [0] r<|Ai fun E7 H8=>Ay 3 [0] r (Ix ke24 (Bc Z0) H8 r)<|Ay 4 [0] r (Le kk72 (Bc Z0) H8 r)<|Ay 5 [0] r (Lb 0 kk72 r)<|Ai fun R9 H10=>A1 6<|Xe [0] r (Cw [] impl_compareEnts_c H10 r r r1) fun _=>Aq [7] [0] r<|Az<|Ne<|Ju [0,2,4,8] (fun T=>[(9, iv T.1), (10, iv T.2)]) r1 (Wc r (fun H14=>Rg<|Qs 3 r<|Nl<|Jg () [0]) fun H14=>Rg<|Qs 2 r<|Nl<|Jg () [0]) fun T12=>Bn<|Lg () [0]
   exact Wx<|Tx<|Ex<|Be<|Jg () [0]
  refine Ne<|Sq<|Jb Unit [] [] (fun T _=>[(6, iv T4), (7, .bool T)]) (fun _ _=>[]) r2 r2 (?_) fun T15 X16=>?_
  ·refine Dr [0] r hMix<|Aq [0,1,2,3,4] [0] r<|Ia (fun H17=>?_) fun H17=>?_
   ·exact Ag 5 [0] (gdA (beq_tt H17)) r (Y.move r)<|Ag 6 [0] (gdA (beq_tt H17)) r (Y.move r)<|Ag 7 [0] (gdA (beq_tt H17)) r (Y.move r)<|Ai fun E18 H19=>Ag 8 [0] (gdA (beq_tt H17)) r (Ix ke24 (Bc Z0) H19 r)<|Ag 9 [0] (gdA (beq_tt H17)) r (Le kk72 (Bc Z0) H19 r)<|Ag 10 [0] (gdA (beq_tt H17)) r (Lb 0 kk72 r)<|Ai fun R20 H21=>A1 11<|Xeg [0] (gdA (beq_tt H17)) r (Cw [] impl_compareEnts_c H21 r r r1) fun _=>Ag 12 [0] (gdA (beq_tt H17)) r (Y.eql r r)<|Ay 13 [0] r (Pt H17 r)<|Aq [14,15] [0] r<|Az<|Bg () []
   exact Ax [5,6,7,8,9,10,11,12] [0] (beq_ft H17) r r<|Ay 13 [0] r (Pf H17 r)<|Aq [14,15] [0] r<|Az<|Bg () []
  exact Ne<|Wr<|Re () []
noncomputable def impl_put (l : List Ent) (e : Ent) : Option (List Ent × Bool) :=
  (slices_BinarySearchFunc_39542_at_impl_compareEnts l e).bind fun R2 =>
  if R2.2 = true then (some (l, false))
  else ((slices_Insert_94167 l R2.1 ([e])).bind fun R7 =>
  some (R7, true))
theorem impl_put_c {l : List Ent} {e : Ent} {U0 : Value} : Cn Tryz.prog 64 [U0, .agg #[strV e.Key, iv e.Seq, .bool e.Del, strV e.Val]] [.own U0 (lc l)] [] (impl_put l e) (fun r (X : Value) => .tuple #[X, .bool r.2]) fun r X => [.own X (lc r.1)] := by
  unfold impl_put
  refine Ci Tryz.func64 r r ?_
  rintro w S -
  exact Sr<|Fo (Bx r (Cp r)) fun B1=>Qs 2 r<|Nx<|Sr<|Qs 1 r<|Yo (Lb 0 kk72 r)<|Bi fun R2 H3=>Fo (Cl [] slices_BinarySearchFunc_39542_at_impl_compareEnts_c H3 r r1 ⟨(Oc 1 r),⟨⟩⟩) fun _=>Qs 5 r<|Nx<|Sq<|Sr<|Qs 1 r<|Nx<|Wc r (fun H5=>Sr<|Qs 3 r<|Nx<|Wr<|Tr<|Re U0 [1]) fun H5=>Sn<|Sr<|Qs 2 r<|Yo (Lb 0 kk72 r)<|Fo (Bs [e] ke24 kz72) fun B6=>Bi fun R7 H8=>Fo (Cl [2, 0] slices_Insert_94167_c H8 r r1) fun Y9=>Qs 2 r<|Nx<|Wr<|Re Y9 [0]
noncomputable def impl_Eng_engPut_1 (x : Op) (c0_ : Op) : Option Bool :=
  some (decide (x.Key = c0_.Key))
theorem impl_Eng_engPut_1_c {x : Op} {c0_ : Op} {U0 : Nat} : Cn Tryz.prog 63 [.agg #[strV x.Key, .bool x.Del, strV x.Val], pt U0] [.box U0 61 [strV c0_.Key, .bool c0_.Del, strV c0_.Val]] [] (impl_Eng_engPut_1 x c0_) (fun r (_ : Unit) => .bool r) fun _ _ => [.box U0 61 [strV c0_.Key, .bool c0_.Del, strV c0_.Val]] := by
  unfold impl_Eng_engPut_1
  refine Ci Tryz.func63 r r ?_
  rintro w S -
  exact Sr<|Fo (Bx r (Cp r)) fun B1=>Qs 1 r<|Nx<|Sr<|Yo (Fb kf61_0 r)<|Yo (Lb 0 kk9 r)<|Yo (Fb kf61_0 r)<|Yo (Lb 1 kk9 r)<|Qs 2 r<|Nx<|Wr<|Re () [1]
noncomputable def slices_IndexFunc_6733_at_impl_Eng_engPut_1 (s : List Op) (f_c0 : Op) : Option Int :=
  bindC (loopO (fun (S1 : Int) => if (decide (S1 < ((s.length : Nat) : Int))) = true then ((idx s S1).bind fun E6 =>
  (impl_Eng_engPut_1 E6 f_c0).bind fun R8 =>
  if R8 = true then (some (.done (.done S1)))
  else (some (.go (IntKind.i64.wrap (S1 + (1 : Int))))))
  else (some (.done (.go ()))))
  (0 : Int))
  (fun (T3 : Unit) => some (-1 : Int))
theorem slices_IndexFunc_6733_at_impl_Eng_engPut_1_c {s : List Op} {f_c0 : Op} {U0 : Value} {U1 : Nat} : Cn Tryz.prog 89 [U0, .func (.func 63) #[] #[pt U1]] [.box U1 61 [strV f_c0.Key, .bool f_c0.Del, strV f_c0.Val]] [(U0, lc s)] (slices_IndexFunc_6733_at_impl_Eng_engPut_1 s f_c0) (fun r (_ : Unit) => iv r) fun _ _ => [.box U1 61 [strV f_c0.Key, .bool f_c0.Del, strV f_c0.Val]] := by
  unfold slices_IndexFunc_6733_at_impl_Eng_engPut_1
  refine Ci Tryz.func89 r r ?_
  rintro w S ⟨Z0,-⟩
  refine Sr<|Qs 1 r<|Nx<|Sq<|Sr<|Qs 1 r<|Yo (Ln ke36 (Bc Z0) r)<|Qs 1 r<|Nx<|Ju [] (fun _=>[]) r1 (?_) fun T3=>?_
  ·refine Wb<|Lu [0,1,7] (fun T=>[(8, iv T)]) r1 fun S1=>Sr<|Qs 1 r<|Nx<|Sq<|Wc r (fun H5=>?_) fun H5=>?_
   ·exact Sn<|Sq<|Wb<|Sr<|Qs 2 r<|Nx<|Sr<|Qs 3 r<|Bi fun E6 H7=>Yo (Ix ke36 (Bc Z0) H7 r)<|Yo (Le kk61 (Bc Z0) H7 r)<|Bi fun R8 H9=>Fo (Cw [0] impl_Eng_engPut_1_c H9 r r r1) fun _=>Nx<|Wc r (fun H11=>Sr<|Qs 2 r<|Nx<|Wr<|Br<|Tr<|Er<|Br<|Jd<|Tr<|Re () [0]) fun H11=>Sk<|Bn<|Ne<|Rg<|Qs 2 r<|Nl<|Lg () [0]
   exact Wx<|Tx<|Ex<|Be<|Jg () [0]
  exact Ne<|Sr<|Qs 1 r<|Nx<|Wr<|Re () [0]
noncomputable def slices_ContainsFunc_6733_at_impl_Eng_engPut_1 (s : List Op) (f_c0 : Op) : Option Bool :=
  (slices_IndexFunc_6733_at_impl_Eng_engPut_1 s f_c0).bind fun R1 =>
  some (decide (R1 ≥ (0 : Int)))
theorem slices_ContainsFunc_6733_at_impl_Eng_engPut_1_c {s : List Op} {f_c0 : Op} {U0 : Value} {U1 : Nat} : Cn Tryz.prog 62 [U0, .func (.func 63) #[] #[pt U1]] [.box U1 61 [strV f_c0.Key, .bool f_c0.Del, strV f_c0.Val]] [(U0, lc s)] (slices_ContainsFunc_6733_at_impl_Eng_engPut_1 s f_c0) (fun r (_ : Unit) => .bool r) fun _ _ => [.box U1 61 [strV f_c0.Key, .bool f_c0.Del, strV f_c0.Val]] := by
  unfold slices_ContainsFunc_6733_at_impl_Eng_engPut_1
  refine Ci Tryz.func62 r r ?_
  rintro w S ⟨Z0,-⟩
  exact Sr<|Qs 1 r<|Nx<|Sr<|Qs 2 r<|Bi fun R1 H2=>Fo (Cl [0] slices_IndexFunc_6733_at_impl_Eng_engPut_1_c H2 r r1 ⟨(Bc Z0),⟨⟩⟩) fun _=>Qs 2 r<|Nx<|Wr<|Re () [0]
noncomputable def impl_Eng_engPut (e : Eng) (l : List Op) : Option (Bool × Eng) :=
  bindC (loopO (fun (S1 : Bool × Int × List Ent) => if (decide (S1.2.1 < ((l.length : Nat) : Int))) = true then ((idx l S1.2.1).bind fun E6 =>
  (piece l (IntKind.i64.wrap (S1.2.1 + (1 : Int))) ((l.length : Nat) : Int)).bind fun E9 =>
  (slices_ContainsFunc_6733_at_impl_Eng_engPut_1 E9 E6).bind fun R12 =>
  (if (!R12) = true then (some S1.1)
  else (some false)).bind (fun (T15 : Bool) =>
  bindC (if T15 = true then ((impl_put S1.2.2 ({ Key := E6.Key, Seq := IntKind.i64.wrap (e.Seq + (1 : Int)), Del := E6.Del, Val := E6.Val : Ent })).bind fun R21 =>
  some (.go (R21.2, R21.1)))
  else (some (.go (S1.1, S1.2.2))))
  (fun (T18 : Bool × List Ent) => some (.go (T18.1, IntKind.i64.wrap (S1.2.1 + (1 : Int)), T18.2)))))
  else (some (.done (.go (S1.1, S1.2.2)))))
  (true, (0 : Int), e.Mem))
  (fun (T3 : Bool × List Ent) => (if T3.1 = true then (if (decide (IntKind.i64.wrap (e.Seq + (1 : Int)) ≤ (1000000 : Int))) = true then (if (decide (((T3.2.length : Nat) : Int) ≤ (60 : Int))) = true then ((impl_totalOf e.Tables).bind fun R31 =>
  some (decide (IntKind.i64.wrap (R31 + ((T3.2.length : Nat) : Int)) ≤ (400 : Int))))
  else (some false))
  else (some false))
  else (some false)).bind (fun (T26 : Bool) =>
  some (T26, { Mem := T3.2, Tables := e.Tables, Seq := IntKind.i64.wrap (e.Seq + (1 : Int)), Snaps := e.Snaps : Eng })))
theorem impl_Eng_engPut_c {e : Eng} {l : List Op} {U0 U1 U2 U4 : Value} {U3 : Nat} : Cn Tryz.prog 28 [pt U3, U4] [.box U3 28 [U0, U1, iv e.Seq, U2], .own U0 (lc e.Mem)] [(U1, lc e.Tables), (U4, lc l)] (impl_Eng_engPut e l) (fun r (_ : Value) => .bool r.1) fun r X => [.box U3 28 [X, U1, iv r.2.Seq, U2], .own X (lc r.2.Mem)] := by
  unfold impl_Eng_engPut
  refine Ci Tryz.func28 r r ?_
  rintro w S ⟨Z0,Z1,-⟩
  refine Sr<|Qs 1 r<|Nx<|Sr<|Qs 2 r<|Yo (Fb kf28_2 r)<|Yo (Lb 0 kk3 r)<|Qs 2 r<|Yo (Fb kf28_2 r)<|Fu (Sb 0 kk3 r (Cp r) r)<|Nx<|Sr<|Qs 1 r<|Nx<|Sq<|Sr<|Qs 1 r<|Yo (Ln ke36 (Bc Z1) r)<|Qs 1 r<|Nx<|Jn Value [0] [] (fun T _=>[(5, .bool T.1)]) (fun T X=>[.box U3 28 [X, U1, iv (IntKind.i64.wrap (e.Seq + (1 : Int))), U2], .own X (lc T.2)]) r2 r2 (?_) fun T3 X4=>?_
  ·refine Wb<|Lp Value [0,1,16,17] [] (fun T _=>[(5, .bool T.1), (18, iv T.2.1)]) (fun T X=>[.box U3 28 [X, U1, iv (IntKind.i64.wrap (e.Seq + (1 : Int))), U2], .own X (lc T.2.2)]) U0 [0,0] r2 r2 fun S1 X2=>Sr<|Qs 1 r<|Nx<|Sq<|Wc r (fun H5=>?_) fun H5=>?_
   ·refine Sn<|Sq<|Wb<|Sr<|Qs 1 r<|Bi fun E6 H7=>Yo (Ix ke36 (Bc Z1) H7 r)<|Yo (Le kk61 (Bc Z1) H7 r)<|Fo (Al kz61 r) fun B8=>Qs 1 r<|Fu (Sb 0 kk61 r (Cp r) r)<|Nx<|Sr<|Qs 3 r<|Bi fun E9 H10=>?_
    have Q11:=Base.sub (sz := 3) H10 r Z1
    refine Yo (Y.subs H10 ke36 (Bc Z1) r ⟨_, r⟩ r)<|Yo (Y.makeFunc r)<|Bi fun R12 H13=>Fo (Cl [0] slices_ContainsFunc_6733_at_impl_Eng_engPut_1_c H13 r r1 ⟨(Bc Q11),⟨⟩⟩) fun _=>Qs 1 r<|Nx<|Sq<|Jv [0,1,5,7,16,17,18] (fun T=>[(33, .bool T)]) r1 (Rg<|Qs 3 r<|It (fun H17=>Qg 1 (beq_tt H17) r r<|Yo (Pt H17 r)<|Nl<|Bg () [0,0,0]) fun H17=>Of 1 (beq_ft H17) r r<|Yo (Pf H17 r)<|Nl<|Bg () [0,0,0]) fun T15=>Ne<|Jn Value [0,1,16,17,18] [] (fun T _=>[(5, .bool T.1)]) (fun T X=>[.box U3 28 [X, U1, iv (IntKind.i64.wrap (e.Seq + (1 : Int))), U2], .own X (lc T.2)]) r2 r2 (?_) fun T18 X19=>?_
    ·refine Wc r (fun H20=>?_) fun H20=>?_
     ·refine Wi fun R21 H22=>Jw Value [0,1,16,17,18] [] (fun _=>[(5, .bool R21.2)]) (fun X=>[.box U3 28 [X, U1, iv (IntKind.i64.wrap (e.Seq + (1 : Int))), U2], .own X (lc R21.1)]) r1 r1 (?_) fun X25=>?_
      ·refine Dr [0] r hMix<|Aq [0,1,2] [0] r<|Ay 3 [0] r (Fb kf28_0 r)<|Ay 5 [0] r (Fb kf61_0 r)<|Ay 6 [0] r (Lb 0 kk9 r)<|Aq [7,8] [0] r<|Ay 9 [0] r (Fb kf28_2 r)<|Ay 11 [0] r (Fb kf61_1 r)<|Ay 12 [0] r (Lb 0 kk4 r)<|Ay 13 [0] r (Fb kf61_2 r)<|Ay 14 [0] r (Lb 0 kk9 r)<|A2 4 10 (?_)<|?_
       ·exact Xy [0] r (Lb 1 kk24 r)<|A1 10<|Xy [0] r (Lb 1 kk3 r)<|Ay 15 [0] r (Bd kp72 kz72 (Pc r (Cp r)<|Pc r (Cp r)<|Pc r (Cp r)<|Pc r (Cp r)<|Pz) r)<|A1 16<|Xe [1] r (Cl [2] impl_put_c H22 r r1) fun Y26=>Aq [17,18,19,20] [1] r<|Ay 21 [1] r (Fb kf28_0 r)<|A1 22<|Xu [1] r (Sb 2 kk24 r (Co 0) r)<|Aq [23] [1] r<|Az<|Bg Y26 [2,0]
       exact Xy [0] r (Lb 1 kk3 r)<|Ay 15 [0] r (Bd kp72 kz72 (Pc r (Cp r)<|Pc r (Cp r)<|Pc r (Cp r)<|Pc r (Cp r)<|Pz) r)<|A1 4<|Xy [0] r (Lb 1 kk24 r)<|A1 16<|Xe [1] r (Cl [2] impl_put_c H22 r r1) fun Y26=>Aq [17,18,19,20] [1] r<|Ay 21 [1] r (Fb kf28_0 r)<|A1 22<|Xu [1] r (Sb 2 kk24 r (Co 0) r)<|Aq [23] [1] r<|Az<|Bg Y26 [2,0]
      exact Jg X25 [0,0]
     exact Sk<|Jg X2 [1,1]
    exact Bn<|Ne<|Rg<|Qs 2 r<|Nl<|Lg X19 [0,0]
   exact Wx<|Tx<|Ex<|Be<|Jg X2 [0,0]
  refine Ne<|Sq<|Jv [] (fun T=>[(4, .bool T)]) r1 (?_) fun T26=>?_
  ·refine Dr [0,0] r hMix<|Aq [0,1] [0,0] r<|Ia (fun H28=>?_) fun H28=>?_
   ·refine Ag 2 [0,0] (gdA (beq_tt H28)) r (Y.move r)<|Ag 3 [0,0] (gdA (beq_tt H28)) r (Y.nilCheck r)<|Ag 4 [0,0] (gdA (beq_tt H28)) r (Fb kf28_2 r)<|Ag 5 [0,0] (gdA (beq_tt H28)) r (Lb 0 kk3 r)<|Ag 6 [0,0] (gdA (beq_tt H28)) r (Y.leq r r)<|Ay 7 [0,0] r (Pt H28 r)<|Aq [8] [0,0] r<|Ia (fun H29=>?_) fun H29=>?_
    ·refine Ag 9 [0,0] (gdA (beq_tt H29)) r (Y.move r)<|Ag 10 [0,0] (gdA (beq_tt H29)) r (Y.nilCheck r)<|Ag 11 [0,0] (gdA (beq_tt H29)) r (Fb kf28_0 r)<|Ag 12 [0,0] (gdA (beq_tt H29)) r (Lb 0 kk24 r)<|Ag 13 [0,0] (gdA (beq_tt H29)) r (Ln ke24 (Oc 1 r) r)<|Ag 14 [0,0] (gdA (beq_tt H29)) r (Y.leq r r)<|Ay 15 [0,0] r (Pt H29 r)<|Aq [16] [0,0] r<|Ia (fun H30=>?_) fun H30=>?_
     ·refine Ag 17 [0,0] (gdA (beq_tt H30)) r (Y.move r)<|Ag 18 [0,0] (gdA (beq_tt H30)) r (Y.nilCheck r)<|Ag 19 [0,0] (gdA (beq_tt H30)) r (Fb kf28_1 r)<|Ag 20 [0,0] (gdA (beq_tt H30)) r (Lb 0 kk25 r)<|Ag 22 [0,0] (gdA (beq_tt H30)) r (Y.move r)<|Ag 23 [0,0] (gdA (beq_tt H30)) r (Y.nilCheck r)<|Ag 24 [0,0] (gdA (beq_tt H30)) r (Fb kf28_0 r)<|Ag 25 [0,0] (gdA (beq_tt H30)) r (Lb 0 kk24 r)<|Ag 26 [0,0] (gdA (beq_tt H30)) r (Ln ke24 (Oc 1 r) r)<|Ai fun R31 H32=>A1 21<|Xeg [0,0] (gdA (beq_tt H30)) r (Cl [] impl_totalOf_c H32 r r1 ⟨(Bc Z0),⟨⟩⟩) fun _=>?_
      exact Ag 27 [0,0] (gdA (beq_tt H30)) r (Y.add r r)<|Ag 28 [0,0] (gdA (beq_tt H30)) r (Y.leq r r)<|Ay 29 [0,0] r (Pt H30 r)<|Aq [30] [0,0] r<|Az<|Bg () [0,0]
     exact Ax [17,18,19,20,21,22,23,24,25,26,27,28] [0,0] (beq_ft H30) r r<|Ay 29 [0,0] r (Pf H30 r)<|Aq [30] [0,0] r<|Az<|Bg () [0,0]
    exact Ax [9,10,11,12,13,14] [0,0] (beq_ft H29) r r<|Ay 15 [0,0] r (Pf H29 r)<|Aq [16] [0,0] r<|Ax [17,18,19,20,21,22,23,24,25,26,27,28] [0,0] r r r<|Ay 29 [0,0] r (Pf r r)<|Aq [30] [0,0] r<|Az<|Bg () [0,0]
   exact Ax [2,3,4,5,6] [0,0] (beq_ft H28) r r<|Ay 7 [0,0] r (Pf H28 r)<|Aq [8] [0,0] r<|Ax [9,10,11,12,13,14] [0,0] r r r<|Ay 15 [0,0] r (Pf r r)<|Aq [16] [0,0] r<|Ax [17,18,19,20,21,22,23,24,25,26,27,28] [0,0] r r r<|Ay 29 [0,0] r (Pf r r)<|Aq [30] [0,0] r<|Az<|Bg () [0,0]
  exact Ne<|Wr<|Re X4 [0,0]
noncomputable def impl_EngPut (e : Eng) (l : List Op) : Option (Eng × Bool) :=
  (impl_EngOk e).bind fun R3 =>
  if (!R3) = true then (some ({ Mem := ([] : List Ent), Tables := ([] : List (List Ent)), Seq := (0 : Int), Snaps := ([] : List Int) : Eng }, false))
  else ((impl_copyEng e).bind fun R10 =>
  ((impl_BatchOk l).bind fun R16 =>
  if (!R16) = true then (some (R10.Seq, true, R10.Mem))
  else ((impl_Eng_engPut R10 l).bind fun R20 =>
  some (R20.2.Seq, !R20.1, R20.2.Mem))).bind (fun (T14 : Int × Bool × List Ent) =>
  if T14.2.1 = true then (some (R10, false))
  else (some ({ Mem := T14.2.2, Tables := R10.Tables, Seq := T14.1, Snaps := R10.Snaps : Eng }, true))))
theorem impl_EngPut_c {e : Eng} {l : List Op} {U0 U1 U2 U3 : Value} : Cn Tryz.prog 12 [.agg #[U0, U1, iv e.Seq, U2], U3] [] [(U0, lc e.Mem), (U1, lc e.Tables), (U2, lc e.Snaps), (U3, lc l)] (impl_EngPut e l) (fun r (X : Value × Value × Value) => .tuple #[.agg #[X.1, X.2.1, iv r.1.Seq, X.2.2], .bool r.2]) fun r X => [.own X.1 (lc r.1.Mem), .own X.2.1 (lc r.1.Tables), .own X.2.2 (lc r.1.Snaps)] := by
  unfold impl_EngPut
  refine Ci Tryz.func12 r r ?_
  rintro w S ⟨Z0,Z1,Z2,Z3,-⟩
  refine Sr<|Fo (Bx r (Ca ⟨Ob Z0,Ob Z1,Op',Ob Z2,⟨⟩⟩)) fun B1=>Fo (Al kz28 r) fun B2=>Qs 1 r<|Nx<|Sq<|Sr<|Yo (Lb 1 kk28 r)<|Bi fun R3 H4=>Fo (Cl [] impl_EngOk_c H4 r r1 ⟨(Bc Z0),(Bc Z1),(Bc Z2),⟨⟩⟩) fun _=>Qs 1 r<|Nx<|Wc r (fun H6=>Sr<|Yo (Bd kp28 kz28 (Pz) r)<|Fu (Sb 0 kk28 r (Cp r) r)<|Qs 1 r<|Nx<|Wr<|Tr<|Ni 4<|Ni 1<|Ni 1<|Rf ((.slice none 0 0), (.slice none 0 0), (.slice none 0 0)) [2,1,0] (RV.cell 3 r r kk28 r (Rt r Rz))) fun H6=>Sn<|Sr<|Yo (Lb 1 kk28 r)<|Bi fun R10 H11=>Fo (Cl [] impl_copyEng_c H11 r r1 ⟨(Bc Z0),(Bc Z1),(Bc Z2),⟨⟩⟩) fun Y12=>?_
  refine Fo (Al kz28 r) fun B13=>Fu (Sb 0 kk28 r (Ca ⟨Ow' 1,Ow' 2,Op',Ow' 3,⟨⟩⟩) r)<|Nx<|Sq<|Sq<|Jb Value [2,4,6] [5,4,2,2] (fun T _=>[(20, .bool T.2.1)]) (fun T X=>[.box B13 28 [X, Y12.2.1, iv T.1, Y12.2.2], .own X (lc T.2.2)]) r2 r2 (?_) fun T14 X15=>?_
  ·exact Rg<|Qs 1 r<|Bi fun R16 H17=>Fo (Cl [] impl_BatchOk_c H17 r r1 ⟨(Bc Z3),⟨⟩⟩) fun _=>Qs 2 r<|It (fun H19=>Of 3 (beq_tf H19) r r<|Yo (Pt H19 r)<|Nl<|Bg Y12.1 [5,4,2,2,0,0]) fun H19=>Qg 1 (beq_ff H19) r r<|Bi fun R20 H21=>Fg (gdA (beq_ff H19)) (Cl [0, 0] impl_Eng_engPut_c H21 r r1 ⟨(Oc 0 r),(Bc Z3),⟨⟩⟩) fun Y22=>Qg 1 (beq_ff H19) r r<|Yo (Pf H19 r)<|Nl<|Bg Y22 [5,4,2,2,0,0]
  exact Ne<|Wc r (fun H23=>Sr<|Yo (Lb 0 kk28 r)<|Fo (Cl [] impl_copyEng_c H11 r r1 ⟨(Bc Z0),(Bc Z1),(Bc Z2),⟨⟩⟩) fun Y24=>Fu (Sb 4 kk28 r (Ca ⟨Ow' 0,Ow' 1,Op',Ow' 2,⟨⟩⟩) r)<|Qs 1 r<|Nx<|Wr<|Tr<|Rf (Y24.1, Y24.2.1, Y24.2.2) [0,0,0] (RV.cell 4 r r kk28 r (Rt r Rz))) fun H23=>Sn<|Sr<|Yo (Lb 4 kk28 r)<|Fu (Sb 1 kk28 r (Ca ⟨Ow' 5,Ow' 2,Op',Ow' 3,⟨⟩⟩) r)<|Qs 1 r<|Nx<|Wr<|Rf (X15, Y12.2.1, Y12.2.2) [5,2,2] (RV.cell 1 r r kk28 r (Rt r Rz))
noncomputable def spec_MapOk (m : List KV) : Option Bool :=
  bindC (loopO (fun (S1 : Int) => if (decide (S1 < ((m.length : Nat) : Int))) = true then (((idx m S1).bind fun E8 =>
  (spec_l7Op ({ Key := E8.Key, Del := false, Val := E8.Val : Op })).bind fun R10 =>
  if (!R10) = true then (some true)
  else (if (decide (S1 > (0 : Int))) = true then ((idx m (IntKind.i64.wrap (S1 - (1 : Int)))).bind fun E15 =>
  some (!(sLt E15.Key E8.Key)))
  else (some false))).bind (fun (T6 : Bool) =>
  if T6 = true then (some (.done (.done false)))
  else (some (.go (IntKind.i64.wrap (S1 + (1 : Int)))))))
  else (some (.done (.go ()))))
  (0 : Int))
  (fun (T3 : Unit) => some true)
theorem spec_MapOk_c {m : List KV} {U0 : Value} : Cn Tryz.prog 29 [U0] [] [(U0, lc m)] (spec_MapOk m) (fun r (_ : Unit) => .bool r) fun _ _ => [] := by
  unfold spec_MapOk
  refine Ci Tryz.func29 r r ?_
  rintro w S ⟨Z0,-⟩
  refine Sr<|Qs 1 r<|Nx<|Sq<|Sr<|Qs 1 r<|Nx<|Ju [] (fun _=>[]) r1 (?_) fun T3=>?_
  ·refine Wb<|Lu [0] (fun T=>[(3, iv T)]) r1 fun S1=>Sq<|Sr<|Qs 2 r<|Yo (Ln ke29 (Bc Z0) r)<|Qs 1 r<|Nx<|Wc r (fun H5=>?_) fun H5=>?_
   ·refine Sn<|Sq<|Wb<|Sq<|Jv [0,3] (fun T=>[(40, .bool T)]) r1 (?_) fun T6=>?_
    ·refine Dr [] r hMix<|Aq [0,1] [] r<|Ai fun E8 H9=>Ay 2 [] r (Ix ke29 (Bc Z0) H9 r)<|Ay 3 [] r (Fe kf49_0 (Bc Z0) H9 r)<|Ay 4 [] r (Le kk9 (Bc Z0) H9 r)<|Aq [5,6] [] r<|Ay 7 [] r (Ix ke29 (Bc Z0) H9 r)<|Ay 8 [] r (Fe kf49_1 (Bc Z0) H9 r)<|Ay 9 [] r (Le kk9 (Bc Z0) H9 r)<|Ay 10 [] r (Bd kp61 kz61 (Pc r (Cp r)<|Pc r (Cp r)<|Pz) r)<|Ai fun R10 H11=>A1 11<|Xe [] r (Cl [] spec_l7Op_c H11 r r1) fun _=>Aq [12,13] [] r<|Ia (fun H13=>Ax [14,15,16] [] (beq_tf H13) r r<|Au [17,18,19,20,21,22,23,24,25,26,27,28] [] r r<|Ax [29] [] (beq_tf H13) r r<|Ay 30 [] r (Pt H13 r)<|Az<|Bg () []) fun H13=>?_
     refine Ag 14 [] (gdA (beq_ff H13)) r (Y.move r)<|Ag 15 [] (gdA (beq_ff H13)) r (Y.gtr r r)<|Ag 16 [] (gdA (beq_ff H13)) r (Y.move r)<|Ia (fun H14=>?_) fun H14=>?_
     ·exact Ag 17 [] (gdA (beq_tt H14)) r (Y.move r)<|Ag 18 [] (gdA (beq_tt H14)) r (Y.move r)<|Ag 19 [] (gdA (beq_tt H14)) r (Y.sub r r)<|Ai fun E15 H16=>Ag 20 [] (gdA (beq_tt H14)) r (Ix ke29 (Bc Z0) H16 r)<|Ag 21 [] (gdA (beq_tt H14)) r (Fe kf49_0 (Bc Z0) H16 r)<|Ag 22 [] (gdA (beq_tt H14)) r (Le kk9 (Bc Z0) H16 r)<|Ag 23 [] (gdA (beq_tt H14)) r (Y.move r)<|Ag 24 [] (gdA (beq_tt H14)) r (Y.move r)<|Ag 25 [] (gdA (beq_tt H14)) r (Ix ke29 (Bc Z0) H9 r)<|Ag 26 [] (gdA (beq_tt H14)) r (Fe kf49_0 (Bc Z0) H9 r)<|Ag 27 [] (gdA (beq_tt H14)) r (Le kk9 (Bc Z0) H9 r)<|Ag 28 [] (gdA (beq_tt H14)) r (Y.sgeq r r)<|Ag 29 [] (gdA (beq_ff H13)) r (Pt H14 r)<|Ay 30 [] r (Pf H13 r)<|Az<|Bg () []
     exact Ax [17,18,19,20,21,22,23,24,25,26,27,28] [] (beq_ft H14) r r<|Ag 29 [] (gdA (beq_ff H13)) r (Pf H14 r)<|Ay 30 [] r (Pf H13 r)<|Az<|Bg () []
    exact Ne<|Wc r (fun H17=>Sr<|Qs 1 r<|Nx<|Wr<|Br<|Tr<|Er<|Br<|Jd<|Tr<|Re () []) fun H17=>Sk<|Bn<|Ne<|Rg<|Qs 3 r<|Nl<|Lg () []
   exact Wx<|Tx<|Ex<|Be<|Jg () []
  exact Ne<|Sr<|Qs 1 r<|Nx<|Wr<|Re () []
noncomputable def spec_l7Put (m : List KV) (o : Op) : Option (List KV) :=
  bindC (loopO (fun (S3 : Bool × Int × List KV) => if (decide (S3.2.1 < ((m.length : Nat) : Int))) = true then ((if (!S3.1) = true then ((idx m S3.2.1).bind fun E11 =>
  some (!(sLt E11.Key o.Key)))
  else (some false)).bind (fun (T8 : Bool) =>
  bindC (if T8 = true then ((app 32 S3.2.2 ([{ Key := o.Key, Val := o.Val : KV }])).bind fun E18 =>
  some (.go (true, E18)))
  else (some (.go (S3.1, S3.2.2))))
  (fun (T13 : Bool × List KV) => (idx m S3.2.1).bind fun E20 =>
  bindC (if (!(decide (E20.Key = o.Key))) = true then ((app 32 T13.2 ([E20])).bind fun E27 =>
  some (.go E27))
  else (some (.go T13.2)))
  (fun (T22 : List KV) => some (.go (T13.1, IntKind.i64.wrap (S3.2.1 + (1 : Int)), T22))))))
  else (some (.done (.go (S3.1, S3.2.2)))))
  (o.Del, (0 : Int), ([] : List KV)))
  (fun (T5 : Bool × List KV) => bindC (if (!T5.1) = true then ((app 32 T5.2 ([{ Key := o.Key, Val := o.Val : KV }])).bind fun E34 =>
  some (.go E34))
  else (some (.go T5.2)))
  (fun (T29 : List KV) => some T29))
theorem spec_l7Put_c {m : List KV} {o : Op} {U0 : Value} : Cn Tryz.prog 31 [U0, .agg #[strV o.Key, .bool o.Del, strV o.Val]] [] [(U0, lc m)] (spec_l7Put m o) (fun _ (X : Value) => X) fun r X => [.own X (lc r)] := by
  unfold spec_l7Put
  refine Ci Tryz.func31 r r ?_
  rintro w S ⟨Z0,-⟩
  refine Sr<|Fo (Bx r (Cp r)) fun B1=>Qs 1 r<|Nx<|Sr<|Fo (Bs ([] : List KV) ke29 kz49) fun B2=>Qs 1 r<|Nx<|Sr<|Yo (Fb kf61_1 r)<|Yo (Lb 1 kk4 r)<|Qs 1 r<|Nx<|Sq<|Sr<|Qs 1 r<|Nx<|Jn Value [3] [1] (fun T X=>[(5, X), (6, .bool T.1)]) (fun T X=>[.own X (lc T.2)]) r2 r2 (?_) fun T5 X6=>?_
  ·refine Wb<|Lp Value [0,3] [1] (fun T X=>[(5, X), (6, .bool T.1), (7, iv T.2.1)]) (fun T X=>[.own X (lc T.2.2)]) (.slice (some ⟨B2, 0, none⟩) 0 0) [1,0] r2 r2 fun S3 X4=>Sq<|Sr<|Qs 2 r<|Yo (Ln ke29 (Bc Z0) r)<|Qs 1 r<|Nx<|Wc r (fun H7=>?_) fun H7=>?_
   ·refine Sn<|Sq<|Wb<|Sq<|Sq<|Jv [0,3,5,6,7] (fun T=>[(28, .bool T)]) r1 (?_) fun T8=>?_
    ·refine Dr [0,0] r hMix<|Aq [0,1,2] [0,0] r<|Ia (fun H10=>?_) fun H10=>?_
     ·exact Ag 3 [0,0] (gdA (beq_tt H10)) r (Y.move r)<|Ag 4 [0,0] (gdA (beq_tt H10)) r (Y.move r)<|Ai fun E11 H12=>Ag 5 [0,0] (gdA (beq_tt H10)) r (Ix ke29 (Bc Z0) H12 r)<|Ag 6 [0,0] (gdA (beq_tt H10)) r (Fe kf49_0 (Bc Z0) H12 r)<|Ag 7 [0,0] (gdA (beq_tt H10)) r (Le kk9 (Bc Z0) H12 r)<|Ag 8 [0,0] (gdA (beq_tt H10)) r (Fb kf61_0 r)<|Ag 9 [0,0] (gdA (beq_tt H10)) r (Lb 0 kk9 r)<|Ag 10 [0,0] (gdA (beq_tt H10)) r (Y.sgeq r r)<|Ay 11 [0,0] r (Pt H10 r)<|Az<|Bg () [0,0]
     exact Ax [3,4,5,6,7,8,9,10] [0,0] (beq_ft H10) r r<|Ay 11 [0,0] r (Pf H10 r)<|Az<|Bg () [0,0]
    refine Ne<|Jn Value [0,3,7] [0] (fun T X=>[(5, X), (6, .bool T.1)]) (fun T X=>[.own X (lc T.2)]) r2 r2 (?_) fun T13 X14=>?_
    ·refine Wc r (fun H15=>?_) fun H15=>?_
     ·exact Sr<|Qs 1 r<|Yo (Fb kf61_0 r)<|Yo (Lb 0 kk9 r)<|Yo (Fb kf61_2 r)<|Yo (Lb 0 kk9 r)<|Yo (Bd kp49 kz49 (Pc r (Cp r)<|Pc r (Cp r)<|Pz) r)<|Fo (Bs [{ Key := o.Key, Val := o.Val : KV }] ke29 kz49) fun B16=>Bi fun E18 H19=>Fo (Ap [2] H19 ke29 kz49 r (Oc 0 r)) fun V17=>Qs 1 r<|Nx<|Rg<|Qs 1 r<|Nl<|Jg V17 [2,0]
     exact Sk<|Jg X4 [0,0]
    refine Ne<|Sq<|Dr [0,0] r hMix<|Aq [0,1] [0,0] r<|Ai fun E20 H21=>Ay 2 [0,0] r (Ix ke29 (Bc Z0) H21 r)<|Ay 3 [0,0] r (Fe kf49_0 (Bc Z0) H21 r)<|Ay 4 [0,0] r (Le kk9 (Bc Z0) H21 r)<|Ay 5 [0,0] r (Fb kf61_0 r)<|Ay 6 [0,0] r (Lb 0 kk9 r)<|Aq [7] [0,0] r<|Az<|Ne<|Jn Value [0,3,6,7] [0] (fun _ X=>[(5, X)]) (fun T X=>[.own X (lc T)]) r2 r2 (Wc r (fun H24=>Rg<|Qs 3 r<|Yo (Ix ke29 (Bc Z0) H21 r)<|Yo (Le kk49 (Bc Z0) H21 r)<|Fo (Bs [E20] ke29 kz49) fun B25=>Bi fun E27 H28=>Fo (Ap [2] H28 ke29 kz49 r (Oc 0 r)) fun V26=>Qs 1 r<|Nl<|Jg V26 [2,0]) fun H24=>Sk<|Jg X14 [0,0]) fun T22 X23=>?_
    exact Bn<|Ne<|Rg<|Qs 3 r<|Nl<|Lg X23 [0,0]
   exact Wx<|Tx<|Ex<|Be<|Jg X4 [0,0]
  refine Ne<|Sq<|Sr<|Qs 2 r<|Nx<|Jn Value [] [] (fun _ X=>[(5, X)]) (fun T X=>[.own X (lc T)]) r2 r2 (?_) fun T29 X30=>?_
  ·refine Wc r (fun H31=>?_) fun H31=>?_
   ·exact Rg<|Qs 1 r<|Yo (Fb kf61_0 r)<|Yo (Lb 0 kk9 r)<|Yo (Fb kf61_2 r)<|Yo (Lb 0 kk9 r)<|Yo (Bd kp49 kz49 (Pc r (Cp r)<|Pc r (Cp r)<|Pz) r)<|Fo (Bs [{ Key := o.Key, Val := o.Val : KV }] ke29 kz49) fun B32=>Bi fun E34 H35=>Fo (Ap [2] H35 ke29 kz49 r (Oc 0 r)) fun V33=>Qs 1 r<|Nl<|Jg V33 [0]
   exact Sk<|Jg X6 [1]
  exact Ne<|Sr<|Qs 2 r<|Nx<|Wr<|Re X30 [0]
noncomputable def spec_ApplyBatch (m : List KV) (l : List Op) : Option (List KV × Bool) :=
  (spec_MapOk m).bind fun R1 =>
  if (!R1) = true then (some (([] : List KV), false))
  else ((app 32 ([] : List KV) m).bind fun E8 =>
  (spec_BatchOk l).bind fun R10 =>
  if (!R10) = true then (some (E8, false))
  else (bindC (loopO (fun (S14 : Int × List KV) => if (decide (S14.1 < ((l.length : Nat) : Int))) = true then ((idx l S14.1).bind fun E19 =>
  (spec_l7Put S14.2 E19).bind fun R21 =>
  some (.go (IntKind.i64.wrap (S14.1 + (1 : Int)), R21)))
  else (some (.done (.go S14.2))))
  ((0 : Int), E8))
  (fun (T16 : List KV) => some (T16, true))))
theorem spec_ApplyBatch_c {m : List KV} {l : List Op} {U0 U1 : Value} : Cn Tryz.prog 13 [U0, U1] [] [(U0, lc m), (U1, lc l)] (spec_ApplyBatch m l) (fun r (X : Value) => .tuple #[X, .bool r.2]) fun r X => [.own X (lc r.1)] := by
  unfold spec_ApplyBatch
  refine Ci Tryz.func13 r r ?_
  rintro w S ⟨Z0,Z1,-⟩
  refine Sr<|Qs 2 r<|Nx<|Sq<|Sr<|Qs 1 r<|Bi fun R1 H2=>Fo (Cl [] spec_MapOk_c H2 r r1 ⟨(Bc Z0),⟨⟩⟩) fun _=>Qs 1 r<|Nx<|Wc r (fun H4=>Sr<|Fo (Bs ([] : List KV) ke29 kz49) fun B5=>Qs 2 r<|Nx<|Wr<|Tr<|Re (.slice (some ⟨B5, 0, none⟩) 0 0) [0]) fun H4=>Sn<|Sr<|Fo (Bs ([] : List KV) ke29 kz49) fun B6=>Qs 1 r<|Bi fun E8 H9=>Fo (Ap [0] H9 ke29 kz49 r (Bc Z0)) fun V7=>Qs 1 r<|Nx<|Sq<|Sr<|Qs 1 r<|Bi fun R10 H11=>Fo (Cl [] spec_BatchOk_c H11 r r1 ⟨(Bc Z1),⟨⟩⟩) fun _=>Qs 1 r<|Nx<|Wc r (fun H13=>Sr<|Qs 3 r<|Nx<|Wr<|Tr<|Re V7 [0]) fun H13=>?_
  refine Sn<|Sq<|Sr<|Qs 1 r<|Nx<|Jn Value [] [] (fun _ X=>[(6, X)]) (fun T X=>[.own X (lc T)]) r2 r2 (?_) fun T16 X17=>?_
  ·exact Wb<|Lp Value [1] [] (fun T X=>[(6, X), (7, iv T.1)]) (fun T X=>[.own X (lc T.2)]) V7 [0] r2 r2 fun S14 X15=>Sq<|Sr<|Qs 2 r<|Yo (Ln ke36 (Bc Z1) r)<|Qs 1 r<|Nx<|Wc r (fun H18=>Sn<|Sq<|Wb<|Rg<|Qs 3 r<|Bi fun E19 H20=>Yo (Ix ke36 (Bc Z1) H20 r)<|Yo (Le kk61 (Bc Z1) H20 r)<|Bi fun R21 H22=>Fo (Cl [] spec_l7Put_c H22 r r1 ⟨(Oc 0 r),⟨⟩⟩) fun Y23=>Qs 1 r<|Nl<|Bn<|Ne<|Rg<|Qs 3 r<|Nl<|Lg Y23 [0]) fun H18=>Wx<|Tx<|Ex<|Be<|Jg X15 [0]
  exact Ne<|Sr<|Qs 3 r<|Nx<|Wr<|Re X17 [0]
noncomputable def impl_Eng_all (e : Eng) : Option (List Ent) :=
  (app 24 ([e.Mem]) e.Tables).bind fun E6 =>
  (impl_merged E6).bind fun R8 =>
  some R8
theorem impl_Eng_all_c {e : Eng} {U0 U1 U2 : Value} {U3 : Nat} : Cn Tryz.prog 37 [pt U3] [.box U3 28 [U0, U1, iv e.Seq, U2]] [(U0, lc e.Mem), (U1, lc e.Tables)] (impl_Eng_all e) (fun _ (X : Value) => X) fun r X => [.box U3 28 [U0, U1, iv e.Seq, U2], .own X (lc r)] := by
  unfold impl_Eng_all
  refine Ci Tryz.func37 r r ?_
  rintro w S ⟨Z0,Z1,-⟩
  refine Sr<|Qs 1 r<|Nx<|Sq<|Dr [0] r hMix<|Aq [0,1] [0] r<|Ay 2 [0] r (Fb kf28_0 r)<|Ay 3 [0] r (Lb 0 kk24 r)<|Aq [5,6] [0] r<|Ay 7 [0] r (Fb kf28_1 r)<|Ay 8 [0] r (Lb 0 kk25 r)<|A1 4<|Xe [1] r (Bk [.raw U0] ke25 kz24 r (Qc (Cb Z0)<|Qz)) fun B1=>TA.conv (is' := [.own (.slice (some ⟨B1, 0, none⟩) 1 1) (lc ([Sv.mk U0 (Base.oneCell Z0)] : List Sv)), .box U3 28 [U0, U1, iv e.Seq, U2]]) (fun _ h_ => h_)<|Ai fun E6 H7=>?_
  have ⟨W3, Q4, Q5⟩:=Base.rows (fun _ => r) Z1
  exact A1 9<|Xe [1] r (Ap [0] (app_rows H7 (Bases.one Z0).length Q4.length) ke25 kz24 r (Bc Q5)) fun V2=>Ai fun R8 H9=>A1 10<|Xe [2] r (Cl [] impl_merged_c H9 r r1 ⟨(Can.rows (fun _ => rfl) 0 rfl (Bases.app H7 (Bases.one Z0) Q4)),⟨⟩⟩) fun Y10=>Aq [11] [2] r<|Az<|Ne<|Wr<|Re Y10 [2,0]
noncomputable def impl_visible (l : List Ent) (seq : Int) : Option (List KV) :=
  bindC (loopO (fun (S1 : List UInt8 × Bool × Int × List KV) => if (decide (S1.2.2.1 < ((l.length : Nat) : Int))) = true then (bindC ((idx l S1.2.2.1).bind fun E8 =>
  (if (decide (E8.Seq > seq)) = true then (some true)
  else (if S1.2.1 = true then (some (decide (E8.Key = S1.1)))
  else (some false))).bind (fun (T11 : Bool) =>
  if T11 = true then (some (.go (S1.1, S1.2.1, S1.2.2.2)))
  else (bindC (if (!E8.Del) = true then ((app 32 S1.2.2.2 ([{ Key := E8.Key, Val := E8.Val : KV }])).bind fun E21 =>
  some (.go E21))
  else (some (.go S1.2.2.2)))
  (fun (T16 : List KV) => some (.go (E8.Key, true, T16))))))
  (fun (T6 : List UInt8 × Bool × List KV) => some (.go (T6.1, T6.2.1, IntKind.i64.wrap (S1.2.2.1 + (1 : Int)), T6.2.2))))
  else (some (.done (.go S1.2.2.2))))
  ([], false, (0 : Int), ([] : List KV)))
  (fun (T3 : List KV) => some T3)
theorem impl_visible_c {l : List Ent} {seq : Int} {U0 : Value} : Cn Tryz.prog 36 [U0, iv seq] [] [(U0, lc l)] (impl_visible l seq) (fun _ (X : Value) => X) fun r X => [.own X (lc r)] := by
  unfold impl_visible
  refine Ci Tryz.func36 r r ?_
  rintro w S ⟨Z0,-⟩
  refine Sr<|Qs 1 r<|Nx<|Sr<|Qs 1 r<|Nx<|Sr<|Qs 2 r<|Nx<|Sq<|Sr<|Qs 1 r<|Yo (Ln ke24 (Bc Z0) r)<|Qs 1 r<|Nx<|Jn Value [] [] (fun _ X=>[(5, X)]) (fun T X=>[.own X (lc T)]) r2 r2 (?_) fun T3 X4=>?_
  ·refine Wb<|Nw 2<|Lp Value [1,10,11] [] (fun T X=>[(5, X), (6, strV T.1), (7, .bool T.2.1), (12, iv T.2.2.1)]) (fun T X=>[.own X (lc T.2.2.2)]) (.slice none 0 0) [0] r2 r2 fun S1 X2=>Sr<|Qs 1 r<|Nx<|Sq<|Wc r (fun H5=>?_) fun H5=>?_
   ·refine Sn<|Sq<|Jn Value [1,10,11,12] [] (fun T X=>[(5, X), (6, strV T.1), (7, .bool T.2.1)]) (fun T X=>[.own X (lc T.2.2)]) r2 r2 (?_) fun T6 X7=>?_
    ·refine Wb<|Sr<|Bi fun E8 H9=>Yo (Ix ke24 (Bc Z0) H9 r)<|Yo (Le kk72 (Bc Z0) H9 r)<|Fo (Al kz72 r) fun B10=>Fu (Sb 0 kk72 r (Cp r) r)<|Nx<|Sq<|Sq<|Jv [1,5,6,7,9,10,11,12] (fun T=>[(28, .bool T)]) r1 (?_) fun T11=>?_
     ·exact Rg<|Yo (Fb kf72_1 r)<|Yo (Lb 0 kk3 r)<|Qs 3 r<|It (fun H13=>Of 2 (beq_tf H13) r r<|Ou 4 r r<|Of 1 (beq_tf H13) r r<|Yo (Pt H13 r)<|Nl<|Bg () [0,0]) fun H13=>Qg 2 (beq_ff H13) r r<|It (fun H14=>Yg (gdA (beq_tt H14)) (Fb kf72_0 r)<|Yg (gdA (beq_tt H14)) (Lb 0 kk9 r)<|Qg 2 (beq_tt H14) r r<|Yg (gdA (beq_ff H13)) (Pt H14 r)<|Yo (Pf H13 r)<|Nl<|Bg () [0,0]) fun H14=>Of 4 (beq_ft H14) r r<|Yg (gdA (beq_ff H13)) (Pf H14 r)<|Yo (Pf H13 r)<|Nl<|Bg () [0,0]
     refine Ne<|Wc r (fun H15=>Wx<|Tx<|Be<|Jg X2 [1]) fun H15=>Sn<|Sr<|Yo (Fb kf72_0 r)<|Yo (Lb 0 kk9 r)<|Qs 2 r<|Nx<|Sr<|Yo (Fb kf72_2 r)<|Yo (Lb 0 kk4 r)<|Qs 1 r<|Nx<|Jn Value [1,6,7,10,11,12] [] (fun _ X=>[(5, X)]) (fun T X=>[.own X (lc T)]) r2 r2 (?_) fun T16 X17=>?_
     ·refine Wc r (fun H18=>?_) fun H18=>?_
      ·exact Rg<|Qs 1 r<|Yo (Fb kf72_0 r)<|Yo (Lb 0 kk9 r)<|Yo (Fb kf72_3 r)<|Yo (Lb 0 kk9 r)<|Yo (Bd kp49 kz49 (Pc r (Cp r)<|Pc r (Cp r)<|Pz) r)<|Fo (Bs [{ Key := E8.Key, Val := E8.Val : KV }] ke29 kz49) fun B19=>Bi fun E21 H22=>Fo (Ap [2] H22 ke29 kz49 r (Oc 0 r)) fun V20=>Qs 1 r<|Nl<|Jg V20 [0]
      exact Sk<|Jg X2 [1]
     exact Bn<|Jg X17 [0]
    exact Ne<|Rg<|Qs 2 r<|Nl<|Lg X7 [0]
   exact Wx<|Tx<|Ex<|Be<|Jg X2 [0]
  exact Ne<|Sr<|Qs 2 r<|Nx<|Wr<|Re X4 [0]
noncomputable def impl_EngMap (e : Eng) (seq : Int) : Option (List KV) :=
  (impl_EngOk e).bind fun R2 =>
  if (!R2) = true then (some ([]))
  else ((impl_Eng_all e).bind fun R7 =>
  (impl_visible R7 seq).bind fun R10 =>
  some R10)
theorem impl_EngMap_c {e : Eng} {seq : Int} {U0 U1 U2 : Value} : Cn Tryz.prog 16 [.agg #[U0, U1, iv e.Seq, U2], iv seq] [] [(U0, lc e.Mem), (U1, lc e.Tables), (U2, lc e.Snaps)] (impl_EngMap e seq) (fun _ (X : Value) => X) fun r X => [.own X (lc r)] := by
  unfold impl_EngMap
  refine Ci Tryz.func16 r r ?_
  rintro w S ⟨Z0,Z1,Z2,-⟩
  exact Sr<|Fo (Bx r (Ca ⟨Ob Z0,Ob Z1,Op',Ob Z2,⟨⟩⟩)) fun B1=>Qs 1 r<|Nx<|Sq<|Sr<|Yo (Lb 0 kk28 r)<|Bi fun R2 H3=>Fo (Cl [] impl_EngOk_c H3 r r1 ⟨(Bc Z0),(Bc Z1),(Bc Z2),⟨⟩⟩) fun _=>Qs 1 r<|Nx<|Wc r (fun H5=>Sr<|Qs 1 r<|Nx<|Wr<|Tr<|Ni 2<|Re (.slice none 0 0) [0]) fun H5=>Sn<|Sr<|Bi fun R7 H8=>Fo (Cl [0] impl_Eng_all_c H8 r r1 ⟨(Bc Z0),(Bc Z1),⟨⟩⟩) fun Y9=>Qs 1 r<|Bi fun R10 H11=>Fo (Cl [] impl_visible_c H11 r r1 ⟨(Oc 1 r),⟨⟩⟩) fun Y12=>Qs 1 r<|Nx<|Wr<|Re Y12 [0]
noncomputable def laws_sameMap (a : List KV) (b : List KV) : Option Bool :=
  if (!(decide (((a.length : Nat) : Int) = ((b.length : Nat) : Int)))) = true then (some false)
  else (bindC (loopO (fun (S2 : Int) => if (decide (S2 < ((a.length : Nat) : Int))) = true then ((idx a S2).bind fun E7 =>
  (idx b S2).bind fun E9 =>
  if (!(decide (E7.Key = E9.Key) && (decide (E7.Val = E9.Val) && true))) = true then (some (.done (.done false)))
  else (some (.go (IntKind.i64.wrap (S2 + (1 : Int))))))
  else (some (.done (.go ()))))
  (0 : Int))
  (fun (T4 : Unit) => some true))
theorem laws_sameMap_c {a : List KV} {b : List KV} {U0 U1 : Value} : Cn Tryz.prog 15 [U0, U1] [] [(U0, lc a), (U1, lc b)] (laws_sameMap a b) (fun r (_ : Unit) => .bool r) fun _ _ => [] := by
  unfold laws_sameMap
  refine Ci Tryz.func15 r r ?_
  rintro w S ⟨Z0,Z1,-⟩
  refine Sr<|Qs 1 r<|Nx<|Sq<|Sr<|Qs 1 r<|Yo (Ln ke29 (Bc Z0) r)<|Qs 1 r<|Yo (Ln ke29 (Bc Z1) r)<|Qs 1 r<|Nx<|Wc r (fun H1=>Sr<|Qs 1 r<|Nx<|Wr<|Tr<|Re () []) fun H1=>Sn<|Sq<|Sr<|Qs 1 r<|Nx<|Ju [] (fun _=>[]) r1 (?_) fun T4=>?_
  ·refine Wb<|Lu [0,1] (fun T=>[(5, iv T)]) r1 fun S2=>Sq<|Sr<|Qs 2 r<|Yo (Ln ke29 (Bc Z0) r)<|Qs 1 r<|Nx<|Wc r (fun H6=>?_) fun H6=>?_
   ·exact Sn<|Sq<|Wb<|Sq<|Dr [] r hMix<|Aq [0,1] [] r<|Ai fun E7 H8=>Ay 2 [] r (Ix ke29 (Bc Z0) H8 r)<|Ay 3 [] r (Le kk49 (Bc Z0) H8 r)<|Aq [4,5] [] r<|Ai fun E9 H10=>Ay 6 [] r (Ix ke29 (Bc Z1) H10 r)<|Ay 7 [] r (Le kk49 (Bc Z1) H10 r)<|Ay 8 [] r (Y.neqA keq49 (EqA.str (EqA.str EqA.nil)) r r)<|Az<|Ne<|Wc r (fun H11=>Sr<|Qs 1 r<|Nx<|Wr<|Br<|Tr<|Er<|Br<|Jd<|Tr<|Re () []) fun H11=>Sk<|Bn<|Ne<|Rg<|Qs 3 r<|Nl<|Lg () []
   exact Wx<|Tx<|Ex<|Be<|Jg () []
  exact Ne<|Sr<|Qs 1 r<|Nx<|Wr<|Re () []
noncomputable def impl_get (l : List Ent) (key : List UInt8) (seq : Int) : Option (Ent × Bool) :=
  bindC (loopO (fun (S2 : Int) => if (decide (S2 < ((l.length : Nat) : Int))) = true then ((idx l S2).bind fun E7 =>
  (if (decide (E7.Key = key)) = true then (some (decide (E7.Seq ≤ seq)))
  else (some false)).bind (fun (T10 : Bool) =>
  if T10 = true then (some (.done (.done (E7, true))))
  else (some (.go (IntKind.i64.wrap (S2 + (1 : Int)))))))
  else (some (.done (.go ()))))
  (0 : Int))
  (fun (T4 : Unit) => some ({ Key := [], Seq := (0 : Int), Del := false, Val := [] : Ent }, false))
theorem impl_get_c {l : List Ent} {key : List UInt8} {seq : Int} {U0 : Value} : Cn Tryz.prog 69 [U0, strV key, iv seq] [] [(U0, lc l)] (impl_get l key seq) (fun r (_ : Unit) => .tuple #[.agg #[strV r.1.Key, iv r.1.Seq, .bool r.1.Del, strV r.1.Val], .bool r.2]) fun _ _ => [] := by
  unfold impl_get
  refine Ci Tryz.func69 r r ?_
  rintro w S ⟨Z0,-⟩
  refine Sr<|Fo (Al kz72 r) fun B1=>Qs 1 r<|Nx<|Sq<|Sr<|Qs 1 r<|Yo (Ln ke24 (Bc Z0) r)<|Qs 1 r<|Nx<|Ju [6] (fun _=>[]) r1 (?_) fun T4=>?_
  ·refine Wb<|Lu [1,2,6,10,11] (fun T=>[(12, iv T)]) r1 fun S2=>Sr<|Qs 1 r<|Nx<|Sq<|Wc r (fun H6=>?_) fun H6=>?_
   ·refine Sn<|Sq<|Wb<|Sr<|Bi fun E7 H8=>Yo (Ix ke24 (Bc Z0) H8 r)<|Yo (Le kk72 (Bc Z0) H8 r)<|Fo (Al kz72 r) fun B9=>Fu (Sb 0 kk72 r (Cp r) r)<|Nx<|Sq<|Jv [1,2,6,9,10,11,12] (fun T=>[(25, .bool T)]) r1 (Rg<|Yo (Fb kf72_0 r)<|Yo (Lb 0 kk9 r)<|Qs 3 r<|It (fun H12=>Yg (gdA (beq_tt H12)) (Fb kf72_1 r)<|Yg (gdA (beq_tt H12)) (Lb 0 kk3 r)<|Qg 2 (beq_tt H12) r r<|Yo (Pt H12 r)<|Nl<|Bg () [0,0]) fun H12=>Of 4 (beq_ft H12) r r<|Yo (Pf H12 r)<|Nl<|Bg () [0,0]) fun T10=>Ne<|Wc r (fun H13=>Sr<|Yo (Lb 0 kk72 r)<|Fu (Sb 1 kk72 r (Cp r) r)<|Qs 1 r<|Nx<|Wr<|Br<|Tr<|Er<|Br<|Jd<|Tr<|Rf () [] (RV.cell 1 r r kk72 r (Rt r Rz))) fun H13=>?_
    exact Sk<|Bn<|Ne<|Rg<|Qs 2 r<|Nl<|Lg () [1]
   exact Wx<|Tx<|Ex<|Be<|Jg () [0]
  exact Ne<|Sr<|Yo (Bd kp72 kz72 (Pz) r)<|Fu (Sb 0 kk72 r (Cp r) r)<|Qs 1 r<|Nx<|Wr<|Rf () [] (RV.cell 0 r r kk72 r (Rt r Rz))
noncomputable def impl_Eng_value (e : Eng) (key : List UInt8) (seq : Int) : Option (List UInt8 × Bool) :=
  (impl_Eng_all e).bind fun R1 =>
  (impl_get R1 key seq).bind fun R4 =>
  (if (!R4.2) = true then (some true)
  else (some R4.1.Del)).bind (fun (T8 : Bool) =>
  if T8 = true then (some ([], false))
  else (some (R4.1.Val, true)))
theorem impl_Eng_value_c {e : Eng} {key : List UInt8} {seq : Int} {U0 U1 U2 : Value} {U3 : Nat} : Cn Tryz.prog 38 [pt U3, strV key, iv seq] [.box U3 28 [U0, U1, iv e.Seq, U2]] [(U0, lc e.Mem), (U1, lc e.Tables)] (impl_Eng_value e key seq) (fun r (_ : Unit) => .tuple #[strV r.1, .bool r.2]) fun _ _ => [.box U3 28 [U0, U1, iv e.Seq, U2]] := by
  unfold impl_Eng_value
  refine Ci Tryz.func38 r r ?_
  rintro w S ⟨Z0,Z1,-⟩
  refine Sr<|Qs 2 r<|Nx<|Sr<|Qs 1 r<|Bi fun R1 H2=>Fo (Cl [0] impl_Eng_all_c H2 r r1 ⟨(Bc Z0),(Bc Z1),⟨⟩⟩) fun Y3=>Qs 2 r<|Bi fun R4 H5=>Fo (Cl [] impl_get_c H5 r r1 ⟨(Oc 1 r),⟨⟩⟩) fun _=>Qs 3 r<|Fo (Al kz72 r) fun B7=>Fu (Sb 0 kk72 r (Cp r) r)<|Qs 1 r<|Nx<|Sq<|Sq<|Jb Unit [8] [0,0] (fun T _=>[(23, .bool T)]) (fun _ _=>[]) r2 r2 (Rg<|Qs 3 r<|It (fun H10=>Of 2 (beq_tf H10) r r<|Yo (Pt H10 r)<|Nl<|Bg () [0,0]) fun H10=>Yg (gdA (beq_ff H10)) (Fb kf72_2 r)<|Yg (gdA (beq_ff H10)) (Lb 0 kk4 r)<|Yo (Pf H10 r)<|Nl<|Bg () [0,0]) fun T8 X9=>?_
  exact Ne<|Wc r (fun H11=>Sr<|Qs 2 r<|Nx<|Wr<|Tr<|Re () [1]) fun H11=>Sn<|Sr<|Yo (Fb kf72_3 r)<|Yo (Lb 0 kk9 r)<|Qs 2 r<|Nx<|Wr<|Re () [1]
noncomputable def impl_EngGet (e : Eng) (key : List UInt8) (seq : Int) : Option (List UInt8 × Bool) :=
  (impl_EngOk e).bind fun R2 =>
  if (!R2) = true then (some ([], false))
  else ((impl_Eng_value e key seq).bind fun R6 =>
  some (R6.1, R6.2))
theorem impl_EngGet_c {e : Eng} {key : List UInt8} {seq : Int} {U0 U1 U2 : Value} : Cn Tryz.prog 17 [.agg #[U0, U1, iv e.Seq, U2], strV key, iv seq] [] [(U0, lc e.Mem), (U1, lc e.Tables), (U2, lc e.Snaps)] (impl_EngGet e key seq) (fun r (_ : Unit) => .tuple #[strV r.1, .bool r.2]) fun _ _ => [] := by
  unfold impl_EngGet
  refine Ci Tryz.func17 r r ?_
  rintro w S ⟨Z0,Z1,Z2,-⟩
  exact Sr<|Fo (Bx r (Ca ⟨Ob Z0,Ob Z1,Op',Ob Z2,⟨⟩⟩)) fun B1=>Qs 2 r<|Nx<|Sq<|Sr<|Yo (Lb 0 kk28 r)<|Bi fun R2 H3=>Fo (Cl [] impl_EngOk_c H3 r r1 ⟨(Bc Z0),(Bc Z1),(Bc Z2),⟨⟩⟩) fun _=>Qs 1 r<|Nx<|Wc r (fun H5=>Sr<|Qs 2 r<|Nx<|Wr<|Tr<|Re () []) fun H5=>Sn<|Sr<|Qs 2 r<|Bi fun R6 H7=>Fo (Cl [0] impl_Eng_value_c H7 r r1 ⟨(Bc Z0),(Bc Z1),⟨⟩⟩) fun _=>Qs 4 r<|Nx<|Wr<|Re () []
noncomputable def laws_FnEngine (code : List UInt8) : Option Bool :=
  (laws_big code).bind fun R1 =>
  if R1 = true then (some true)
  else (bindC (loopO (fun (S9 : Int × Int × List Ent × List (List Ent) × List Int × List KV × List (List KV) × List Int) => if (decide (S9.2.1 < (26 : Int))) = true then ((laws_at code S9.2.1).bind fun R14 =>
  bindC (if (decide (Int.tmod R14 (9 : Int) = (0 : Int))) = true then ((impl_EngFlush ({ Mem := S9.2.2.1, Tables := S9.2.2.2.1, Seq := S9.1, Snaps := S9.2.2.2.2.1 : Eng })).bind fun R20 =>
  some (.go (R20.1.Seq, R20.1.Mem, R20.1.Tables, R20.1.Snaps, S9.2.2.2.2.2.1, S9.2.2.2.2.2.2.1, S9.2.2.2.2.2.2.2)))
  else (bindC (if (decide (Int.tmod R14 (9 : Int) = (1 : Int))) = true then ((impl_EngMerge ({ Mem := S9.2.2.1, Tables := S9.2.2.2.1, Seq := S9.1, Snaps := S9.2.2.2.2.1 : Eng })).bind fun R27 =>
  some (.go (R27.1.Seq, R27.1.Mem, R27.1.Tables, R27.1.Snaps, S9.2.2.2.2.2.1, S9.2.2.2.2.2.2.1, S9.2.2.2.2.2.2.2)))
  else (bindC (if (decide (Int.tmod R14 (9 : Int) = (2 : Int))) = true then ((impl_EngSnap ({ Mem := S9.2.2.1, Tables := S9.2.2.2.1, Seq := S9.1, Snaps := S9.2.2.2.2.1 : Eng })).bind fun R34 =>
  bindC (if R34.2.2 = true then ((app 8 S9.2.2.2.2.2.2.2 ([R34.2.1])).bind fun E43 =>
  (app 24 S9.2.2.2.2.2.2.1 [S9.2.2.2.2.2.1]).bind fun E47 =>
  some (.go (E47, E43)))
  else (some (.go (S9.2.2.2.2.2.2.1, S9.2.2.2.2.2.2.2))))
  (fun (T38 : List (List KV) × List Int) => some (.go (R34.1.Seq, R34.1.Mem, R34.1.Tables, R34.1.Snaps, S9.2.2.2.2.2.1, T38.1, T38.2))))
  else (bindC (if (decide (Int.tmod R14 (9 : Int) = (3 : Int))) = true then ((impl_EngTidy ({ Mem := S9.2.2.1, Tables := S9.2.2.2.1, Seq := S9.1, Snaps := S9.2.2.2.2.1 : Eng })).bind fun R52 =>
  some (.go (R52.1.Seq, R52.1.Mem, R52.1.Tables, R52.1.Snaps, S9.2.2.2.2.2.1)))
  else ((laws_fresh code S9.2.1).bind fun R56 =>
  (spec_DrawEngPut R56).bind fun R59 =>
  (impl_EngTidy ({ Mem := S9.2.2.1, Tables := S9.2.2.2.1, Seq := S9.1, Snaps := S9.2.2.2.2.1 : Eng })).bind fun R63 =>
  (impl_EngPut R63.1 R59.2).bind fun R67 =>
  (spec_ApplyBatch S9.2.2.2.2.2.1 R59.2).bind fun R71 =>
  if (!(decide (R67.2 = R71.2))) = true then (some (.done (.done (.done (.done (.done (.done false)))))))
  else (bindC (if R67.2 = true then (some (.go (R67.1.Seq, R67.1.Mem, R67.1.Tables, R67.1.Snaps, R71.1)))
  else (some (.go (R63.1.Seq, R63.1.Mem, R63.1.Tables, R63.1.Snaps, S9.2.2.2.2.2.1))))
  (fun (T75 : Int × List Ent × List (List Ent) × List Int × List KV) => some (.go (T75.1, T75.2.1, T75.2.2.1, T75.2.2.2.1, T75.2.2.2.2))))))
  (fun (T49 : Int × List Ent × List (List Ent) × List Int × List KV) => some (.go (T49.1, T49.2.1, T49.2.2.1, T49.2.2.2.1, T49.2.2.2.2, S9.2.2.2.2.2.2.1, S9.2.2.2.2.2.2.2)))))
  (fun (T31 : Int × List Ent × List (List Ent) × List Int × List KV × List (List KV) × List Int) => some (.go (T31.1, T31.2.1, T31.2.2.1, T31.2.2.2.1, T31.2.2.2.2.1, T31.2.2.2.2.2.1, T31.2.2.2.2.2.2)))))
  (fun (T24 : Int × List Ent × List (List Ent) × List Int × List KV × List (List KV) × List Int) => some (.go (T24.1, T24.2.1, T24.2.2.1, T24.2.2.2.1, T24.2.2.2.2.1, T24.2.2.2.2.2.1, T24.2.2.2.2.2.2)))))
  (fun (T17 : Int × List Ent × List (List Ent) × List Int × List KV × List (List KV) × List Int) => ((spec_EngOk ({ Mem := T17.2.1, Tables := T17.2.2.1, Seq := T17.1, Snaps := T17.2.2.2.1 : Eng })).bind fun R80 =>
  if (!R80) = true then (some true)
  else ((impl_EngMap ({ Mem := T17.2.1, Tables := T17.2.2.1, Seq := T17.1, Snaps := T17.2.2.2.1 : Eng }) T17.1).bind fun R84 =>
  (laws_sameMap R84 T17.2.2.2.2.1).bind fun R87 =>
  some (!R87))).bind (fun (T78 : Bool) =>
  if T78 = true then (some (.done (.done false)))
  else (bindC (loopO (fun (S91 : Int) => if (decide (S91 < ((T17.2.2.2.2.2.2.length : Nat) : Int))) = true then ((idx T17.2.2.2.2.2.2 S91).bind fun E96 =>
  (impl_EngMap ({ Mem := T17.2.1, Tables := T17.2.2.1, Seq := T17.1, Snaps := T17.2.2.2.1 : Eng }) E96).bind fun R98 =>
  (idx T17.2.2.2.2.2.1 S91).bind fun E101 =>
  (laws_sameMap R98 E101).bind fun R104 =>
  if (!R104) = true then (some (.done (.done (.done (.done false)))))
  else (some (.go (IntKind.i64.wrap (S91 + (1 : Int))))))
  else (some (.done (.go ()))))
  (0 : Int))
  (fun (T93 : Unit) => bindC (loopO (fun (S111 : Int) => if (decide (S111 < ((T17.2.2.2.2.1.length : Nat) : Int))) = true then ((idx T17.2.2.2.2.1 S111).bind fun E116 =>
  (impl_EngGet ({ Mem := T17.2.1, Tables := T17.2.2.1, Seq := T17.1, Snaps := T17.2.2.2.1 : Eng }) E116.Key T17.1).bind fun R118 =>
  (if (!R118.2) = true then (some true)
  else (some (!(decide (R118.1 = E116.Val))))).bind (fun (T121 : Bool) =>
  if T121 = true then (some (.done (.done (.done (.done false)))))
  else (some (.go (IntKind.i64.wrap (S111 + (1 : Int)))))))
  else (some (.done (.go ()))))
  (0 : Int))
  (fun (T113 : Unit) => some (.go (T17.1, IntKind.i64.wrap (S9.2.1 + (1 : Int)), T17.2.1, T17.2.2.1, T17.2.2.2.1, T17.2.2.2.2.1, T17.2.2.2.2.2.1, T17.2.2.2.2.2.2))))))))
  else (some (.done (.go ()))))
  ((0 : Int), (0 : Int), ([] : List Ent), ([] : List (List Ent)), ([] : List Int), ([] : List KV), ([] : List (List KV)), ([] : List Int)))
  (fun (T11 : Unit) => some true))
theorem laws_FnEngine_c {code : List UInt8} {U0 : Value} : Cn Tryz.prog 3 [U0] [] [(U0, lc code)] (laws_FnEngine code) (fun r (_ : Unit) => .bool r) fun _ _ => [] := by
  unfold laws_FnEngine
  refine Ci Tryz.func3 r r ?_
  rintro w S ⟨Z0,-⟩
  refine Sr<|Qs 1 r<|Nx<|Sq<|Sr<|Qs 1 r<|Bi fun R1 H2=>Fo (Cl [] laws_big_c H2 r r1 ⟨(Bc Z0),⟨⟩⟩) fun _=>Nx<|Wc r (fun H4=>Sr<|Qs 1 r<|Nx<|Wr<|Tr<|Re () []) fun H4=>Sn<|Sr<|Yo (Bd kp28 kz28 (Pz) r)<|Fo (Al kz28 r) fun B5=>Fu (Sb 0 kk28 r (Cp r) r)<|Nx<|Sr<|Fo (Bs ([] : List KV) ke29 kz49) fun B6=>Qs 1 r<|Nx<|Sr<|Fo (Bk [] ke30 kz29 r (Qz)) fun B7=>Kt (Ha [0] ([] : List (List KV)) r Cz)<|Qs 1 r<|Nx<|Sr<|Fo (Bs ([] : List Int) ke26 kz3) fun B8=>Qs 1 r<|Nx<|Sq<|Sr<|Qs 1 r<|Nx<|Kw (Sm [1, 1] r)<|Jn Unit [] [] (fun _ _=>[]) (fun _ _=>[]) r2 r2 (?_) fun T11 X12=>?_
  ·refine Wb<|Nw 4<|Nw 1<|Nw 1<|Lp (Value × Value × Value × Value × Value × Value) [0,3] [] (fun T X=>[(4, X.2.2.2.1), (5, X.2.2.2.2.1), (6, X.2.2.2.2.2), (7, iv T.2.1)]) (fun T X=>[.box B5 28 [X.1, X.2.1, iv T.1, X.2.2.1], .own X.1 (lc T.2.2.1), .own X.2.1 (lc T.2.2.2.1), .own X.2.2.1 (lc T.2.2.2.2.1), .shw X.2.2.2.2.1 (lc T.2.2.2.2.2.2.1) [(X.2.2.2.1, lc T.2.2.2.2.2.1)], .own X.2.2.2.2.2 (lc T.2.2.2.2.2.2.2)]) (.slice none 0 0, .slice none 0 0, .slice none 0 0, .slice (some ⟨B6, 0, none⟩) 0 0, .slice (some ⟨B7, 0, none⟩) 0 0, .slice (some ⟨B8, 0, none⟩) 0 0) [5,2,1,0,0,0] r2 r2 fun S9 X10=>?_
   refine Sq<|Sr<|Qs 2 r<|Nx<|Wc r (fun H13=>?_) fun H13=>?_
   ·refine Sn<|Sq<|Wb<|Sq<|Sr<|Qs 2 r<|Bi fun R14 H15=>Fo (Cl [] laws_at_c H15 r r1 ⟨(Bc Z0),⟨⟩⟩) fun _=>Yo (Y.rem (by decide) r r)<|Nx<|Wb<|Sr<|Qs 2 r<|Nx<|Jn (Value × Value × Value × Value × Value × Value) [0,3,7] [] (fun _ X=>[(4, X.2.2.2.1), (5, X.2.2.2.2.1), (6, X.2.2.2.2.2)]) (fun T X=>[.box B5 28 [X.1, X.2.1, iv T.1, X.2.2.1], .own X.1 (lc T.2.1), .own X.2.1 (lc T.2.2.1), .own X.2.2.1 (lc T.2.2.2.1), .shw X.2.2.2.2.1 (lc T.2.2.2.2.2.1) [(X.2.2.2.1, lc T.2.2.2.2.1)], .own X.2.2.2.2.2 (lc T.2.2.2.2.2.2)]) r2 r2 (?_) fun T17 X18=>?_
    ·refine Wc r (fun H19=>?_) fun H19=>?_
     ·exact Sr<|Yo (Lb 0 kk28 r)<|Bi fun R20 H21=>Fo (Cl [] impl_EngFlush_c H21 r r1 ⟨(Oc 1 r),(Oc 2 r),(Oc 3 r),⟨⟩⟩) fun Y22=>Qs 3 r<|Fo (Al kz28 r) fun B23=>Fu (Sb 0 kk28 r (Ca ⟨Ow' 1,Ow' 2,Op',Ow' 3,⟨⟩⟩) r)<|Qs 1 r<|Nx<|Rg<|Yo (Lb 0 kk28 r)<|Fu (Sb 4 kk28 r (Ca ⟨Ow' 1,Ow' 2,Op',Ow' 3,⟨⟩⟩) r)<|Nl<|Jg (Y22.1, Y22.2.1, Y22.2.2, X10.2.2.2.1, X10.2.2.2.2.1, X10.2.2.2.2.2) [4,1,1,1,4,4]
     refine Sr<|Qs 2 r<|Nx<|Jn (Value × Value × Value × Value × Value × Value) [0,3,7] [] (fun _ X=>[(4, X.2.2.2.1), (5, X.2.2.2.2.1), (6, X.2.2.2.2.2)]) (fun T X=>[.box B5 28 [X.1, X.2.1, iv T.1, X.2.2.1], .own X.1 (lc T.2.1), .own X.2.1 (lc T.2.2.1), .own X.2.2.1 (lc T.2.2.2.1), .shw X.2.2.2.2.1 (lc T.2.2.2.2.2.1) [(X.2.2.2.1, lc T.2.2.2.2.1)], .own X.2.2.2.2.2 (lc T.2.2.2.2.2.2)]) r2 r2 (?_) fun T24 X25=>?_
     ·refine Wc r (fun H26=>?_) fun H26=>?_
      ·exact Sr<|Yo (Lb 0 kk28 r)<|Bi fun R27 H28=>Fo (Cl [] impl_EngMerge_c H28 r r1 ⟨(Oc 1 r),(Oc 2 r),(Oc 3 r),⟨⟩⟩) fun Y29=>Qs 3 r<|Fo (Al kz28 r) fun B30=>Fu (Sb 0 kk28 r (Ca ⟨Ow' 1,Ow' 2,Op',Ow' 3,⟨⟩⟩) r)<|Qs 1 r<|Nx<|Rg<|Yo (Lb 0 kk28 r)<|Fu (Sb 4 kk28 r (Ca ⟨Ow' 1,Ow' 2,Op',Ow' 3,⟨⟩⟩) r)<|Nl<|Jg (Y29.1, Y29.2.1, Y29.2.2, X10.2.2.2.1, X10.2.2.2.2.1, X10.2.2.2.2.2) [4,1,1,1,4,4]
      refine Sr<|Qs 2 r<|Nx<|Jn (Value × Value × Value × Value × Value × Value) [0,3,7] [] (fun _ X=>[(4, X.2.2.2.1), (5, X.2.2.2.2.1), (6, X.2.2.2.2.2)]) (fun T X=>[.box B5 28 [X.1, X.2.1, iv T.1, X.2.2.1], .own X.1 (lc T.2.1), .own X.2.1 (lc T.2.2.1), .own X.2.2.1 (lc T.2.2.2.1), .shw X.2.2.2.2.1 (lc T.2.2.2.2.2.1) [(X.2.2.2.1, lc T.2.2.2.2.1)], .own X.2.2.2.2.2 (lc T.2.2.2.2.2.2)]) r2 r2 (?_) fun T31 X32=>?_
      ·refine Wc r (fun H33=>?_) fun H33=>?_
       ·refine Sr<|Yo (Lb 0 kk28 r)<|Bi fun R34 H35=>Fo (Cl [] impl_EngSnap_c H35 r r1 ⟨(Oc 1 r),(Oc 2 r),(Oc 3 r),⟨⟩⟩) fun Y36=>Qs 4 r<|Fo (Al kz28 r) fun B37=>Fu (Sb 0 kk28 r (Ca ⟨Ow' 1,Ow' 2,Op',Ow' 3,⟨⟩⟩) r)<|Qs 2 r<|Nx<|Sr<|Yo (Lb 0 kk28 r)<|Fu (Sb 4 kk28 r (Ca ⟨Ow' 1,Ow' 2,Op',Ow' 3,⟨⟩⟩) r)<|Nx<|Sr<|Qs 1 r<|Nx<|Jn (Value × Value) [0,3,4,7] [4,1,1,1] (fun _ X=>[(5, X.1), (6, X.2)]) (fun T X=>[.shw X.1 (lc T.1) [(X10.2.2.2.1, lc S9.2.2.2.2.2.1)], .own X.2 (lc T.2)]) r2 r2 (?_) fun T38 X39=>?_
        ·refine Wc r (fun H40=>?_) fun H40=>?_
         ·exact Sr<|Qs 2 r<|Fo (Bs [R34.2.1] ke26 kz3) fun B41=>Bi fun E43 H44=>Fo (Ap [10] H44 ke26 kz3 r (Oc 0 r)) fun V42=>Qs 1 r<|Nx<|Rg<|Qs 2 r<|Fo (Bk [.raw X10.2.2.2.1] ke30 kz29 r (Qc (Cs 10 0)<|Qz)) fun B45=>Bi fun E47 H48=>Fo (As [11, 0] H48 ke30 kz29 r r) fun V46=>Qs 1 r<|Nl<|Jg (V46, V42) [7,4,4,4,0,0]
         exact Sk<|Jg (X10.2.2.2.2.1, X10.2.2.2.2.2) [4,1,1,1,4,4]
        exact Jg (Y36.1, Y36.2.1, Y36.2.2, X10.2.2.2.1, X39.1, X39.2) [0,0,0,0,0,0]
       refine Sr<|Qs 2 r<|Nx<|Jn (Value × Value × Value × Value) [0,3,5,6,7] [5] (fun _ X=>[(4, X.2.2.2)]) (fun T X=>[.box B5 28 [X.1, X.2.1, iv T.1, X.2.2.1], .own X.1 (lc T.2.1), .own X.2.1 (lc T.2.2.1), .own X.2.2.1 (lc T.2.2.2.1), .shw X10.2.2.2.2.1 (lc S9.2.2.2.2.2.2.1) [(X.2.2.2, lc T.2.2.2.2)]]) r2 r2 (?_) fun T49 X50=>?_
       ·refine Wc r (fun H51=>?_) fun H51=>?_
        ·exact Sr<|Yo (Lb 0 kk28 r)<|Bi fun R52 H53=>Fo (Cl [] impl_EngTidy_c H53 r r1 ⟨(Oc 1 r),(Oc 2 r),(Oc 3 r),⟨⟩⟩) fun Y54=>Qs 3 r<|Fo (Al kz28 r) fun B55=>Fu (Sb 0 kk28 r (Ca ⟨Ow' 1,Ow' 2,Op',Ow' 3,⟨⟩⟩) r)<|Qs 1 r<|Nx<|Rg<|Yo (Lb 0 kk28 r)<|Fu (Sb 4 kk28 r (Ca ⟨Ow' 1,Ow' 2,Op',Ow' 3,⟨⟩⟩) r)<|Nl<|Jg (Y54.1, Y54.2.1, Y54.2.2, X10.2.2.2.1) [9,4,1,1,1,4]
        refine Sr<|Qs 2 r<|Bi fun R56 H57=>Fo (Cl [] laws_fresh_c H57 r r1 ⟨(Bc Z0),⟨⟩⟩) fun Y58=>Bi fun R59 H60=>Fo (Cl [] spec_DrawEngPut_c H60 r r1 ⟨(Oc 0 r),⟨⟩⟩) fun Y61=>Qs 3 r<|Fo (Al kz28 r) fun B62=>Fu (Sb 0 kk28 r (Ca ⟨Ow' 1,Ow' 2,Op',Ow' 3,⟨⟩⟩) r)<|Qs 1 r<|Nx<|Sr<|Yo (Lb 6 kk28 r)<|Bi fun R63 H64=>Fo (Cl [] impl_EngTidy_c H64 r r1 ⟨(Oc 7 r),(Oc 8 r),(Oc 9 r),⟨⟩⟩) fun Y65=>Qs 3 r<|Fo (Al kz28 r) fun B66=>Fu (Sb 0 kk28 r (Ca ⟨Ow' 1,Ow' 2,Op',Ow' 3,⟨⟩⟩) r)<|Qs 1 r<|Nx<|Sr<|Yo (Lb 0 kk28 r)<|Qs 1 r<|Bi fun R67 H68=>Fo (Cl [] impl_EngPut_c H68 r r1 ⟨(Oc 1 r),(Oc 2 r),(Oc 3 r),(Oc 8 r),⟨⟩⟩) fun Y69=>?_
        refine Qs 3 r<|Fo (Al kz28 r) fun B70=>Fu (Sb 0 kk28 r (Ca ⟨Ow' 1,Ow' 2,Op',Ow' 3,⟨⟩⟩) r)<|Qs 1 r<|Nx<|Sr<|Qs 2 r<|Bi fun R71 H72=>Fo (Cl [] spec_ApplyBatch_c H72 r r1 ⟨(Cj 18 0 r),(Oc 12 r),⟨⟩⟩) fun Y73=>Qs 5 r<|Nx<|Sq<|Sr<|Qs 2 r<|Yo (Y.neb kb4 r r)<|Nx<|Wc r (fun H74=>Sr<|Qs 1 r<|Nx<|Wr<|Tr<|Jd<|Jd<|Jd<|Jd<|Br<|Tr<|Br<|Tr<|Er<|Br<|Jd<|Tr<|Re () []) fun H74=>Sn<|Sr<|Yo (Lb 5 kk28 r)<|Fu (Sb 15 kk28 r (Ca ⟨Ow' 6,Ow' 7,Op',Ow' 8,⟨⟩⟩) r)<|Nx<|Sr<|Qs 1 r<|Nx<|Jn (Value × Value × Value × Value) [0,3,5,6,7] [20] (fun _ X=>[(4, X.2.2.2)]) (fun T X=>[.box B5 28 [X.1, X.2.1, iv T.1, X.2.2.1], .own X.1 (lc T.2.1), .own X.2.1 (lc T.2.2.1), .own X.2.2.1 (lc T.2.2.2.1), .shw X10.2.2.2.2.1 (lc S9.2.2.2.2.2.2.1) [(X.2.2.2, lc T.2.2.2.2)]]) r2 r2 (Wc r (fun H77=>Sr<|Yo (Lb 1 kk28 r)<|Fu (Sb 15 kk28 r (Ca ⟨Ow' 2,Ow' 3,Op',Ow' 4,⟨⟩⟩) r)<|Nx<|Rg<|Qs 2 r<|Nl<|Ke (Sa [19, 0] r)<|Jg (Y69.1, Y69.2.1, Y69.2.2, Y73) [19,15,2,2,2,0]) fun H77=>Sk<|Jg (Y65.1, Y65.2.1, Y65.2.2, X10.2.2.2.1) [20,15,6,6,6,15]) fun T75 X76=>?_
        exact Jg (X76.1, X76.2.1, X76.2.2.1, X76.2.2.2) [0,0,0,0,0,0]
       exact Jg (X50.1, X50.2.1, X50.2.2.1, X50.2.2.2, X10.2.2.2.2.1, X10.2.2.2.2.2) [1,1,1,1,1,0]
      exact Jg (X32.1, X32.2.1, X32.2.2.1, X32.2.2.2.1, X32.2.2.2.2.1, X32.2.2.2.2.2) [0,0,0,0,0,0]
     exact Jg (X25.1, X25.2.1, X25.2.2.1, X25.2.2.2.1, X25.2.2.2.2.1, X25.2.2.2.2.2) [0,0,0,0,0,0]
    refine Bn<|Ne<|Sq<|Sq<|Jv [0,3,4,5,6,7] (fun T=>[(127, .bool T)]) r1 (?_) fun T78=>?_
    ·refine Rg<|Yo (Lb 0 kk28 r)<|Bi fun R80 H81=>Fo (Cl [] spec_EngOk_c H81 r r1 ⟨(Oc 1 r),(Oc 2 r),(Oc 3 r),⟨⟩⟩) fun _=>Qs 2 r<|It (fun H83=>Of 7 (beq_tf H83) r r<|Yo (Pt H83 r)<|Nl<|Bg () [0,0,0,0,0,0]) fun H83=>Yg (gdA (beq_ff H83)) (Lb 0 kk28 r)<|Yg (gdA (beq_ff H83)) (Fb kf28_2 r)<|Yg (gdA (beq_ff H83)) (Lb 0 kk3 r)<|Bi fun R84 H85=>Fg (gdA (beq_ff H83)) (Cl [] impl_EngMap_c H85 r r1 ⟨(Oc 1 r),(Oc 2 r),(Oc 3 r),⟨⟩⟩) fun Y86=>Qg 1 (beq_ff H83) r r<|Bi fun R87 H88=>Fg (gdA (beq_ff H83)) (Cl [] laws_sameMap_c H88 r r1 ⟨(Oc 0 r),(Cj 5 0 r),⟨⟩⟩) fun _=>?_
     exact Qg 1 (beq_ff H83) r r<|Yo (Pf H83 r)<|Nl<|Bg () [1,1,1,1,1,1]
    refine Ne<|Wc r (fun H90=>Sr<|Qs 1 r<|Nx<|Wr<|Tr<|Br<|Tr<|Er<|Br<|Jd<|Tr<|Re () []) fun H90=>Sn<|Sq<|Sr<|Qs 1 r<|Nx<|Ju [0,3,4,5,6,7] (fun _=>[]) r1 (?_) fun T93=>?_
    ·refine Wb<|Lu [0,3,4,5,6,7] (fun T=>[(25, iv T)]) r1 fun S91=>Sq<|Sr<|Qs 2 r<|Yo (Ln ke26 (Oc 5 r) r)<|Qs 1 r<|Nx<|Wc r (fun H95=>?_) fun H95=>?_
     ·refine Sn<|Sq<|Wb<|Sq<|Wi fun E96 H97=>Wi fun R98 H99=>Wi fun E101 H102=>Wi fun R104 H105=>Jw Unit [0,3,4,5,6,7,25] [0,0,0,0,0,0] (fun _=>[(145, .bool (!R104))]) (fun _=>[]) r1 r1 (?_) fun X108=>?_
      ·refine Dr [0,0,0,0,1] r hMix<|Ay 0 [0,0,0,0,1] r (Lb 0 kk28 r)<|Aq [1,2] [0,0,0,0,1] r<|Ay 3 [0,0,0,0,1] r (Ix ke26 (Oc 4 r) H97 r)<|Ay 4 [0,0,0,0,1] r (Le kk3 (Oc 4 r) H97 r)<|Aq [6,7] [0,0,0,0,1] r<|A2 5 8 (?_)<|?_
       ·exact Xe [1,1,1,1,2] r (Cl [] impl_EngMap_c H99 r r1 ⟨(Oc 1 r),(Oc 2 r),(Oc 3 r),⟨⟩⟩) fun Y109=>A1 8<|Xy [1,1,1,1,2] r (Ix ke30 (Cw' 5 r) H102 r)<|A1 9<|Xe [2,2,2,2,2] r (Ls [5] kk29 H102 r) fun V110=>A1 10<|Xe [2,2,2,2,2] r (Cl [] laws_sameMap_c H105 r r1 ⟨(Oc 1 r),(Cj 0 0 r),⟨⟩⟩) fun _=>Aq [11] [2,2,2,2,2] r<|Az<|Ke (Sd [0] r)<|Bg () [2,2,2,2,0,1]
       refine Xy [0,0,0,0,1] r (Ix ke30 (Cw' 4 r) H102 r)<|A2 5 9 (?_)<|?_
       ·exact Xe [1,1,1,1,2] r (Cl [] impl_EngMap_c H99 r r1 ⟨(Oc 1 r),(Oc 2 r),(Oc 3 r),⟨⟩⟩) fun Y110=>A1 9<|Xe [2,2,2,2,2] r (Ls [5] kk29 H102 r) fun V112=>A1 10<|Xe [2,2,2,2,2] r (Cl [] laws_sameMap_c H105 r r1 ⟨(Oc 1 r),(Cj 0 0 r),⟨⟩⟩) fun _=>Aq [11] [2,2,2,2,2] r<|Az<|Ke (Sd [0] r)<|Bg () [2,2,2,2,0,1]
       exact Xe [1,1,1,1,1] r (Ls [4] kk29 H102 r) fun V111=>A1 5<|Xe [2,2,2,2,2] r (Cl [] impl_EngMap_c H99 r r1 ⟨(Oc 2 r),(Oc 3 r),(Oc 4 r),⟨⟩⟩) fun Y112=>A1 10<|Xe [2,2,2,2,2] r (Cl [] laws_sameMap_c H105 r r1 ⟨(Oc 0 r),(Cj 1 0 r),⟨⟩⟩) fun _=>Aq [11] [2,2,2,2,2] r<|Az<|Ke (Sd [1] r)<|Bg () [2,2,2,2,0,1]
      exact Ne<|Wc r (fun H110=>Sr<|Qs 1 r<|Nx<|Wr<|Br<|Tr<|Er<|Br<|Jd<|Tr<|Br<|Tr<|Er<|Br<|Jd<|Tr<|Re () []) fun H110=>Sk<|Bn<|Ne<|Rg<|Qs 3 r<|Nl<|Lg () [0,0,0,0,0,0]
     exact Wx<|Tx<|Ex<|Be<|Jg () [0,0,0,0,0,0]
    refine Ne<|Sr<|Qs 1 r<|Nx<|Ju [0,3,4,5,6,7] (fun _=>[]) r1 (?_) fun T113=>?_
    ·refine Wb<|Lu [0,3,4,5,6,7] (fun T=>[(26, iv T)]) r1 fun S111=>Sq<|Sr<|Qs 2 r<|Yo (Ln ke29 (Cj 4 0 r) r)<|Qs 1 r<|Nx<|Wc r (fun H115=>?_) fun H115=>?_
     ·refine Sn<|Sq<|Wb<|Sq<|Dr [0,0,0,0,0,0] r hMix<|Ay 0 [0,0,0,0,0,0] r (Lb 0 kk28 r)<|Aq [1,2] [0,0,0,0,0,0] r<|Ai fun E116 H117=>Ay 3 [0,0,0,0,0,0] r (Ix ke29 (Cj 4 0 r) H117 r)<|Ay 4 [0,0,0,0,0,0] r (Fe kf49_0 (Cj 4 0 r) H117 r)<|Ay 5 [0,0,0,0,0,0] r (Le kk9 (Cj 4 0 r) H117 r)<|Ay 6 [0,0,0,0,0,0] r (Fb kf28_2 r)<|Ay 7 [0,0,0,0,0,0] r (Lb 0 kk3 r)<|Ai fun R118 H119=>A1 8<|Xe [0,0,0,0,0,0] r (Cl [] impl_EngGet_c H119 r r1 ⟨(Oc 1 r),(Oc 2 r),(Oc 3 r),⟨⟩⟩) fun _=>Aq [9,10,11,12,13] [0,0,0,0,0,0] r<|Az<|Ne<|Sq<|Jv [0,3,4,5,6,7,26] (fun T=>[(174, .bool T)]) r1 (?_) fun T121=>?_
      ·exact Rg<|Qs 3 r<|It (fun H123=>Of 7 (beq_tf H123) r r<|Yo (Pt H123 r)<|Nl<|Bg () [0,0,0,0,0,0]) fun H123=>Qg 3 (beq_ff H123) r r<|Yg (gdA (beq_ff H123)) (Ix ke29 (Cj 4 0 r) H117 r)<|Yg (gdA (beq_ff H123)) (Fe kf49_1 (Cj 4 0 r) H117 r)<|Yg (gdA (beq_ff H123)) (Le kk9 (Cj 4 0 r) H117 r)<|Qg 1 (beq_ff H123) r r<|Yo (Pf H123 r)<|Nl<|Bg () [0,0,0,0,0,0]
      exact Ne<|Wc r (fun H124=>Sr<|Qs 1 r<|Nx<|Wr<|Br<|Tr<|Er<|Br<|Jd<|Br<|Tr<|Er<|Br<|Jd<|Tr<|Re () []) fun H124=>Sk<|Bn<|Ne<|Rg<|Qs 3 r<|Nl<|Lg () [0,0,0,0,0,0]
     exact Wx<|Tx<|Ex<|Be<|Jg () [0,0,0,0,0,0]
    exact Bn<|Ne<|Rg<|Qs 3 r<|Nl<|Lg (X18.1, X18.2.1, X18.2.2.1, X18.2.2.2.1, X18.2.2.2.2.1, X18.2.2.2.2.2) [0,0,0,0,0,0]
   exact Wx<|Tx<|Ex<|Be<|Jg () []
  exact Ne<|Sr<|Qs 1 r<|Nx<|Wr<|Re () []
end Go.Proofs.YtkikmcdmklkdpaaGreat
