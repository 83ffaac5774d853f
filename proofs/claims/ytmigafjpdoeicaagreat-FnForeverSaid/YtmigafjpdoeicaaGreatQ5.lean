/-
  The functions that a law reaches, each as a pure function, with the proof that the program computes it, and the step from a pure law to the given statement. Conditions: none.
-/
import Derived.Test.YtmigafjpdoeicaaGreatQ4
set_option linter.unusedVariables false
set_option maxRecDepth 100000
set_option maxHeartbeats 4000000
namespace Go.Proofs.YtmigafjpdoeicaaGreat
open Go Sl
noncomputable def spec_l21CopyTens (l : List MTen) : Option (List MTen) :=
  bindC (loopO (fun (S2 : Int × List MTen) => if (decide (S2.1 < ((l.length : Nat) : Int))) = true then ((idx l S2.1).bind fun E7 =>
  (spec_l21CopyMap E7.Map).bind fun R12 =>
  bindC (loopO (fun (S16 : Int × List MSnap) => if (decide (S16.1 < ((E7.Snaps.length : Nat) : Int))) = true then ((idx E7.Snaps S16.1).bind fun E21 =>
  (spec_l21CopyMap E21.Map).bind fun R24 =>
  (app 32 S16.2 ([{ Seq := E21.Seq, Map := R24 : MSnap }])).bind fun E29 =>
  some (.go (IntKind.i64.wrap (S16.1 + (1 : Int)), E29)))
  else (some (.done (.go S16.2))))
  ((0 : Int), ([] : List MSnap)))
  (fun (T18 : List MSnap) => (app 72 S2.2 ([{ Id := E7.Id, Epoch := E7.Epoch, Seq := E7.Seq, Map := R12, Snaps := T18 : MTen }])).bind fun E33 =>
  some (.go (IntKind.i64.wrap (S2.1 + (1 : Int)), E33))))
  else (some (.done (.go S2.2))))
  ((0 : Int), ([] : List MTen)))
  (fun (T4 : List MTen) => some T4)
theorem spec_l21CopyTens_c {l : List MTen} {U0 : Value} : Cn Tryz.prog 136 [U0] [] [(U0, lc l)] (spec_l21CopyTens l) (fun _ (X : Value) => X) fun r X => [.own X (lc r)] := by
  unfold spec_l21CopyTens
  refine Ci Tryz.func136 r r ?_
  rintro w S ⟨Z0,-⟩
  refine Sr<|Qs 1 r<|Nx<|Sr<|Fo (Bk [] ke33 kz90 r (Qz)) fun B1=>Kt (Ha [0] ([] : List MTen) r Cz)<|Qs 1 r<|Nx<|Sq<|Sr<|Qs 1 r<|Nx<|Jn Value [] [] (fun _ X=>[(3, X)]) (fun T X=>[.own X (lc T)]) r2 r2 (?_) fun T4 X5=>?_
  ·refine Wb<|Lp Value [0] [] (fun T X=>[(3, X), (4, iv T.1)]) (fun T X=>[.own X (lc T.2)]) (.slice (some ⟨B1, 0, none⟩) 0 0) [0] r2 r2 fun S2 X3=>Sq<|Sr<|Qs 2 r<|Yo (Ln ke33 (Bc Z0) r)<|Qs 1 r<|Nx<|Wc r (fun H6=>?_) fun H6=>?_
   ·refine Sn<|Sq<|Wb<|Sr<|Qs 2 r<|Bi fun E7 H8=>Yo (Ix ke33 (Bc Z0) H8 r)<|?_
    have Q9 : Base w S (elv w U0 (S2.1.toNat * 5 + 3)) (lc E7.Map):=Base.el Z0 (idx_get H8).2.2 r r
    have Q10 : Base w S (elv w U0 (S2.1.toNat * 5 + 4)) (lc E7.Snaps):=Base.el Z0 (idx_get H8).2.2 r r
    refine Yo (Lz kk90 Z0 H8 r)<|Fo (Al kz90 r) fun B11=>Fu (Sb 0 kk90 r (Ca ⟨Op',Op',Op',Ob Q9,Ob Q10,⟨⟩⟩) r)<|Nx<|Sr<|Yo (Fb kf90_3 r)<|Yo (Lb 0 kk39 r)<|Bi fun R12 H13=>Fo (Cl [] spec_l21CopyMap_c H13 r r1 ⟨(Bc Q9),⟨⟩⟩) fun Y14=>Yo (Fb kf90_3 r)<|Fu (Sb 1 kk39 r (Co 0) r)<|Nx<|Sr<|Fo (Bk [] ke88 kz121 r (Qz)) fun B15=>Kt (Ha [0] ([] : List MSnap) r Cz)<|Qs 1 r<|Nx<|Sq<|Sr<|Qs 1 r<|Nx<|Jn Value [0,3,4,5] [2,2,1] (fun _ X=>[(6, X)]) (fun T X=>[.own X (lc T)]) r2 r2 (?_) fun T18 X19=>?_
    ·refine Wb<|Lp Value [0,3,4,5] [2,2,1] (fun T X=>[(6, X), (7, iv T.1)]) (fun T X=>[.own X (lc T.2)]) (.slice (some ⟨B15, 0, none⟩) 0 0) [2,2,1,0] r2 r2 fun S16 X17=>Sq<|Sr<|Qs 1 r<|Yo (Fb kf90_4 r)<|Yo (Lb 0 kk88 r)<|Yo (Ln ke88 (Bc Q10) r)<|Qs 1 r<|Nx<|Wc r (fun H20=>?_) fun H20=>?_
     ·refine Sn<|Sq<|Wb<|Dr [0,0,0] r hMix<|Aq [0] [0,0,0] r<|Ay 1 [0,0,0] r (Fb kf90_4 r)<|Ay 2 [0,0,0] r (Lb 0 kk88 r)<|Aq [3] [0,0,0] r<|Ai fun E21 H22=>Ay 4 [0,0,0] r (Ix ke88 (Bc Q10) H22 r)<|Ay 5 [0,0,0] r (Fe kf121_0 (Bc Q10) H22 r)<|Ay 6 [0,0,0] r (Le kk3 (Bc Q10) H22 r)<|Ay 7 [0,0,0] r (Fb kf90_4 r)<|Ay 8 [0,0,0] r (Lb 0 kk88 r)<|Aq [9] [0,0,0] r<|Ay 10 [0,0,0] r (Ix ke88 (Bc Q10) H22 r)<|Ay 11 [0,0,0] r (Fe kf121_1 (Bc Q10) H22 r)<|?_
      have Q23 : Base w S (elv w (elv w U0 (S2.1.toNat * 5 + 4)) (S16.1.toNat * 2 + 1)) (lc E21.Map):=Base.el Q10 (idx_get H22).2.2 r r
      exact Ay 12 [0,0,0] r (Lz kk39 Q10 H22 r)<|Ai fun R24 H25=>A1 13<|Xe [1,1,1] r (Cl [] spec_l21CopyMap_c H25 r r1 ⟨(Bc Q23),⟨⟩⟩) fun Y26=>A1 14<|Xy [1,1,1] r (Bd kp121 kz121 (Pc r (Cp r)<|Pc r (Co 0)<|Pz) r)<|A1 15<|Xe [2,2,2] r (Bk [ic E21.Seq, .raw Y26] ke88 kz121 r (Qc (Ca ⟨Op',Ow' 0,⟨⟩⟩)<|Qz)) fun B27=>Ka (Ha [0, 0] ([{ Seq := E21.Seq, Map := R24 : MSnap }] : List MSnap) r (Ck (Cf Cz)))<|Ai fun E29 H30=>A1 16<|Xe [1,1,1] r (Aw [4, 0] H30 ke88 kz121 r) fun V28=>Aq [17] [1,1,1] r<|Az<|Bn<|Ne<|Rg<|Qs 3 r<|Nl<|Lg V28 [1,1,1,0]
     exact Wx<|Tx<|Ex<|Be<|Jg X17 [0,0,0,0]
    exact Ne<|Sr<|Qs 1 r<|Yo (Fb kf90_4 r)<|Fu (Sb 0 kk88 r (Co 3) r)<|Nx<|Rg<|Qs 1 r<|Yo (Lb 0 kk90 r)<|Fo (Bk [ic E7.Id, ic E7.Epoch, ic E7.Seq, .raw Y14, .raw X19] ke33 kz90 r (Qc (Ca ⟨Op',Op',Op',Ow' 2,Ow' 3,⟨⟩⟩)<|Qz)) fun B31=>Kt (Ha [0, 2, 2] ([{ Id := E7.Id, Epoch := E7.Epoch, Seq := E7.Seq, Map := R12, Snaps := T18 : MTen }] : List MTen) r (Ck (Ck (Ck (Cf (Cf Cz))))))<|Bi fun E33 H34=>Fo (Aw [2, 0] H34 ke33 kz90 r) fun V32=>Qs 1 r<|Nl<|Bn<|Ne<|Rg<|Qs 3 r<|Nl<|Lg V32 [0]
   exact Wx<|Tx<|Ex<|Be<|Jg X3 [0]
  exact Ne<|Sr<|Qs 2 r<|Nx<|Wr<|Re X5 [0]
noncomputable def spec_l7Op (o : Op) : Option Bool :=
  ((spec_l1In ((o.Key.length : Nat) : Int) (1 : Int) (10 : Int)).bind fun R4 =>
  if R4 = true then (if (decide (((o.Val.length : Nat) : Int) ≤ (16 : Int))) = true then (if (!o.Del) = true then (some true)
  else (some (decide (o.Val = ([])))))
  else (some false))
  else (some false)).bind (fun (T2 : Bool) =>
  some T2)
theorem spec_l7Op_c {o : Op} : Cn Tryz.prog 173 [.agg #[strV o.Key, .bool o.Del, strV o.Val]] [] [] (spec_l7Op o) (fun r (_ : Unit) => .bool r) fun _ _ => [] := by
  unfold spec_l7Op
  refine Ci Tryz.func173 r r ?_
  rintro w S -
  refine Sr<|Fo (Bx r (Cp r)) fun B1=>Qs 1 r<|Nx<|Sq<|Jb Unit [] [] (fun T _=>[(2, .bool T)]) (fun _ _=>[]) r2 r2 (?_) fun T2 X3=>?_
  ·refine Rg<|Yo (Fb kf98_0 r)<|Yo (Lb 0 kk9 r)<|Yo (Y.slen ks9 r)<|Bi fun R4 H5=>Fo (Cl [] spec_l1In_c H5 r r1) fun _=>Qs 1 r<|It (fun H7=>?_) fun H7=>?_
   ·refine Yg (gdA (beq_tt H7)) (Fb kf98_2 r)<|Yg (gdA (beq_tt H7)) (Lb 0 kk9 r)<|Yg (gdA (beq_tt H7)) (Y.slen ks9 r)<|Qg 1 (beq_tt H7) r r<|Yo (Pt H7 r)<|Qs 1 r<|It (fun H8=>?_) fun H8=>?_
    ·exact Yg (gdA (beq_tt H8)) (Fb kf98_1 r)<|Yg (gdA (beq_tt H8)) (Lb 0 kk4 r)<|Qg 2 (beq_tt H8) r r<|It (fun H9=>Of 3 (beq_tf H9) r r<|Yg (gdA (beq_tt H8)) (Pt H9 r)<|Yo (Pt H8 r)<|Qs 1 r<|Nl<|Bg () []) fun H9=>Yg (gdA (beq_ff H9)) (Fb kf98_2 r)<|Yg (gdA (beq_ff H9)) (Lb 0 kk9 r)<|Qg 1 (beq_ff H9) r r<|Yg (gdA (beq_tt H8)) (Pf H9 r)<|Yo (Pt H8 r)<|Qs 1 r<|Nl<|Bg () []
    exact Of 4 (beq_ft H8) r r<|Ou 3 r r<|Of 1 (beq_ft H8) r r<|Yo (Pf H8 r)<|Qs 1 r<|Nl<|Bg () []
   exact Of 4 (beq_ft H7) r r<|Yo (Pf H7 r)<|Qs 1 r<|Of 4 r r r<|Ou 3 r r<|Of 1 r r r<|Yo (Pf r r)<|Qs 1 r<|Nl<|Bg () []
  exact Ne<|Wr<|Re () []
noncomputable def spec_MapOk (m : List KV) : Option Bool :=
  bindC (loopO (fun (S1 : Int) => if (decide (S1 < ((m.length : Nat) : Int))) = true then (((idx m S1).bind fun E8 =>
  (spec_l7Op ({ Key := E8.Key, Del := false, Val := E8.Val : Op })).bind fun R10 =>
  if (!R10) = true then (some true)
  else (if (decide (S1 > (0 : Int))) = true then ((idx m (IntKind.i64.wrap (S1 - (1 : Int)))).bind fun E15 =>
  some (!(sLt E15.Key E8.Key)))
  else (some false))).bind (fun (T6 : Bool) =>
  if T6 = true then (some (.done (.done false)))
  else (some (.go (IntKind.i64.wrap (S1 + (1 : Int)))))))
  else (some (.done (.go ()))))
  (0 : Int))
  (fun (T3 : Unit) => some true)
theorem spec_MapOk_c {m : List KV} {U0 : Value} : Cn Tryz.prog 144 [U0] [] [(U0, lc m)] (spec_MapOk m) (fun r (_ : Unit) => .bool r) fun _ _ => [] := by
  unfold spec_MapOk
  refine Ci Tryz.func144 r r ?_
  rintro w S ⟨Z0,-⟩
  refine Sr<|Qs 1 r<|Nx<|Sq<|Sr<|Qs 1 r<|Nx<|Ju [] (fun _=>[]) r1 (?_) fun T3=>?_
  ·refine Wb<|Lu [0] (fun T=>[(3, iv T)]) r1 fun S1=>Sq<|Sr<|Qs 2 r<|Yo (Ln ke39 (Bc Z0) r)<|Qs 1 r<|Nx<|Wc r (fun H5=>?_) fun H5=>?_
   ·refine Sn<|Sq<|Wb<|Sq<|Jv [0,3] (fun T=>[(40, .bool T)]) r1 (?_) fun T6=>?_
    ·refine Dr [] r hMix<|Aq [0,1] [] r<|Ai fun E8 H9=>Ay 2 [] r (Ix ke39 (Bc Z0) H9 r)<|Ay 3 [] r (Fe kf100_0 (Bc Z0) H9 r)<|Ay 4 [] r (Le kk9 (Bc Z0) H9 r)<|Aq [5,6] [] r<|Ay 7 [] r (Ix ke39 (Bc Z0) H9 r)<|Ay 8 [] r (Fe kf100_1 (Bc Z0) H9 r)<|Ay 9 [] r (Le kk9 (Bc Z0) H9 r)<|Ay 10 [] r (Bd kp98 kz98 (Pc r (Cp r)<|Pc r (Cp r)<|Pz) r)<|Ai fun R10 H11=>A1 11<|Xe [] r (Cl [] spec_l7Op_c H11 r r1) fun _=>Aq [12,13] [] r<|Ia (fun H13=>Ax [14,15,16] [] (beq_tf H13) r r<|Au [17,18,19,20,21,22,23,24,25,26,27,28] [] r r<|Ax [29] [] (beq_tf H13) r r<|Ay 30 [] r (Pt H13 r)<|Az<|Bg () []) fun H13=>?_
     refine Ag 14 [] (gdA (beq_ff H13)) r (Y.move r)<|Ag 15 [] (gdA (beq_ff H13)) r (Y.gtr r r)<|Ag 16 [] (gdA (beq_ff H13)) r (Y.move r)<|Ia (fun H14=>?_) fun H14=>?_
     ·exact Ag 17 [] (gdA (beq_tt H14)) r (Y.move r)<|Ag 18 [] (gdA (beq_tt H14)) r (Y.move r)<|Ag 19 [] (gdA (beq_tt H14)) r (Y.sub r r)<|Ai fun E15 H16=>Ag 20 [] (gdA (beq_tt H14)) r (Ix ke39 (Bc Z0) H16 r)<|Ag 21 [] (gdA (beq_tt H14)) r (Fe kf100_0 (Bc Z0) H16 r)<|Ag 22 [] (gdA (beq_tt H14)) r (Le kk9 (Bc Z0) H16 r)<|Ag 23 [] (gdA (beq_tt H14)) r (Y.move r)<|Ag 24 [] (gdA (beq_tt H14)) r (Y.move r)<|Ag 25 [] (gdA (beq_tt H14)) r (Ix ke39 (Bc Z0) H9 r)<|Ag 26 [] (gdA (beq_tt H14)) r (Fe kf100_0 (Bc Z0) H9 r)<|Ag 27 [] (gdA (beq_tt H14)) r (Le kk9 (Bc Z0) H9 r)<|Ag 28 [] (gdA (beq_tt H14)) r (Y.sgeq r r)<|Ag 29 [] (gdA (beq_ff H13)) r (Pt H14 r)<|Ay 30 [] r (Pf H13 r)<|Az<|Bg () []
     exact Ax [17,18,19,20,21,22,23,24,25,26,27,28] [] (beq_ft H14) r r<|Ag 29 [] (gdA (beq_ff H13)) r (Pf H14 r)<|Ay 30 [] r (Pf H13 r)<|Az<|Bg () []
    exact Ne<|Wc r (fun H17=>Sr<|Qs 1 r<|Nx<|Wr<|Br<|Tr<|Er<|Br<|Jd<|Tr<|Re () []) fun H17=>Sk<|Bn<|Ne<|Rg<|Qs 3 r<|Nl<|Lg () []
   exact Wx<|Tx<|Ex<|Be<|Jg () []
  exact Ne<|Sr<|Qs 1 r<|Nx<|Wr<|Re () []
noncomputable def spec_BatchOk (l : List Op) : Option Bool :=
  (spec_l1In ((l.length : Nat) : Int) (1 : Int) (6 : Int)).bind fun R1 =>
  if (!R1) = true then (some false)
  else (bindC (loopO (fun (S5 : Int) => if (decide (S5 < ((l.length : Nat) : Int))) = true then ((idx l S5).bind fun E10 =>
  (spec_l7Op E10).bind fun R12 =>
  if (!R12) = true then (some (.done (.done false)))
  else (some (.go (IntKind.i64.wrap (S5 + (1 : Int))))))
  else (some (.done (.go ()))))
  (0 : Int))
  (fun (T7 : Unit) => some true))
theorem spec_BatchOk_c {l : List Op} {U0 : Value} : Cn Tryz.prog 170 [U0] [] [(U0, lc l)] (spec_BatchOk l) (fun r (_ : Unit) => .bool r) fun _ _ => [] := by
  unfold spec_BatchOk
  refine Ci Tryz.func170 r r ?_
  rintro w S ⟨Z0,-⟩
  refine Sr<|Qs 1 r<|Nx<|Sq<|Sr<|Qs 1 r<|Yo (Ln ke44 (Bc Z0) r)<|Bi fun R1 H2=>Fo (Cl [] spec_l1In_c H2 r r1) fun _=>Qs 1 r<|Nx<|Wc r (fun H4=>Sr<|Qs 1 r<|Nx<|Wr<|Tr<|Re () []) fun H4=>Sn<|Sq<|Sr<|Qs 1 r<|Nx<|Ju [] (fun _=>[]) r1 (?_) fun T7=>?_
  ·refine Wb<|Lu [0] (fun T=>[(3, iv T)]) r1 fun S5=>Sq<|Sr<|Qs 2 r<|Yo (Ln ke44 (Bc Z0) r)<|Qs 1 r<|Nx<|Wc r (fun H9=>?_) fun H9=>?_
   ·exact Sn<|Sq<|Wb<|Sr<|Qs 2 r<|Bi fun E10 H11=>Yo (Ix ke44 (Bc Z0) H11 r)<|Yo (Le kk98 (Bc Z0) H11 r)<|Bi fun R12 H13=>Fo (Cl [] spec_l7Op_c H13 r r1) fun _=>Qs 1 r<|Nx<|Wc r (fun H15=>Sr<|Qs 1 r<|Nx<|Wr<|Br<|Tr<|Er<|Br<|Jd<|Tr<|Re () []) fun H15=>Sk<|Bn<|Ne<|Rg<|Qs 3 r<|Nl<|Lg () []
   exact Wx<|Tx<|Ex<|Be<|Jg () []
  exact Ne<|Sr<|Qs 1 r<|Nx<|Wr<|Re () []
noncomputable def spec_l7Put (m : List KV) (o : Op) : Option (List KV) :=
  bindC (loopO (fun (S3 : Bool × Int × List KV) => if (decide (S3.2.1 < ((m.length : Nat) : Int))) = true then ((if (!S3.1) = true then ((idx m S3.2.1).bind fun E11 =>
  some (!(sLt E11.Key o.Key)))
  else (some false)).bind (fun (T8 : Bool) =>
  bindC (if T8 = true then ((app 32 S3.2.2 ([{ Key := o.Key, Val := o.Val : KV }])).bind fun E18 =>
  some (.go (true, E18)))
  else (some (.go (S3.1, S3.2.2))))
  (fun (T13 : Bool × List KV) => (idx m S3.2.1).bind fun E20 =>
  bindC (if (!(decide (E20.Key = o.Key))) = true then ((app 32 T13.2 ([E20])).bind fun E27 =>
  some (.go E27))
  else (some (.go T13.2)))
  (fun (T22 : List KV) => some (.go (T13.1, IntKind.i64.wrap (S3.2.1 + (1 : Int)), T22))))))
  else (some (.done (.go (S3.1, S3.2.2)))))
  (o.Del, (0 : Int), ([] : List KV)))
  (fun (T5 : Bool × List KV) => bindC (if (!T5.1) = true then ((app 32 T5.2 ([{ Key := o.Key, Val := o.Val : KV }])).bind fun E34 =>
  some (.go E34))
  else (some (.go T5.2)))
  (fun (T29 : List KV) => some T29))
theorem spec_l7Put_c {m : List KV} {o : Op} {U0 : Value} : Cn Tryz.prog 171 [U0, .agg #[strV o.Key, .bool o.Del, strV o.Val]] [] [(U0, lc m)] (spec_l7Put m o) (fun _ (X : Value) => X) fun r X => [.own X (lc r)] := by
  unfold spec_l7Put
  refine Ci Tryz.func171 r r ?_
  rintro w S ⟨Z0,-⟩
  refine Sr<|Fo (Bx r (Cp r)) fun B1=>Qs 1 r<|Nx<|Sr<|Fo (Bs ([] : List KV) ke39 kz100) fun B2=>Qs 1 r<|Nx<|Sr<|Yo (Fb kf98_1 r)<|Yo (Lb 1 kk4 r)<|Qs 1 r<|Nx<|Sq<|Sr<|Qs 1 r<|Nx<|Jn Value [3] [1] (fun T X=>[(5, X), (6, .bool T.1)]) (fun T X=>[.own X (lc T.2)]) r2 r2 (?_) fun T5 X6=>?_
  ·refine Wb<|Lp Value [0,3] [1] (fun T X=>[(5, X), (6, .bool T.1), (7, iv T.2.1)]) (fun T X=>[.own X (lc T.2.2)]) (.slice (some ⟨B2, 0, none⟩) 0 0) [1,0] r2 r2 fun S3 X4=>Sq<|Sr<|Qs 2 r<|Yo (Ln ke39 (Bc Z0) r)<|Qs 1 r<|Nx<|Wc r (fun H7=>?_) fun H7=>?_
   ·refine Sn<|Sq<|Wb<|Sq<|Sq<|Jv [0,3,5,6,7] (fun T=>[(28, .bool T)]) r1 (?_) fun T8=>?_
    ·refine Dr [0,0] r hMix<|Aq [0,1,2] [0,0] r<|Ia (fun H10=>?_) fun H10=>?_
     ·exact Ag 3 [0,0] (gdA (beq_tt H10)) r (Y.move r)<|Ag 4 [0,0] (gdA (beq_tt H10)) r (Y.move r)<|Ai fun E11 H12=>Ag 5 [0,0] (gdA (beq_tt H10)) r (Ix ke39 (Bc Z0) H12 r)<|Ag 6 [0,0] (gdA (beq_tt H10)) r (Fe kf100_0 (Bc Z0) H12 r)<|Ag 7 [0,0] (gdA (beq_tt H10)) r (Le kk9 (Bc Z0) H12 r)<|Ag 8 [0,0] (gdA (beq_tt H10)) r (Fb kf98_0 r)<|Ag 9 [0,0] (gdA (beq_tt H10)) r (Lb 0 kk9 r)<|Ag 10 [0,0] (gdA (beq_tt H10)) r (Y.sgeq r r)<|Ay 11 [0,0] r (Pt H10 r)<|Az<|Bg () [0,0]
     exact Ax [3,4,5,6,7,8,9,10] [0,0] (beq_ft H10) r r<|Ay 11 [0,0] r (Pf H10 r)<|Az<|Bg () [0,0]
    refine Ne<|Jn Value [0,3,7] [0] (fun T X=>[(5, X), (6, .bool T.1)]) (fun T X=>[.own X (lc T.2)]) r2 r2 (?_) fun T13 X14=>?_
    ·refine Wc r (fun H15=>?_) fun H15=>?_
     ·exact Sr<|Qs 1 r<|Yo (Fb kf98_0 r)<|Yo (Lb 0 kk9 r)<|Yo (Fb kf98_2 r)<|Yo (Lb 0 kk9 r)<|Yo (Bd kp100 kz100 (Pc r (Cp r)<|Pc r (Cp r)<|Pz) r)<|Fo (Bs [{ Key := o.Key, Val := o.Val : KV }] ke39 kz100) fun B16=>Bi fun E18 H19=>Fo (Ap [2] H19 ke39 kz100 r (Oc 0 r)) fun V17=>Qs 1 r<|Nx<|Rg<|Qs 1 r<|Nl<|Jg V17 [2,0]
     exact Sk<|Jg X4 [0,0]
    refine Ne<|Sq<|Dr [0,0] r hMix<|Aq [0,1] [0,0] r<|Ai fun E20 H21=>Ay 2 [0,0] r (Ix ke39 (Bc Z0) H21 r)<|Ay 3 [0,0] r (Fe kf100_0 (Bc Z0) H21 r)<|Ay 4 [0,0] r (Le kk9 (Bc Z0) H21 r)<|Ay 5 [0,0] r (Fb kf98_0 r)<|Ay 6 [0,0] r (Lb 0 kk9 r)<|Aq [7] [0,0] r<|Az<|Ne<|Jn Value [0,3,6,7] [0] (fun _ X=>[(5, X)]) (fun T X=>[.own X (lc T)]) r2 r2 (Wc r (fun H24=>Rg<|Qs 3 r<|Yo (Ix ke39 (Bc Z0) H21 r)<|Yo (Le kk100 (Bc Z0) H21 r)<|Fo (Bs [E20] ke39 kz100) fun B25=>Bi fun E27 H28=>Fo (Ap [2] H28 ke39 kz100 r (Oc 0 r)) fun V26=>Qs 1 r<|Nl<|Jg V26 [2,0]) fun H24=>Sk<|Jg X14 [0,0]) fun T22 X23=>?_
    exact Bn<|Ne<|Rg<|Qs 3 r<|Nl<|Lg X23 [0,0]
   exact Wx<|Tx<|Ex<|Be<|Jg X4 [0,0]
  refine Ne<|Sq<|Sr<|Qs 2 r<|Nx<|Jn Value [] [] (fun _ X=>[(5, X)]) (fun T X=>[.own X (lc T)]) r2 r2 (?_) fun T29 X30=>?_
  ·refine Wc r (fun H31=>?_) fun H31=>?_
   ·exact Rg<|Qs 1 r<|Yo (Fb kf98_0 r)<|Yo (Lb 0 kk9 r)<|Yo (Fb kf98_2 r)<|Yo (Lb 0 kk9 r)<|Yo (Bd kp100 kz100 (Pc r (Cp r)<|Pc r (Cp r)<|Pz) r)<|Fo (Bs [{ Key := o.Key, Val := o.Val : KV }] ke39 kz100) fun B32=>Bi fun E34 H35=>Fo (Ap [2] H35 ke39 kz100 r (Oc 0 r)) fun V33=>Qs 1 r<|Nl<|Jg V33 [0]
   exact Sk<|Jg X6 [1]
  exact Ne<|Sr<|Qs 2 r<|Nx<|Wr<|Re X30 [0]
noncomputable def spec_ApplyBatch (m : List KV) (l : List Op) : Option (List KV × Bool) :=
  (spec_MapOk m).bind fun R1 =>
  if (!R1) = true then (some (([] : List KV), false))
  else ((app 32 ([] : List KV) m).bind fun E8 =>
  (spec_BatchOk l).bind fun R10 =>
  if (!R10) = true then (some (E8, false))
  else (bindC (loopO (fun (S14 : Int × List KV) => if (decide (S14.1 < ((l.length : Nat) : Int))) = true then ((idx l S14.1).bind fun E19 =>
  (spec_l7Put S14.2 E19).bind fun R21 =>
  some (.go (IntKind.i64.wrap (S14.1 + (1 : Int)), R21)))
  else (some (.done (.go S14.2))))
  ((0 : Int), E8))
  (fun (T16 : List KV) => some (T16, true))))
theorem spec_ApplyBatch_c {m : List KV} {l : List Op} {U0 U1 : Value} : Cn Tryz.prog 137 [U0, U1] [] [(U0, lc m), (U1, lc l)] (spec_ApplyBatch m l) (fun r (X : Value) => .tuple #[X, .bool r.2]) fun r X => [.own X (lc r.1)] := by
  unfold spec_ApplyBatch
  refine Ci Tryz.func137 r r ?_
  rintro w S ⟨Z0,Z1,-⟩
  refine Sr<|Qs 2 r<|Nx<|Sq<|Sr<|Qs 1 r<|Bi fun R1 H2=>Fo (Cl [] spec_MapOk_c H2 r r1 ⟨(Bc Z0),⟨⟩⟩) fun _=>Qs 1 r<|Nx<|Wc r (fun H4=>Sr<|Fo (Bs ([] : List KV) ke39 kz100) fun B5=>Qs 2 r<|Nx<|Wr<|Tr<|Re (.slice (some ⟨B5, 0, none⟩) 0 0) [0]) fun H4=>Sn<|Sr<|Fo (Bs ([] : List KV) ke39 kz100) fun B6=>Qs 1 r<|Bi fun E8 H9=>Fo (Ap [0] H9 ke39 kz100 r (Bc Z0)) fun V7=>Qs 1 r<|Nx<|Sq<|Sr<|Qs 1 r<|Bi fun R10 H11=>Fo (Cl [] spec_BatchOk_c H11 r r1 ⟨(Bc Z1),⟨⟩⟩) fun _=>Qs 1 r<|Nx<|Wc r (fun H13=>Sr<|Qs 3 r<|Nx<|Wr<|Tr<|Re V7 [0]) fun H13=>?_
  refine Sn<|Sq<|Sr<|Qs 1 r<|Nx<|Jn Value [] [] (fun _ X=>[(6, X)]) (fun T X=>[.own X (lc T)]) r2 r2 (?_) fun T16 X17=>?_
  ·exact Wb<|Lp Value [1] [] (fun T X=>[(6, X), (7, iv T.1)]) (fun T X=>[.own X (lc T.2)]) V7 [0] r2 r2 fun S14 X15=>Sq<|Sr<|Qs 2 r<|Yo (Ln ke44 (Bc Z1) r)<|Qs 1 r<|Nx<|Wc r (fun H18=>Sn<|Sq<|Wb<|Rg<|Qs 3 r<|Bi fun E19 H20=>Yo (Ix ke44 (Bc Z1) H20 r)<|Yo (Le kk98 (Bc Z1) H20 r)<|Bi fun R21 H22=>Fo (Cl [] spec_l7Put_c H22 r r1 ⟨(Oc 0 r),⟨⟩⟩) fun Y23=>Qs 1 r<|Nl<|Bn<|Ne<|Rg<|Qs 3 r<|Nl<|Lg Y23 [0]) fun H18=>Wx<|Tx<|Ex<|Be<|Jg X15 [0]
  exact Ne<|Sr<|Qs 3 r<|Nx<|Wr<|Re X17 [0]
noncomputable def spec_l21Crash (m : Model) (n : Int) : Option Model :=
  bindC (loopO (fun (S4 : Int × Int × List (Option MRow) × List MRow) => if (decide (S4.2.1 < ((S4.2.2.1.length : Nat) : Int))) = true then (bindC ((idx S4.2.2.1 S4.2.1).bind fun E11 =>
  (E11).bind fun E14 =>
  bindC (if (!E14.Synced) = true then (if (decide (S4.1 < (1 : Int))) = true then (some (.done (.go (S4.1, S4.2.2.1, S4.2.2.2))))
  else (some (.go (IntKind.i64.wrap (S4.1 - (1 : Int))))))
  else (some (.go S4.1)))
  (fun (T18 : Int) => (app 40 S4.2.2.2 ([{ Tenant := E14.Tenant, Ops := E14.Ops, Synced := true : MRow }])).bind fun E24 =>
  some (.go (T18, (S4.2.2.1.set S4.2.1.toNat none), E24))))
  (fun (T9 : Int × List (Option MRow) × List MRow) => some (.go (T9.1, IntKind.i64.wrap (S4.2.1 + (1 : Int)), T9.2.1, T9.2.2))))
  else (some (.done (.go (S4.2.2.1, S4.2.2.2)))))
  (n, (0 : Int), (m.Rows.map some), ([] : List MRow)))
  (fun (T6 : List (Option MRow) × List MRow) => (spec_l21CopyTens m.Base).bind fun R26 =>
  bindC (loopO (fun (S29 : Int × List MTen) => if (decide (S29.1 < ((T6.2.length : Nat) : Int))) = true then ((idx T6.2 S29.1).bind fun E34 =>
  (spec_l21At S29.2 E34.Tenant).bind fun R36 =>
  bindC (if (decide (R36 ≥ (0 : Int))) = true then ((idx S29.2 R36).bind fun E42 =>
  (spec_ApplyBatch E42.Map E34.Ops).bind fun R48 =>
  some (.go (S29.2.set R36.toNat ({ Id := E42.Id, Epoch := E42.Epoch, Seq := IntKind.i64.wrap (E42.Seq + (1 : Int)), Map := R48.1, Snaps := E42.Snaps : MTen }))))
  else (some (.go S29.2)))
  (fun (T39 : List MTen) => some (.go (IntKind.i64.wrap (S29.1 + (1 : Int)), T39))))
  else (some (.done (.go S29.2))))
  ((0 : Int), R26))
  (fun (T31 : List MTen) => some ({ Secret := m.Secret, Shares := m.Shares, Tens := T31, Base := m.Base, Rows := T6.2 : Model })))
theorem spec_l21Crash_c {m : Model} {n : Int} {U0 U1 U2 U3 : Value} : Cn Tryz.prog 87 [.agg #[strV m.Secret, iv m.Shares.Size, U0, U1, U2, U3], iv n] [.own U0 (lc m.Shares.List), .own U2 (lc m.Base), .own U3 (lc m.Rows)] [(U1, lc m.Tens)] (spec_l21Crash m n) (fun r (X : Value × Value × Value × Value) => .agg #[strV r.Secret, iv r.Shares.Size, X.1, X.2.1, X.2.2.1, X.2.2.2]) fun r X => [.own X.1 (lc r.Shares.List), .own X.2.1 (lc r.Tens), .own X.2.2.1 (lc r.Base), .own X.2.2.2 (lc r.Rows)] := by
  unfold spec_l21Crash
  refine Ci Tryz.func87 r r ?_
  rintro w S ⟨Z0,-⟩
  refine Sr<|Fo (Bx r (Ca ⟨Op',Op',Ow' 0,Ob Z0,Ow' 1,Ow' 2,⟨⟩⟩)) fun B1=>Fo (Al kz36 r) fun B2=>Nx<|Sr<|Fo (Bk [] ke34 kz95 r (Qz)) fun B3=>Kt (Ha [0] ([] : List MRow) r Cz)<|Qs 1 r<|Nx<|Sq<|Sr<|Qs 1 r<|Nx<|Jn Value [2,4] [2,1,1,1] (fun _ X=>[(5, X)]) (fun T X=>[.own U3 (lc T.1), .own X (lc T.2)]) r2 r2 (?_) fun T6 X7=>?_
  ·refine Wb<|Kw (Hm [5] r)<|Lp Value [2,4] [3,2,2,2] (fun T X=>[(1, iv T.1), (5, X), (6, iv T.2.1)]) (fun T X=>[.own U3 (lc T.2.2.1), .own X (lc T.2.2.2)]) (.slice (some ⟨B3, 0, none⟩) 0 0) [3,2,2,2,0,0] r2 r2 fun S4 X5=>Sq<|Sr<|Qs 1 r<|Yo (Fb kf36_4 r)<|Yo (Lb 0 kk34 r)<|Yo (Ln ke34 (Oc 4 r) r)<|Qs 1 r<|Nx<|Wc r (fun H8=>?_) fun H8=>?_
   ·refine Sn<|Sq<|Jn Value [2,4,6] [0,0,0,0] (fun T X=>[(1, iv T.1), (5, X)]) (fun T X=>[.own U3 (lc T.2.1), .own X (lc T.2.2)]) r2 r2 (?_) fun T9 X10=>?_
    ·refine Wb<|Sr<|Yo (Fb kf36_4 r)<|Yo (Lb 0 kk34 r)<|Qs 1 r<|Bi fun E11 H12=>Yo (Ix ke34 (Oc 4 r) H12 r)<|TO.fact (ptr_of (Can.own 4 r) H12) fun H13=>Bi fun E14 H15=>Gt (X := Value) (Ho 1 [4] (idx_opt H12 H15) r r1) fun X16=>Yo (Lh 0 kk95 (idx_opt H12 H15) r)<|Fo (Al kz95 r) fun B17=>Fu (Sb 0 kk95 r (Ca ⟨Op',Ow' 2,Op',⟨⟩⟩) r)<|Nx<|Sq<|Sr<|Yo (Fb kf95_2 r)<|Yo (Lb 0 kk4 r)<|Qs 1 r<|Nx<|Ju [2,4,5,6,7] (fun T=>[(1, iv T)]) r1 (Wc r (fun H20=>Sq<|Sr<|Qs 2 r<|Nx<|Wc r (fun H21=>Wx<|Tx<|Jd<|Tx<|Be<|Ke (Hs [1, 1] (idx_opt H12 H15) r (Ck (Cf (Ck Cz))))<|Jg X5 [2,2,2,2,0,1]) fun H21=>Sn<|Rg<|Qs 3 r<|Nl<|Jg () [0,0,0,0,0,0,0,0]) fun H20=>Sk<|Jg () [0,0,0,0,0,0,0,0]) fun T18=>?_
     exact Ne<|Sr<|Yo (Fb kf95_2 r)<|Fu (Sb 0 kk4 r (Cp r) r)<|Nx<|Rg<|Qs 1 r<|Yo (Lb 0 kk95 r)<|Fo (Bk [ic E14.Tenant, .raw X16, .bool true] ke34 kz95 r (Qc (Ca ⟨Op',Ow' 2,Op',⟨⟩⟩)<|Qz)) fun B22=>Kt (Ha [0, 2] ([{ Tenant := E14.Tenant, Ops := E14.Ops, Synced := true : MRow }] : List MRow) r (Ck (Cf (Ck Cz))))<|Bi fun E24 H25=>Fo (Aw [7, 0] H25 ke34 kz95 r) fun V23=>Qs 1 r<|Nl<|Bn<|Ke (Hc (α := (Option MRow)) [2] none (idx_opt H12 H15) r (Cd (Cd (Cd Cz))))<|Jg V23 [3,3,3,3,0,0]
    exact Ne<|Rg<|Qs 3 r<|Nl<|Lg X10 [0,0,0,0,0,0]
   exact Wx<|Tx<|Ex<|Be<|Jg X5 [0,0,0,0,0,0]
  refine Ne<|Sr<|Qs 1 r<|Yo (Fb kf36_4 r)<|Fu (Sb 0 kk34 r (Co 5) r)<|Nx<|Sr<|Yo (Fb kf36_3 r)<|Yo (Lb 0 kk33 r)<|Bi fun R26 H27=>Fo (Cl [] spec_l21CopyTens_c H27 r r1 ⟨(Oc 3 r),⟨⟩⟩) fun Y28=>Yo (Fb kf36_2 r)<|Fu (Sb 1 kk33 r (Co 0) r)<|Nx<|Sq<|Sr<|Qs 1 r<|Nx<|Jn Unit [2,4] [1,1,1,1,2] (fun _ _=>[]) (fun T _=>[.own Y28 (lc T)]) r2 r2 (?_) fun T31 X32=>?_
  ·refine Wb<|Lp Unit [2,4,5] [1,1,1,1,2] (fun T _=>[(8, iv T.1)]) (fun T _=>[.own Y28 (lc T.2)]) () [1,1,1,1,2,0] r2 r2 fun S29 X30=>Sq<|Sr<|Qs 2 r<|Yo (Ln ke34 (Oc 4 r) r)<|Qs 1 r<|Nx<|Wc r (fun H33=>?_) fun H33=>?_
   ·refine Sn<|Sq<|Wb<|Sq<|Dr [0,0,0,0,0,0] r hMix<|Ay 0 [0,0,0,0,0,0] r (Fb kf36_2 r)<|Ay 1 [0,0,0,0,0,0] r (Lb 0 kk33 r)<|Aq [2,3] [0,0,0,0,0,0] r<|Ai fun E34 H35=>Ay 4 [0,0,0,0,0,0] r (Ix ke34 (Oc 4 r) H35 r)<|Ay 5 [0,0,0,0,0,0] r (Fe kf95_0 (Oc 4 r) H35 r)<|Ay 6 [0,0,0,0,0,0] r (Le kk3 (Oc 4 r) H35 r)<|Ai fun R36 H37=>A1 7<|Xe [0,0,0,0,0,0] r (Cl [] spec_l21At_c H37 r r1 ⟨(Oc 5 r),⟨⟩⟩) fun _=>Aq [8] [0,0,0,0,0,0] r<|Az<|Ne<|Sr<|Qs 2 r<|Nx<|Jn Unit [2,4,5,8] [0,0,0,0,0] (fun _ _=>[]) (fun T _=>[.own Y28 (lc T)]) r2 r2 (?_) fun T39 X40=>?_
    ·refine Wc r (fun H41=>?_) fun H41=>?_
     ·refine Sq<|Wi fun E42 H43=>Wi fun R48 H49=>Jw Value [2,4,5,8,9] [0,0,0,2,0,0] (fun X=>[(10, X)]) (fun X=>[.own X (lc R48.1)]) r1 r1 (?_) fun X52=>?_
      ·refine Dr [0,0,0,0] r hMix<|Ay 0 [0,0,0,0] r (Fb kf36_2 r)<|Ay 1 [0,0,0,0] r (Lb 0 kk33 r)<|Aq [2,6,7] [0,0,0,0] r<|A2 3 8 (?_)<|?_
       ·refine Xy [0,0,0,0] r (Ix ke33 (Oc 5 r) H43 r)<|A2 4 8 (?_)<|?_
        ·refine Xy [0,0,0,0] r (Fe kf90_3 (Oc 5 r) H43 r)<|Ga (X := Value × Value) (Ho 2 [5] H43 r r1) fun X54=>A2 5 8 (?_)<|?_
         ·exact Xy [3,3,3,3] r (Lh 0 kk39 H43 r)<|A1 8<|Xy [3,3,3,3] r (Ix ke34 (Oc 7 r) H35 r)<|A1 9<|Xy [3,3,3,3] r (Fe kf95_1 (Oc 7 r) H35 r)<|Ga (X := Value) (Ho 1 [7] H35 r r1) fun X56=>A1 10<|Xy [5,5,5,5] r (Lh 0 kk44 H35 r)<|A1 11<|Xe [6,6,6,6] r (Cl [] spec_ApplyBatch_c H49 r r1 ⟨(Oc 3 r),(Oc 1 r),⟨⟩⟩) fun Y57=>Aq [12,13,14,15,16] [6,6,6,6] r<|Az<|Ke (Hs [1, 1] H35 r (Ck (Cf (Ck Cz))))<|Ke (Hs [2, 2, 2] H43 r (Ck (Ck (Ck (Cf (Cf Cz))))))<|Bg Y57 [3,3,3,0,2,0,0]
         refine Xy [3,3,3,3] r (Ix ke34 (Oc 7 r) H35 r)<|A2 5 9 (?_)<|?_
         ·exact Xy [3,3,3,3] r (Lh 0 kk39 H43 r)<|A1 9<|Xy [3,3,3,3] r (Fe kf95_1 (Oc 7 r) H35 r)<|Ga (X := Value) (Ho 1 [7] H35 r r1) fun X56=>A1 10<|Xy [5,5,5,5] r (Lh 0 kk44 H35 r)<|A1 11<|Xe [6,6,6,6] r (Cl [] spec_ApplyBatch_c H49 r r1 ⟨(Oc 3 r),(Oc 1 r),⟨⟩⟩) fun Y57=>Aq [12,13,14,15,16] [6,6,6,6] r<|Az<|Ke (Hs [1, 1] H35 r (Ck (Cf (Ck Cz))))<|Ke (Hs [2, 2, 2] H43 r (Ck (Ck (Ck (Cf (Cf Cz))))))<|Bg Y57 [3,3,3,0,2,0,0]
         refine Xy [3,3,3,3] r (Fe kf95_1 (Oc 7 r) H35 r)<|Ga (X := Value) (Ho 1 [7] H35 r r1) fun X56=>A2 5 10 (?_)<|?_
         ·exact Xy [5,5,5,5] r (Lh 2 kk39 H43 r)<|A1 10<|Xy [5,5,5,5] r (Lh 0 kk44 H35 r)<|A1 11<|Xe [6,6,6,6] r (Cl [] spec_ApplyBatch_c H49 r r1 ⟨(Oc 3 r),(Oc 1 r),⟨⟩⟩) fun Y57=>Aq [12,13,14,15,16] [6,6,6,6] r<|Az<|Ke (Hs [1, 1] H35 r (Ck (Cf (Ck Cz))))<|Ke (Hs [2, 2, 2] H43 r (Ck (Ck (Ck (Cf (Cf Cz))))))<|Bg Y57 [3,3,3,0,2,0,0]
         exact Xy [5,5,5,5] r (Lh 0 kk44 H35 r)<|A1 5<|Xy [5,5,5,5] r (Lh 2 kk39 H43 r)<|A1 11<|Xe [6,6,6,6] r (Cl [] spec_ApplyBatch_c H49 r r1 ⟨(Oc 3 r),(Oc 1 r),⟨⟩⟩) fun Y57=>Aq [12,13,14,15,16] [6,6,6,6] r<|Az<|Ke (Hs [1, 1] H35 r (Ck (Cf (Ck Cz))))<|Ke (Hs [2, 2, 2] H43 r (Ck (Ck (Ck (Cf (Cf Cz))))))<|Bg Y57 [3,3,3,0,2,0,0]
        refine Xy [0,0,0,0] r (Ix ke34 (Oc 4 r) H35 r)<|A2 4 9 (?_)<|?_
        ·refine Xy [0,0,0,0] r (Fe kf90_3 (Oc 5 r) H43 r)<|Ga (X := Value × Value) (Ho 2 [5] H43 r r1) fun X54=>A2 5 9 (?_)<|?_
         ·exact Xy [3,3,3,3] r (Lh 0 kk39 H43 r)<|A1 9<|Xy [3,3,3,3] r (Fe kf95_1 (Oc 7 r) H35 r)<|Ga (X := Value) (Ho 1 [7] H35 r r1) fun X56=>A1 10<|Xy [5,5,5,5] r (Lh 0 kk44 H35 r)<|A1 11<|Xe [6,6,6,6] r (Cl [] spec_ApplyBatch_c H49 r r1 ⟨(Oc 3 r),(Oc 1 r),⟨⟩⟩) fun Y57=>Aq [12,13,14,15,16] [6,6,6,6] r<|Az<|Ke (Hs [1, 1] H35 r (Ck (Cf (Ck Cz))))<|Ke (Hs [2, 2, 2] H43 r (Ck (Ck (Ck (Cf (Cf Cz))))))<|Bg Y57 [3,3,3,0,2,0,0]
         refine Xy [3,3,3,3] r (Fe kf95_1 (Oc 7 r) H35 r)<|Ga (X := Value) (Ho 1 [7] H35 r r1) fun X56=>A2 5 10 (?_)<|?_
         ·exact Xy [5,5,5,5] r (Lh 2 kk39 H43 r)<|A1 10<|Xy [5,5,5,5] r (Lh 0 kk44 H35 r)<|A1 11<|Xe [6,6,6,6] r (Cl [] spec_ApplyBatch_c H49 r r1 ⟨(Oc 3 r),(Oc 1 r),⟨⟩⟩) fun Y57=>Aq [12,13,14,15,16] [6,6,6,6] r<|Az<|Ke (Hs [1, 1] H35 r (Ck (Cf (Ck Cz))))<|Ke (Hs [2, 2, 2] H43 r (Ck (Ck (Ck (Cf (Cf Cz))))))<|Bg Y57 [3,3,3,0,2,0,0]
         exact Xy [5,5,5,5] r (Lh 0 kk44 H35 r)<|A1 5<|Xy [5,5,5,5] r (Lh 2 kk39 H43 r)<|A1 11<|Xe [6,6,6,6] r (Cl [] spec_ApplyBatch_c H49 r r1 ⟨(Oc 3 r),(Oc 1 r),⟨⟩⟩) fun Y57=>Aq [12,13,14,15,16] [6,6,6,6] r<|Az<|Ke (Hs [1, 1] H35 r (Ck (Cf (Ck Cz))))<|Ke (Hs [2, 2, 2] H43 r (Ck (Ck (Ck (Cf (Cf Cz))))))<|Bg Y57 [3,3,3,0,2,0,0]
        refine Xy [0,0,0,0] r (Fe kf95_1 (Oc 4 r) H35 r)<|Ga (X := Value) (Ho 1 [4] H35 r r1) fun X54=>A2 4 10 (?_)<|?_
        ·refine Xy [2,2,2,2] r (Fe kf90_3 (Oc 6 r) H43 r)<|Ga (X := Value × Value) (Ho 2 [6] H43 r r1) fun X56=>A2 5 10 (?_)<|?_
         ·exact Xy [5,5,5,5] r (Lh 0 kk39 H43 r)<|A1 10<|Xy [5,5,5,5] r (Lh 3 kk44 H35 r)<|A1 11<|Xe [6,6,6,6] r (Cl [] spec_ApplyBatch_c H49 r r1 ⟨(Oc 1 r),(Oc 4 r),⟨⟩⟩) fun Y57=>Aq [12,13,14,15,16] [6,6,6,6] r<|Az<|Ke (Hs [1, 1, 1] H43 r (Ck (Ck (Ck (Cf (Cf Cz))))))<|Ke (Hs [2, 2] H35 r (Ck (Cf (Ck Cz))))<|Bg Y57 [3,3,3,1,2,0,0]
         exact Xy [5,5,5,5] r (Lh 3 kk44 H35 r)<|A1 5<|Xy [5,5,5,5] r (Lh 0 kk39 H43 r)<|A1 11<|Xe [6,6,6,6] r (Cl [] spec_ApplyBatch_c H49 r r1 ⟨(Oc 1 r),(Oc 4 r),⟨⟩⟩) fun Y57=>Aq [12,13,14,15,16] [6,6,6,6] r<|Az<|Ke (Hs [1, 1, 1] H43 r (Ck (Ck (Ck (Cf (Cf Cz))))))<|Ke (Hs [2, 2] H35 r (Ck (Cf (Ck Cz))))<|Bg Y57 [3,3,3,1,2,0,0]
        exact Xy [2,2,2,2] r (Lh 0 kk44 H35 r)<|A1 4<|Xy [2,2,2,2] r (Fe kf90_3 (Oc 6 r) H43 r)<|Ga (X := Value × Value) (Ho 2 [6] H43 r r1) fun X56=>A1 5<|Xy [5,5,5,5] r (Lh 0 kk39 H43 r)<|A1 11<|Xe [6,6,6,6] r (Cl [] spec_ApplyBatch_c H49 r r1 ⟨(Oc 1 r),(Oc 4 r),⟨⟩⟩) fun Y57=>Aq [12,13,14,15,16] [6,6,6,6] r<|Az<|Ke (Hs [1, 1, 1] H43 r (Ck (Ck (Ck (Cf (Cf Cz))))))<|Ke (Hs [2, 2] H35 r (Ck (Cf (Ck Cz))))<|Bg Y57 [3,3,3,1,2,0,0]
       refine Xy [0,0,0,0] r (Ix ke34 (Oc 4 r) H35 r)<|A2 3 9 (?_)<|?_
       ·refine Xy [0,0,0,0] r (Ix ke33 (Oc 5 r) H43 r)<|A2 4 9 (?_)<|?_
        ·refine Xy [0,0,0,0] r (Fe kf90_3 (Oc 5 r) H43 r)<|Ga (X := Value × Value) (Ho 2 [5] H43 r r1) fun X54=>A2 5 9 (?_)<|?_
         ·exact Xy [3,3,3,3] r (Lh 0 kk39 H43 r)<|A1 9<|Xy [3,3,3,3] r (Fe kf95_1 (Oc 7 r) H35 r)<|Ga (X := Value) (Ho 1 [7] H35 r r1) fun X56=>A1 10<|Xy [5,5,5,5] r (Lh 0 kk44 H35 r)<|A1 11<|Xe [6,6,6,6] r (Cl [] spec_ApplyBatch_c H49 r r1 ⟨(Oc 3 r),(Oc 1 r),⟨⟩⟩) fun Y57=>Aq [12,13,14,15,16] [6,6,6,6] r<|Az<|Ke (Hs [1, 1] H35 r (Ck (Cf (Ck Cz))))<|Ke (Hs [2, 2, 2] H43 r (Ck (Ck (Ck (Cf (Cf Cz))))))<|Bg Y57 [3,3,3,0,2,0,0]
         refine Xy [3,3,3,3] r (Fe kf95_1 (Oc 7 r) H35 r)<|Ga (X := Value) (Ho 1 [7] H35 r r1) fun X56=>A2 5 10 (?_)<|?_
         ·exact Xy [5,5,5,5] r (Lh 2 kk39 H43 r)<|A1 10<|Xy [5,5,5,5] r (Lh 0 kk44 H35 r)<|A1 11<|Xe [6,6,6,6] r (Cl [] spec_ApplyBatch_c H49 r r1 ⟨(Oc 3 r),(Oc 1 r),⟨⟩⟩) fun Y57=>Aq [12,13,14,15,16] [6,6,6,6] r<|Az<|Ke (Hs [1, 1] H35 r (Ck (Cf (Ck Cz))))<|Ke (Hs [2, 2, 2] H43 r (Ck (Ck (Ck (Cf (Cf Cz))))))<|Bg Y57 [3,3,3,0,2,0,0]
         exact Xy [5,5,5,5] r (Lh 0 kk44 H35 r)<|A1 5<|Xy [5,5,5,5] r (Lh 2 kk39 H43 r)<|A1 11<|Xe [6,6,6,6] r (Cl [] spec_ApplyBatch_c H49 r r1 ⟨(Oc 3 r),(Oc 1 r),⟨⟩⟩) fun Y57=>Aq [12,13,14,15,16] [6,6,6,6] r<|Az<|Ke (Hs [1, 1] H35 r (Ck (Cf (Ck Cz))))<|Ke (Hs [2, 2, 2] H43 r (Ck (Ck (Ck (Cf (Cf Cz))))))<|Bg Y57 [3,3,3,0,2,0,0]
        refine Xy [0,0,0,0] r (Fe kf95_1 (Oc 4 r) H35 r)<|Ga (X := Value) (Ho 1 [4] H35 r r1) fun X54=>A2 4 10 (?_)<|?_
        ·refine Xy [2,2,2,2] r (Fe kf90_3 (Oc 6 r) H43 r)<|Ga (X := Value × Value) (Ho 2 [6] H43 r r1) fun X56=>A2 5 10 (?_)<|?_
         ·exact Xy [5,5,5,5] r (Lh 0 kk39 H43 r)<|A1 10<|Xy [5,5,5,5] r (Lh 3 kk44 H35 r)<|A1 11<|Xe [6,6,6,6] r (Cl [] spec_ApplyBatch_c H49 r r1 ⟨(Oc 1 r),(Oc 4 r),⟨⟩⟩) fun Y57=>Aq [12,13,14,15,16] [6,6,6,6] r<|Az<|Ke (Hs [1, 1, 1] H43 r (Ck (Ck (Ck (Cf (Cf Cz))))))<|Ke (Hs [2, 2] H35 r (Ck (Cf (Ck Cz))))<|Bg Y57 [3,3,3,1,2,0,0]
         exact Xy [5,5,5,5] r (Lh 3 kk44 H35 r)<|A1 5<|Xy [5,5,5,5] r (Lh 0 kk39 H43 r)<|A1 11<|Xe [6,6,6,6] r (Cl [] spec_ApplyBatch_c H49 r r1 ⟨(Oc 1 r),(Oc 4 r),⟨⟩⟩) fun Y57=>Aq [12,13,14,15,16] [6,6,6,6] r<|Az<|Ke (Hs [1, 1, 1] H43 r (Ck (Ck (Ck (Cf (Cf Cz))))))<|Ke (Hs [2, 2] H35 r (Ck (Cf (Ck Cz))))<|Bg Y57 [3,3,3,1,2,0,0]
        exact Xy [2,2,2,2] r (Lh 0 kk44 H35 r)<|A1 4<|Xy [2,2,2,2] r (Fe kf90_3 (Oc 6 r) H43 r)<|Ga (X := Value × Value) (Ho 2 [6] H43 r r1) fun X56=>A1 5<|Xy [5,5,5,5] r (Lh 0 kk39 H43 r)<|A1 11<|Xe [6,6,6,6] r (Cl [] spec_ApplyBatch_c H49 r r1 ⟨(Oc 1 r),(Oc 4 r),⟨⟩⟩) fun Y57=>Aq [12,13,14,15,16] [6,6,6,6] r<|Az<|Ke (Hs [1, 1, 1] H43 r (Ck (Ck (Ck (Cf (Cf Cz))))))<|Ke (Hs [2, 2] H35 r (Ck (Cf (Ck Cz))))<|Bg Y57 [3,3,3,1,2,0,0]
       refine Xy [0,0,0,0] r (Fe kf95_1 (Oc 4 r) H35 r)<|Ga (X := Value) (Ho 1 [4] H35 r r1) fun X54=>A2 3 10 (?_)<|?_
       ·refine Xy [2,2,2,2] r (Ix ke33 (Oc 6 r) H43 r)<|A2 4 10 (?_)<|?_
        ·refine Xy [2,2,2,2] r (Fe kf90_3 (Oc 6 r) H43 r)<|Ga (X := Value × Value) (Ho 2 [6] H43 r r1) fun X56=>A2 5 10 (?_)<|?_
         ·exact Xy [5,5,5,5] r (Lh 0 kk39 H43 r)<|A1 10<|Xy [5,5,5,5] r (Lh 3 kk44 H35 r)<|A1 11<|Xe [6,6,6,6] r (Cl [] spec_ApplyBatch_c H49 r r1 ⟨(Oc 1 r),(Oc 4 r),⟨⟩⟩) fun Y57=>Aq [12,13,14,15,16] [6,6,6,6] r<|Az<|Ke (Hs [1, 1, 1] H43 r (Ck (Ck (Ck (Cf (Cf Cz))))))<|Ke (Hs [2, 2] H35 r (Ck (Cf (Ck Cz))))<|Bg Y57 [3,3,3,1,2,0,0]
         exact Xy [5,5,5,5] r (Lh 3 kk44 H35 r)<|A1 5<|Xy [5,5,5,5] r (Lh 0 kk39 H43 r)<|A1 11<|Xe [6,6,6,6] r (Cl [] spec_ApplyBatch_c H49 r r1 ⟨(Oc 1 r),(Oc 4 r),⟨⟩⟩) fun Y57=>Aq [12,13,14,15,16] [6,6,6,6] r<|Az<|Ke (Hs [1, 1, 1] H43 r (Ck (Ck (Ck (Cf (Cf Cz))))))<|Ke (Hs [2, 2] H35 r (Ck (Cf (Ck Cz))))<|Bg Y57 [3,3,3,1,2,0,0]
        exact Xy [2,2,2,2] r (Lh 0 kk44 H35 r)<|A1 4<|Xy [2,2,2,2] r (Fe kf90_3 (Oc 6 r) H43 r)<|Ga (X := Value × Value) (Ho 2 [6] H43 r r1) fun X56=>A1 5<|Xy [5,5,5,5] r (Lh 0 kk39 H43 r)<|A1 11<|Xe [6,6,6,6] r (Cl [] spec_ApplyBatch_c H49 r r1 ⟨(Oc 1 r),(Oc 4 r),⟨⟩⟩) fun Y57=>Aq [12,13,14,15,16] [6,6,6,6] r<|Az<|Ke (Hs [1, 1, 1] H43 r (Ck (Ck (Ck (Cf (Cf Cz))))))<|Ke (Hs [2, 2] H35 r (Ck (Cf (Ck Cz))))<|Bg Y57 [3,3,3,1,2,0,0]
       exact Xy [2,2,2,2] r (Lh 0 kk44 H35 r)<|A1 3<|Xy [2,2,2,2] r (Ix ke33 (Oc 6 r) H43 r)<|A1 4<|Xy [2,2,2,2] r (Fe kf90_3 (Oc 6 r) H43 r)<|Ga (X := Value × Value) (Ho 2 [6] H43 r r1) fun X56=>A1 5<|Xy [5,5,5,5] r (Lh 0 kk39 H43 r)<|A1 11<|Xe [6,6,6,6] r (Cl [] spec_ApplyBatch_c H49 r r1 ⟨(Oc 1 r),(Oc 4 r),⟨⟩⟩) fun Y57=>Aq [12,13,14,15,16] [6,6,6,6] r<|Az<|Ke (Hs [1, 1, 1] H43 r (Ck (Ck (Ck (Cf (Cf Cz))))))<|Ke (Hs [2, 2] H35 r (Ck (Cf (Ck Cz))))<|Bg Y57 [3,3,3,1,2,0,0]
      exact Ne<|Sr<|Yo (Fb kf36_2 r)<|Yo (Lb 0 kk33 r)<|Qs 2 r<|Yo (Ix ke33 (Oc 3 r) H43 r)<|TO.fact (ptr_of (Can.own 3 r) H43) fun H53=>Yo (Fp kf90_3 H53 r)<|Gt (X := Value × Value) (Ho 2 [3] H43 r r1) fun X54=>Fu (Sh 0 [.raw X52] kk39 H43 r (Co 8) r)<|Nx<|Dr [1,1,1,1,1,1,1,1] r hMix<|Ay 0 [1,1,1,1,1,1,1,1] r (Fb kf36_2 r)<|Ay 1 [1,1,1,1,1,1,1,1] r (Lb 2 kk33 r)<|Aq [2] [1,1,1,1,1,1,1,1] r<|Ay 3 [1,1,1,1,1,1,1,1] r (Fb kf36_2 r)<|Ay 4 [1,1,1,1,1,1,1,1] r (Lb 2 kk33 r)<|Aq [5] [1,1,1,1,1,1,1,1] r<|A1 6<|Xy [1,1,1,1,1,1,1,1] r (Ix ke33 (Oc 0 r) H43 r)<|Ay 7 [1,1,1,1,1,1,1,1] r (Fp kf90_2 H53 r)<|A1 8<|Xy [1,1,1,1,1,1,1,1] r (Lh 0 kk3 H43 r)<|Aq [9] [1,1,1,1,1,1,1,1] r<|A1 10<|Xy [1,1,1,1,1,1,1,1] r (Ix ke33 (Oc 0 r) H43 r)<|Ay 11 [1,1,1,1,1,1,1,1] r (Fp kf90_2 H53 r)<|A1 12<|Xu [1,1,1,1,1,1,1,1] r (Sh 0 [ic (IntKind.i64.wrap (E42.Seq + (1 : Int)))] kk3 H43 r (Cp r) r)<|Az<|Ke (Hc [0, 7, 1] ({ Id := E42.Id, Epoch := E42.Epoch, Seq := IntKind.i64.wrap (E42.Seq + (1 : Int)), Map := R48.1, Snaps := E42.Snaps : MTen }) H43 r (Ck (Ck (Ck (Cf (Cf Cz))))))<|Jg () [2,2,2,2,2,0]
     exact Sk<|Jg () [0,0,0,0,0,0]
    exact Bn<|Ne<|Rg<|Qs 3 r<|Nl<|Lg () [0,0,0,0,0,0]
   exact Wx<|Tx<|Ex<|Be<|Jg () [0,0,0,0,0,0]
  exact Ne<|Sr<|Yo (Lb 0 kk36 r)<|Fu (Sb 1 kk36 r (Ca ⟨Op',Op',Ow' 2,Ow' 5,Ow' 3,Ow' 4,⟨⟩⟩) r)<|Nx<|Wr<|TE.leaf fun _ _ hf_ hs_ => ret_any (rs := [.cell 4 36]) (vs := [.agg #[strV m.Secret, iv m.Shares.Size, U0, Y28, U2, X7]]) (.inl r) r (RV.cell 1 r r kk36 r ⟨⟩) hf_ hs_ ⟨(U0, Y28, U2, X7), r, hs_.pulls [2, 4, 2, 2] r⟩
noncomputable def spec_ShareDrop (s : Shares) (tenant : Int) : Option (Shares × Bool) :=
  (spec_SharesOk s).bind fun R3 =>
  if (!R3) = true then (some ({ Size := (0 : Int), List := ([] : List Share) : Shares }, false))
  else (bindC (loopO (fun (S9 : Int × List Share) => if (decide (S9.1 < ((s.List.length : Nat) : Int))) = true then ((idx s.List S9.1).bind fun E14 =>
  bindC (if (!(decide (E14.Tenant = tenant))) = true then ((app 16 S9.2 ([E14])).bind fun E22 =>
  some (.go E22))
  else (some (.go S9.2)))
  (fun (T16 : List Share) => some (.go (IntKind.i64.wrap (S9.1 + (1 : Int)), T16))))
  else (some (.done (.go S9.2))))
  ((0 : Int), ([] : List Share)))
  (fun (T11 : List Share) => if (decide (((T11.length : Nat) : Int) = ((s.List.length : Nat) : Int))) = true then ((spec_l19Copy s).bind fun R28 =>
  some (R28, false))
  else (some ({ Size := s.Size, List := T11 : Shares }, true))))
theorem spec_ShareDrop_c {s : Shares} {tenant : Int} {U0 : Value} : Cn Tryz.prog 89 [.agg #[iv s.Size, U0], iv tenant] [] [(U0, lc s.List)] (spec_ShareDrop s tenant) (fun r (X : Value) => .tuple #[.agg #[iv r.1.Size, X], .bool r.2]) fun r X => [.own X (lc r.1.List)] := by
  unfold spec_ShareDrop
  refine Ci Tryz.func89 r r ?_
  rintro w S ⟨Z0,-⟩
  refine Sr<|Fo (Bx r (Ca ⟨Op',Ob Z0,⟨⟩⟩)) fun B1=>Fo (Al kz32 r) fun B2=>Qs 1 r<|Nx<|Sq<|Sr<|Yo (Lb 1 kk32 r)<|Bi fun R3 H4=>Fo (Cl [] spec_SharesOk_c H4 r r1 ⟨(Bc Z0),⟨⟩⟩) fun _=>Qs 1 r<|Nx<|Wc r (fun H6=>?_) fun H6=>?_
  ·exact Sr<|Yo (Bd kp32 kz32 (Pz) r)<|Fu (Sb 0 kk32 r (Cp r) r)<|Qs 1 r<|Nx<|Wr<|Tr<|TE.leaf fun _ _ hf_ hs_ => ret_any (rs := [.cell 4 32, .tmp 5]) (vs := [.agg #[iv (0 : Int), .slice none 0 0], .bool false]) (.inl r) r (RV.cell 0 r r kk32 r ⟨r, ⟨⟩⟩) hf_ hs_ ⟨(.slice none 0 0), r, (hs_.nilItem 2).pulls [0] r⟩
  refine Sn<|Sr<|Yo (Fb kf32_0 r)<|Yo (Lb 1 kk3 r)<|Yo (Bd kp32 kz32 (Pc r (Cp r)<|Pz) r)<|Fo (Al kz32 r) fun B8=>Fu (Sb 0 kk32 r (Cp r) r)<|Nx<|Sq<|Sr<|Qs 1 r<|Nx<|Jn Value [2,4,6] [2,1] (fun _ _=>[]) (fun T X=>[.box B8 32 [iv s.Size, X], .own X (lc T)]) r2 r2 (?_) fun T11 X12=>?_
  ·refine Wb<|Nw 2<|Lp Value [1,2,4,6] [3,2] (fun T _=>[(7, iv T.1)]) (fun T X=>[.box B8 32 [iv s.Size, X], .own X (lc T.2)]) (.slice none 0 0) [3,2,1,0] r2 r2 fun S9 X10=>Sq<|Sr<|Qs 1 r<|Yo (Fb kf32_1 r)<|Yo (Lb 0 kk30 r)<|Yo (Ln ke30 (Bc Z0) r)<|Qs 1 r<|Nx<|Wc r (fun H13=>?_) fun H13=>?_
   ·refine Sn<|Sq<|Wb<|Sr<|Yo (Fb kf32_1 r)<|Yo (Lb 0 kk30 r)<|Qs 1 r<|Bi fun E14 H15=>Yo (Ix ke30 (Bc Z0) H15 r)<|Yo (Fe kf134_0 (Bc Z0) H15 r)<|Yo (Le kk3 (Bc Z0) H15 r)<|Qs 2 r<|Nx<|Jn Value [1,2,4,6,7] [0,0] (fun _ _=>[]) (fun T X=>[.box B8 32 [iv s.Size, X], .own X (lc T)]) r2 r2 (?_) fun T16 X17=>?_
    ·refine Wc r (fun H18=>?_) fun H18=>?_
     ·refine Wi fun E22 H23=>Jw Value [1,2,4,6,7] [0,0] (fun _=>[]) (fun X=>[.box B8 32 [iv s.Size, X], .own X (lc E22)]) r1 r1 (?_) fun X25=>?_
      ·refine Dr [0,0] r hMix<|Ay 0 [0,0] r (Fb kf32_1 r)<|Ay 2 [0,0] r (Fb kf32_1 r)<|Ay 3 [0,0] r (Lb 0 kk30 r)<|Aq [4] [0,0] r<|Ay 5 [0,0] r (Ix ke30 (Bc Z0) H15 r)<|Ay 6 [0,0] r (Le kk134 (Bc Z0) H15 r)<|A2 1 7 (Xy [0,0] r (Lb 2 kk30 r)<|A1 7<|Xe [1,1] r (Bs [E14] ke30 kz134) fun B27=>A1 8<|Xe [2,2] r (Ap [4] H23 ke30 kz134 r (Oc 0 r)) fun V28=>Ay 9 [2,2] r (Fb kf32_1 r)<|A1 10<|Xu [2,2] r (Sb 4 kk30 r (Co 0) r)<|Az<|Bg V28 [2,2,2,0])<|Xe [1,1] r (Bs [E14] ke30 kz134) fun B26=>A1 1<|Xy [1,1] r (Lb 3 kk30 r)<|A1 8<|Xe [2,2] r (Ap [4] H23 ke30 kz134 r (Oc 0 r)) fun V27=>?_
       exact Ay 9 [2,2] r (Fb kf32_1 r)<|A1 10<|Xu [2,2] r (Sb 4 kk30 r (Co 0) r)<|Az<|Bg V27 [2,2,2,0]
      exact Jg X25 [0,0,0,0]
     exact Sk<|Jg X10 [0,0,0,0]
    exact Bn<|Ne<|Rg<|Qs 3 r<|Nl<|Lg X17 [0,0,0,0]
   exact Wx<|Tx<|Ex<|Be<|Jg X10 [0,0,0,0]
  refine Ne<|Sq<|Sr<|Yo (Fb kf32_1 r)<|Yo (Lb 2 kk30 r)<|Yo (Ln ke30 (Oc 3 r) r)<|Yo (Fb kf32_1 r)<|Yo (Lb 0 kk30 r)<|Yo (Ln ke30 (Bc Z0) r)<|Qs 1 r<|Nx<|Wc r (fun H27=>?_) fun H27=>?_
  ·exact Sr<|Yo (Lb 0 kk32 r)<|Bi fun R28 H29=>Fo (Cl [] spec_l19Copy_c H29 r r1 ⟨(Bc Z0),⟨⟩⟩) fun Y30=>Fu (Sb 2 kk32 r (Ca ⟨Op',Ow' 0,⟨⟩⟩) r)<|Qs 1 r<|Nx<|Wr<|Tr<|TE.leaf fun _ _ hf_ hs_ => ret_any (rs := [.cell 4 32, .tmp 5]) (vs := [.agg #[iv R28.Size, Y30], .bool false]) (.inl r) r (RV.cell 2 r r kk32 r ⟨r, ⟨⟩⟩) hf_ hs_ ⟨Y30, r, hs_.pulls [0] r⟩
  exact Sn<|Sr<|Yo (Lb 2 kk32 r)<|Fu (Sb 1 kk32 r (Ca ⟨Op',Ow' 3,⟨⟩⟩) r)<|Qs 1 r<|Nx<|Wr<|TE.leaf fun _ _ hf_ hs_ => ret_any (rs := [.cell 4 32, .tmp 5]) (vs := [.agg #[iv s.Size, X12], .bool true]) (.inl r) r (RV.cell 1 r r kk32 r ⟨r, ⟨⟩⟩) hf_ hs_ ⟨X12, r, hs_.pulls [3] r⟩
noncomputable def spec_l21Without (l : List MTen) (id : Int) : Option (List MTen) :=
  bindC (loopO (fun (S2 : Int × List (Option MTen) × List MTen) => if (decide (S2.1 < ((S2.2.1.length : Nat) : Int))) = true then ((idx S2.2.1 S2.1).bind fun E7 =>
  (E7).bind fun E10 =>
  bindC (if (!(decide (E10.Id = id))) = true then ((app 72 S2.2.2 ([E10])).bind fun E18 =>
  some (.go ((S2.2.1.set S2.1.toNat none), E18)))
  else (some (.go (S2.2.1, S2.2.2))))
  (fun (T12 : List (Option MTen) × List MTen) => some (.go (IntKind.i64.wrap (S2.1 + (1 : Int)), T12.1, T12.2))))
  else (some (.done (.go S2.2.2))))
  ((0 : Int), (l.map some), ([] : List MTen)))
  (fun (T4 : List MTen) => some T4)
theorem spec_l21Without_c {l : List MTen} {id : Int} {U0 : Value} : Cn Tryz.prog 90 [U0, iv id] [.own U0 (lc l)] [] (spec_l21Without l id) (fun _ (X : Value) => X) fun r X => [.own X (lc r)] := by
  unfold spec_l21Without
  refine Ci Tryz.func90 r r ?_
  rintro w S -
  refine Sr<|Qs 1 r<|Nx<|Sr<|Fo (Bk [] ke33 kz90 r (Qz)) fun B1=>Kt (Ha [0] ([] : List MTen) r Cz)<|Qs 1 r<|Nx<|Sq<|Sr<|Qs 1 r<|Nx<|Jn Value [] [] (fun _ X=>[(5, X)]) (fun T X=>[.own X (lc T)]) r2 r2 (?_) fun T4 X5=>?_
  ·refine Wb<|Kw (Hm [1] r)<|Lp Value [0,1] [] (fun T X=>[(5, X), (6, iv T.1)]) (fun T X=>[.own U0 (lc T.2.1), .own X (lc T.2.2)]) (.slice (some ⟨B1, 0, none⟩) 0 0) [0,0] r2 r2 fun S2 X3=>Sq<|Sr<|Qs 2 r<|Yo (Ln ke33 (Oc 0 r) r)<|Qs 1 r<|Nx<|Wc r (fun H6=>?_) fun H6=>?_
   ·refine Sn<|Sq<|Wb<|Sr<|Qs 2 r<|Bi fun E7 H8=>Yo (Ix ke33 (Oc 0 r) H8 r)<|TO.fact (ptr_of (Can.own 0 r) H8) fun H9=>Yo (Fp kf90_0 H9 r)<|Bi fun E10 H11=>Yo (Le kk3 (Oc 0 r) (idx_opt H8 H11) r)<|Qs 2 r<|Nx<|Jn Value [0,1,6] [] (fun _ X=>[(5, X)]) (fun T X=>[.own U0 (lc T.1), .own X (lc T.2)]) r2 r2 (?_) fun T12 X13=>?_
    ·refine Wc r (fun H14=>?_) fun H14=>?_
     ·exact Rg<|Qs 3 r<|Yo (Ix ke33 (Oc 0 r) (idx_opt H8 H11) r)<|Gt (X := Value × Value) (Ho 2 [0] (idx_opt H8 H11) r r1) fun X15=>Yo (Lh 0 kk90 (idx_opt H8 H11) r)<|Fo (Bk [ic E10.Id, ic E10.Epoch, ic E10.Seq, .raw X15.1, .raw X15.2] ke33 kz90 r (Qc (Ca ⟨Op',Op',Op',Ow' 1,Ow' 2,⟨⟩⟩)<|Qz)) fun B16=>Kt (Ha [0, 1, 1] ([E10] : List MTen) r (Ck (Ck (Ck (Cf (Cf Cz))))))<|Bi fun E18 H19=>Fo (Aw [2, 0] H19 ke33 kz90 r) fun V17=>Qs 1 r<|Nl<|Ke (Hc (α := (Option MTen)) [1] none (idx_opt H8 H11) r (Cd (Cd (Cd (Cd (Cd Cz))))))<|Jg V17 [0,0]
     exact Sk<|Jg X3 [0,0]
    exact Bn<|Ne<|Rg<|Qs 3 r<|Nl<|Lg X13 [0,0]
   exact Wx<|Tx<|Ex<|Be<|Jg X3 [1]
  exact Ne<|Sr<|Qs 2 r<|Nx<|Wr<|Re X5 [0]
noncomputable def spec_l21Rows (l : List MRow) (id : Int) : Option (List MRow) :=
  bindC (loopO (fun (S2 : Int × List (Option MRow) × List MRow) => if (decide (S2.1 < ((S2.2.1.length : Nat) : Int))) = true then ((idx S2.2.1 S2.1).bind fun E7 =>
  (E7).bind fun E10 =>
  bindC (if (!(decide (E10.Tenant = id))) = true then ((app 40 S2.2.2 ([E10])).bind fun E18 =>
  some (.go ((S2.2.1.set S2.1.toNat none), E18)))
  else (some (.go (S2.2.1, S2.2.2))))
  (fun (T12 : List (Option MRow) × List MRow) => some (.go (IntKind.i64.wrap (S2.1 + (1 : Int)), T12.1, T12.2))))
  else (some (.done (.go S2.2.2))))
  ((0 : Int), (l.map some), ([] : List MRow)))
  (fun (T4 : List MRow) => some T4)
theorem spec_l21Rows_c {l : List MRow} {id : Int} {U0 : Value} : Cn Tryz.prog 91 [U0, iv id] [.own U0 (lc l)] [] (spec_l21Rows l id) (fun _ (X : Value) => X) fun r X => [.own X (lc r)] := by
  unfold spec_l21Rows
  refine Ci Tryz.func91 r r ?_
  rintro w S -
  refine Sr<|Qs 1 r<|Nx<|Sr<|Fo (Bk [] ke34 kz95 r (Qz)) fun B1=>Kt (Ha [0] ([] : List MRow) r Cz)<|Qs 1 r<|Nx<|Sq<|Sr<|Qs 1 r<|Nx<|Jn Value [] [] (fun _ X=>[(5, X)]) (fun T X=>[.own X (lc T)]) r2 r2 (?_) fun T4 X5=>?_
  ·refine Wb<|Kw (Hm [1] r)<|Lp Value [0,1] [] (fun T X=>[(5, X), (6, iv T.1)]) (fun T X=>[.own U0 (lc T.2.1), .own X (lc T.2.2)]) (.slice (some ⟨B1, 0, none⟩) 0 0) [0,0] r2 r2 fun S2 X3=>Sq<|Sr<|Qs 2 r<|Yo (Ln ke34 (Oc 0 r) r)<|Qs 1 r<|Nx<|Wc r (fun H6=>?_) fun H6=>?_
   ·refine Sn<|Sq<|Wb<|Sr<|Qs 2 r<|Bi fun E7 H8=>Yo (Ix ke34 (Oc 0 r) H8 r)<|TO.fact (ptr_of (Can.own 0 r) H8) fun H9=>Yo (Fp kf95_0 H9 r)<|Bi fun E10 H11=>Yo (Le kk3 (Oc 0 r) (idx_opt H8 H11) r)<|Qs 2 r<|Nx<|Jn Value [0,1,6] [] (fun _ X=>[(5, X)]) (fun T X=>[.own U0 (lc T.1), .own X (lc T.2)]) r2 r2 (?_) fun T12 X13=>?_
    ·refine Wc r (fun H14=>?_) fun H14=>?_
     ·exact Rg<|Qs 3 r<|Yo (Ix ke34 (Oc 0 r) (idx_opt H8 H11) r)<|Gt (X := Value) (Ho 1 [0] (idx_opt H8 H11) r r1) fun X15=>Yo (Lh 0 kk95 (idx_opt H8 H11) r)<|Fo (Bk [ic E10.Tenant, .raw X15, .bool E10.Synced] ke34 kz95 r (Qc (Ca ⟨Op',Ow' 1,Op',⟨⟩⟩)<|Qz)) fun B16=>Kt (Ha [0, 1] ([E10] : List MRow) r (Ck (Cf (Ck Cz))))<|Bi fun E18 H19=>Fo (Aw [2, 0] H19 ke34 kz95 r) fun V17=>Qs 1 r<|Nl<|Ke (Hc (α := (Option MRow)) [1] none (idx_opt H8 H11) r (Cd (Cd (Cd Cz))))<|Jg V17 [0,0]
     exact Sk<|Jg X3 [0,0]
    exact Bn<|Ne<|Rg<|Qs 3 r<|Nl<|Lg X13 [0,0]
   exact Wx<|Tx<|Ex<|Be<|Jg X3 [1]
  exact Ne<|Sr<|Qs 2 r<|Nx<|Wr<|Re X5 [0]
noncomputable def spec_l21Flush (m : Model) (at_ : Int) : Option Model :=
  (idx m.Tens at_).bind fun E3 =>
  (spec_l21At m.Base E3.Id).bind fun R8 =>
  bindC (if (decide (R8 ≥ (0 : Int))) = true then ((spec_l21CopyMap E3.Map).bind fun R15 =>
  (idx m.Base R8).bind fun E18 =>
  some (.go (m.Base.set R8.toNat ({ Id := E3.Id, Epoch := E3.Epoch, Seq := E3.Seq, Map := R15, Snaps := ([] : List MSnap) : MTen }))))
  else (some (.go m.Base)))
  (fun (T12 : List MTen) => (spec_l21Rows m.Rows E3.Id).bind fun R22 =>
  some ({ Secret := m.Secret, Shares := m.Shares, Tens := m.Tens, Base := T12, Rows := R22 : Model }))
theorem spec_l21Flush_c {m : Model} {at_ : Int} {U0 U1 U2 U3 : Value} : Cn Tryz.prog 92 [.agg #[strV m.Secret, iv m.Shares.Size, U0, U1, U2, U3], iv at_] [.own U0 (lc m.Shares.List), .own U1 (lc m.Tens), .own U2 (lc m.Base), .own U3 (lc m.Rows)] [] (spec_l21Flush m at_) (fun r (X : Value × Value × Value × Value) => .agg #[strV r.Secret, iv r.Shares.Size, X.1, X.2.1, X.2.2.1, X.2.2.2]) fun r X => [.own X.1 (lc r.Shares.List), .own X.2.1 (lc r.Tens), .own X.2.2.1 (lc r.Base), .own X.2.2.2 (lc r.Rows)] := by
  unfold spec_l21Flush
  refine Ci Tryz.func92 r r ?_
  rintro w S -
  refine Sr<|Fo (Bx r (Ca ⟨Op',Op',Ow' 0,Ow' 1,Ow' 2,Ow' 3,⟨⟩⟩)) fun B1=>Fo (Al kz36 r) fun B2=>Nx<|Sr<|Yo (Fb kf36_2 r)<|Yo (Lb 1 kk33 r)<|Qs 1 r<|Bi fun E3 H4=>Yo (Ix ke33 (Oc 3 r) H4 r)<|TO.fact (ptr_of (Can.own 3 r) H4) fun H5=>Gt (X := Value × Value) (Ho 2 [3] H4 r r1) fun X6=>Yo (Lh 0 kk90 H4 r)<|Fo (Al kz90 r) fun B7=>Fu (Sb 0 kk90 r (Ca ⟨Op',Op',Op',Ow' 2,Ow' 3,⟨⟩⟩) r)<|Nx<|Sr<|Yo (Fb kf36_3 r)<|Yo (Lb 5 kk33 r)<|Yo (Fb kf90_0 r)<|Yo (Lb 0 kk3 r)<|Bi fun R8 H9=>Fo (Cl [] spec_l21At_c H9 r r1 ⟨(Oc 7 r),⟨⟩⟩) fun _=>Qs 1 r<|Nx<|Sq<|Sr<|Qs 2 r<|Nx<|Jn Unit [2,4,5] [5,4,0,3,4] (fun _ _=>[]) (fun T _=>[.own U1 (lc m.Tens), .own U2 (lc T)]) r2 r2 (?_) fun T12 X13=>?_
  ·refine Wc r (fun H14=>?_) fun H14=>?_
   ·refine Dr [0,0,0,0,0,0,0,1] r hMix<|Ay 0 [0,0,0,0,0,0,0,1] r (Fb kf36_3 r)<|Ay 1 [0,0,0,0,0,0,0,1] r (Lb 5 kk33 r)<|Aq [2] [0,0,0,0,0,0,0,1] r<|Ay 3 [0,0,0,0,0,0,0,1] r (Fb kf90_0 r)<|Ay 4 [0,0,0,0,0,0,0,1] r (Lb 0 kk3 r)<|Ay 5 [0,0,0,0,0,0,0,1] r (Fb kf90_1 r)<|Ay 6 [0,0,0,0,0,0,0,1] r (Lb 0 kk3 r)<|Ay 7 [0,0,0,0,0,0,0,1] r (Fb kf90_2 r)<|Ay 8 [0,0,0,0,0,0,0,1] r (Lb 0 kk3 r)<|Ay 9 [0,0,0,0,0,0,0,1] r (Fb kf90_3 r)<|Ay 10 [0,0,0,0,0,0,0,1] r (Lb 0 kk39 r)<|Ai fun R15 H16=>A1 11<|Xe [1,1,1,1,1,1,1,2] r (Cl [] spec_l21CopyMap_c H16 r r1 ⟨(Oc 2 r),⟨⟩⟩) fun Y17=>?_
    exact A1 12<|Xy [1,1,1,1,1,1,1,2] r (Bd kp90 kz90 (Pc r (Cp r)<|Pc r (Cp r)<|Pc r (Cp r)<|Pc r (Co 0)<|Pz) r)<|Ai fun E18 H19=>A1 13<|Xy [1,1,1,1,1,1,1,2] r (Ix ke33 (Oc 8 r) H19 r)<|Ga (X := Value × Value) (Ho 2 [8] H19 r r1) fun X20=>A1 14<|Xu [4,4,4,4,4,4,4,4] r (Sh 0 [ic E3.Id, ic E3.Epoch, ic E3.Seq, .raw Y17, .raw (.slice none 0 0)] kk90 H19 r (Ca ⟨Op',Op',Op',Ow' 3,Op',⟨⟩⟩) r)<|Az<|Ni 2<|Ke (Hc [1, 3, 0] ({ Id := E3.Id, Epoch := E3.Epoch, Seq := E3.Seq, Map := R15, Snaps := ([] : List MSnap) : MTen }) H19 r (Ck (Ck (Ck (Cf (Cf Cz))))))<|Ke (Hs [4, 4, 4] H4 r (Ck (Ck (Ck (Cf (Cf Cz))))))<|Jg () [6,5,4,4,4,0,0]
   exact Sk<|Ke (Hs [1, 1, 1] H4 r (Ck (Ck (Ck (Cf (Cf Cz))))))<|Jg () [3,2,1,1,2,0,0]
  exact Ne<|Sr<|Yo (Fb kf36_4 r)<|Yo (Lb 0 kk34 r)<|Yo (Fb kf90_0 r)<|Yo (Lb 2 kk3 r)<|Bi fun R22 H23=>Fo (Cl [4] spec_l21Rows_c H23 r r1) fun Y24=>Yo (Fb kf36_4 r)<|Fu (Sb 1 kk34 r (Co 0) r)<|Nx<|Sr<|Yo (Lb 1 kk36 r)<|Fu (Sb 2 kk36 r (Ca ⟨Op',Op',Ow' 4,Ow' 5,Ow' 6,Ow' 0,⟨⟩⟩) r)<|Nx<|Wr<|TE.leaf fun _ _ hf_ hs_ => ret_any (rs := [.cell 4 36]) (vs := [.agg #[strV m.Secret, iv m.Shares.Size, U0, U1, U2, Y24]]) (.inl r) r (RV.cell 2 r r kk36 r ⟨⟩) hf_ hs_ ⟨(U0, U1, U2, Y24), r, hs_.pulls [4, 4, 4, 0] r⟩
noncomputable def spec_l21Owner (m : Model) (c : Call) : Option (Model × Reply) :=
  if (decide (c.Kind = (1 : Int))) = true then ((spec_l21Create m c).bind fun R6 =>
  some (R6.1, R6.2))
  else (if (decide (c.Kind = (12 : Int))) = true then (bindC (loopO (fun (S12 : Int × List MRow) => if (decide (S12.1 < ((S12.2.length : Nat) : Int))) = true then ((idx S12.2 S12.1).bind fun E17 =>
  some (.go (IntKind.i64.wrap (S12.1 + (1 : Int)), (S12.2.set S12.1.toNat ({ Tenant := E17.Tenant, Ops := E17.Ops, Synced := true : MRow })))))
  else (some (.done (.go S12.2))))
  ((0 : Int), m.Rows))
  (fun (T14 : List MRow) => some ({ Secret := m.Secret, Shares := m.Shares, Tens := m.Tens, Base := m.Base, Rows := T14 : Model }, { Code := (0 : Int), N := (0 : Int), Text := [], List := ([] : List KV) : Reply })))
  else (if (decide (c.Kind = (14 : Int))) = true then ((spec_l21Crash m c.N).bind fun R23 =>
  some (R23, { Code := (0 : Int), N := (0 : Int), Text := [], List := ([] : List KV) : Reply }))
  else ((spec_l21At m.Tens c.Tenant).bind fun R27 =>
  if (decide (R27 < (0 : Int))) = true then ((spec_l21Code (5 : Int)).bind fun R31 =>
  some (m, R31))
  else (bindC (if (decide (c.Kind = (2 : Int))) = true then ((spec_l1In c.N (0 : Int) (40 : Int)).bind fun R37 =>
  if (!R37) = true then ((spec_l21Code (1 : Int)).bind fun R41 =>
  some (.done (m, R41)))
  else ((spec_ShareSet m.Shares c.Tenant c.N).bind fun R44 =>
  if (!R44.2) = true then ((spec_l21Code (6 : Int)).bind fun R49 =>
  some (.done (m, R49)))
  else (some (.go (R44.1.Size, R44.1.List, m.Tens, m.Base, m.Rows)))))
  else (if (decide (c.Kind = (3 : Int))) = true then ((spec_ShareDrop m.Shares c.Tenant).bind fun R53 =>
  (spec_l21Without m.Tens c.Tenant).bind fun R57 =>
  (spec_l21Without m.Base c.Tenant).bind fun R60 =>
  (spec_l21Rows m.Rows c.Tenant).bind fun R63 =>
  some (.go (R53.1.Size, R53.1.List, R57, R60, R63)))
  else (if (decide (c.Kind = (4 : Int))) = true then ((idx m.Tens R27).bind fun E67 =>
  if (decide (E67.Epoch ≥ (1000000 : Int))) = true then ((spec_l21Code (4 : Int)).bind fun R71 =>
  some (.done (m, R71)))
  else ((spec_l21At m.Base c.Tenant).bind fun R75 =>
  bindC (if (decide (R75 ≥ (0 : Int))) = true then ((idx m.Base R75).bind fun E81 =>
  some (.go (m.Base.set R75.toNat ({ Id := E81.Id, Epoch := IntKind.i64.wrap (E67.Epoch + (1 : Int)), Seq := E81.Seq, Map := E81.Map, Snaps := E81.Snaps : MTen }))))
  else (some (.go m.Base)))
  (fun (T78 : List MTen) => (spec_MintToken m.Secret c.Tenant (IntKind.i64.wrap (E67.Epoch + (1 : Int)))).bind fun R85 =>
  some (.done ({ Secret := m.Secret, Shares := m.Shares, Tens := m.Tens.set R27.toNat ({ Id := E67.Id, Epoch := IntKind.i64.wrap (E67.Epoch + (1 : Int)), Seq := E67.Seq, Map := E67.Map, Snaps := E67.Snaps : MTen }), Base := T78, Rows := m.Rows : Model }, { Code := (0 : Int), N := (0 : Int), Text := R85, List := ([] : List KV) : Reply })))))
  else ((spec_l21Flush m R27).bind fun R89 =>
  some (.done (R89, { Code := (0 : Int), N := (0 : Int), Text := [], List := ([] : List KV) : Reply }))))))
  (fun (T34 : Int × List Share × List MTen × List MTen × List MRow) => some ({ Secret := m.Secret, Shares := { Size := T34.1, List := T34.2.1 : Shares }, Tens := T34.2.2.1, Base := T34.2.2.2.1, Rows := T34.2.2.2.2 : Model }, { Code := (0 : Int), N := (0 : Int), Text := [], List := ([] : List KV) : Reply }))))))
theorem spec_l21Owner_c {m : Model} {c : Call} {U0 U1 U2 U3 U4 : Value} : Cn Tryz.prog 51 [.agg #[strV m.Secret, iv m.Shares.Size, U0, U1, U2, U3], .agg #[iv c.Kind, strV c.Token, iv c.Tenant, iv c.N, strV c.Key, strV c.To, U4]] [.own U0 (lc m.Shares.List), .own U1 (lc m.Tens), .own U2 (lc m.Base), .own U3 (lc m.Rows)] [(U4, lc c.Ops)] (spec_l21Owner m c) (fun r (X : Value × Value × Value × Value × Value) => .tuple #[.agg #[strV r.1.Secret, iv r.1.Shares.Size, X.1, X.2.1, X.2.2.1, X.2.2.2.1], .agg #[iv r.2.Code, iv r.2.N, strV r.2.Text, X.2.2.2.2]]) fun r X => [.own X.1 (lc r.1.Shares.List), .own X.2.1 (lc r.1.Tens), .own X.2.2.1 (lc r.1.Base), .own X.2.2.2.1 (lc r.1.Rows), .own X.2.2.2.2 (lc r.2.List)] := by
  unfold spec_l21Owner
  refine Ci Tryz.func51 r r ?_
  rintro w S ⟨Z0,-⟩
  refine Sr<|Fo (Bx r (Ca ⟨Op',Op',Ow' 0,Ow' 1,Ow' 2,Ow' 3,⟨⟩⟩)) fun B1=>Fo (Bx r (Ca ⟨Op',Op',Op',Op',Op',Op',Ob Z0,⟨⟩⟩)) fun B2=>Fo (Al kz36 r) fun B3=>Fo (Al kz41 r) fun B4=>Nx<|Sq<|Sr<|Yo (Fb kf46_0 r)<|Yo (Lb 2 kk3 r)<|Nx<|Wb<|Sr<|Qs 2 r<|Nx<|Wc r (fun H5=>?_) fun H5=>?_
  ·exact Sr<|Yo (Lb 3 kk36 r)<|Yo (Lb 2 kk46 r)<|Bi fun R6 H7=>Fo (Cl [4, 4, 4, 4] spec_l21Create_c H7 r r1 ⟨(Bc Z0),⟨⟩⟩) fun Y8=>Qs 3 r<|Fo (Al kz36 r) fun B9=>Fo (Al kz41 r) fun B10=>Fu (Sb 1 kk36 r (Ca ⟨Op',Op',Ow' 2,Ow' 3,Ow' 4,Ow' 5,⟨⟩⟩) r)<|Fu (Sb 0 kk41 r (Ca ⟨Op',Op',Op',Ow' 6,⟨⟩⟩) r)<|Nx<|Sq<|Dr [0,0,0,0,0,0,0,2,2] r hMix<|Ay 0 [0,0,0,0,0,0,0,2,2] r (Lb 1 kk36 r)<|Ay 1 [0,0,0,0,0,0,0,2,2] r (Lb 0 kk41 r)<|A1 2<|Xu [0,0,0,0,0,0,0,2,2] r (Sb 8 kk36 r (Ca ⟨Op',Op',Ow' 2,Ow' 3,Ow' 4,Ow' 5,⟨⟩⟩) r)<|A1 3<|Xu [0,0,0,0,0,0,0,2,2] r (Sb 7 kk41 r (Ca ⟨Op',Op',Op',Ow' 6,⟨⟩⟩) r)<|Az<|Ne<|Wr<|Br<|Tr<|TE.leaf fun _ _ hf_ hs_ => ret_any (rs := [.cell 4 36, .cell 5 41]) (vs := [.agg #[strV R6.1.Secret, iv R6.1.Shares.Size, Y8.1, Y8.2.1, Y8.2.2.1, Y8.2.2.2.1], .agg #[iv R6.2.Code, iv R6.2.N, strV R6.2.Text, Y8.2.2.2.2]]) (.inl r) r (RV.cell 8 r r kk36 r (RV.cell 7 r r kk41 r ⟨⟩)) hf_ hs_ ⟨(Y8.1, Y8.2.1, Y8.2.2.1, Y8.2.2.2.1, Y8.2.2.2.2), r, hs_.pulls [2, 2, 2, 2, 2] r⟩
  refine Sr<|Qs 2 r<|Nx<|Wc r (fun H11=>?_) fun H11=>?_
  ·refine Sq<|Sr<|Qs 1 r<|Nx<|Jn Unit [2,4,5] [3,1,0,1,1,1] (fun _ _=>[]) (fun T _=>[.own U3 (lc T)]) r2 r2 (?_) fun T14 X15=>?_
   ·refine Wb<|Lp Unit [2,4,5] [3,1,0,1,1,1] (fun T _=>[(8, iv T.1)]) (fun T _=>[.own U3 (lc T.2)]) () [3,1,0,1,1,1,1] r2 r2 fun S12 X13=>Sq<|Sr<|Qs 1 r<|Yo (Fb kf36_4 r)<|Yo (Lb 0 kk34 r)<|Yo (Ln ke34 (Oc 6 r) r)<|Qs 1 r<|Nx<|Wc r (fun H16=>?_) fun H16=>?_
    ·exact Sn<|Sq<|Wb<|Rg<|Yo (Fb kf36_4 r)<|Yo (Lb 0 kk34 r)<|Qs 1 r<|Bi fun E17 H18=>Yo (Ix ke34 (Oc 6 r) H18 r)<|TO.fact (ptr_of (Can.own 6 r) H18) fun H19=>Yo (Fp kf95_2 H19 r)<|Gt (X := Value) (Ho 1 [6] H18 r r1) fun X20=>Fu (Sh 0 [.bool true] kk4 H18 r (Cp r) r)<|Nl<|Bn<|Ne<|Rg<|Qs 3 r<|Nl<|Ke (Hc [0, 0] ({ Tenant := E17.Tenant, Ops := E17.Ops, Synced := true : MRow }) H18 r (Ck (Cf (Ck Cz))))<|Lg () [1,1,1,1,1,1,0]
    exact Wx<|Tx<|Ex<|Be<|Jg () [0,0,0,0,0,0,0]
   exact Ne<|Sr<|Yo (Lb 0 kk36 r)<|Yo (Bd kp41 kz41 (Pz) r)<|Fu (Sb 1 kk36 r (Ca ⟨Op',Op',Ow' 3,Ow' 4,Ow' 5,Ow' 6,⟨⟩⟩) r)<|Fu (Sb 2 kk41 r (Cp r) r)<|Nx<|Wr<|Br<|Tr<|TE.leaf fun _ _ hf_ hs_ => ret_any (rs := [.cell 4 36, .cell 5 41]) (vs := [.agg #[strV m.Secret, iv m.Shares.Size, U0, U1, U2, U3], .agg #[iv (0 : Int), iv (0 : Int), strV ([]), .slice none 0 0]]) (.inl r) r (RV.cell 1 r r kk36 r (RV.cell 2 r r kk41 r ⟨⟩)) hf_ hs_ ⟨(U0, U1, U2, U3, (.slice none 0 0)), r, (hs_.nilItem 2).pulls [4, 4, 4, 4, 0] r⟩
  refine Sr<|Qs 2 r<|Nx<|Wc r (fun H22=>?_) fun H22=>?_
  ·exact Sr<|Yo (Lb 3 kk36 r)<|Yo (Fb kf46_3 r)<|Yo (Lb 2 kk3 r)<|Bi fun R23 H24=>Fo (Cl [4, 5, 5] spec_l21Crash_c H24 r r1 ⟨(Oc 4 r),⟨⟩⟩) fun Y25=>Yo (Bd kp41 kz41 (Pz) r)<|Fu (Sb 5 kk36 r (Ca ⟨Op',Op',Ow' 0,Ow' 1,Ow' 2,Ow' 3,⟨⟩⟩) r)<|Fu (Sb 4 kk41 r (Cp r) r)<|Nx<|Wr<|Br<|Tr<|TE.leaf fun _ _ hf_ hs_ => ret_any (rs := [.cell 4 36, .cell 5 41]) (vs := [.agg #[strV R23.Secret, iv R23.Shares.Size, Y25.1, Y25.2.1, Y25.2.2.1, Y25.2.2.2], .agg #[iv (0 : Int), iv (0 : Int), strV ([]), .slice none 0 0]]) (.inl r) r (RV.cell 5 r r kk36 r (RV.cell 4 r r kk41 r ⟨⟩)) hf_ hs_ ⟨(Y25.1, Y25.2.1, Y25.2.2.1, Y25.2.2.2, (.slice none 0 0)), r, (hs_.nilItem 2).pulls [1, 1, 1, 1, 0] r⟩
  refine Sk<|Bn<|Ne<|Sr<|Yo (Fb kf36_2 r)<|Yo (Lb 3 kk33 r)<|Yo (Fb kf46_2 r)<|Yo (Lb 2 kk3 r)<|Bi fun R27 H28=>Fo (Cl [] spec_l21At_c H28 r r1 ⟨(Oc 5 r),⟨⟩⟩) fun _=>Qs 1 r<|Nx<|Sq<|Sr<|Qs 2 r<|Nx<|Wc r (fun H30=>?_) fun H30=>?_
  ·exact Sq<|Dr [2,2,2,2,2,2] r hMix<|Ay 0 [2,2,2,2,2,2] r (Lb 1 kk36 r)<|Ai fun R31 H32=>A1 1<|Xe [3,3,3,3,3,3] r (Cl [] spec_l21Code_c H32 r r1) fun Y33=>A1 2<|Xu [3,3,3,3,3,3] r (Sb 2 kk36 r (Ca ⟨Op',Op',Ow' 5,Ow' 6,Ow' 7,Ow' 8,⟨⟩⟩) r)<|A1 3<|Xu [3,3,3,3,3,3] r (Sb 1 kk41 r (Ca ⟨Op',Op',Op',Ow' 0,⟨⟩⟩) r)<|Az<|Ne<|Wr<|Tr<|TE.leaf fun _ _ hf_ hs_ => ret_any (rs := [.cell 4 36, .cell 5 41]) (vs := [.agg #[strV m.Secret, iv m.Shares.Size, U0, U1, U2, U3], .agg #[iv R31.Code, iv R31.N, strV R31.Text, Y33]]) (.inl r) r (RV.cell 2 r r kk36 r (RV.cell 1 r r kk41 r ⟨⟩)) hf_ hs_ ⟨(U0, U1, U2, U3, Y33), r, hs_.pulls [5, 5, 5, 5, 0] r⟩
  refine Sn<|Sq<|Sr<|Yo (Fb kf46_0 r)<|Yo (Lb 2 kk3 r)<|Nx<|Wb<|Sr<|Qs 2 r<|Nx<|Jn (Value × Value × Value × Value) [2,4,5] [1,0] (fun _ _=>[]) (fun T X=>[.box B1 36 [strV m.Secret, iv T.1, X.1, X.2.1, X.2.2.1, X.2.2.2], .own X.1 (lc T.2.1), .own X.2.1 (lc T.2.2.1), .own X.2.2.1 (lc T.2.2.2.1), .own X.2.2.2 (lc T.2.2.2.2)]) r2 r2 (?_) fun T34 X35=>?_
  ·refine Wc r (fun H36=>?_) fun H36=>?_
   ·refine Sq<|Sr<|Yo (Fb kf46_3 r)<|Yo (Lb 2 kk3 r)<|Bi fun R37 H38=>Fo (Cl [] spec_l1In_c H38 r r1) fun _=>Qs 1 r<|Nx<|Wc r (fun H40=>?_) fun H40=>?_
    ·exact Sq<|Dr [2,2,2,2,2,2] r hMix<|Ay 0 [2,2,2,2,2,2] r (Lb 1 kk36 r)<|Ai fun R41 H42=>A1 1<|Xe [3,3,3,3,3,3] r (Cl [] spec_l21Code_c H42 r r1) fun Y43=>A1 2<|Xu [3,3,3,3,3,3] r (Sb 2 kk36 r (Ca ⟨Op',Op',Ow' 5,Ow' 6,Ow' 7,Ow' 8,⟨⟩⟩) r)<|A1 3<|Xu [3,3,3,3,3,3] r (Sb 1 kk41 r (Ca ⟨Op',Op',Op',Ow' 0,⟨⟩⟩) r)<|Az<|Ne<|Wr<|Tr<|Jd<|Br<|Tr<|TE.leaf fun _ _ hf_ hs_ => ret_any (rs := [.cell 4 36, .cell 5 41]) (vs := [.agg #[strV m.Secret, iv m.Shares.Size, U0, U1, U2, U3], .agg #[iv R41.Code, iv R41.N, strV R41.Text, Y43]]) (.inl r) r (RV.cell 2 r r kk36 r (RV.cell 1 r r kk41 r ⟨⟩)) hf_ hs_ ⟨(U0, U1, U2, U3, Y43), r, hs_.pulls [5, 5, 5, 5, 0] r⟩
    refine Sn<|Sr<|Yo (Fb kf36_1 r)<|Yo (Lb 3 kk32 r)<|Yo (Fb kf46_2 r)<|Yo (Lb 2 kk3 r)<|Yo (Fb kf46_3 r)<|Yo (Lb 2 kk3 r)<|Bi fun R44 H45=>Fo (Cl [] spec_ShareSet_c H45 r r1 ⟨(Oc 4 r),⟨⟩⟩) fun Y46=>Qs 3 r<|Fo (Al kz32 r) fun B47=>Fu (Sb 0 kk32 r (Ca ⟨Op',Ow' 1,⟨⟩⟩) r)<|Qs 1 r<|Nx<|Sq<|Sr<|Qs 2 r<|Nx<|Wc r (fun H48=>?_) fun H48=>?_
    ·exact Sq<|Dr [0,0,2,2,2,2,2,2] r hMix<|Ay 0 [0,0,2,2,2,2,2,2] r (Lb 3 kk36 r)<|Ai fun R49 H50=>A1 1<|Xe [1,1,3,3,3,3,3,3] r (Cl [] spec_l21Code_c H50 r r1) fun Y51=>A1 2<|Xu [1,1,3,3,3,3,3,3] r (Sb 4 kk36 r (Ca ⟨Op',Op',Ow' 7,Ow' 8,Ow' 9,Ow' 10,⟨⟩⟩) r)<|A1 3<|Xu [1,1,3,3,3,3,3,3] r (Sb 3 kk41 r (Ca ⟨Op',Op',Op',Ow' 0,⟨⟩⟩) r)<|Az<|Ne<|Wr<|Tr<|Jd<|Br<|Tr<|TE.leaf fun _ _ hf_ hs_ => ret_any (rs := [.cell 4 36, .cell 5 41]) (vs := [.agg #[strV m.Secret, iv m.Shares.Size, U0, U1, U2, U3], .agg #[iv R49.Code, iv R49.N, strV R49.Text, Y51]]) (.inl r) r (RV.cell 4 r r kk36 r (RV.cell 3 r r kk41 r ⟨⟩)) hf_ hs_ ⟨(U0, U1, U2, U3, Y51), r, hs_.pulls [7, 7, 7, 7, 0] r⟩
    exact Sn<|Rg<|Yo (Lb 0 kk32 r)<|Yo (Fb kf36_1 r)<|Fu (Sb 5 kk32 r (Ca ⟨Op',Ow' 1,⟨⟩⟩) r)<|Nl<|Jg (Y46, U1, U2, U3) [3,2,3,1,3,3,3]
   refine Sr<|Qs 2 r<|Nx<|Wc r (fun H52=>?_) fun H52=>?_
   ·refine Sr<|Yo (Fb kf36_1 r)<|Yo (Lb 3 kk32 r)<|Yo (Fb kf46_2 r)<|Yo (Lb 2 kk3 r)<|Bi fun R53 H54=>Fo (Cl [] spec_ShareDrop_c H54 r r1 ⟨(Oc 4 r),⟨⟩⟩) fun Y55=>Qs 3 r<|Fo (Al kz32 r) fun B56=>Fu (Sb 0 kk32 r (Ca ⟨Op',Ow' 1,⟨⟩⟩) r)<|Qs 1 r<|Nx<|Sr<|Yo (Lb 0 kk32 r)<|Yo (Fb kf36_1 r)<|Fu (Sb 5 kk32 r (Ca ⟨Op',Ow' 1,⟨⟩⟩) r)<|Nx<|Sr<|Yo (Fb kf36_2 r)<|Yo (Lb 5 kk33 r)<|Yo (Fb kf46_2 r)<|Yo (Lb 4 kk3 r)<|Bi fun R57 H58=>Fo (Cl [7] spec_l21Without_c H58 r r1) fun Y59=>Yo (Fb kf36_2 r)<|Fu (Sb 6 kk33 r (Co 0) r)<|Nx<|Sr<|Yo (Fb kf36_3 r)<|Yo (Lb 6 kk33 r)<|Yo (Fb kf46_2 r)<|Yo (Lb 5 kk3 r)<|Bi fun R60 H61=>?_
    exact Fo (Cl [8] spec_l21Without_c H61 r r1) fun Y62=>Yo (Fb kf36_3 r)<|Fu (Sb 7 kk33 r (Co 0) r)<|Nx<|Rg<|Yo (Fb kf36_4 r)<|Yo (Lb 7 kk34 r)<|Yo (Fb kf46_2 r)<|Yo (Lb 6 kk3 r)<|Bi fun R63 H64=>Fo (Cl [9] spec_l21Rows_c H64 r r1) fun Y65=>Yo (Fb kf36_4 r)<|Fu (Sb 8 kk34 r (Co 0) r)<|Nl<|Jg (Y55, Y59, Y62, Y65) [6,5,6,4,2,1,0]
   refine Sr<|Qs 2 r<|Nx<|Wc r (fun H66=>?_) fun H66=>?_
   ·refine Sq<|Sr<|Yo (Fb kf36_2 r)<|Yo (Lb 3 kk33 r)<|Qs 1 r<|Bi fun E67 H68=>Yo (Ix ke33 (Oc 5 r) H68 r)<|TO.fact (ptr_of (Can.own 5 r) H68) fun H69=>Yo (Fp kf90_1 H69 r)<|Yo (Le kk3 (Oc 5 r) H68 r)<|Qs 1 r<|Nx<|Wc r (fun H70=>?_) fun H70=>?_
    ·exact Sq<|Dr [2,2,2,2,2,2] r hMix<|Ay 0 [2,2,2,2,2,2] r (Lb 1 kk36 r)<|Ai fun R71 H72=>A1 1<|Xe [3,3,3,3,3,3] r (Cl [] spec_l21Code_c H72 r r1) fun Y73=>A1 2<|Xu [3,3,3,3,3,3] r (Sb 2 kk36 r (Ca ⟨Op',Op',Ow' 5,Ow' 6,Ow' 7,Ow' 8,⟨⟩⟩) r)<|A1 3<|Xu [3,3,3,3,3,3] r (Sb 1 kk41 r (Ca ⟨Op',Op',Op',Ow' 0,⟨⟩⟩) r)<|Az<|Ne<|Wr<|Tr<|Jd<|Br<|Tr<|TE.leaf fun _ _ hf_ hs_ => ret_any (rs := [.cell 4 36, .cell 5 41]) (vs := [.agg #[strV m.Secret, iv m.Shares.Size, U0, U1, U2, U3], .agg #[iv R71.Code, iv R71.N, strV R71.Text, Y73]]) (.inl r) r (RV.cell 2 r r kk36 r (RV.cell 1 r r kk41 r ⟨⟩)) hf_ hs_ ⟨(U0, U1, U2, U3, Y73), r, hs_.pulls [5, 5, 5, 5, 0] r⟩
    refine Sn<|Sr<|Yo (Fb kf36_2 r)<|Yo (Lb 3 kk33 r)<|Qs 1 r<|Yo (Ix ke33 (Oc 5 r) H68 r)<|Yo (Fp kf90_1 H69 r)<|Yo (Le kk3 (Oc 5 r) H68 r)<|Qs 2 r<|Nx<|Sr<|Yo (Fb kf36_2 r)<|Yo (Lb 3 kk33 r)<|Qs 2 r<|Yo (Ix ke33 (Oc 5 r) H68 r)<|Yo (Fp kf90_1 H69 r)<|Gt (X := Value × Value) (Ho 2 [5] H68 r r1) fun X74=>Fu (Sh 0 [ic (IntKind.i64.wrap (E67.Epoch + (1 : Int)))] kk3 H68 r (Cp r) r)<|Nx<|Sr<|Yo (Fb kf36_3 r)<|Yo (Lb 6 kk33 r)<|Yo (Fb kf46_2 r)<|Yo (Lb 5 kk3 r)<|Bi fun R75 H76=>Fo (Cl [] spec_l21At_c H76 r r1 ⟨(Oc 8 r),⟨⟩⟩) fun _=>?_
    refine Qs 1 r<|Nx<|Sq<|Sr<|Qs 2 r<|Nx<|Jn Unit [2,3,4,5,14] [6,5,4,3,3,4] (fun _ _=>[]) (fun T _=>[.own U1 (lc (m.Tens.set R27.toNat ({ Id := E67.Id, Epoch := IntKind.i64.wrap (E67.Epoch + (1 : Int)), Seq := E67.Seq, Map := E67.Map, Snaps := E67.Snaps : MTen }))), .own U2 (lc T)]) r2 r2 (?_) fun T78 X79=>?_
    ·refine Wc r (fun H80=>?_) fun H80=>?_
     ·exact Rg<|Yo (Fb kf36_3 r)<|Yo (Lb 6 kk33 r)<|Qs 2 r<|Bi fun E81 H82=>Yo (Ix ke33 (Oc 8 r) H82 r)<|TO.fact (ptr_of (Can.own 8 r) H82) fun H83=>Yo (Fp kf90_1 H83 r)<|Gt (X := Value × Value) (Ho 2 [8] H82 r r1) fun X84=>Fu (Sh 0 [ic (IntKind.i64.wrap (E67.Epoch + (1 : Int)))] kk3 H82 r (Cp r) r)<|Nl<|Ke (Hc [0, 0, 0] ({ Id := E81.Id, Epoch := IntKind.i64.wrap (E67.Epoch + (1 : Int)), Seq := E81.Seq, Map := E81.Map, Snaps := E81.Snaps : MTen }) H82 r (Ck (Ck (Ck (Cf (Cf Cz))))))<|Ke (Hc [1, 1, 1] ({ Id := E67.Id, Epoch := IntKind.i64.wrap (E67.Epoch + (1 : Int)), Seq := E67.Seq, Map := E67.Map, Snaps := E67.Snaps : MTen }) H68 r (Ck (Ck (Ck (Cf (Cf Cz))))))<|Jg () [5,4,3,2,2,2,0,0]
     exact Sk<|Ke (Hc [0, 0, 0] ({ Id := E67.Id, Epoch := IntKind.i64.wrap (E67.Epoch + (1 : Int)), Seq := E67.Seq, Map := E67.Map, Snaps := E67.Snaps : MTen }) H68 r (Ck (Ck (Ck (Cf (Cf Cz))))))<|Jg () [4,3,2,1,1,2,0,0]
    exact Ne<|Sq<|Dr [0,0,2,2,2,2] r hMix<|Ay 0 [0,0,2,2,2,2] r (Lb 0 kk36 r)<|Ay 1 [0,0,2,2,2,2] r (Fb kf36_0 r)<|Ay 2 [0,0,2,2,2,2] r (Lb 0 kk9 r)<|Ay 3 [0,0,2,2,2,2] r (Fb kf46_2 r)<|Ay 4 [0,0,2,2,2,2] r (Lb 1 kk3 r)<|Aq [5] [0,0,2,2,2,2] r<|Ai fun R85 H86=>A1 6<|Xe [0,0,2,2,2,2] r (Cl [] spec_MintToken_c H86 r r1) fun _=>Ay 7 [0,0,2,2,2,2] r (Bd kp41 kz41 (Pc r (Cp r)<|Pz) r)<|A1 8<|Xu [0,0,2,2,2,2] r (Sb 2 kk36 r (Ca ⟨Op',Op',Ow' 4,Ow' 6,Ow' 7,Ow' 5,⟨⟩⟩) r)<|A1 9<|Xu [0,0,2,2,2,2] r (Sb 3 kk41 r (Cp r) r)<|Az<|Ne<|Wr<|Jd<|Br<|Tr<|TE.leaf fun _ _ hf_ hs_ => ret_any (rs := [.cell 4 36, .cell 5 41]) (vs := [.agg #[strV m.Secret, iv m.Shares.Size, U0, U1, U2, U3], .agg #[iv (0 : Int), iv (0 : Int), strV R85, .slice none 0 0]]) (.inl r) r (RV.cell 2 r r kk36 r (RV.cell 3 r r kk41 r ⟨⟩)) hf_ hs_ ⟨(U0, U1, U2, U3, (.slice none 0 0)), r, (hs_.nilItem 2).pulls [5, 6, 6, 5, 0] r⟩
   exact Sr<|Yo (Lb 3 kk36 r)<|Qs 1 r<|Bi fun R89 H90=>Fo (Cl [4, 4, 4, 4] spec_l21Flush_c H90 r r1) fun Y91=>Yo (Bd kp41 kz41 (Pz) r)<|Fu (Sb 5 kk36 r (Ca ⟨Op',Op',Ow' 0,Ow' 1,Ow' 2,Ow' 3,⟨⟩⟩) r)<|Fu (Sb 4 kk41 r (Cp r) r)<|Nx<|Wr<|Jd<|Br<|Tr<|TE.leaf fun _ _ hf_ hs_ => ret_any (rs := [.cell 4 36, .cell 5 41]) (vs := [.agg #[strV R89.Secret, iv R89.Shares.Size, Y91.1, Y91.2.1, Y91.2.2.1, Y91.2.2.2], .agg #[iv (0 : Int), iv (0 : Int), strV ([]), .slice none 0 0]]) (.inl r) r (RV.cell 5 r r kk36 r (RV.cell 4 r r kk41 r ⟨⟩)) hf_ hs_ ⟨(Y91.1, Y91.2.1, Y91.2.2.1, Y91.2.2.2, (.slice none 0 0)), r, (hs_.nilItem 2).pulls [1, 1, 1, 1, 0] r⟩
  exact Bn<|Ne<|Sr<|Yo (Lb 2 kk36 r)<|Yo (Bd kp41 kz41 (Pz) r)<|Fu (Sb 0 kk36 r (Ca ⟨Op',Op',Ow' 3,Ow' 4,Ow' 5,Ow' 6,⟨⟩⟩) r)<|Fu (Sb 1 kk41 r (Cp r) r)<|Nx<|Wr<|TE.leaf fun _ _ hf_ hs_ => ret_any (rs := [.cell 4 36, .cell 5 41]) (vs := [.agg #[strV m.Secret, iv T34.1, X35.1, X35.2.1, X35.2.2.1, X35.2.2.2], .agg #[iv (0 : Int), iv (0 : Int), strV ([]), .slice none 0 0]]) (.inl r) r (RV.cell 0 r r kk36 r (RV.cell 1 r r kk41 r ⟨⟩)) hf_ hs_ ⟨(X35.1, X35.2.1, X35.2.2.1, X35.2.2.2, (.slice none 0 0)), r, (hs_.nilItem 2).pulls [4, 4, 4, 4, 0] r⟩
noncomputable def spec_ReadVar (s : List UInt8) : Option (Int × Int) :=
  bindC (loopO (fun (S1 : Int) => (if (decide (S1 ≤ (7 : Int))) = true then (some (decide (S1 ≤ ((s.length : Nat) : Int))))
  else (some false)).bind (fun (T5 : Bool) =>
  if T5 = true then (bindC (loopO (fun (S9 : Int × Int) => if (decide (S9.2 ≥ (0 : Int))) = true then ((sidx s S9.2).bind fun E14 =>
  some (.go (IntKind.i64.wrap (IntKind.i64.wrap (S9.1 * (128 : Int)) + (Int.tmod (IntKind.i64.wrap ((E14.toNat : Nat) : Int)) (128 : Int))), IntKind.i64.wrap (S9.2 - (1 : Int)))))
  else (some (.done (.go S9.1))))
  ((0 : Int), IntKind.i64.wrap (S1 - (1 : Int))))
  (fun (T11 : Int) => (ssub s 0 S1).bind fun E16 =>
  (spec_Var T11).bind fun R18 =>
  if (decide (R18 = E16)) = true then (some (.done (.done (T11, S1))))
  else (some (.go (IntKind.i64.wrap (S1 + (1 : Int)))))))
  else (some (.done (.go ())))))
  (1 : Int))
  (fun (T3 : Unit) => some ((0 : Int), (0 : Int)))
theorem spec_ReadVar_c {s : List UInt8} : Cn Tryz.prog 141 [strV s] [] [] (spec_ReadVar s) (fun r (_ : Unit) => .tuple #[iv r.1, iv r.2]) fun _ _ => [] := by
  unfold spec_ReadVar
  refine Ci Tryz.func141 r r ?_
  rintro w S -
  refine Sr<|Qs 2 r<|Nx<|Sq<|Sr<|Qs 1 r<|Nx<|Ju [] (fun _=>[]) r1 (?_) fun T3=>?_
  ·refine Wb<|Lu [0] (fun T=>[(4, iv T)]) r1 fun S1=>Sq<|Sq<|Jv [0,4] (fun T=>[(14, .bool T)]) r1 (Rg<|Qs 3 r<|It (fun H7=>Qg 2 (beq_tt H7) r r<|Yg (gdA (beq_tt H7)) (Y.slen ks9 r)<|Qg 1 (beq_tt H7) r r<|Yo (Pt H7 r)<|Nl<|Bg () []) fun H7=>Of 4 (beq_ft H7) r r<|Yo (Pf H7 r)<|Nl<|Bg () []) fun T5=>Ne<|Wc r (fun H8=>?_) fun H8=>?_
   ·refine Sn<|Sq<|Wb<|Sr<|Qs 1 r<|Nx<|Sq<|Sr<|Qs 3 r<|Nx<|Ju [0,4] (fun T=>[(5, iv T)]) r1 (?_) fun T11=>?_
    ·exact Wb<|Lu [0,4] (fun T=>[(5, iv T.1), (6, iv T.2)]) r1 fun S9=>Sq<|Sr<|Qs 2 r<|Nx<|Wc r (fun H13=>Sn<|Sq<|Wb<|Rg<|Qs 4 r<|Bi fun E14 H15=>Yo (Y.sidx H15 ks9 r r)<|Yo (Y.conv ki5 ki3 r)<|Yo (Y.rem (by decide) r r)<|Qs 2 r<|Nl<|Bn<|Ne<|Rg<|Qs 3 r<|Nl<|Lg () []) fun H13=>Wx<|Tx<|Ex<|Be<|Jg () []
    exact Ne<|Sq<|Dr [] r hMix<|Aq [0,2,3] [] r<|Ai fun E16 H17=>Ay 4 [] r (Y.ssub_to H17 ks9 r r)<|Ai fun R18 H19=>A1 1<|Xe [] r (Cl [] spec_Var_c H19 r r1) fun _=>Aq [5] [] r<|Az<|Ne<|Wc r (fun H21=>Sr<|Qs 4 r<|Nx<|Wr<|Br<|Tr<|Er<|Br<|Jd<|Tr<|Re () []) fun H21=>Sk<|Bn<|Ne<|Rg<|Qs 3 r<|Nl<|Lg () []
   exact Wx<|Tx<|Ex<|Be<|Jg () []
  exact Ne<|Sr<|Qs 2 r<|Nx<|Wr<|Re () []
noncomputable def spec_l6Vars (s : List UInt8) (at_ : Int) (n : Int) : Option (List Int × Int) :=
  bindC (loopO (fun (S2 : Int × Int × List Int) => if (decide (S2.2.1 < n)) = true then ((if (decide (S2.1 < (0 : Int))) = true then (some true)
  else (some (decide (S2.1 > ((s.length : Nat) : Int))))).bind (fun (T7 : Bool) =>
  if T7 = true then (some (.done (.done (S2.2.2, (-1 : Int)))))
  else ((ssub s S2.1 (s.length : Int)).bind fun E11 =>
  (spec_ReadVar E11).bind fun R13 =>
  if (decide (R13.2 = (0 : Int))) = true then (some (.done (.done (S2.2.2, (-1 : Int)))))
  else ((app 8 S2.2.2 ([R13.1])).bind fun E19 =>
  some (.go (IntKind.i64.wrap (S2.1 + R13.2), IntKind.i64.wrap (S2.2.1 + (1 : Int)), E19))))))
  else (some (.done (.go (S2.1, S2.2.2)))))
  (at_, (0 : Int), ([] : List Int)))
  (fun (T4 : Int × List Int) => some (T4.2, T4.1))
theorem spec_l6Vars_c {s : List UInt8} {at_ : Int} {n : Int} : Cn Tryz.prog 93 [strV s, iv at_, iv n] [] [] (spec_l6Vars s at_ n) (fun r (X : Value) => .tuple #[X, iv r.2]) fun r X => [.own X (lc r.1)] := by
  unfold spec_l6Vars
  refine Ci Tryz.func93 r r ?_
  rintro w S -
  refine Sr<|Qs 2 r<|Nx<|Sr<|Fo (Bs ([] : List Int) ke61 kz3) fun B1=>Qs 1 r<|Nx<|Sq<|Sr<|Qs 1 r<|Nx<|Jn Value [] [] (fun T X=>[(1, iv T.1), (8, X)]) (fun T X=>[.own X (lc T.2)]) r2 r2 (?_) fun T4 X5=>?_
  ·refine Wb<|Lp Value [0,2] [] (fun T X=>[(1, iv T.1), (8, X), (9, iv T.2.1)]) (fun T X=>[.own X (lc T.2.2)]) (.slice (some ⟨B1, 0, none⟩) 0 0) [0] r2 r2 fun S2 X3=>Sq<|Sr<|Qs 3 r<|Nx<|Wc r (fun H6=>?_) fun H6=>?_
   ·refine Sn<|Sq<|Wb<|Sq<|Sq<|Jv [0,1,2,8,9] (fun T=>[(25, .bool T)]) r1 (Rg<|Qs 3 r<|It (fun H9=>Of 4 (beq_tf H9) r r<|Yo (Pt H9 r)<|Nl<|Bg () [0]) fun H9=>Qg 2 (beq_ff H9) r r<|Yg (gdA (beq_ff H9)) (Y.slen ks9 r)<|Qg 1 (beq_ff H9) r r<|Yo (Pf H9 r)<|Nl<|Bg () [0]) fun T7=>Ne<|Wc r (fun H10=>Sr<|Qs 3 r<|Nx<|Wr<|Tr<|Br<|Tr<|Er<|Br<|Jd<|Tr<|Re X3 [0]) fun H10=>Sn<|Sr<|Qs 2 r<|Bi fun E11 H12=>Yo (Y.ssub_from H12 ks9 r r)<|Bi fun R13 H14=>Fo (Cl [] spec_ReadVar_c H14 r r1) fun _=>Qs 5 r<|Nx<|Sq<|Sr<|Qs 2 r<|Nx<|Wc r (fun H16=>Sr<|Qs 3 r<|Nx<|Wr<|Tr<|Br<|Tr<|Er<|Br<|Jd<|Tr<|Re X3 [0]) fun H16=>?_
    exact Sn<|Sr<|Qs 2 r<|Fo (Bs [R13.1] ke61 kz3) fun B17=>Bi fun E19 H20=>Fo (Ap [1] H20 ke61 kz3 r (Oc 0 r)) fun V18=>Qs 1 r<|Nx<|Rg<|Qs 4 r<|Nl<|Bn<|Ne<|Rg<|Qs 3 r<|Nl<|Lg V18 [0]
   exact Wx<|Tx<|Ex<|Be<|Jg X3 [0]
  exact Ne<|Sr<|Qs 4 r<|Nx<|Wr<|Re X5 [0]
noncomputable def spec_ReadToken (secret : List UInt8) (s : List UInt8) : Option (Int × Int × Bool) :=
  (spec_l6Vars s (0 : Int) (2 : Int)).bind fun R1 =>
  (if (decide (R1.2 < (0 : Int))) = true then (some true)
  else (if (decide (s = ([]))) = true then (some true)
  else ((idx R1.1 (0 : Int)).bind fun E8 =>
  (idx R1.1 (1 : Int)).bind fun E10 =>
  (spec_MintToken secret E8 E10).bind fun R12 =>
  some (!(decide (R12 = s)))))).bind (fun (T4 : Bool) =>
  if T4 = true then (some ((0 : Int), (0 : Int), false))
  else ((idx R1.1 (0 : Int)).bind fun E16 =>
  (idx R1.1 (1 : Int)).bind fun E18 =>
  some (E16, E18, true)))
theorem spec_ReadToken_c {secret : List UInt8} {s : List UInt8} : Cn Tryz.prog 53 [strV secret, strV s] [] [] (spec_ReadToken secret s) (fun r (_ : Unit) => .tuple #[iv r.1, iv r.2.1, .bool r.2.2]) fun _ _ => [] := by
  unfold spec_ReadToken
  refine Ci Tryz.func53 r r ?_
  rintro w S -
  refine Sr<|Qs 3 r<|Nx<|Sr<|Qs 1 r<|Bi fun R1 H2=>Fo (Cl [] spec_l6Vars_c H2 r r1) fun Y3=>Qs 5 r<|Nx<|Sq<|Sq<|Jv [7] (fun T=>[(31, .bool T)]) r1 (?_) fun T4=>?_
  ·refine Dr [0] r hMix<|Aq [0,1,2] [0] r<|Ia (fun H6=>Ax [3,4] [0] (beq_tf H6) r r<|Ay 5 [0] r (Pt H6 r)<|Aq [6] [0] r<|Ax [7,8,9,10,11,12,13,14,15,16] [0] r r r<|Ay 17 [0] r (Pt r r)<|Az<|Bg () [0]) fun H6=>Ag 3 [0] (gdA (beq_ff H6)) r (Y.move r)<|Ag 4 [0] (gdA (beq_ff H6)) r (Y.seql r r)<|Ay 5 [0] r (Pf H6 r)<|Aq [6] [0] r<|Ia (fun H7=>Ax [7,8,9,10,11,12,13,14,15,16] [0] (beq_tf H7) r r<|Ay 17 [0] r (Pt H7 r)<|Az<|Bg () [0]) fun H7=>Ag 7 [0] (gdA (beq_ff H7)) r (Y.move r)<|Ag 8 [0] (gdA (beq_ff H7)) r (Y.move r)<|Ai fun E8 H9=>Ag 9 [0] (gdA (beq_ff H7)) r (Ix ke61 (Oc 0 r) H9 r)<|Ag 10 [0] (gdA (beq_ff H7)) r (Le kk3 (Oc 0 r) H9 r)<|Ag 11 [0] (gdA (beq_ff H7)) r (Y.move r)<|Ai fun E10 H11=>?_
   exact Ag 12 [0] (gdA (beq_ff H7)) r (Ix ke61 (Oc 0 r) H11 r)<|Ag 13 [0] (gdA (beq_ff H7)) r (Le kk3 (Oc 0 r) H11 r)<|Ag 15 [0] (gdA (beq_ff H7)) r (Y.move r)<|Ai fun R12 H13=>A1 14<|Xeg [0] (gdA (beq_ff H7)) r (Cl [] spec_MintToken_c H13 r r1) fun _=>Ag 16 [0] (gdA (beq_ff H7)) r (Y.sneq r r)<|Ay 17 [0] r (Pf H7 r)<|Az<|Bg () [0]
  exact Ne<|Wc r (fun H15=>Sr<|Qs 3 r<|Nx<|Wr<|Tr<|Re () []) fun H15=>Sn<|Sq<|Dr [0] r hMix<|Aq [0] [0] r<|Ai fun E16 H17=>Ay 1 [0] r (Ix ke61 (Oc 0 r) H17 r)<|Ay 2 [0] r (Le kk3 (Oc 0 r) H17 r)<|Aq [3] [0] r<|Ai fun E18 H19=>Ay 4 [0] r (Ix ke61 (Oc 0 r) H19 r)<|Ay 5 [0] r (Le kk3 (Oc 0 r) H19 r)<|Aq [6,7,8] [0] r<|Az<|Ne<|Wr<|Re () []
noncomputable def spec_Bytes (m : List KV) : Option Int :=
  bindC (loopO (fun (S1 : Int × Int) => (if (decide (S1.2 < ((m.length : Nat) : Int))) = true then ((spec_MapOk m).bind fun R8 =>
  some R8)
  else (some false)).bind (fun (T5 : Bool) =>
  if T5 = true then ((idx m S1.2).bind fun E12 =>
  some (.go (IntKind.i64.wrap (IntKind.i64.wrap (S1.1 + ((E12.Key.length : Nat) : Int)) + ((E12.Val.length : Nat) : Int)), IntKind.i64.wrap (S1.2 + (1 : Int)))))
  else (some (.done (.go S1.1)))))
  ((0 : Int), (0 : Int)))
  (fun (T3 : Int) => some T3)
theorem spec_Bytes_c {m : List KV} {U0 : Value} : Cn Tryz.prog 98 [U0] [] [(U0, lc m)] (spec_Bytes m) (fun r (_ : Unit) => iv r) fun _ _ => [] := by
  unfold spec_Bytes
  refine Ci Tryz.func98 r r ?_
  rintro w S ⟨Z0,-⟩
  refine Sr<|Qs 1 r<|Nx<|Sr<|Qs 1 r<|Nx<|Sq<|Sr<|Qs 1 r<|Nx<|Ju [] (fun T=>[(3, iv T)]) r1 (?_) fun T3=>?_
  ·refine Wb<|Lu [0] (fun T=>[(3, iv T.1), (4, iv T.2)]) r1 fun S1=>Sq<|Sq<|Jv [0,3,4] (fun T=>[(12, .bool T)]) r1 (Rg<|Qs 2 r<|Yo (Ln ke39 (Bc Z0) r)<|Qs 2 r<|It (fun H7=>Qg 1 (beq_tt H7) r r<|Bi fun R8 H9=>Fg (gdA (beq_tt H7)) (Cl [] spec_MapOk_c H9 r r1 ⟨(Bc Z0),⟨⟩⟩) fun _=>Yo (Pt H7 r)<|Nl<|Bg () []) fun H7=>Of 2 (beq_ft H7) r r<|Yo (Pf H7 r)<|Nl<|Bg () []) fun T5=>Ne<|Wc r (fun H11=>?_) fun H11=>?_
   ·exact Sn<|Sq<|Wb<|Dr [] r hMix<|Aq [0,1,2] [] r<|Ai fun E12 H13=>Ay 3 [] r (Ix ke39 (Bc Z0) H13 r)<|Ay 4 [] r (Fe kf100_0 (Bc Z0) H13 r)<|Ay 5 [] r (Le kk9 (Bc Z0) H13 r)<|Ay 6 [] r (Y.slen ks9 r)<|Aq [7,8,9] [] r<|Ay 10 [] r (Ix ke39 (Bc Z0) H13 r)<|Ay 11 [] r (Fe kf100_1 (Bc Z0) H13 r)<|Ay 12 [] r (Le kk9 (Bc Z0) H13 r)<|Ay 13 [] r (Y.slen ks9 r)<|Aq [14,15] [] r<|Az<|Bn<|Ne<|Rg<|Qs 3 r<|Nl<|Lg () []
   exact Wx<|Tx<|Ex<|Be<|Jg () []
  exact Ne<|Sr<|Qs 2 r<|Nx<|Wr<|Re () []
noncomputable def spec_l21Quota (s : Shares) (id : Int) : Option Int :=
  bindC (loopO (fun (S2 : Int) => if (decide (S2 < ((s.List.length : Nat) : Int))) = true then ((idx s.List S2).bind fun E7 =>
  if (decide (E7.Tenant = id)) = true then (some (.done (.done E7.Quota)))
  else (some (.go (IntKind.i64.wrap (S2 + (1 : Int))))))
  else (some (.done (.go ()))))
  (0 : Int))
  (fun (T4 : Unit) => some (-1 : Int))
theorem spec_l21Quota_c {s : Shares} {id : Int} {U0 : Value} : Cn Tryz.prog 142 [.agg #[iv s.Size, U0], iv id] [] [(U0, lc s.List)] (spec_l21Quota s id) (fun r (_ : Unit) => iv r) fun _ _ => [] := by
  unfold spec_l21Quota
  refine Ci Tryz.func142 r r ?_
  rintro w S ⟨Z0,-⟩
  refine Sr<|Fo (Bx r (Ca ⟨Op',Ob Z0,⟨⟩⟩)) fun B1=>Qs 1 r<|Nx<|Sq<|Sr<|Qs 1 r<|Nx<|Jn Unit [] [] (fun _ _=>[]) (fun _ _=>[]) r2 r2 (?_) fun T4 X5=>?_
  ·refine Wb<|Lu [1,2] (fun T=>[(5, iv T)]) r1 fun S2=>Sq<|Sr<|Qs 1 r<|Yo (Fb kf32_1 r)<|Yo (Lb 0 kk30 r)<|Yo (Ln ke30 (Bc Z0) r)<|Qs 1 r<|Nx<|Wc r (fun H6=>?_) fun H6=>?_
   ·exact Sn<|Sq<|Wb<|Sr<|Yo (Fb kf32_1 r)<|Yo (Lb 0 kk30 r)<|Qs 1 r<|Bi fun E7 H8=>Yo (Ix ke30 (Bc Z0) H8 r)<|Yo (Fe kf134_0 (Bc Z0) H8 r)<|Yo (Le kk3 (Bc Z0) H8 r)<|Qs 2 r<|Nx<|Wc r (fun H9=>Sr<|Yo (Fb kf32_1 r)<|Yo (Lb 0 kk30 r)<|Qs 1 r<|Yo (Ix ke30 (Bc Z0) H8 r)<|Yo (Fe kf134_1 (Bc Z0) H8 r)<|Yo (Le kk3 (Bc Z0) H8 r)<|Qs 1 r<|Nx<|Wr<|Br<|Tr<|Er<|Br<|Jd<|Tr<|Re () []) fun H9=>Sk<|Bn<|Ne<|Rg<|Qs 3 r<|Nl<|Lg () [0]
   exact Wx<|Tx<|Ex<|Be<|Jg () []
  exact Ne<|Sr<|Qs 1 r<|Nx<|Wr<|Re () []
noncomputable def spec_l21Write (m : Model) (at_ : Int) (ops : List Op) : Option (Model × Reply) :=
  (idx m.Tens at_).bind fun E4 =>
  (spec_ApplyBatch E4.Map ops).bind fun R9 =>
  if (!R9.2) = true then ((spec_l21Code (1 : Int)).bind fun R13 =>
  some (m, R13))
  else ((spec_Bytes R9.1).bind fun R16 =>
  (spec_l21Quota m.Shares E4.Id).bind fun R19 =>
  if (decide (R16 > R19)) = true then ((spec_l21Code (3 : Int)).bind fun R23 =>
  some (m, R23))
  else (bindC (loopO (fun (S26 : Int × Int) => if (decide (S26.2 < ((m.Rows.length : Nat) : Int))) = true then ((idx m.Rows S26.2).bind fun E31 =>
  bindC (if (decide (E31.Tenant = E4.Id)) = true then (some (.go (IntKind.i64.wrap (S26.1 + (1 : Int)))))
  else (some (.go S26.1)))
  (fun (T33 : Int) => some (.go (T33, IntKind.i64.wrap (S26.2 + (1 : Int))))))
  else (some (.done (.go S26.1))))
  ((0 : Int), (0 : Int)))
  (fun (T28 : Int) => bindC (if (decide (T28 ≥ (6 : Int))) = true then ((spec_l21Flush m at_).bind fun R39 =>
  some (.go (R39.Secret, R39.Shares.Size, R39.Shares.List, R39.Tens, R39.Base, R39.Rows)))
  else (some (.go (m.Secret, m.Shares.Size, m.Shares.List, m.Tens, m.Base, m.Rows))))
  (fun (T36 : List UInt8 × Int × List Share × List MTen × List MTen × List MRow) => (idx T36.2.2.2.1 at_).bind fun E42 =>
  (app 40 ([] : List Op) ops).bind fun E49 =>
  (app 40 T36.2.2.2.2.2 ([{ Tenant := E4.Id, Ops := E49, Synced := false : MRow }])).bind fun E53 =>
  some ({ Secret := T36.1, Shares := { Size := T36.2.1, List := T36.2.2.1 : Shares }, Tens := T36.2.2.2.1.set at_.toNat ({ Id := E42.Id, Epoch := E42.Epoch, Seq := IntKind.i64.wrap (E4.Seq + (1 : Int)), Map := R9.1, Snaps := E42.Snaps : MTen }), Base := T36.2.2.2.2.1, Rows := E53 : Model }, { Code := (0 : Int), N := IntKind.i64.wrap (E4.Seq + (1 : Int)), Text := [], List := ([] : List KV) : Reply })))))
theorem spec_l21Write_c {m : Model} {at_ : Int} {ops : List Op} {U0 U1 U2 U3 U4 : Value} : Cn Tryz.prog 94 [.agg #[strV m.Secret, iv m.Shares.Size, U0, U1, U2, U3], iv at_, U4] [.own U0 (lc m.Shares.List), .own U1 (lc m.Tens), .own U2 (lc m.Base), .own U3 (lc m.Rows)] [(U4, lc ops)] (spec_l21Write m at_ ops) (fun r (X : Value × Value × Value × Value × Value) => .tuple #[.agg #[strV r.1.Secret, iv r.1.Shares.Size, X.1, X.2.1, X.2.2.1, X.2.2.2.1], .agg #[iv r.2.Code, iv r.2.N, strV r.2.Text, X.2.2.2.2]]) fun r X => [.own X.1 (lc r.1.Shares.List), .own X.2.1 (lc r.1.Tens), .own X.2.2.1 (lc r.1.Base), .own X.2.2.2.1 (lc r.1.Rows), .own X.2.2.2.2 (lc r.2.List)] := by
  unfold spec_l21Write
  refine Ci Tryz.func94 r r ?_
  rintro w S ⟨Z0,-⟩
  refine Sr<|Fo (Bx r (Ca ⟨Op',Op',Ow' 0,Ow' 1,Ow' 2,Ow' 3,⟨⟩⟩)) fun B1=>Fo (Al kz36 r) fun B2=>Fo (Al kz41 r) fun B3=>Nx<|Sr<|Yo (Fb kf36_2 r)<|Yo (Lb 2 kk33 r)<|Qs 1 r<|Bi fun E4 H5=>Yo (Ix ke33 (Oc 4 r) H5 r)<|TO.fact (ptr_of (Can.own 4 r) H5) fun H6=>Gt (X := Value × Value) (Ho 2 [4] H5 r r1) fun X7=>Yo (Lh 0 kk90 H5 r)<|Fo (Al kz90 r) fun B8=>Fu (Sb 0 kk90 r (Ca ⟨Op',Op',Op',Ow' 2,Ow' 3,⟨⟩⟩) r)<|Nx<|Sr<|Yo (Fb kf90_3 r)<|Yo (Lb 0 kk39 r)<|Qs 1 r<|Bi fun R9 H10=>Fo (Cl [] spec_ApplyBatch_c H10 r r1 ⟨(Oc 2 r),(Bc Z0),⟨⟩⟩) fun Y11=>?_
  refine Qs 5 r<|Nx<|Sq<|Sr<|Qs 2 r<|Nx<|Wc r (fun H12=>?_) fun H12=>?_
  ·exact Sq<|Dr [0,0,0,0,0,2,2,2,2] r hMix<|Ay 0 [0,0,0,0,0,2,2,2,2] r (Lb 5 kk36 r)<|Ai fun R13 H14=>A1 1<|Xe [1,1,1,1,1,3,3,3,3] r (Cl [] spec_l21Code_c H14 r r1) fun Y15=>A1 2<|Xu [1,1,1,1,1,3,3,3,3] r (Sb 7 kk36 r (Ca ⟨Op',Op',Ow' 9,Ow' 3,Ow' 10,Ow' 11,⟨⟩⟩) r)<|A1 3<|Xu [1,1,1,1,1,3,3,3,3] r (Sb 6 kk41 r (Ca ⟨Op',Op',Op',Ow' 0,⟨⟩⟩) r)<|Az<|Ne<|Wr<|Tr<|Ke (Hs [3, 3, 3] H5 r (Ck (Ck (Ck (Cf (Cf Cz))))))<|TE.leaf fun _ _ hf_ hs_ => ret_any (rs := [.cell 6 36, .cell 7 41]) (vs := [.agg #[strV m.Secret, iv m.Shares.Size, U0, U1, U2, U3], .agg #[iv R13.Code, iv R13.N, strV R13.Text, Y15]]) (.inl r) r (RV.cell 5 r r kk36 r (RV.cell 4 r r kk41 r ⟨⟩)) hf_ hs_ ⟨(U0, U1, U2, U3, Y15), r, hs_.pulls [7, 0, 6, 6, 0] r⟩
  refine Sn<|Sq<|Sq<|Dr [0,0,0,0,0,0,0,0,0,0,0] r hMix<|Aq [0] [0,0,0,0,0,0,0,0,0,0,0] r<|Ay 2 [0,0,0,0,0,0,0,0,0,0,0] r (Fb kf36_1 r)<|Ay 3 [0,0,0,0,0,0,0,0,0,0,0] r (Lb 7 kk32 r)<|Ay 4 [0,0,0,0,0,0,0,0,0,0,0] r (Fb kf90_0 r)<|Ay 5 [0,0,0,0,0,0,0,0,0,0,0] r (Lb 1 kk3 r)<|Ai fun R16 H17=>A1 1<|Xe [0,0,0,0,0,0,0,0,0,0,0] r (Cl [] spec_Bytes_c H17 r r1 ⟨(Oc 0 r),⟨⟩⟩) fun _=>Ai fun R19 H20=>A1 6<|Xe [0,0,0,0,0,0,0,0,0,0,0] r (Cl [] spec_l21Quota_c H20 r r1 ⟨(Oc 8 r),⟨⟩⟩) fun _=>Aq [7] [0,0,0,0,0,0,0,0,0,0,0] r<|Az<|Ne<|Wc r (fun H22=>?_) fun H22=>?_
  ·exact Sq<|Dr [0,0,0,0,0,2,2,2,2] r hMix<|Ay 0 [0,0,0,0,0,2,2,2,2] r (Lb 5 kk36 r)<|Ai fun R23 H24=>A1 1<|Xe [1,1,1,1,1,3,3,3,3] r (Cl [] spec_l21Code_c H24 r r1) fun Y25=>A1 2<|Xu [1,1,1,1,1,3,3,3,3] r (Sb 7 kk36 r (Ca ⟨Op',Op',Ow' 9,Ow' 3,Ow' 10,Ow' 11,⟨⟩⟩) r)<|A1 3<|Xu [1,1,1,1,1,3,3,3,3] r (Sb 6 kk41 r (Ca ⟨Op',Op',Op',Ow' 0,⟨⟩⟩) r)<|Az<|Ne<|Wr<|Tr<|Ke (Hs [3, 3, 3] H5 r (Ck (Ck (Ck (Cf (Cf Cz))))))<|TE.leaf fun _ _ hf_ hs_ => ret_any (rs := [.cell 6 36, .cell 7 41]) (vs := [.agg #[strV m.Secret, iv m.Shares.Size, U0, U1, U2, U3], .agg #[iv R23.Code, iv R23.N, strV R23.Text, Y25]]) (.inl r) r (RV.cell 5 r r kk36 r (RV.cell 4 r r kk41 r ⟨⟩)) hf_ hs_ ⟨(U0, U1, U2, U3, Y25), r, hs_.pulls [7, 0, 6, 6, 0] r⟩
  refine Sn<|Sr<|Qs 1 r<|Nx<|Sq<|Sr<|Qs 1 r<|Nx<|Jn Unit [1,2,3,6,7,8,9] [7,6,5,1,4,4,4,0] (fun T _=>[(11, iv T)]) (fun _ _=>[.own U1 (lc m.Tens)]) r2 r2 (?_) fun T28 X29=>?_
  ·refine Wb<|Kw (Hs [2, 2, 2] H5 r (Ck (Ck (Ck (Cf (Cf Cz))))))<|Lu [1,2,3,6,7,8,9] (fun T=>[(11, iv T.1), (12, iv T.2)]) r1 fun S26=>Sq<|Sr<|Qs 1 r<|Yo (Fb kf36_4 r)<|Yo (Lb 5 kk34 r)<|Yo (Ln ke34 (Oc 8 r) r)<|Qs 1 r<|Nx<|Wc r (fun H30=>?_) fun H30=>?_
   ·refine Sn<|Sq<|Wb<|Sq<|Dr [0,0,0,0,0,0,0,0,0] r hMix<|Ay 0 [0,0,0,0,0,0,0,0,0] r (Fb kf36_4 r)<|Ay 1 [0,0,0,0,0,0,0,0,0] r (Lb 5 kk34 r)<|Aq [2] [0,0,0,0,0,0,0,0,0] r<|Ai fun E31 H32=>Ay 3 [0,0,0,0,0,0,0,0,0] r (Ix ke34 (Oc 8 r) H32 r)<|Ay 4 [0,0,0,0,0,0,0,0,0] r (Fe kf95_0 (Oc 8 r) H32 r)<|Ay 5 [0,0,0,0,0,0,0,0,0] r (Le kk3 (Oc 8 r) H32 r)<|Ay 6 [0,0,0,0,0,0,0,0,0] r (Fb kf90_0 r)<|Ay 7 [0,0,0,0,0,0,0,0,0] r (Lb 2 kk3 r)<|Aq [8] [0,0,0,0,0,0,0,0,0] r<|Az<|Ne<|Ju [1,2,3,6,7,8,9,12] (fun T=>[(11, iv T)]) r1 (Wc r (fun H35=>Rg<|Qs 3 r<|Nl<|Jg () [0,0,0,0,0,0,0,0,0]) fun H35=>Sk<|Jg () [0,0,0,0,0,0,0,0,0]) fun T33=>?_
    exact Bn<|Ne<|Rg<|Qs 3 r<|Nl<|Lg () [0,0,0,0,0,0,0,0,0]
   exact Wx<|Tx<|Ex<|Be<|Jg () [5,4,3,2,2,2,2,1,0]
  refine Ne<|Sq<|Sr<|Qs 2 r<|Nx<|Jn (Value × Value × Value × Value) [1,2,3,6,7,8,9] [1,1,1,4] (fun _ _=>[]) (fun T X=>[.box B1 36 [strV T.1, iv T.2.1, X.1, X.2.1, X.2.2.1, X.2.2.2], .own X.1 (lc T.2.2.1), .own X.2.1 (lc T.2.2.2.1), .own X.2.2.1 (lc T.2.2.2.2.1), .own X.2.2.2 (lc T.2.2.2.2.2)]) r2 r2 (?_) fun T36 X37=>?_
  ·exact Wc r (fun H38=>Rg<|Yo (Lb 0 kk36 r)<|Qs 1 r<|Bi fun R39 H40=>Fo (Cl [4, 7, 4, 4] spec_l21Flush_c H40 r r1) fun Y41=>Fu (Sb 4 kk36 r (Ca ⟨Op',Op',Ow' 0,Ow' 1,Ow' 2,Ow' 3,⟨⟩⟩) r)<|Nl<|Jg (Y41.1, Y41.2.1, Y41.2.2.1, Y41.2.2.2) [5,5,5,5,4,0,0,0,0]) fun H38=>Sk<|Jg (U0, U1, U2, U3) [1,1,1,4,0,0,2,0,0]
  refine Ne<|Sr<|Yo (Fb kf36_2 r)<|Yo (Lb 4 kk33 r)<|Qs 2 r<|Bi fun E42 H43=>Yo (Ix ke33 (Oc 6 r) H43 r)<|TO.fact (ptr_of (Can.own 6 r) H43) fun H44=>Yo (Fp kf90_3 H44 r)<|Gt (X := Value × Value) (Ho 2 [6] H43 r r1) fun X45=>Fu (Sh 0 [.raw Y11] kk39 H43 r (Co 6) r)<|Nx<|Sr<|Yo (Fb kf36_2 r)<|Yo (Lb 7 kk33 r)<|Qs 1 r<|Yo (Fb kf90_2 r)<|Yo (Lb 5 kk3 r)<|Qs 1 r<|Yo (Ix ke33 (Oc 0 r) H43 r)<|Yo (Fp kf90_2 H44 r)<|Fu (Sh 0 [ic (IntKind.i64.wrap (E4.Seq + (1 : Int)))] kk3 H43 r (Cp r) r)<|Nx<|Sq<|Wi fun E49 H50=>Wi fun E53 H54=>?_
  refine Jw Value [3,6,7,8] [3,3,3,5,5] (fun _=>[]) (fun X=>[.box B1 36 [strV T36.1, iv T36.2.1, X37.1, X37.2.1, X37.2.2.1, X], .own X37.2.1 (lc (T36.2.2.2.1.set at_.toNat ({ Id := E42.Id, Epoch := E42.Epoch, Seq := IntKind.i64.wrap (E4.Seq + (1 : Int)), Map := R9.1, Snaps := E42.Snaps : MTen }))), .own X (lc E53)]) r1 r1 (?_) fun X56=>?_
  ·refine Dr [0,0,0,0,0,0,0,1,1] r hMix<|Ay 0 [0,0,0,0,0,0,0,1,1] r (Fb kf36_4 r)<|Ay 2 [0,0,0,0,0,0,0,1,1] r (Fb kf90_0 r)<|Ay 3 [0,0,0,0,0,0,0,1,1] r (Lb 5 kk3 r)<|Aq [5] [0,0,0,0,0,0,0,1,1] r<|A2 1 4 (?_)<|?_
   ·refine Xy [0,0,0,0,0,0,0,1,1] r (Lb 7 kk34 r)<|A1 4<|Xe [1,1,1,1,1,1,1,2,2] r (Bs ([] : List Op) ke44 kz98) fun B58=>A1 6<|Xe [1,1,1,1,1,1,1,2,2] r (Ap [0] H50 ke44 kz98 r (Bc Z0)) fun V59=>A1 7<|Xy [1,1,1,1,1,1,1,2,2] r (Bd kp95 kz95 (Pc r (Cp r)<|Pc r (Co 0)<|Pz) r)<|A1 8<|Xe [2,2,2,2,2,2,2,3,3] r (Bk [ic E4.Id, .raw V59, .bool false] ke34 kz95 r (Qc (Ca ⟨Op',Ow' 0,Op',⟨⟩⟩)<|Qz)) fun B60=>Ka (Ha [0, 0] ([{ Tenant := E4.Id, Ops := E49, Synced := false : MRow }] : List MRow) r (Ck (Cf (Ck Cz))))<|A1 9<|Xe [1,1,1,1,1,1,1,2,2] r (Aw [11, 0] H54 ke34 kz95 r) fun V61=>?_
    exact Ay 10 [1,1,1,1,1,1,1,2,2] r (Fb kf36_4 r)<|A1 11<|Xu [1,1,1,1,1,1,1,2,2] r (Sb 8 kk34 r (Co 0) r)<|Az<|Ke (Hc [1, 6, 2] ({ Id := E42.Id, Epoch := E42.Epoch, Seq := IntKind.i64.wrap (E4.Seq + (1 : Int)), Map := R9.1, Snaps := E42.Snaps : MTen }) H43 r (Ck (Ck (Ck (Cf (Cf Cz))))))<|Bg V61 [3,3,3,4,4,3,0,0]
   refine Xe [1,1,1,1,1,1,1,2,2] r (Bs ([] : List Op) ke44 kz98) fun B57=>A2 1 6 (?_)<|?_
   ·exact Xy [1,1,1,1,1,1,1,2,2] r (Lb 8 kk34 r)<|A1 6<|Xe [1,1,1,1,1,1,1,2,2] r (Ap [0] H50 ke44 kz98 r (Bc Z0)) fun V59=>A1 7<|Xy [1,1,1,1,1,1,1,2,2] r (Bd kp95 kz95 (Pc r (Cp r)<|Pc r (Co 0)<|Pz) r)<|A1 8<|Xe [2,2,2,2,2,2,2,3,3] r (Bk [ic E4.Id, .raw V59, .bool false] ke34 kz95 r (Qc (Ca ⟨Op',Ow' 0,Op',⟨⟩⟩)<|Qz)) fun B60=>Ka (Ha [0, 0] ([{ Tenant := E4.Id, Ops := E49, Synced := false : MRow }] : List MRow) r (Ck (Cf (Ck Cz))))<|A1 9<|Xe [1,1,1,1,1,1,1,2,2] r (Aw [11, 0] H54 ke34 kz95 r) fun V61=>Ay 10 [1,1,1,1,1,1,1,2,2] r (Fb kf36_4 r)<|A1 11<|Xu [1,1,1,1,1,1,1,2,2] r (Sb 8 kk34 r (Co 0) r)<|Az<|Ke (Hc [1, 6, 2] ({ Id := E42.Id, Epoch := E42.Epoch, Seq := IntKind.i64.wrap (E4.Seq + (1 : Int)), Map := R9.1, Snaps := E42.Snaps : MTen }) H43 r (Ck (Ck (Ck (Cf (Cf Cz))))))<|Bg V61 [3,3,3,4,4,3,0,0]
   refine Xe [1,1,1,1,1,1,1,2,2] r (Ap [0] H50 ke44 kz98 r (Bc Z0)) fun V58=>A2 1 7 (?_)<|?_
   ·exact Xy [1,1,1,1,1,1,1,2,2] r (Lb 8 kk34 r)<|A1 7<|Xy [1,1,1,1,1,1,1,2,2] r (Bd kp95 kz95 (Pc r (Cp r)<|Pc r (Co 0)<|Pz) r)<|A1 8<|Xe [2,2,2,2,2,2,2,3,3] r (Bk [ic E4.Id, .raw V58, .bool false] ke34 kz95 r (Qc (Ca ⟨Op',Ow' 0,Op',⟨⟩⟩)<|Qz)) fun B59=>Ka (Ha [0, 0] ([{ Tenant := E4.Id, Ops := E49, Synced := false : MRow }] : List MRow) r (Ck (Cf (Ck Cz))))<|A1 9<|Xe [1,1,1,1,1,1,1,2,2] r (Aw [11, 0] H54 ke34 kz95 r) fun V60=>Ay 10 [1,1,1,1,1,1,1,2,2] r (Fb kf36_4 r)<|A1 11<|Xu [1,1,1,1,1,1,1,2,2] r (Sb 8 kk34 r (Co 0) r)<|Az<|Ke (Hc [1, 6, 2] ({ Id := E42.Id, Epoch := E42.Epoch, Seq := IntKind.i64.wrap (E4.Seq + (1 : Int)), Map := R9.1, Snaps := E42.Snaps : MTen }) H43 r (Ck (Ck (Ck (Cf (Cf Cz))))))<|Bg V60 [3,3,3,4,4,3,0,0]
   refine Xy [1,1,1,1,1,1,1,2,2] r (Bd kp95 kz95 (Pc r (Cp r)<|Pc r (Co 0)<|Pz) r)<|A2 1 8 (?_)<|?_
   ·exact Xy [1,1,1,1,1,1,1,2,2] r (Lb 8 kk34 r)<|A1 8<|Xe [2,2,2,2,2,2,2,3,3] r (Bk [ic E4.Id, .raw V58, .bool false] ke34 kz95 r (Qc (Ca ⟨Op',Ow' 0,Op',⟨⟩⟩)<|Qz)) fun B60=>Ka (Ha [0, 0] ([{ Tenant := E4.Id, Ops := E49, Synced := false : MRow }] : List MRow) r (Ck (Cf (Ck Cz))))<|A1 9<|Xe [1,1,1,1,1,1,1,2,2] r (Aw [11, 0] H54 ke34 kz95 r) fun V61=>Ay 10 [1,1,1,1,1,1,1,2,2] r (Fb kf36_4 r)<|A1 11<|Xu [1,1,1,1,1,1,1,2,2] r (Sb 8 kk34 r (Co 0) r)<|Az<|Ke (Hc [1, 6, 2] ({ Id := E42.Id, Epoch := E42.Epoch, Seq := IntKind.i64.wrap (E4.Seq + (1 : Int)), Map := R9.1, Snaps := E42.Snaps : MTen }) H43 r (Ck (Ck (Ck (Cf (Cf Cz))))))<|Bg V61 [3,3,3,4,4,3,0,0]
   exact Xe [2,2,2,2,2,2,2,3,3] r (Bk [ic E4.Id, .raw V58, .bool false] ke34 kz95 r (Qc (Ca ⟨Op',Ow' 0,Op',⟨⟩⟩)<|Qz)) fun B59=>Ka (Ha [0, 0] ([{ Tenant := E4.Id, Ops := E49, Synced := false : MRow }] : List MRow) r (Ck (Cf (Ck Cz))))<|A1 1<|Xy [1,1,1,1,1,1,1,2,2] r (Lb 8 kk34 r)<|A1 9<|Xe [1,1,1,1,1,1,1,2,2] r (Aw [11, 0] H54 ke34 kz95 r) fun V60=>Ay 10 [1,1,1,1,1,1,1,2,2] r (Fb kf36_4 r)<|A1 11<|Xu [1,1,1,1,1,1,1,2,2] r (Sb 8 kk34 r (Co 0) r)<|Az<|Ke (Hc [1, 6, 2] ({ Id := E42.Id, Epoch := E42.Epoch, Seq := IntKind.i64.wrap (E4.Seq + (1 : Int)), Map := R9.1, Snaps := E42.Snaps : MTen }) H43 r (Ck (Ck (Ck (Cf (Cf Cz))))))<|Bg V60 [3,3,3,4,4,3,0,0]
  exact Ne<|Sq<|Dr [2,2,2,2,2,2] r hMix<|Ay 0 [2,2,2,2,2,2] r (Lb 3 kk36 r)<|Ay 1 [2,2,2,2,2,2] r (Fb kf90_2 r)<|Ay 2 [2,2,2,2,2,2] r (Lb 0 kk3 r)<|Aq [3] [2,2,2,2,2,2] r<|Ay 4 [2,2,2,2,2,2] r (Bd kp41 kz41 (Pc r (Cp r)<|Pz) r)<|A1 5<|Xu [2,2,2,2,2,2] r (Sb 0 kk36 r (Ca ⟨Op',Op',Ow' 3,Ow' 6,Ow' 4,Ow' 7,⟨⟩⟩) r)<|A1 6<|Xu [2,2,2,2,2,2] r (Sb 1 kk41 r (Cp r) r)<|Az<|Ne<|Wr<|TE.leaf fun _ _ hf_ hs_ => ret_any (rs := [.cell 6 36, .cell 7 41]) (vs := [.agg #[strV T36.1, iv T36.2.1, X37.1, X37.2.1, X37.2.2.1, X56], .agg #[iv (0 : Int), iv (IntKind.i64.wrap (E4.Seq + (1 : Int))), strV ([]), .slice none 0 0]]) (.inl r) r (RV.cell 0 r r kk36 r (RV.cell 1 r r kk41 r ⟨⟩)) hf_ hs_ ⟨(X37.1, X37.2.1, X37.2.2.1, X56, (.slice none 0 0)), r, (hs_.nilItem 2).pulls [4, 6, 4, 5, 0] r⟩
noncomputable def spec_l21Find (m : List KV) (key : List UInt8) : Option Reply :=
  bindC (loopO (fun (S2 : Int) => if (decide (S2 < ((m.length : Nat) : Int))) = true then ((idx m S2).bind fun E7 =>
  if (decide (E7.Key = key)) = true then (some (.done (.done ({ Code := (0 : Int), N := (0 : Int), Text := E7.Val, List := ([] : List KV) : Reply }))))
  else (some (.go (IntKind.i64.wrap (S2 + (1 : Int))))))
  else (some (.done (.go ()))))
  (0 : Int))
  (fun (T4 : Unit) => (spec_l21Code (5 : Int)).bind fun R11 =>
  some R11)
theorem spec_l21Find_c {m : List KV} {key : List UInt8} {U0 : Value} : Cn Tryz.prog 95 [U0, strV key] [] [(U0, lc m)] (spec_l21Find m key) (fun r (X : Value) => .agg #[iv r.Code, iv r.N, strV r.Text, X]) fun r X => [.own X (lc r.List)] := by
  unfold spec_l21Find
  refine Ci Tryz.func95 r r ?_
  rintro w S ⟨Z0,-⟩
  refine Sr<|Fo (Al kz41 r) fun B1=>Nx<|Sq<|Sr<|Qs 1 r<|Nx<|Ju [4] (fun _=>[]) r1 (?_) fun T4=>?_
  ·refine Wb<|Lu [0,1,4] (fun T=>[(5, iv T)]) r1 fun S2=>Sq<|Sr<|Qs 2 r<|Yo (Ln ke39 (Bc Z0) r)<|Qs 1 r<|Nx<|Wc r (fun H6=>?_) fun H6=>?_
   ·refine Sn<|Sq<|Wb<|Sr<|Qs 2 r<|Bi fun E7 H8=>Yo (Ix ke39 (Bc Z0) H8 r)<|Yo (Fe kf100_0 (Bc Z0) H8 r)<|Yo (Le kk9 (Bc Z0) H8 r)<|Qs 2 r<|Nx<|Wc r (fun H9=>?_) fun H9=>?_
    ·exact Sr<|Qs 2 r<|Yo (Ix ke39 (Bc Z0) H8 r)<|Yo (Fe kf100_1 (Bc Z0) H8 r)<|Yo (Le kk9 (Bc Z0) H8 r)<|Yo (Bd kp41 kz41 (Pc r (Cp r)<|Pz) r)<|Fu (Sb 0 kk41 r (Cp r) r)<|Nx<|Wr<|Br<|Tr<|Er<|Br<|Jd<|Tr<|TE.leaf fun _ _ hf_ hs_ => ret_any (rs := [.cell 4 41]) (vs := [.agg #[iv (0 : Int), iv (0 : Int), strV E7.Val, .slice none 0 0]]) (.inl r) r (RV.cell 0 r r kk41 r ⟨⟩) hf_ hs_ ⟨(.slice none 0 0), r, (hs_.nilItem 2).pulls [0] r⟩
    exact Sk<|Bn<|Ne<|Rg<|Qs 3 r<|Nl<|Lg () [0]
   exact Wx<|Tx<|Ex<|Be<|Jg () [0]
  exact Ne<|Sr<|Bi fun R11 H12=>Fo (Cl [] spec_l21Code_c H12 r r1) fun Y13=>Fu (Sb 1 kk41 r (Ca ⟨Op',Op',Op',Ow' 0,⟨⟩⟩) r)<|Nx<|Wr<|TE.leaf fun _ _ hf_ hs_ => ret_any (rs := [.cell 4 41]) (vs := [.agg #[iv R11.Code, iv R11.N, strV R11.Text, Y13]]) (.inl r) r (RV.cell 1 r r kk41 r ⟨⟩) hf_ hs_ ⟨Y13, r, hs_.pulls [0] r⟩
noncomputable def spec_l9Within (key : List UInt8) (from_ : List UInt8) (to : List UInt8) : Option Bool :=
  (if (!(sLt key from_)) = true then (if (decide (to = ([]))) = true then (some true)
  else (some (sLt key to)))
  else (some false)).bind (fun (T1 : Bool) =>
  some T1)
theorem spec_l9Within_c {key : List UInt8} {from_ : List UInt8} {to : List UInt8} : Cn Tryz.prog 143 [strV key, strV from_, strV to] [] [] (spec_l9Within key from_ to) (fun r (_ : Unit) => .bool r) fun _ _ => [] := by
  unfold spec_l9Within
  refine Ci Tryz.func143 r r ?_
  rintro w S -
  refine Sr<|Qs 1 r<|Nx<|Sq<|Jv [] (fun T=>[(6, .bool T)]) r1 (?_) fun T1=>?_
  ·exact Rg<|Qs 4 r<|It (fun H3=>Qg 3 (beq_tt H3) r r<|It (fun H4=>Of 3 (beq_tf H4) r r<|Yg (gdA (beq_tt H3)) (Pt H4 r)<|Yo (Pt H3 r)<|Qs 1 r<|Nl<|Bg () []) fun H4=>Qg 3 (beq_ff H4) r r<|Yg (gdA (beq_tt H3)) (Pf H4 r)<|Yo (Pt H3 r)<|Qs 1 r<|Nl<|Bg () []) fun H3=>Of 3 (beq_ft H3) r r<|Ou 3 r r<|Of 1 (beq_ft H3) r r<|Yo (Pf H3 r)<|Qs 1 r<|Nl<|Bg () []
  exact Ne<|Wr<|Re () []
noncomputable def spec_l21Scan (m : List KV) (from_ : List UInt8) (to : List UInt8) : Option (List KV) :=
  bindC (loopO (fun (S2 : Int × List KV) => if (decide (S2.1 < ((m.length : Nat) : Int))) = true then ((idx m S2.1).bind fun E7 =>
  (spec_l9Within E7.Key from_ to).bind fun R9 =>
  bindC (if R9 = true then ((app 32 S2.2 ([E7])).bind fun E17 =>
  some (.go E17))
  else (some (.go S2.2)))
  (fun (T12 : List KV) => some (.go (IntKind.i64.wrap (S2.1 + (1 : Int)), T12))))
  else (some (.done (.go S2.2))))
  ((0 : Int), ([] : List KV)))
  (fun (T4 : List KV) => some T4)
theorem spec_l21Scan_c {m : List KV} {from_ : List UInt8} {to : List UInt8} {U0 : Value} : Cn Tryz.prog 96 [U0, strV from_, strV to] [] [(U0, lc m)] (spec_l21Scan m from_ to) (fun _ (X : Value) => X) fun r X => [.own X (lc r)] := by
  unfold spec_l21Scan
  refine Ci Tryz.func96 r r ?_
  rintro w S ⟨Z0,-⟩
  refine Sr<|Qs 1 r<|Nx<|Sr<|Fo (Bs ([] : List KV) ke39 kz100) fun B1=>Qs 1 r<|Nx<|Sq<|Sr<|Qs 1 r<|Nx<|Jn Value [] [] (fun _ X=>[(7, X)]) (fun T X=>[.own X (lc T)]) r2 r2 (?_) fun T4 X5=>?_
  ·refine Wb<|Lp Value [0,1,2] [] (fun T X=>[(7, X), (8, iv T.1)]) (fun T X=>[.own X (lc T.2)]) (.slice (some ⟨B1, 0, none⟩) 0 0) [0] r2 r2 fun S2 X3=>Sq<|Sr<|Qs 2 r<|Yo (Ln ke39 (Bc Z0) r)<|Qs 1 r<|Nx<|Wc r (fun H6=>?_) fun H6=>?_
   ·refine Sn<|Sq<|Wb<|Sr<|Qs 2 r<|Bi fun E7 H8=>Yo (Ix ke39 (Bc Z0) H8 r)<|Yo (Fe kf100_0 (Bc Z0) H8 r)<|Yo (Le kk9 (Bc Z0) H8 r)<|Qs 2 r<|Bi fun R9 H10=>Fo (Cl [] spec_l9Within_c H10 r r1) fun _=>Nx<|Jn Value [0,1,2,8] [] (fun _ X=>[(7, X)]) (fun T X=>[.own X (lc T)]) r2 r2 (Wc r (fun H14=>Rg<|Qs 3 r<|Yo (Ix ke39 (Bc Z0) H8 r)<|Yo (Le kk100 (Bc Z0) H8 r)<|Fo (Bs [E7] ke39 kz100) fun B15=>Bi fun E17 H18=>Fo (Ap [1] H18 ke39 kz100 r (Oc 0 r)) fun V16=>Qs 1 r<|Nl<|Jg V16 [0]) fun H14=>Sk<|Jg X3 [0]) fun T12 X13=>?_
    exact Bn<|Ne<|Rg<|Qs 3 r<|Nl<|Lg X13 [0]
   exact Wx<|Tx<|Ex<|Be<|Jg X3 [0]
  exact Ne<|Sr<|Qs 2 r<|Nx<|Wr<|Re X5 [0]
noncomputable def spec_l21Snap (m : Model) (at_ : Int) : Option (Model × Reply) :=
  (idx m.Tens at_).bind fun E4 =>
  (if (decide (((E4.Snaps.length : Nat) : Int) > (0 : Int))) = true then ((idx E4.Snaps (IntKind.i64.wrap (((E4.Snaps.length : Nat) : Int) - (1 : Int)))).bind fun E12 =>
  some (decide (E12.Seq = E4.Seq)))
  else (some false)).bind (fun (T9 : Bool) =>
  if T9 = true then (some (m, { Code := (0 : Int), N := E4.Seq, Text := [], List := ([] : List KV) : Reply }))
  else (if (decide (((E4.Snaps.length : Nat) : Int) ≥ (2 : Int))) = true then ((spec_l21Code (4 : Int)).bind fun R17 =>
  some (m, R17))
  else ((app 32 ([] : List MSnap) E4.Snaps).bind fun E22 =>
  (spec_l21CopyMap E4.Map).bind fun R24 =>
  (app 32 E22 ([{ Seq := E4.Seq, Map := R24 : MSnap }])).bind fun E29 =>
  some ({ Secret := m.Secret, Shares := m.Shares, Tens := m.Tens.set at_.toNat ({ Id := E4.Id, Epoch := E4.Epoch, Seq := E4.Seq, Map := E4.Map, Snaps := E29 : MTen }), Base := m.Base, Rows := m.Rows : Model }, { Code := (0 : Int), N := E4.Seq, Text := [], List := ([] : List KV) : Reply }))))
theorem spec_l21Snap_c {m : Model} {at_ : Int} {U0 U1 U2 U3 : Value} : Cn Tryz.prog 97 [.agg #[strV m.Secret, iv m.Shares.Size, U0, U1, U2, U3], iv at_] [.own U0 (lc m.Shares.List), .own U1 (lc m.Tens), .own U2 (lc m.Base), .own U3 (lc m.Rows)] [] (spec_l21Snap m at_) (fun r (X : Value × Value × Value × Value × Value) => .tuple #[.agg #[strV r.1.Secret, iv r.1.Shares.Size, X.1, X.2.1, X.2.2.1, X.2.2.2.1], .agg #[iv r.2.Code, iv r.2.N, strV r.2.Text, X.2.2.2.2]]) fun r X => [.own X.1 (lc r.1.Shares.List), .own X.2.1 (lc r.1.Tens), .own X.2.2.1 (lc r.1.Base), .own X.2.2.2.1 (lc r.1.Rows), .own X.2.2.2.2 (lc r.2.List)] := by
  unfold spec_l21Snap
  refine Ci Tryz.func97 r r ?_
  rintro w S -
  refine Sr<|Fo (Bx r (Ca ⟨Op',Op',Ow' 0,Ow' 1,Ow' 2,Ow' 3,⟨⟩⟩)) fun B1=>Fo (Al kz36 r) fun B2=>Fo (Al kz41 r) fun B3=>Nx<|Sr<|Yo (Fb kf36_2 r)<|Yo (Lb 2 kk33 r)<|Qs 1 r<|Bi fun E4 H5=>Yo (Ix ke33 (Oc 4 r) H5 r)<|TO.fact (ptr_of (Can.own 4 r) H5) fun H6=>Gt (X := Value × Value) (Ho 2 [4] H5 r r1) fun X7=>Yo (Lh 0 kk90 H5 r)<|Fo (Al kz90 r) fun B8=>Fu (Sb 0 kk90 r (Ca ⟨Op',Op',Op',Ow' 2,Ow' 3,⟨⟩⟩) r)<|Nx<|Sr<|Yo (Fb kf90_4 r)<|Yo (Lb 0 kk88 r)<|Yo (Ln ke88 (Oc 3 r) r)<|Qs 1 r<|Nx<|Sq<|Sq<|Jv [1,2,4,5,6,7] (fun T=>[(30, .bool T)]) r1 (?_) fun T9=>?_
  ·refine Dr [0,0,0,0,0,0,0,0,0,0] r hMix<|Aq [0,1,2] [0,0,0,0,0,0,0,0,0,0] r<|Ia (fun H11=>?_) fun H11=>?_
   ·exact Ag 3 [0,0,0,0,0,0,0,0,0,0] (gdA (beq_tt H11)) r (Fb kf90_4 r)<|Ag 4 [0,0,0,0,0,0,0,0,0,0] (gdA (beq_tt H11)) r (Lb 0 kk88 r)<|Ag 5 [0,0,0,0,0,0,0,0,0,0] (gdA (beq_tt H11)) r (Y.move r)<|Ag 6 [0,0,0,0,0,0,0,0,0,0] (gdA (beq_tt H11)) r (Y.sub r r)<|Ai fun E12 H13=>Ag 7 [0,0,0,0,0,0,0,0,0,0] (gdA (beq_tt H11)) r (Ix ke88 (Oc 3 r) H13 r)<|Ag 8 [0,0,0,0,0,0,0,0,0,0] (gdA (beq_tt H11)) r (Fe kf121_0 (Oc 3 r) H13 r)<|Ag 9 [0,0,0,0,0,0,0,0,0,0] (gdA (beq_tt H11)) r (Le kk3 (Oc 3 r) H13 r)<|Ag 10 [0,0,0,0,0,0,0,0,0,0] (gdA (beq_tt H11)) r (Fb kf90_2 r)<|Ag 11 [0,0,0,0,0,0,0,0,0,0] (gdA (beq_tt H11)) r (Lb 0 kk3 r)<|Ag 12 [0,0,0,0,0,0,0,0,0,0] (gdA (beq_tt H11)) r (Y.eql r r)<|Ay 13 [0,0,0,0,0,0,0,0,0,0] r (Pt H11 r)<|Az<|Bg () [0,0,0,0,0,0,0,0,0,0]
   exact Ax [3,4,5,6,7,8,9,10,11,12] [0,0,0,0,0,0,0,0,0,0] (beq_ft H11) r r<|Ay 13 [0,0,0,0,0,0,0,0,0,0] r (Pf H11 r)<|Az<|Bg () [0,0,0,0,0,0,0,0,0,0]
  refine Ne<|Wc r (fun H14=>?_) fun H14=>?_
  ·exact Sq<|Dr [0,0,0,0,2,2,2,2] r hMix<|Ay 0 [0,0,0,0,2,2,2,2] r (Lb 4 kk36 r)<|Ay 1 [0,0,0,0,2,2,2,2] r (Fb kf90_2 r)<|Ay 2 [0,0,0,0,2,2,2,2] r (Lb 0 kk3 r)<|Ay 3 [0,0,0,0,2,2,2,2] r (Bd kp41 kz41 (Pc r (Cp r)<|Pz) r)<|A1 4<|Xu [0,0,0,0,2,2,2,2] r (Sb 5 kk36 r (Ca ⟨Op',Op',Ow' 7,Ow' 1,Ow' 8,Ow' 9,⟨⟩⟩) r)<|A1 5<|Xu [0,0,0,0,2,2,2,2] r (Sb 4 kk41 r (Cp r) r)<|Az<|Ne<|Wr<|Tr<|Ke (Hs [1, 1, 1] H5 r (Ck (Ck (Ck (Cf (Cf Cz))))))<|TE.leaf fun _ _ hf_ hs_ => ret_any (rs := [.cell 4 36, .cell 5 41]) (vs := [.agg #[strV m.Secret, iv m.Shares.Size, U0, U1, U2, U3], .agg #[iv (0 : Int), iv E4.Seq, strV ([]), .slice none 0 0]]) (.inl r) r (RV.cell 3 r r kk36 r (RV.cell 2 r r kk41 r ⟨⟩)) hf_ hs_ ⟨(U0, U1, U2, U3, (.slice none 0 0)), r, (hs_.nilItem 2).pulls [6, 1, 5, 5, 0] r⟩
  refine Sn<|Sq<|Sr<|Qs 2 r<|Nx<|Wc r (fun H16=>?_) fun H16=>?_
  ·exact Sq<|Dr [0,0,0,0,2,2,2,2] r hMix<|Ay 0 [0,0,0,0,2,2,2,2] r (Lb 4 kk36 r)<|Ai fun R17 H18=>A1 1<|Xe [1,1,1,1,3,3,3,3] r (Cl [] spec_l21Code_c H18 r r1) fun Y19=>A1 2<|Xu [1,1,1,1,3,3,3,3] r (Sb 6 kk36 r (Ca ⟨Op',Op',Ow' 8,Ow' 2,Ow' 9,Ow' 10,⟨⟩⟩) r)<|A1 3<|Xu [1,1,1,1,3,3,3,3] r (Sb 5 kk41 r (Ca ⟨Op',Op',Op',Ow' 0,⟨⟩⟩) r)<|Az<|Ne<|Wr<|Tr<|Ke (Hs [2, 2, 2] H5 r (Ck (Ck (Ck (Cf (Cf Cz))))))<|TE.leaf fun _ _ hf_ hs_ => ret_any (rs := [.cell 4 36, .cell 5 41]) (vs := [.agg #[strV m.Secret, iv m.Shares.Size, U0, U1, U2, U3], .agg #[iv R17.Code, iv R17.N, strV R17.Text, Y19]]) (.inl r) r (RV.cell 4 r r kk36 r (RV.cell 3 r r kk41 r ⟨⟩)) hf_ hs_ ⟨(U0, U1, U2, U3, Y19), r, hs_.pulls [6, 0, 5, 5, 0] r⟩
  refine Sn<|Sr<|Fo (Bk [] ke88 kz121 r (Qz)) fun B20=>Kt (Ha [0] ([] : List MSnap) r Cz)<|Yo (Fb kf90_4 r)<|Yo (Lb 1 kk88 r)<|Bi fun E22 H23=>Fo (Aw [0, 3] H23 ke88 kz121 r) fun V21=>Qs 1 r<|Nx<|Sq<|Dr [1,2,2,2,2,2,2,2] r hMix<|Ay 0 [1,2,2,2,2,2,2,2] r (Fb kf36_2 r)<|Ay 1 [1,2,2,2,2,2,2,2] r (Lb 4 kk33 r)<|Aq [2,3] [1,2,2,2,2,2,2,2] r<|Ay 4 [1,2,2,2,2,2,2,2] r (Fb kf90_2 r)<|Ay 5 [1,2,2,2,2,2,2,2] r (Lb 0 kk3 r)<|Ay 6 [1,2,2,2,2,2,2,2] r (Fb kf90_3 r)<|Ay 7 [1,2,2,2,2,2,2,2] r (Lb 0 kk39 r)<|Ai fun R24 H25=>A1 8<|Xe [2,3,3,3,3,3,3,3] r (Cl [] spec_l21CopyMap_c H25 r r1 ⟨(Oc 3 r),⟨⟩⟩) fun Y26=>?_
  exact A1 9<|Xy [2,3,3,3,3,3,3,3] r (Bd kp121 kz121 (Pc r (Cp r)<|Pc r (Co 0)<|Pz) r)<|A1 10<|Xe [3,4,4,4,4,4,4,4] r (Bk [ic E4.Seq, .raw Y26] ke88 kz121 r (Qc (Ca ⟨Op',Ow' 0,⟨⟩⟩)<|Qz)) fun B27=>Ka (Ha [0, 0] ([{ Seq := E4.Seq, Map := R24 : MSnap }] : List MSnap) r (Ck (Cf Cz)))<|Ai fun E29 H30=>A1 11<|Xe [1,2,2,2,2,2,2,2] r (Aw [1, 0] H30 ke88 kz121 r) fun V28=>A1 12<|Xy [1,2,2,2,2,2,2,2] r (Ix ke33 (Oc 2 r) H5 r)<|Ay 13 [1,2,2,2,2,2,2,2] r (Fp kf90_4 H6 r)<|A1 14<|Xu [1,2,2,2,2,2,2,2] r (Sh 2 [.raw V28] kk88 H5 r (Co 0) r)<|Az<|Ne<|Sq<|Dr [0,0,0,0,2,2,2,2] r hMix<|Ay 0 [0,0,0,0,2,2,2,2] r (Lb 4 kk36 r)<|Ay 1 [0,0,0,0,2,2,2,2] r (Fb kf90_2 r)<|Ay 2 [0,0,0,0,2,2,2,2] r (Lb 1 kk3 r)<|Ay 3 [0,0,0,0,2,2,2,2] r (Bd kp41 kz41 (Pc r (Cp r)<|Pz) r)<|A1 4<|Xu [0,0,0,0,2,2,2,2] r (Sb 5 kk36 r (Ca ⟨Op',Op',Ow' 7,Ow' 2,Ow' 8,Ow' 9,⟨⟩⟩) r)<|A1 5<|Xu [0,0,0,0,2,2,2,2] r (Sb 4 kk41 r (Cp r) r)<|Az<|Ne<|Wr<|Ke (Hc [2, 2, 0] ({ Id := E4.Id, Epoch := E4.Epoch, Seq := E4.Seq, Map := E4.Map, Snaps := E29 : MTen }) H5 r (Ck (Ck (Ck (Cf (Cf Cz))))))<|TE.leaf fun _ _ hf_ hs_ => ret_any (rs := [.cell 4 36, .cell 5 41]) (vs := [.agg #[strV m.Secret, iv m.Shares.Size, U0, U1, U2, U3], .agg #[iv (0 : Int), iv E4.Seq, strV ([]), .slice none 0 0]]) (.inl r) r (RV.cell 3 r r kk36 r (RV.cell 2 r r kk41 r ⟨⟩)) hf_ hs_ ⟨(U0, U1, U2, U3, (.slice none 0 0)), r, (hs_.nilItem 2).pulls [6, 1, 5, 5, 0] r⟩
noncomputable def spec_l21Tenant (m : Model) (at_ : Int) (c : Call) : Option (Model × Reply) :=
  (idx m.Tens at_).bind fun E5 =>
  if (decide (c.Kind = (5 : Int))) = true then ((spec_l21Write m at_ c.Ops).bind fun R11 =>
  some (R11.1, R11.2))
  else (if (decide (c.Kind = (6 : Int))) = true then ((spec_l21Find E5.Map c.Key).bind fun R17 =>
  some (m, R17))
  else (if (decide (c.Kind = (7 : Int))) = true then ((spec_l21Scan E5.Map c.Key c.To).bind fun R21 =>
  some (m, { Code := (0 : Int), N := (0 : Int), Text := [], List := R21 : Reply }))
  else (if (decide (c.Kind = (8 : Int))) = true then ((spec_l21Snap m at_).bind fun R28 =>
  some (R28.1, R28.2))
  else (if (decide (c.Kind = (11 : Int))) = true then ((spec_Bytes E5.Map).bind fun R34 =>
  some (m, { Code := (0 : Int), N := R34, Text := [], List := ([] : List KV) : Reply }))
  else (bindC (loopO (fun (S38 : Int) => if (decide (S38 < ((E5.Snaps.length : Nat) : Int))) = true then ((idx E5.Snaps S38).bind fun E43 =>
  if (!(decide (E43.Seq = c.N))) = true then (some (.go (IntKind.i64.wrap (S38 + (1 : Int)))))
  else (if (decide (c.Kind = (10 : Int))) = true then ((spec_l21Find E43.Map c.Key).bind fun R49 =>
  some (.done (.done (m, R49))))
  else ((piece E5.Snaps (0 : Int) S38).bind fun E53 =>
  (cutO (E5.Snaps.map some) (0 : Int) S38).bind fun E56 =>
  (app 32 ([] : List MSnap) E56.1).bind fun E58 =>
  (piece E56.2 (IntKind.i64.wrap (S38 + (1 : Int))) ((E56.2.length : Nat) : Int)).bind fun E60 =>
  (cutO E56.2 (IntKind.i64.wrap (S38 + (1 : Int))) ((E56.2.length : Nat) : Int)).bind fun E63 =>
  (app 32 E58 E63.1).bind fun E65 =>
  some (.done (.done ({ Secret := m.Secret, Shares := m.Shares, Tens := m.Tens.set at_.toNat ({ Id := E5.Id, Epoch := E5.Epoch, Seq := E5.Seq, Map := E5.Map, Snaps := E65 : MTen }), Base := m.Base, Rows := m.Rows : Model }, { Code := (0 : Int), N := (0 : Int), Text := [], List := ([] : List KV) : Reply }))))))
  else (some (.done (.go ()))))
  (0 : Int))
  (fun (T40 : Unit) => (spec_l21Code (5 : Int)).bind fun R68 =>
  some (m, R68)))))))
theorem spec_l21Tenant_c {m : Model} {at_ : Int} {c : Call} {U0 U1 U2 U3 U4 : Value} : Cn Tryz.prog 55 [.agg #[strV m.Secret, iv m.Shares.Size, U0, U1, U2, U3], iv at_, .agg #[iv c.Kind, strV c.Token, iv c.Tenant, iv c.N, strV c.Key, strV c.To, U4]] [.own U0 (lc m.Shares.List), .own U1 (lc m.Tens), .own U2 (lc m.Base), .own U3 (lc m.Rows)] [(U4, lc c.Ops)] (spec_l21Tenant m at_ c) (fun r (X : Value × Value × Value × Value × Value) => .tuple #[.agg #[strV r.1.Secret, iv r.1.Shares.Size, X.1, X.2.1, X.2.2.1, X.2.2.2.1], .agg #[iv r.2.Code, iv r.2.N, strV r.2.Text, X.2.2.2.2]]) fun r X => [.own X.1 (lc r.1.Shares.List), .own X.2.1 (lc r.1.Tens), .own X.2.2.1 (lc r.1.Base), .own X.2.2.2.1 (lc r.1.Rows), .own X.2.2.2.2 (lc r.2.List)] := by
  unfold spec_l21Tenant
  refine Ci Tryz.func55 r r ?_
  rintro w S ⟨Z0,-⟩
  refine Sr<|Fo (Bx r (Ca ⟨Op',Op',Ow' 0,Ow' 1,Ow' 2,Ow' 3,⟨⟩⟩)) fun B1=>Fo (Bx r (Ca ⟨Op',Op',Op',Op',Op',Op',Ob Z0,⟨⟩⟩)) fun B2=>Fo (Al kz36 r) fun B3=>Fo (Al kz41 r) fun B4=>Nx<|Sr<|Yo (Fb kf36_2 r)<|Yo (Lb 3 kk33 r)<|Qs 1 r<|Bi fun E5 H6=>Yo (Ix ke33 (Oc 5 r) H6 r)<|TO.fact (ptr_of (Can.own 5 r) H6) fun H7=>Gt (X := Value × Value) (Ho 2 [5] H6 r r1) fun X8=>Yo (Lh 0 kk90 H6 r)<|Fo (Al kz90 r) fun B9=>Fu (Sb 0 kk90 r (Ca ⟨Op',Op',Op',Ow' 2,Ow' 3,⟨⟩⟩) r)<|Nx<|Sq<|Sr<|Yo (Fb kf46_0 r)<|Yo (Lb 6 kk3 r)<|Nx<|Wb<|Sr<|Qs 2 r<|Nx<|Wc r (fun H10=>?_) fun H10=>?_
  ·exact Sr<|Yo (Lb 7 kk36 r)<|Qs 1 r<|Yo (Fb kf46_6 r)<|Yo (Lb 6 kk44 r)<|Kt (Hs [1, 1, 1] H6 r (Ck (Ck (Ck (Cf (Cf Cz))))))<|Bi fun R11 H12=>Fo (Cl [6, 0, 5, 5] spec_l21Write_c H12 r r1 ⟨(Bc Z0),⟨⟩⟩) fun Y13=>Qs 3 r<|Fo (Al kz36 r) fun B14=>Fo (Al kz41 r) fun B15=>Fu (Sb 1 kk36 r (Ca ⟨Op',Op',Ow' 2,Ow' 3,Ow' 4,Ow' 5,⟨⟩⟩) r)<|Fu (Sb 0 kk41 r (Ca ⟨Op',Op',Op',Ow' 6,⟨⟩⟩) r)<|Nx<|Sq<|Dr [0,0,0,0,0,0,0,0,2,2] r hMix<|Ay 0 [0,0,0,0,0,0,0,0,2,2] r (Lb 1 kk36 r)<|Ay 1 [0,0,0,0,0,0,0,0,2,2] r (Lb 0 kk41 r)<|A1 2<|Xu [0,0,0,0,0,0,0,0,2,2] r (Sb 9 kk36 r (Ca ⟨Op',Op',Ow' 2,Ow' 3,Ow' 4,Ow' 5,⟨⟩⟩) r)<|A1 3<|Xu [0,0,0,0,0,0,0,0,2,2] r (Sb 8 kk41 r (Ca ⟨Op',Op',Op',Ow' 6,⟨⟩⟩) r)<|Az<|Ne<|Wr<|Br<|Tr<|TE.leaf fun _ _ hf_ hs_ => ret_any (rs := [.cell 6 36, .cell 7 41]) (vs := [.agg #[strV R11.1.Secret, iv R11.1.Shares.Size, Y13.1, Y13.2.1, Y13.2.2.1, Y13.2.2.2.1], .agg #[iv R11.2.Code, iv R11.2.N, strV R11.2.Text, Y13.2.2.2.2]]) (.inl r) r (RV.cell 9 r r kk36 r (RV.cell 8 r r kk41 r ⟨⟩)) hf_ hs_ ⟨(Y13.1, Y13.2.1, Y13.2.2.1, Y13.2.2.2.1, Y13.2.2.2.2), r, hs_.pulls [2, 2, 2, 2, 2] r⟩
  refine Sr<|Qs 2 r<|Nx<|Wc r (fun H16=>?_) fun H16=>?_
  ·exact Sq<|Dr [0,0,0,0,2,2,2,2,2] r hMix<|Ay 0 [0,0,0,0,2,2,2,2,2] r (Lb 5 kk36 r)<|Ay 1 [0,0,0,0,2,2,2,2,2] r (Fb kf90_3 r)<|Ay 2 [0,0,0,0,2,2,2,2,2] r (Lb 0 kk39 r)<|Ay 3 [0,0,0,0,2,2,2,2,2] r (Fb kf46_4 r)<|Ay 4 [0,0,0,0,2,2,2,2,2] r (Lb 4 kk9 r)<|Ai fun R17 H18=>A1 5<|Xe [1,1,1,1,3,3,3,3,3] r (Cl [] spec_l21Find_c H18 r r1 ⟨(Oc 2 r),⟨⟩⟩) fun Y19=>A1 6<|Xu [1,1,1,1,3,3,3,3,3] r (Sb 6 kk36 r (Ca ⟨Op',Op',Ow' 9,Ow' 2,Ow' 10,Ow' 11,⟨⟩⟩) r)<|A1 7<|Xu [1,1,1,1,3,3,3,3,3] r (Sb 5 kk41 r (Ca ⟨Op',Op',Op',Ow' 0,⟨⟩⟩) r)<|Az<|Ne<|Wr<|Br<|Tr<|Ke (Hs [2, 2, 2] H6 r (Ck (Ck (Ck (Cf (Cf Cz))))))<|TE.leaf fun _ _ hf_ hs_ => ret_any (rs := [.cell 6 36, .cell 7 41]) (vs := [.agg #[strV m.Secret, iv m.Shares.Size, U0, U1, U2, U3], .agg #[iv R17.Code, iv R17.N, strV R17.Text, Y19]]) (.inl r) r (RV.cell 4 r r kk36 r (RV.cell 3 r r kk41 r ⟨⟩)) hf_ hs_ ⟨(U0, U1, U2, U3, Y19), r, hs_.pulls [7, 0, 6, 6, 0] r⟩
  refine Sr<|Qs 2 r<|Nx<|Wc r (fun H20=>?_) fun H20=>?_
  ·refine Sq<|Wi fun R21 H22=>Jw Value [6,7] [8,8,8] (fun _=>[]) (fun X=>[.box B3 36 [strV m.Secret, iv m.Shares.Size, U0, U1, U2, U3], .box B4 41 [iv (0 : Int), iv (0 : Int), strV ([]), X], .own U1 (lc m.Tens), .own X (lc R21)]) r1 r1 (?_) fun X25=>?_
   ·refine Dr [0,0,0,0,2,2,2,2,2] r hMix<|Ay 0 [0,0,0,0,2,2,2,2,2] r (Lb 5 kk36 r)<|Ay 1 [0,0,0,0,2,2,2,2,2] r (Fb kf90_3 r)<|Ay 2 [0,0,0,0,2,2,2,2,2] r (Lb 0 kk39 r)<|Ay 3 [0,0,0,0,2,2,2,2,2] r (Fb kf46_4 r)<|Ay 4 [0,0,0,0,2,2,2,2,2] r (Lb 4 kk9 r)<|Ay 5 [0,0,0,0,2,2,2,2,2] r (Fb kf46_5 r)<|Ay 6 [0,0,0,0,2,2,2,2,2] r (Lb 4 kk9 r)<|A1 7<|Xe [1,1,1,1,3,3,3,3,3] r (Cl [] spec_l21Scan_c H22 r r1 ⟨(Oc 2 r),⟨⟩⟩) fun Y26=>A2 8 9 (?_)<|?_
    ·exact Xy [1,1,1,1,3,3,3,3,3] r (Bd kp41 kz41 (Pc r (Co 0)<|Pz) r)<|A1 9<|Xu [1,1,1,1,3,3,3,3,3] r (Sb 6 kk36 r (Ca ⟨Op',Op',Ow' 9,Ow' 2,Ow' 10,Ow' 11,⟨⟩⟩) r)<|A1 10<|Xu [1,1,1,1,3,3,3,3,3] r (Sb 5 kk41 r (Ca ⟨Op',Op',Op',Ow' 0,⟨⟩⟩) r)<|Az<|Ke (Hs [2, 2, 2] H6 r (Ck (Ck (Ck (Cf (Cf Cz))))))<|Bg Y26 [7,7,7,4,3,0,0]
    exact Xu [1,1,1,1,3,3,3,3,3] r (Sb 6 kk36 r (Ca ⟨Op',Op',Ow' 9,Ow' 2,Ow' 10,Ow' 11,⟨⟩⟩) r)<|A1 8<|Xy [1,1,1,1,3,3,3,3,3] r (Bd kp41 kz41 (Pc r (Co 0)<|Pz) r)<|A1 10<|Xu [1,1,1,1,3,3,3,3,3] r (Sb 5 kk41 r (Ca ⟨Op',Op',Op',Ow' 0,⟨⟩⟩) r)<|Az<|Ke (Hs [2, 2, 2] H6 r (Ck (Ck (Ck (Cf (Cf Cz))))))<|Bg Y26 [7,7,7,4,3,0,0]
   exact Ne<|Wr<|Br<|Tr<|TE.leaf fun _ _ hf_ hs_ => ret_any (rs := [.cell 6 36, .cell 7 41]) (vs := [.agg #[strV m.Secret, iv m.Shares.Size, U0, U1, U2, U3], .agg #[iv (0 : Int), iv (0 : Int), strV ([]), X25]]) (.inl r) r (RV.cell 3 r r kk36 r (RV.cell 4 r r kk41 r ⟨⟩)) hf_ hs_ ⟨(U0, U1, U2, U3, X25), r, hs_.pulls [0, 4, 0, 0, 2] r⟩
  refine Sr<|Qs 2 r<|Nx<|Wc r (fun H27=>?_) fun H27=>?_
  ·exact Sr<|Yo (Lb 7 kk36 r)<|Qs 1 r<|Kt (Hs [1, 1, 1] H6 r (Ck (Ck (Ck (Cf (Cf Cz))))))<|Bi fun R28 H29=>Fo (Cl [6, 0, 5, 5] spec_l21Snap_c H29 r r1) fun Y30=>Qs 3 r<|Fo (Al kz36 r) fun B31=>Fo (Al kz41 r) fun B32=>Fu (Sb 1 kk36 r (Ca ⟨Op',Op',Ow' 2,Ow' 3,Ow' 4,Ow' 5,⟨⟩⟩) r)<|Fu (Sb 0 kk41 r (Ca ⟨Op',Op',Op',Ow' 6,⟨⟩⟩) r)<|Nx<|Sq<|Dr [0,0,0,0,0,0,0,0,2,2] r hMix<|Ay 0 [0,0,0,0,0,0,0,0,2,2] r (Lb 1 kk36 r)<|Ay 1 [0,0,0,0,0,0,0,0,2,2] r (Lb 0 kk41 r)<|A1 2<|Xu [0,0,0,0,0,0,0,0,2,2] r (Sb 9 kk36 r (Ca ⟨Op',Op',Ow' 2,Ow' 3,Ow' 4,Ow' 5,⟨⟩⟩) r)<|A1 3<|Xu [0,0,0,0,0,0,0,0,2,2] r (Sb 8 kk41 r (Ca ⟨Op',Op',Op',Ow' 6,⟨⟩⟩) r)<|Az<|Ne<|Wr<|Br<|Tr<|TE.leaf fun _ _ hf_ hs_ => ret_any (rs := [.cell 6 36, .cell 7 41]) (vs := [.agg #[strV R28.1.Secret, iv R28.1.Shares.Size, Y30.1, Y30.2.1, Y30.2.2.1, Y30.2.2.2.1], .agg #[iv R28.2.Code, iv R28.2.N, strV R28.2.Text, Y30.2.2.2.2]]) (.inl r) r (RV.cell 9 r r kk36 r (RV.cell 8 r r kk41 r ⟨⟩)) hf_ hs_ ⟨(Y30.1, Y30.2.1, Y30.2.2.1, Y30.2.2.2.1, Y30.2.2.2.2), r, hs_.pulls [2, 2, 2, 2, 2] r⟩
  refine Sr<|Qs 2 r<|Nx<|Wc r (fun H33=>?_) fun H33=>?_
  ·exact Sq<|Dr [0,0,0,0,2,2,2,2,2] r hMix<|Ay 0 [0,0,0,0,2,2,2,2,2] r (Lb 5 kk36 r)<|Ay 1 [0,0,0,0,2,2,2,2,2] r (Fb kf90_3 r)<|Ay 2 [0,0,0,0,2,2,2,2,2] r (Lb 0 kk39 r)<|Ai fun R34 H35=>A1 3<|Xe [0,0,0,0,2,2,2,2,2] r (Cl [] spec_Bytes_c H35 r r1 ⟨(Oc 2 r),⟨⟩⟩) fun _=>Ay 4 [0,0,0,0,2,2,2,2,2] r (Bd kp41 kz41 (Pc r (Cp r)<|Pz) r)<|A1 5<|Xu [0,0,0,0,2,2,2,2,2] r (Sb 5 kk36 r (Ca ⟨Op',Op',Ow' 8,Ow' 1,Ow' 9,Ow' 10,⟨⟩⟩) r)<|A1 6<|Xu [0,0,0,0,2,2,2,2,2] r (Sb 4 kk41 r (Cp r) r)<|Az<|Ne<|Wr<|Br<|Tr<|Ke (Hs [1, 1, 1] H6 r (Ck (Ck (Ck (Cf (Cf Cz))))))<|TE.leaf fun _ _ hf_ hs_ => ret_any (rs := [.cell 6 36, .cell 7 41]) (vs := [.agg #[strV m.Secret, iv m.Shares.Size, U0, U1, U2, U3], .agg #[iv (0 : Int), iv R34, strV ([]), .slice none 0 0]]) (.inl r) r (RV.cell 3 r r kk36 r (RV.cell 2 r r kk41 r ⟨⟩)) hf_ hs_ ⟨(U0, U1, U2, U3, (.slice none 0 0)), r, (hs_.nilItem 2).pulls [7, 1, 6, 6, 0] r⟩
  refine Sk<|Bn<|Ne<|Sq<|Sr<|Qs 1 r<|Nx<|Jn Unit [3,6,7] [7,5,4,5,5,5] (fun _ _=>[]) (fun _ _=>[.own U1 (lc m.Tens)]) r2 r2 (?_) fun T40 X41=>?_
  ·refine Wb<|Lu [1,3,5,6,7,8] (fun T=>[(13, iv T)]) r1 fun S38=>Sq<|Sr<|Qs 1 r<|Yo (Fb kf90_4 r)<|Yo (Lb 0 kk88 r)<|Yo (Ln ke88 (Oc 3 r) r)<|Qs 1 r<|Nx<|Wc r (fun H42=>?_) fun H42=>?_
   ·refine Sn<|Sq<|Wb<|Sq<|Sq<|Dr [0,0,0,0,0,0,0,0,0,0,0] r hMix<|Ay 0 [0,0,0,0,0,0,0,0,0,0,0] r (Fb kf90_4 r)<|Ay 1 [0,0,0,0,0,0,0,0,0,0,0] r (Lb 0 kk88 r)<|Aq [2] [0,0,0,0,0,0,0,0,0,0,0] r<|Ai fun E43 H44=>Ay 3 [0,0,0,0,0,0,0,0,0,0,0] r (Ix ke88 (Oc 3 r) H44 r)<|Ay 4 [0,0,0,0,0,0,0,0,0,0,0] r (Fe kf121_0 (Oc 3 r) H44 r)<|Ay 5 [0,0,0,0,0,0,0,0,0,0,0] r (Le kk3 (Oc 3 r) H44 r)<|Ay 6 [0,0,0,0,0,0,0,0,0,0,0] r (Fb kf46_3 r)<|Ay 7 [0,0,0,0,0,0,0,0,0,0,0] r (Lb 6 kk3 r)<|Aq [8] [0,0,0,0,0,0,0,0,0,0,0] r<|Az<|Ne<|Wc r (fun H45=>Wx<|Tx<|Be<|Ne<|Rg<|Qs 3 r<|Nl<|Lg () [0,0,0,0,0,0,0,0,0,0,0]) fun H45=>?_
    refine Sn<|Sq<|Sr<|Yo (Fb kf46_0 r)<|Yo (Lb 6 kk3 r)<|Qs 1 r<|Nx<|Wc r (fun H46=>?_) fun H46=>?_
    ·refine Sq<|Dr [0,0,0,3,3,3,3,3] r hMix<|Ay 0 [0,0,0,3,3,3,3,3] r (Lb 4 kk36 r)<|Ay 1 [0,0,0,3,3,3,3,3] r (Fb kf90_4 r)<|Ay 2 [0,0,0,3,3,3,3,3] r (Lb 0 kk88 r)<|Aq [3] [0,0,0,3,3,3,3,3] r<|Ay 7 [0,0,0,3,3,3,3,3] r (Fb kf46_4 r)<|Ay 8 [0,0,0,3,3,3,3,3] r (Lb 3 kk9 r)<|A1 4<|Xy [0,0,0,3,3,3,3,3] r (Ix ke88 (Oc 3 r) H44 r)<|A1 5<|Xy [0,0,0,3,3,3,3,3] r (Fe kf121_1 (Oc 3 r) H44 r)<|Ga (X := Value) (Ho 1 [3] H44 r r1) fun X48=>A1 6<|Xy [2,2,2,4,4,4,4,4] r (Lh 0 kk39 H44 r)<|Ai fun R49 H50=>A1 9<|Xe [3,3,3,5,5,5,5,5] r (Cl [] spec_l21Find_c H50 r r1 ⟨(Oc 1 r),⟨⟩⟩) fun Y51=>?_
     exact A1 10<|Xu [3,3,3,5,5,5,5,5] r (Sb 7 kk36 r (Ca ⟨Op',Op',Ow' 10,Ow' 4,Ow' 11,Ow' 12,⟨⟩⟩) r)<|A1 11<|Xu [3,3,3,5,5,5,5,5] r (Sb 6 kk41 r (Ca ⟨Op',Op',Op',Ow' 0,⟨⟩⟩) r)<|Az<|Ne<|Wr<|Tr<|Br<|Tr<|Er<|Br<|Jd<|Tr<|Ke (Hs [1, 1] H44 r (Ck (Cf Cz)))<|Ke (Hs [3, 3, 0] H6 r (Ck (Ck (Ck (Cf (Cf Cz))))))<|TE.leaf fun _ _ hf_ hs_ => ret_any (rs := [.cell 6 36, .cell 7 41]) (vs := [.agg #[strV m.Secret, iv m.Shares.Size, U0, U1, U2, U3], .agg #[iv R49.Code, iv R49.N, strV R49.Text, Y51]]) (.inl r) r (RV.cell 4 r r kk36 r (RV.cell 3 r r kk41 r ⟨⟩)) hf_ hs_ ⟨(U0, U1, U2, U3, Y51), r, hs_.pulls [7, 0, 6, 6, 0] r⟩
    refine Sn<|Sr<|Fo (Bk [] ke88 kz121 r (Qz)) fun B52=>Kt (Ha [0] ([] : List MSnap) r Cz)<|Yo (Fb kf90_4 r)<|Yo (Lb 1 kk88 r)<|Qs 1 r<|Bi fun E53 H54=>Yo (Y.subs H54 ke88 (Oc 4 r) r r ⟨_, r⟩)<|Kt (Hm [4] r)<|Bi fun E56 H57=>Bi fun E58 H59=>Fo (Av [1, 0] H57 H59 ke88 kz121 r) fun V55=>Qs 1 r<|Nx<|Sq<|Dr [2,3,3,3,3,3,3,3,3] r hMix<|Ay 0 [2,3,3,3,3,3,3,3,3] r (Fb kf36_2 r)<|Ay 1 [2,3,3,3,3,3,3,3,3] r (Lb 5 kk33 r)<|Aq [2,3] [2,3,3,3,3,3,3,3,3] r<|Ay 4 [2,3,3,3,3,3,3,3,3] r (Fb kf90_4 r)<|Ay 5 [2,3,3,3,3,3,3,3,3] r (Lb 0 kk88 r)<|Aq [6,7] [2,3,3,3,3,3,3,3,3] r<|Ai fun E60 H61=>?_
    exact A1 8<|Xy [2,3,3,3,3,3,3,3,3] r (Y.subs H61 ke88 (Oc 1 r) r ⟨_, r⟩ r)<|Ai fun E63 H64=>Ai fun E65 H66=>A1 9<|Xe [2,3,3,3,3,3,3,3,3] r (Av [0, 0] H64 H66 ke88 kz121 r) fun V62=>A1 10<|Xy [2,3,3,3,3,3,3,3,3] r (Ix ke33 (Oc 3 r) H6 r)<|Ay 11 [2,3,3,3,3,3,3,3,3] r (Fp kf90_4 H7 r)<|A1 12<|Xu [2,3,3,3,3,3,3,3,3] r (Sh 3 [.raw V62] kk88 H6 r (Co 0) r)<|Az<|Ne<|Sr<|Yo (Lb 8 kk36 r)<|Yo (Bd kp41 kz41 (Pz) r)<|Fu (Sb 6 kk36 r (Ca ⟨Op',Op',Ow' 9,Ow' 3,Ow' 10,Ow' 11,⟨⟩⟩) r)<|Fu (Sb 5 kk41 r (Cp r) r)<|Nx<|Wr<|Br<|Tr<|Er<|Br<|Jd<|Tr<|Ke (Hc [3, 3, 0] ({ Id := E5.Id, Epoch := E5.Epoch, Seq := E5.Seq, Map := E5.Map, Snaps := E65 : MTen }) H6 r (Ck (Ck (Ck (Cf (Cf Cz))))))<|TE.leaf fun _ _ hf_ hs_ => ret_any (rs := [.cell 6 36, .cell 7 41]) (vs := [.agg #[strV m.Secret, iv m.Shares.Size, U0, U1, U2, U3], .agg #[iv (0 : Int), iv (0 : Int), strV ([]), .slice none 0 0]]) (.inl r) r (RV.cell 4 r r kk36 r (RV.cell 3 r r kk41 r ⟨⟩)) hf_ hs_ ⟨(U0, U1, U2, U3, (.slice none 0 0)), r, (hs_.nilItem 2).pulls [8, 1, 7, 7, 0] r⟩
   exact Wx<|Tx<|Ex<|Be<|Ke (Hs [1, 1, 1] H6 r (Ck (Ck (Ck (Cf (Cf Cz))))))<|Jg () [5,3,2,3,3,3,0]
  exact Ne<|Sq<|Dr [0,2,2,2,2] r hMix<|Ay 0 [0,2,2,2,2] r (Lb 0 kk36 r)<|Ai fun R68 H69=>A1 1<|Xe [1,3,3,3,3] r (Cl [] spec_l21Code_c H69 r r1) fun Y70=>A1 2<|Xu [1,3,3,3,3] r (Sb 2 kk36 r (Ca ⟨Op',Op',Ow' 4,Ow' 7,Ow' 5,Ow' 6,⟨⟩⟩) r)<|A1 3<|Xu [1,3,3,3,3] r (Sb 3 kk41 r (Ca ⟨Op',Op',Op',Ow' 0,⟨⟩⟩) r)<|Az<|Ne<|Wr<|TE.leaf fun _ _ hf_ hs_ => ret_any (rs := [.cell 6 36, .cell 7 41]) (vs := [.agg #[strV m.Secret, iv m.Shares.Size, U0, U1, U2, U3], .agg #[iv R68.Code, iv R68.N, strV R68.Text, Y70]]) (.inl r) r (RV.cell 2 r r kk36 r (RV.cell 3 r r kk41 r ⟨⟩)) hf_ hs_ ⟨(U0, U1, U2, U3, Y70), r, hs_.pulls [4, 6, 4, 4, 0] r⟩
end Go.Proofs.YtmigafjpdoeicaaGreat
