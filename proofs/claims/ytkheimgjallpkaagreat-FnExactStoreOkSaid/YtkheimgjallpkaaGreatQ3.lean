/-
  The functions that a law reaches, each as a pure function, with the proof that the program computes it, and the step from a pure law to the given statement. Conditions: none.
-/
import Derived.Test.YtkheimgjallpkaaGreatQ2
set_option linter.unusedVariables false
set_option maxRecDepth 100000
set_option maxHeartbeats 4000000
namespace Go.Proofs.YtkheimgjallpkaaGreat
open Go Sl

/-- loop.example/g00950/impl.compareEnts -/
noncomputable def impl_compareEnts (a : Ent) (b : Ent) : Option Int :=
  (cmp_Compare_83645 a.Key b.Key).bind fun R3 =>
  (cmp_Compare_26527 b.Seq a.Seq).bind fun R6 =>
  (cmp_Or_26527 ([R3, R6])).bind fun R10 =>
  some R10

theorem impl_compareEnts_c {a : Ent} {b : Ent} : Cn Tryz.prog 120 [.agg #[strV a.Key, iv a.Seq, .bool a.Del, strV a.Val], .agg #[strV b.Key, iv b.Seq, .bool b.Del, strV b.Val]] [] [] (impl_compareEnts a b) (fun r (_ : Unit) => iv r) fun _ _ => [] := by
  unfold impl_compareEnts
  refine Ci Tryz.func120 r r ?_
  rintro w S -
  refine Sr<|Fo (Bx r (Cp r)) fun B1=>Fo (Bx r (Cp r)) fun B2=>Qs 1 r<|Nx<|Sq<|Dr [0,0] r hMix<|Ay 0 [0,0] r (Fb kf102_0 r)<|Ay 1 [0,0] r (Lb 1 kk9 r)<|Ay 2 [0,0] r (Fb kf102_0 r)<|Ay 3 [0,0] r (Lb 0 kk9 r)<|Ay 5 [0,0] r (Fb kf102_1 r)<|Ay 6 [0,0] r (Lb 0 kk3 r)<|Ay 7 [0,0] r (Fb kf102_1 r)<|Ay 8 [0,0] r (Lb 1 kk3 r)<|Ai fun R3 H4=>A1 4<|Xe [0,0] r (Cl [] cmp_Compare_83645_c H4 r r1) fun _=>Ai fun R6 H7=>A1 9<|Xe [0,0] r (Cl [] cmp_Compare_26527_c H7 r r1) fun _=>A1 10<|Xe [1,1] r (Bs [R3, R6] ke56 kz3) fun B9=>Ai fun R10 H11=>A1 11<|Xe [1,1] r (Cl [] cmp_Or_26527_c H11 r r1 ⟨(Oc 0 r),⟨⟩⟩) fun _=>?_
  exact Aq [12] [1,1] r<|Az<|Ne<|Wr<|Re () []

/-- loop.example/g00950/impl.inOrder -/
noncomputable def impl_inOrder (l : List Ent) : Option Bool :=
  bindC (loopO (fun (S1 : Int) => if (decide (S1 < ((l.length : Nat) : Int))) = true then ((idx l S1).bind fun E6 =>
  ((impl_entOk E6).bind fun R11 =>
  if (!R11) = true then (some true)
  else (if (decide (S1 > (0 : Int))) = true then ((idx l (IntKind.i64.wrap (S1 - (1 : Int)))).bind fun E16 =>
  (impl_compareEnts E16 E6).bind fun R18 =>
  some (decide (R18 ≥ (0 : Int))))
  else (some false))).bind (fun (T9 : Bool) =>
  if T9 = true then (some (.done (.done false)))
  else (some (.go (IntKind.i64.wrap (S1 + (1 : Int)))))))
  else (some (.done (.go ()))))
  (0 : Int))
  (fun (T3 : Unit) => some true)

theorem impl_inOrder_c {l : List Ent} {U0 : Value} : Cn Tryz.prog 99 [U0] [] [(U0, lc l)] (impl_inOrder l) (fun r (_ : Unit) => .bool r) fun _ _ => [] := by
  unfold impl_inOrder
  refine Ci Tryz.func99 r r ?_
  rintro w S ⟨Z0,-⟩
  refine Sr<|Qs 1 r<|Nx<|Sq<|Sr<|Qs 1 r<|Yo (Ln ke54 (Bc Z0) r)<|Qs 1 r<|Nx<|Ju [] (fun _=>[]) r1 (?_) fun T3=>?_
  ·refine Wb<|Lu [0,5,6] (fun T=>[(7, iv T)]) r1 fun S1=>Sr<|Qs 1 r<|Nx<|Sq<|Wc r (fun H5=>?_) fun H5=>?_
   ·refine Sn<|Sq<|Wb<|Sr<|Qs 1 r<|Bi fun E6 H7=>Yo (Ix ke54 (Bc Z0) H7 r)<|Yo (Le kk102 (Bc Z0) H7 r)<|Fo (Al kz102 r) fun B8=>Qs 1 r<|Fu (Sb 0 kk102 r (Cp r) r)<|Nx<|Sq<|Jb Unit [0,5,6,7] [] (fun T _=>[(28, .bool T)]) (fun _ _=>[]) r2 r2 (?_) fun T9 X10=>?_
    ·refine Dr [0] r hMix<|Ay 0 [0] r (Lb 0 kk102 r)<|Ai fun R11 H12=>A1 1<|Xe [0] r (Cl [] impl_entOk_c H12 r r1) fun _=>Aq [2,3] [0] r<|Ia (fun H14=>Ax [4,5,6] [0] (beq_tf H14) r r<|Au [7,8,9,10,11,12,13,14] [0] r r<|Ax [15] [0] (beq_tf H14) r r<|Ay 16 [0] r (Pt H14 r)<|Az<|Bg () []) fun H14=>Ag 4 [0] (gdA (beq_ff H14)) r (Y.move r)<|Ag 5 [0] (gdA (beq_ff H14)) r (Y.gtr r r)<|Ag 6 [0] (gdA (beq_ff H14)) r (Y.move r)<|Ia (fun H15=>?_) fun H15=>?_
     ·exact Ag 7 [0] (gdA (beq_tt H15)) r (Y.move r)<|Ag 8 [0] (gdA (beq_tt H15)) r (Y.move r)<|Ag 9 [0] (gdA (beq_tt H15)) r (Y.sub r r)<|Ai fun E16 H17=>Ag 10 [0] (gdA (beq_tt H15)) r (Ix ke54 (Bc Z0) H17 r)<|Ag 11 [0] (gdA (beq_tt H15)) r (Le kk102 (Bc Z0) H17 r)<|Ag 12 [0] (gdA (beq_tt H15)) r (Lb 0 kk102 r)<|Ai fun R18 H19=>A1 13<|Xeg [0] (gdA (beq_tt H15)) r (Cl [] impl_compareEnts_c H19 r r1) fun _=>Ag 14 [0] (gdA (beq_tt H15)) r (Y.geq r r)<|Ag 15 [0] (gdA (beq_ff H14)) r (Pt H15 r)<|Ay 16 [0] r (Pf H14 r)<|Az<|Bg () []
     exact Ax [7,8,9,10,11,12,13,14] [0] (beq_ft H15) r r<|Ag 15 [0] (gdA (beq_ff H14)) r (Pf H15 r)<|Ay 16 [0] r (Pf H14 r)<|Az<|Bg () []
    exact Ne<|Wc r (fun H21=>Sr<|Qs 1 r<|Nx<|Wr<|Br<|Tr<|Er<|Br<|Jd<|Tr<|Re () []) fun H21=>Sk<|Bn<|Ne<|Rg<|Qs 2 r<|Nl<|Lg () []
   exact Wx<|Tx<|Ex<|Be<|Jg () []
  exact Ne<|Sr<|Qs 1 r<|Nx<|Wr<|Re () []

/-- loop.example/g00950/impl.MemOk -/
noncomputable def impl_MemOk (l : List Ent) : Option Bool :=
  (if (decide (((l.length : Nat) : Int) ≤ (60 : Int))) = true then ((impl_inOrder l).bind fun R4 =>
  some R4)
  else (some false)).bind (fun (T1 : Bool) =>
  some T1)

theorem impl_MemOk_c {l : List Ent} {U0 : Value} : Cn Tryz.prog 97 [U0] [] [(U0, lc l)] (impl_MemOk l) (fun r (_ : Unit) => .bool r) fun _ _ => [] := by
  unfold impl_MemOk
  refine Ci Tryz.func97 r r ?_
  rintro w S ⟨Z0,-⟩
  refine Sr<|Qs 1 r<|Nx<|Sq<|Jv [] (fun T=>[(2, .bool T)]) r1 (?_) fun T1=>?_
  ·exact Rg<|Qs 1 r<|Yo (Ln ke54 (Bc Z0) r)<|Qs 2 r<|It (fun H3=>Qg 1 (beq_tt H3) r r<|Bi fun R4 H5=>Fg (gdA (beq_tt H3)) (Cl [] impl_inOrder_c H5 r r1 ⟨(Bc Z0),⟨⟩⟩) fun _=>Yo (Pt H3 r)<|Qs 1 r<|Nl<|Bg () []) fun H3=>Of 2 (beq_ft H3) r r<|Yo (Pf H3 r)<|Qs 1 r<|Nl<|Bg () []
  exact Ne<|Wr<|Re () []

/-- loop.example/g00950/impl.seqRange -/
noncomputable def impl_seqRange (l : List Ent) : Option (Int × Int) :=
  bindC (loopO (fun (S1 : Int × Int × Int) => if (decide (S1.2.2 < ((l.length : Nat) : Int))) = true then ((idx l S1.2.2).bind fun E6 =>
  some (.go (goMin S1.1 E6.Seq, goMax S1.2.1 E6.Seq, IntKind.i64.wrap (S1.2.2 + (1 : Int)))))
  else (some (.done (.go (S1.1, S1.2.1)))))
  ((1000001 : Int), (-1 : Int), (0 : Int)))
  (fun (T3 : Int × Int) => some (T3.1, T3.2))

theorem impl_seqRange_c {l : List Ent} {U0 : Value} : Cn Tryz.prog 98 [U0] [] [(U0, lc l)] (impl_seqRange l) (fun r (_ : Unit) => .tuple #[iv r.1, iv r.2]) fun _ _ => [] := by
  unfold impl_seqRange
  refine Ci Tryz.func98 r r ?_
  rintro w S ⟨Z0,-⟩
  refine Sr<|Qs 2 r<|Nx<|Sr<|Qs 2 r<|Nx<|Sq<|Sr<|Qs 1 r<|Yo (Ln ke54 (Bc Z0) r)<|Qs 1 r<|Nx<|Ju [] (fun T=>[(4, iv T.1), (5, iv T.2)]) r1 (?_) fun T3=>?_
  ·refine Wb<|Lu [8,9] (fun T=>[(4, iv T.1), (5, iv T.2.1), (10, iv T.2.2)]) r1 fun S1=>Sr<|Qs 1 r<|Nx<|Sq<|Wc r (fun H5=>?_) fun H5=>?_
   ·exact Sn<|Sq<|Wb<|Sr<|Bi fun E6 H7=>Yo (Ix ke54 (Bc Z0) H7 r)<|Yo (Le kk102 (Bc Z0) H7 r)<|Fo (Al kz102 r) fun B8=>Fu (Sb 0 kk102 r (Cp r) r)<|Nx<|Dr [0] r hMix<|Aq [0] [0] r<|Ay 1 [0] r (Fb kf102_1 r)<|Ay 2 [0] r (Lb 0 kk3 r)<|Ay 3 [0] r (Y.min2 r r)<|Aq [4] [0] r<|Ay 5 [0] r (Fb kf102_1 r)<|Ay 6 [0] r (Lb 0 kk3 r)<|Ay 7 [0] r (Y.max2 r r)<|Aq [8,9] [0] r<|Az<|Bn<|Ne<|Rg<|Qs 2 r<|Nl<|Lg () []
   exact Wx<|Tx<|Ex<|Be<|Jg () []
  exact Ne<|Sr<|Qs 4 r<|Nx<|Wr<|Re () []

/-- loop.example/g00950/impl.tablesOk -/
noncomputable def impl_tablesOk (e : Eng) : Option Bool :=
  (if (decide (((e.Tables.length : Nat) : Int) > (6 : Int))) = true then (some true)
  else ((impl_totalOf e.Tables).bind fun R5 =>
  if (decide (IntKind.i64.wrap (R5 + ((e.Mem.length : Nat) : Int)) > (400 : Int))) = true then (some true)
  else ((impl_MemOk e.Mem).bind fun R9 =>
  some (!R9)))).bind (fun (T2 : Bool) =>
  if T2 = true then (some false)
  else ((impl_seqRange e.Mem).bind fun R13 =>
  if (decide (R13.2 > e.Seq)) = true then (some false)
  else (bindC (loopO (fun (S17 : Int × Int) => if (decide (S17.2 < ((e.Tables.length : Nat) : Int))) = true then ((idx e.Tables S17.2).bind fun E22 =>
  (impl_seqRange E22).bind fun R25 =>
  (if (decide (((E22.length : Nat) : Int) = (0 : Int))) = true then (some true)
  else ((impl_inOrder E22).bind fun R31 =>
  if (!R31) = true then (some true)
  else (if (decide (R25.2 ≥ S17.1)) = true then (some true)
  else (some (decide (R25.2 > e.Seq)))))).bind (fun (T28 : Bool) =>
  if T28 = true then (some (.done (.done false)))
  else (some (.go (R25.1, IntKind.i64.wrap (S17.2 + (1 : Int)))))))
  else (some (.done (.go ()))))
  (R13.1, (0 : Int)))
  (fun (T19 : Unit) => some true))))

theorem impl_tablesOk_c {e : Eng} {U0 U1 U2 : Value} : Cn Tryz.prog 76 [.agg #[U0, U1, iv e.Seq, U2]] [] [(U0, lc e.Mem), (U1, lc e.Tables), (U2, lc e.Snaps)] (impl_tablesOk e) (fun r (_ : Unit) => .bool r) fun _ _ => [] := by
  unfold impl_tablesOk
  refine Ci Tryz.func76 r r ?_
  rintro w S ⟨Z0,Z1,Z2,-⟩
  refine Sr<|Fo (Bx r (Ca ⟨Ob Z0,Ob Z1,Op',Ob Z2,⟨⟩⟩)) fun B1=>Qs 1 r<|Nx<|Sq<|Sq<|Jv [1] (fun T=>[(28, .bool T)]) r1 (?_) fun T2=>?_
  ·refine Dr [0] r hMix<|Ay 0 [0] r (Fb kf58_1 r)<|Ay 1 [0] r (Lb 0 kk55 r)<|Ay 2 [0] r (Ln ke55 (Bc Z1) r)<|Aq [3,4] [0] r<|Ia (fun H4=>Ax [5,6,7,8,9,10,11,12] [0] (beq_tf H4) r r<|Ay 13 [0] r (Pt H4 r)<|Aq [14] [0] r<|Ax [15,16,17,18] [0] r r r<|Ay 19 [0] r (Pt r r)<|Az<|Bg () [0]) fun H4=>Ag 5 [0] (gdA (beq_ff H4)) r (Fb kf58_1 r)<|Ag 6 [0] (gdA (beq_ff H4)) r (Lb 0 kk55 r)<|Ag 8 [0] (gdA (beq_ff H4)) r (Fb kf58_0 r)<|Ag 9 [0] (gdA (beq_ff H4)) r (Lb 0 kk54 r)<|Ag 10 [0] (gdA (beq_ff H4)) r (Ln ke54 (Bc Z0) r)<|Ai fun R5 H6=>A1 7<|Xeg [0] (gdA (beq_ff H4)) r (Cl [] impl_totalOf_c H6 r r1 ⟨(Bc Z1),⟨⟩⟩) fun _=>?_
   exact Ag 11 [0] (gdA (beq_ff H4)) r (Y.add r r)<|Ag 12 [0] (gdA (beq_ff H4)) r (Y.gtr r r)<|Ay 13 [0] r (Pf H4 r)<|Aq [14] [0] r<|Ia (fun H8=>Ax [15,16,17,18] [0] (beq_tf H8) r r<|Ay 19 [0] r (Pt H8 r)<|Az<|Bg () [0]) fun H8=>Ag 15 [0] (gdA (beq_ff H8)) r (Fb kf58_0 r)<|Ag 16 [0] (gdA (beq_ff H8)) r (Lb 0 kk54 r)<|Ai fun R9 H10=>A1 17<|Xeg [0] (gdA (beq_ff H8)) r (Cl [] impl_MemOk_c H10 r r1 ⟨(Bc Z0),⟨⟩⟩) fun _=>Ag 18 [0] (gdA (beq_ff H8)) r (Y.not r)<|Ay 19 [0] r (Pf H8 r)<|Az<|Bg () [0]
  refine Ne<|Wc r (fun H12=>Sr<|Qs 1 r<|Nx<|Wr<|Tr<|Re () []) fun H12=>Sn<|Sr<|Yo (Fb kf58_0 r)<|Yo (Lb 0 kk54 r)<|Bi fun R13 H14=>Fo (Cl [] impl_seqRange_c H14 r r1 ⟨(Bc Z0),⟨⟩⟩) fun _=>Qs 5 r<|Nx<|Sq<|Sr<|Qs 1 r<|Yo (Fb kf58_2 r)<|Yo (Lb 0 kk3 r)<|Qs 1 r<|Nx<|Wc r (fun H16=>Sr<|Qs 1 r<|Nx<|Wr<|Tr<|Re () []) fun H16=>Sn<|Sq<|Sr<|Yo (Fb kf58_1 r)<|Yo (Lb 0 kk55 r)<|Yo (Ln ke55 (Bc Z1) r)<|Qs 1 r<|Nx<|Jn Unit [] [] (fun _ _=>[]) (fun _ _=>[]) r2 r2 (?_) fun T19 X20=>?_
  ·refine Wb<|Lu [1,40,41] (fun T=>[(3, iv T.1), (42, iv T.2)]) r1 fun S17=>Sr<|Qs 1 r<|Nx<|Sq<|Wc r (fun H21=>?_) fun H21=>?_
   ·refine Sn<|Sq<|Wb<|Sr<|Bi fun E22 H23=>Yo (Ix ke55 (Bc Z1) H23 r)<|?_
    have Q24 : Base w S (elv w U1 (S17.2.toNat * 1 + 0)) (lc E22):=Base.el Z1 (idx_get H23).2.2 r r
    refine Yo (Lz kk54 Z1 H23 r)<|Qs 1 r<|Nx<|Sr<|Qs 1 r<|Bi fun R25 H26=>Fo (Cl [] impl_seqRange_c H26 r r1 ⟨(Bc Q24),⟨⟩⟩) fun _=>Qs 5 r<|Nx<|Sq<|Sq<|Jv [1,7,40,41,42] (fun T=>[(69, .bool T)]) r1 (?_) fun T28=>?_
    ·refine Rg<|Qs 1 r<|Yo (Ln ke54 (Bc Q24) r)<|Qs 2 r<|It (fun H30=>Of 3 (beq_tf H30) r r<|Yo (Pt H30 r)<|Qs 1 r<|Of 3 r r r<|Yo (Pt r r)<|Qs 1 r<|Of 4 r r r<|Yo (Pt r r)<|Nl<|Bg () [0]) fun H30=>Qg 1 (beq_ff H30) r r<|Bi fun R31 H32=>Fg (gdA (beq_ff H30)) (Cl [] impl_inOrder_c H32 r r1 ⟨(Bc Q24),⟨⟩⟩) fun _=>Qg 1 (beq_ff H30) r r<|Yo (Pf H30 r)<|Qs 1 r<|It (fun H34=>Of 3 (beq_tf H34) r r<|Yo (Pt H34 r)<|Qs 1 r<|Of 4 r r r<|Yo (Pt r r)<|Nl<|Bg () [0]) fun H34=>Qg 3 (beq_ff H34) r r<|Yo (Pf H34 r)<|Qs 1 r<|It (fun H35=>Of 4 (beq_tf H35) r r<|Yo (Pt H35 r)<|Nl<|Bg () [0]) fun H35=>?_
     exact Qg 1 (beq_ff H35) r r<|Yg (gdA (beq_ff H35)) (Fb kf58_2 r)<|Yg (gdA (beq_ff H35)) (Lb 0 kk3 r)<|Qg 1 (beq_ff H35) r r<|Yo (Pf H35 r)<|Nl<|Bg () [0]
    exact Ne<|Wc r (fun H36=>Sr<|Qs 1 r<|Nx<|Wr<|Tr<|Br<|Tr<|Er<|Br<|Jd<|Tr<|Re () []) fun H36=>Sn<|Rg<|Qs 2 r<|Nl<|Bn<|Ne<|Rg<|Qs 2 r<|Nl<|Lg () [0]
   exact Wx<|Tx<|Ex<|Be<|Jg () []
  exact Ne<|Sr<|Qs 1 r<|Nx<|Wr<|Re () []

/-- loop.example/g00950/impl.EngOk -/
noncomputable def impl_EngOk (e : Eng) : Option Bool :=
  ((impl_isNumber e.Seq).bind fun R4 =>
  if (!R4) = true then (some true)
  else (if (decide (((e.Snaps.length : Nat) : Int) > (4 : Int))) = true then (some true)
  else ((impl_tablesOk e).bind fun R9 =>
  some (!R9)))).bind (fun (T2 : Bool) =>
  if T2 = true then (some false)
  else (bindC (loopO (fun (S13 : Int) => if (decide (S13 < ((e.Snaps.length : Nat) : Int))) = true then ((idx e.Snaps S13).bind fun E18 =>
  ((impl_inRange E18 (0 : Int) e.Seq).bind fun R22 =>
  if (!R22) = true then (some true)
  else (if (decide (S13 > (0 : Int))) = true then ((idx e.Snaps (IntKind.i64.wrap (S13 - (1 : Int)))).bind fun E27 =>
  some (decide (E18 ≤ E27)))
  else (some false))).bind (fun (T20 : Bool) =>
  if T20 = true then (some (.done (.done false)))
  else (some (.go (IntKind.i64.wrap (S13 + (1 : Int)))))))
  else (some (.done (.go ()))))
  (0 : Int))
  (fun (T15 : Unit) => some true)))

theorem impl_EngOk_c {e : Eng} {U0 U1 U2 : Value} : Cn Tryz.prog 50 [.agg #[U0, U1, iv e.Seq, U2]] [] [(U0, lc e.Mem), (U1, lc e.Tables), (U2, lc e.Snaps)] (impl_EngOk e) (fun r (_ : Unit) => .bool r) fun _ _ => [] := by
  unfold impl_EngOk
  refine Ci Tryz.func50 r r ?_
  rintro w S ⟨Z0,Z1,Z2,-⟩
  refine Sr<|Fo (Bx r (Ca ⟨Ob Z0,Ob Z1,Op',Ob Z2,⟨⟩⟩)) fun B1=>Qs 1 r<|Nx<|Sq<|Sq<|Jv [1] (fun T=>[(19, .bool T)]) r1 (?_) fun T2=>?_
  ·refine Rg<|Yo (Fb kf58_2 r)<|Yo (Lb 0 kk3 r)<|Bi fun R4 H5=>Fo (Cl [] impl_isNumber_c H5 r r1) fun _=>Qs 2 r<|It (fun H7=>Of 4 (beq_tf H7) r r<|Yo (Pt H7 r)<|Qs 1 r<|Of 3 r r r<|Yo (Pt r r)<|Nl<|Bg () [0]) fun H7=>Yg (gdA (beq_ff H7)) (Fb kf58_3 r)<|Yg (gdA (beq_ff H7)) (Lb 0 kk56 r)<|Yg (gdA (beq_ff H7)) (Ln ke56 (Bc Z2) r)<|Qg 1 (beq_ff H7) r r<|Yo (Pf H7 r)<|Qs 1 r<|It (fun H8=>Of 3 (beq_tf H8) r r<|Yo (Pt H8 r)<|Nl<|Bg () [0]) fun H8=>Yg (gdA (beq_ff H8)) (Lb 0 kk58 r)<|Bi fun R9 H10=>Fg (gdA (beq_ff H8)) (Cl [] impl_tablesOk_c H10 r r1 ⟨(Bc Z0),(Bc Z1),(Bc Z2),⟨⟩⟩) fun _=>?_
   exact Qg 1 (beq_ff H8) r r<|Yo (Pf H8 r)<|Nl<|Bg () [0]
  refine Ne<|Wc r (fun H12=>Sr<|Qs 1 r<|Nx<|Wr<|Tr<|Re () []) fun H12=>Sn<|Sq<|Sr<|Yo (Fb kf58_3 r)<|Yo (Lb 0 kk56 r)<|Yo (Ln ke56 (Bc Z2) r)<|Qs 1 r<|Nx<|Jn Unit [] [] (fun _ _=>[]) (fun _ _=>[]) r2 r2 (?_) fun T15 X16=>?_
  ·refine Wb<|Lu [1,21,22] (fun T=>[(23, iv T)]) r1 fun S13=>Sr<|Qs 1 r<|Nx<|Sq<|Wc r (fun H17=>?_) fun H17=>?_
   ·refine Sn<|Sq<|Wb<|Sr<|Qs 1 r<|Bi fun E18 H19=>Yo (Ix ke56 (Bc Z2) H19 r)<|Yo (Le kk3 (Bc Z2) H19 r)<|Qs 2 r<|Nx<|Sq<|Jv [1,21,22,23] (fun T=>[(46, .bool T)]) r1 (?_) fun T20=>?_
    ·refine Rg<|Qs 1 r<|Yo (Fb kf58_2 r)<|Yo (Lb 0 kk3 r)<|Bi fun R22 H23=>Fo (Cl [] impl_inRange_c H23 r r1) fun _=>Qs 2 r<|It (fun H25=>Of 3 (beq_tf H25) r r<|Ou 8 r r<|Of 1 (beq_tf H25) r r<|Yo (Pt H25 r)<|Nl<|Bg () [0]) fun H25=>Qg 3 (beq_ff H25) r r<|It (fun H26=>?_) fun H26=>?_
     ·exact Qg 1 (beq_tt H26) r r<|Yg (gdA (beq_tt H26)) (Fb kf58_3 r)<|Yg (gdA (beq_tt H26)) (Lb 0 kk56 r)<|Qg 2 (beq_tt H26) r r<|Bi fun E27 H28=>Yg (gdA (beq_tt H26)) (Ix ke56 (Bc Z2) H28 r)<|Yg (gdA (beq_tt H26)) (Le kk3 (Bc Z2) H28 r)<|Qg 1 (beq_tt H26) r r<|Yg (gdA (beq_ff H25)) (Pt H26 r)<|Yo (Pf H25 r)<|Nl<|Bg () [0]
     exact Of 8 (beq_ft H26) r r<|Yg (gdA (beq_ff H25)) (Pf H26 r)<|Yo (Pf H25 r)<|Nl<|Bg () [0]
    exact Ne<|Wc r (fun H29=>Sr<|Qs 1 r<|Nx<|Wr<|Br<|Tr<|Er<|Br<|Jd<|Tr<|Re () []) fun H29=>Sk<|Bn<|Ne<|Rg<|Qs 2 r<|Nl<|Lg () [0]
   exact Wx<|Tx<|Ex<|Be<|Jg () []
  exact Ne<|Sr<|Qs 1 r<|Nx<|Wr<|Re () []

/-- (*loop.example/g00950/impl.Store).rowsOf -/
noncomputable def impl_Store_rowsOf (s : Store) (id : Int) : Option (List LogRow) :=
  bindC (loopO (fun (S1 : Int × List LogRow) => if (decide (S1.1 < ((s.Rows.length : Nat) : Int))) = true then ((idx s.Rows S1.1).bind fun E6 =>
  bindC (if (decide (E6.Tenant = id)) = true then ((app 48 S1.2 ([E6])).bind fun E14 =>
  some (.go E14))
  else (some (.go S1.2)))
  (fun (T9 : List LogRow) => some (.go (IntKind.i64.wrap (S1.1 + (1 : Int)), T9))))
  else (some (.done (.go S1.2))))
  ((0 : Int), ([] : List LogRow)))
  (fun (T3 : List LogRow) => some T3)

theorem impl_Store_rowsOf_c {s : Store} {id : Int} {U0 U1 U2 U3 U4 : Value} {U5 : Nat} : Cn Tryz.prog 51 [pt U5, iv id] [.box U5 43 [strV s.Secret, strV s.Keys.Master, U0, iv s.Keys.Wiped, iv s.Shares.Size, U1, U2, U3, U4, iv s.Boot]] [(U0, lc s.Keys.Slots), (U1, lc s.Shares.List), (U2, lc s.Tens), (U3, lc s.Rows), (U4, lc s.Hist)] (impl_Store_rowsOf s id) (fun _ (X : Value) => X) fun r X => [.box U5 43 [strV s.Secret, strV s.Keys.Master, U0, iv s.Keys.Wiped, iv s.Shares.Size, U1, U2, U3, U4, iv s.Boot], .own X (lc r)] := by
  unfold impl_Store_rowsOf
  refine Ci Tryz.func51 r r ?_
  rintro w S ⟨Z0,Z1,Z2,Z3,Z4,-⟩
  refine Sr<|Qs 1 r<|Nx<|Sr<|Qs 1 r<|Nx<|Sq<|Sr<|Qs 2 r<|Yo (Fb kf43_4 r)<|Yo (Lb 0 kk41 r)<|Yo (Ln ke41 (Bc Z3) r)<|Qs 1 r<|Nx<|Jn Value [] [0] (fun _ X=>[(5, X)]) (fun T X=>[.own X (lc T)]) r2 r2 (?_) fun T3 X4=>?_
  ·refine Wb<|Nw 5<|Lp Value [1,11,12] [1] (fun T X=>[(5, X), (13, iv T.1)]) (fun T X=>[.own X (lc T.2)]) (.slice none 0 0) [1,0] r2 r2 fun S1 X2=>Sr<|Qs 1 r<|Nx<|Sq<|Wc r (fun H5=>?_) fun H5=>?_
   ·exact Sn<|Sq<|Wb<|Sr<|Bi fun E6 H7=>Yo (Ix ke41 (Bc Z3) H7 r)<|Yo (Le kk69 (Bc Z3) H7 r)<|Fo (Al kz69 r) fun B8=>Fu (Sb 0 kk69 r (Cp r) r)<|Nx<|Sr<|Yo (Fb kf69_0 r)<|Yo (Lb 0 kk3 r)<|Qs 2 r<|Nx<|Jn Value [1,11,12,13] [1] (fun _ X=>[(5, X)]) (fun T X=>[.own X (lc T)]) r2 r2 (Wc r (fun H11=>Rg<|Qs 1 r<|Yo (Lb 0 kk69 r)<|Fo (Bs [E6] ke41 kz69) fun B12=>Bi fun E14 H15=>Fo (Ap [3] H15 ke41 kz69 r (Oc 0 r)) fun V13=>Qs 1 r<|Nl<|Jg V13 [3,0]) fun H11=>Sk<|Jg X2 [1,1]) fun T9 X10=>Bn<|Ne<|Rg<|Qs 2 r<|Nl<|Lg X10 [0,0]
   exact Wx<|Tx<|Ex<|Be<|Jg X2 [0,0]
  exact Ne<|Sr<|Qs 2 r<|Nx<|Wr<|Re X4 [0,0]

/-- slices.Clone[[]loop.example/g00950/impl.Ent,loop.example/g00950/impl.Ent] -/
noncomputable def slices_Clone_94167 (s : List Ent) : Option (List Ent) :=
  (app 48 ([] : List Ent) s).bind fun E4 =>
  some E4

theorem slices_Clone_94167_c {s : List Ent} {U0 : Value} : Cn Tryz.prog 100 [U0] [] [(U0, lc s)] (slices_Clone_94167 s) (fun _ (X : Value) => X) fun r X => [.own X (lc r)] := by
  unfold slices_Clone_94167
  refine Ci Tryz.func100 r r ?_
  rintro w S ⟨Z0,-⟩
  exact Sr<|Qs 1 r<|Nx<|Sq<|Sr<|Qs 1 r<|Yo (Y.nileq ke54 (Bc Z0) r r)<|Nx<|TW.cond_nil (Bc Z0) r (fun hnil_=>by subst hnil_;show TW _ _ _ (some ([])) _ _ _ _ _;exact (Sr<|Qs 1 r<|Nx<|Wr<|Tr<|Ni 4<|Re (.slice none 0 0) [0]))<|Sn<|Sr<|Fo (Bs ([] : List Ent) ke54 kz102) fun B2=>Qs 1 r<|Bi fun E4 H5=>Fo (Ap [0] H5 ke54 kz102 r (Bc Z0)) fun V3=>Qs 1 r<|Nx<|Wr<|Re V3 [0]

/-- slices.Clone[[]int,int] -/
noncomputable def slices_Clone_88240 (s : List Int) : Option (List Int) :=
  (app 8 ([] : List Int) s).bind fun E4 =>
  some E4

theorem slices_Clone_88240_c {s : List Int} {U0 : Value} : Cn Tryz.prog 101 [U0] [] [(U0, lc s)] (slices_Clone_88240 s) (fun _ (X : Value) => X) fun r X => [.own X (lc r)] := by
  unfold slices_Clone_88240
  refine Ci Tryz.func101 r r ?_
  rintro w S ⟨Z0,-⟩
  exact Sr<|Qs 1 r<|Nx<|Sq<|Sr<|Qs 1 r<|Yo (Y.nileq ke56 (Bc Z0) r r)<|Nx<|TW.cond_nil (Bc Z0) r (fun hnil_=>by subst hnil_;show TW _ _ _ (some ([])) _ _ _ _ _;exact (Sr<|Qs 1 r<|Nx<|Wr<|Tr<|Ni 1<|Re (.slice none 0 0) [0]))<|Sn<|Sr<|Fo (Bs ([] : List Int) ke56 kz3) fun B2=>Qs 1 r<|Bi fun E4 H5=>Fo (Ap [0] H5 ke56 kz3 r (Bc Z0)) fun V3=>Qs 1 r<|Nx<|Wr<|Re V3 [0]

/-- loop.example/g00950/impl.copyEng -/
noncomputable def impl_copyEng (e : Eng) : Option Eng :=
  (slices_Clone_94167 e.Mem).bind fun R3 =>
  (slices_Clone_88240 e.Snaps).bind fun R7 =>
  bindC (loopO (fun (S17 : Int × List (List Ent)) => if (decide (S17.1 < ((e.Tables.length : Nat) : Int))) = true then ((idx e.Tables S17.1).bind fun E22 =>
  (slices_Clone_94167 E22).bind fun R25 =>
  (app 24 S17.2 ([R25])).bind fun E31 =>
  some (.go (IntKind.i64.wrap (S17.1 + (1 : Int)), E31)))
  else (some (.done (.go S17.2))))
  ((0 : Int), ([] : List (List Ent))))
  (fun (T19 : List (List Ent)) => some ({ Mem := R3, Tables := T19, Seq := e.Seq, Snaps := R7 : Eng }))

theorem impl_copyEng_c {e : Eng} {U0 U1 U2 : Value} : Cn Tryz.prog 77 [.agg #[U0, U1, iv e.Seq, U2]] [] [(U0, lc e.Mem), (U1, lc e.Tables), (U2, lc e.Snaps)] (impl_copyEng e) (fun r (X : Value × Value × Value) => .agg #[X.1, X.2.1, iv r.Seq, X.2.2]) fun r X => [.own X.1 (lc r.Mem), .own X.2.1 (lc r.Tables), .own X.2.2 (lc r.Snaps)] := by
  unfold impl_copyEng
  refine Ci Tryz.func77 r r ?_
  rintro w S ⟨Z0,Z1,Z2,-⟩
  refine Sr<|Fo (Bx r (Ca ⟨Ob Z0,Ob Z1,Op',Ob Z2,⟨⟩⟩)) fun B1=>Fo (Al kz58 r) fun B2=>Nx<|Sq<|Wi fun R3 H4=>Wi fun R7 H8=>Jw (Nat × Value × Value) [1,2] [1,0] (fun X=>[(3, pt X.1)]) (fun X=>[.box X.1 58 [X.2.1, .slice none 0 0, iv e.Seq, X.2.2], .own X.2.1 (lc R3), .own X.2.2 (lc R7)]) r1 r1 (?_) fun X14=>?_
  ·refine Dr [0,0] r hMix<|Ay 0 [0,0] r (Fb kf58_0 r)<|Ay 1 [0,0] r (Lb 1 kk54 r)<|Ay 3 [0,0] r (Fb kf58_2 r)<|Ay 4 [0,0] r (Lb 1 kk3 r)<|Ay 5 [0,0] r (Fb kf58_3 r)<|Ay 6 [0,0] r (Lb 1 kk56 r)<|A2 2 9 (?_)<|?_
   ·refine Xe [1,1] r (Cl [] slices_Clone_94167_c H4 r r1 ⟨(Bc Z0),⟨⟩⟩) fun Y15=>A2 7 9 (?_)<|?_
    ·exact Xe [2,2] r (Cl [] slices_Clone_88240_c H8 r r1 ⟨(Bc Z2),⟨⟩⟩) fun Y17=>A2 8 9 (Xy [2,2] r (Bd kp58 kz58 (Pc r (Co 1)<|Pc r (Cp r)<|Pc r (Co 0)<|Pz) r)<|A1 9<|Xe [3,3] r (Al kz58 r) fun B20=>A1 10<|Xu [3,3] r (Sb 0 kk58 r (Ca ⟨Ow' 2,Op',Op',Ow' 1,⟨⟩⟩) r)<|Az<|Bg (B20, Y15, Y17) [4,3,0,1,0])<|Xe [3,3] r (Al kz58 r) fun B19=>A1 8<|Xy [3,3] r (Bd kp58 kz58 (Pc r (Co 2)<|Pc r (Cp r)<|Pc r (Co 1)<|Pz) r)<|A1 10<|Xu [3,3] r (Sb 0 kk58 r (Ca ⟨Ow' 2,Op',Op',Ow' 1,⟨⟩⟩) r)<|Az<|Bg (B19, Y15, Y17) [4,3,0,1,0]
    exact Xe [2,2] r (Al kz58 r) fun B18=>A1 7<|Xe [3,3] r (Cl [] slices_Clone_88240_c H8 r r1 ⟨(Bc Z2),⟨⟩⟩) fun Y19=>A1 8<|Xy [3,3] r (Bd kp58 kz58 (Pc r (Co 2)<|Pc r (Cp r)<|Pc r (Co 0)<|Pz) r)<|A1 10<|Xu [3,3] r (Sb 1 kk58 r (Ca ⟨Ow' 2,Op',Op',Ow' 0,⟨⟩⟩) r)<|Az<|Bg (B18, Y15, Y19) [4,3,1,1,0]
   exact Xe [1,1] r (Al kz58 r) fun B16=>A1 2<|Xe [2,2] r (Cl [] slices_Clone_94167_c H4 r r1 ⟨(Bc Z0),⟨⟩⟩) fun Y17=>A1 7<|Xe [3,3] r (Cl [] slices_Clone_88240_c H8 r r1 ⟨(Bc Z2),⟨⟩⟩) fun Y18=>A1 8<|Xy [3,3] r (Bd kp58 kz58 (Pc r (Co 1)<|Pc r (Cp r)<|Pc r (Co 0)<|Pz) r)<|A1 10<|Xu [3,3] r (Sb 2 kk58 r (Ca ⟨Ow' 1,Op',Op',Ow' 0,⟨⟩⟩) r)<|Az<|Bg (B16, Y17, Y18) [4,3,2,1,0]
  refine Ne<|Sq<|Sr<|Yo (Fb kf58_1 r)<|Yo (Lb 0 kk55 r)<|Yo (Ln ke55 (Bc Z1) r)<|Qs 1 r<|Nx<|Jn Value [2,3] [1,2,2] (fun _ _=>[]) (fun T X=>[.box X14.1 58 [X14.2.1, X, iv e.Seq, X14.2.2], .own X (lc T)]) r2 r2 (?_) fun T19 X20=>?_
  ·refine Wb<|Nw 1<|Lp Value [2,3,16,17] [2,3,3] (fun T _=>[(18, iv T.1)]) (fun T X=>[.box X14.1 58 [X14.2.1, X, iv e.Seq, X14.2.2], .own X (lc T.2)]) (.slice none 0 0) [2,3,3,2,0] r2 r2 fun S17 X18=>Sr<|Qs 1 r<|Nx<|Sq<|Wc r (fun H21=>?_) fun H21=>?_
   ·refine Sn<|Sq<|Wb<|Sr<|Bi fun E22 H23=>Yo (Ix ke55 (Bc Z1) H23 r)<|?_
    have Q24 : Base w S (elv w U1 (S17.1.toNat * 1 + 0)) (lc E22):=Base.el Z1 (idx_get H23).2.2 r r
    refine Yo (Lz kk54 Z1 H23 r)<|Qs 1 r<|Nx<|Wi fun R25 H26=>Wi fun E31 H32=>Jw Value [2,3,16,17,18] [0,0,0] (fun _=>[]) (fun X=>[.box X14.1 58 [X14.2.1, X, iv e.Seq, X14.2.2], .own X (lc E31)]) r1 r1 (?_) fun X34=>?_
    ·refine Dr [0,0,0] r hMix<|Ay 0 [0,0,0] r (Fb kf58_1 r)<|Aq [2] [0,0,0] r<|A2 1 3 (?_)<|?_
     ·exact Xy [0,0,0] r (Lb 3 kk55 r)<|A1 3<|Xe [1,1,1] r (Cl [] slices_Clone_94167_c H26 r r1 ⟨(Bc Q24),⟨⟩⟩) fun Y36=>A1 4<|Xe [2,2,2] r (Bk [.raw Y36] ke55 kz54 r (Qc (Co 0)<|Qz)) fun B37=>Ka (Ha [0, 0] ([R25] : List (List Ent)) r (Cf Cz))<|A1 5<|Xe [1,1,1] r (Aw [5, 0] H32 ke55 kz54 r) fun V38=>Ay 6 [1,1,1] r (Fb kf58_1 r)<|A1 7<|Xu [1,1,1] r (Sb 4 kk55 r (Co 0) r)<|Az<|Bg V38 [1,1,1,1,0]
     refine Xe [1,1,1] r (Cl [] slices_Clone_94167_c H26 r r1 ⟨(Bc Q24),⟨⟩⟩) fun Y35=>A2 1 4 (?_)<|?_
     ·exact Xy [1,1,1] r (Lb 4 kk55 r)<|A1 4<|Xe [2,2,2] r (Bk [.raw Y35] ke55 kz54 r (Qc (Co 0)<|Qz)) fun B37=>Ka (Ha [0, 0] ([R25] : List (List Ent)) r (Cf Cz))<|A1 5<|Xe [1,1,1] r (Aw [5, 0] H32 ke55 kz54 r) fun V38=>Ay 6 [1,1,1] r (Fb kf58_1 r)<|A1 7<|Xu [1,1,1] r (Sb 4 kk55 r (Co 0) r)<|Az<|Bg V38 [1,1,1,1,0]
     exact Xe [2,2,2] r (Bk [.raw Y35] ke55 kz54 r (Qc (Co 0)<|Qz)) fun B36=>Ka (Ha [0, 0] ([R25] : List (List Ent)) r (Cf Cz))<|A1 1<|Xy [1,1,1] r (Lb 4 kk55 r)<|A1 5<|Xe [1,1,1] r (Aw [5, 0] H32 ke55 kz54 r) fun V37=>Ay 6 [1,1,1] r (Fb kf58_1 r)<|A1 7<|Xu [1,1,1] r (Sb 4 kk55 r (Co 0) r)<|Az<|Bg V37 [1,1,1,1,0]
    exact Bn<|Ne<|Rg<|Qs 2 r<|Nl<|Lg X34 [0,0,0,0,0]
   exact Wx<|Tx<|Ex<|Be<|Jg X18 [0,0,0,0,0]
  exact Ne<|Sr<|Yo (Lb 3 kk58 r)<|Fu (Sb 0 kk58 r (Ca ⟨Ow' 1,Ow' 4,Op',Ow' 2,⟨⟩⟩) r)<|Nx<|Wr<|TE.leaf fun _ _ hf_ hs_ => ret_any (rs := [.cell 2 58]) (vs := [.agg #[X14.2.1, X20, iv e.Seq, X14.2.2]]) (.inl r) r (RV.cell 0 r r kk58 r ⟨⟩) hf_ hs_ ⟨(X14.2.1, X20, X14.2.2), r, hs_.pulls [1, 3, 1] r⟩

/-- loop.example/g00950/impl.slotOf$1 -/
noncomputable def impl_slotOf_1 (x : KeySlot) (c0_ : Int) : Option Bool :=
  some (decide (x.Tenant = c0_))

theorem impl_slotOf_1_c {x : KeySlot} {c0_ : Int} {U0 : Nat} : Cn Tryz.prog 122 [.agg #[iv x.Tenant, strV x.Key], pt U0] [.box U0 3 [iv c0_]] [] (impl_slotOf_1 x c0_) (fun r (_ : Unit) => .bool r) fun _ _ => [.box U0 3 [iv c0_]] := by
  unfold impl_slotOf_1
  refine Ci Tryz.func122 r r ?_
  rintro w S -
  exact Sr<|Fo (Bx r (Cp r)) fun B1=>Qs 1 r<|Nx<|Sr<|Yo (Fb kf62_0 r)<|Yo (Lb 0 kk3 r)<|Yo (Lb 1 kk3 r)<|Qs 2 r<|Nx<|Wr<|Re () [1]

/-- slices.IndexFunc[[]loop.example/g00950/impl.KeySlot,loop.example/g00950/impl.KeySlot] -/
noncomputable def slices_IndexFunc_79532_at_impl_slotOf_1 (s : List KeySlot) (f_c0 : Int) : Option Int :=
  bindC (loopO (fun (S1 : Int) => if (decide (S1 < ((s.length : Nat) : Int))) = true then ((idx s S1).bind fun E6 =>
  (impl_slotOf_1 E6 f_c0).bind fun R8 =>
  if R8 = true then (some (.done (.done S1)))
  else (some (.go (IntKind.i64.wrap (S1 + (1 : Int))))))
  else (some (.done (.go ()))))
  (0 : Int))
  (fun (T3 : Unit) => some (-1 : Int))

theorem slices_IndexFunc_79532_at_impl_slotOf_1_c {s : List KeySlot} {f_c0 : Int} {U0 : Value} {U1 : Nat} : Cn Tryz.prog 121 [U0, .func (.func 122) #[] #[pt U1]] [.box U1 3 [iv f_c0]] [(U0, lc s)] (slices_IndexFunc_79532_at_impl_slotOf_1 s f_c0) (fun r (_ : Unit) => iv r) fun _ _ => [.box U1 3 [iv f_c0]] := by
  unfold slices_IndexFunc_79532_at_impl_slotOf_1
  refine Ci Tryz.func121 r r ?_
  rintro w S ⟨Z0,-⟩
  refine Sr<|Qs 1 r<|Nx<|Sq<|Sr<|Qs 1 r<|Yo (Ln ke34 (Bc Z0) r)<|Qs 1 r<|Nx<|Ju [] (fun _=>[]) r1 (?_) fun T3=>?_
  ·refine Wb<|Lu [0,1,7] (fun T=>[(8, iv T)]) r1 fun S1=>Sr<|Qs 1 r<|Nx<|Sq<|Wc r (fun H5=>?_) fun H5=>?_
   ·exact Sn<|Sq<|Wb<|Sr<|Qs 2 r<|Nx<|Sr<|Qs 3 r<|Bi fun E6 H7=>Yo (Ix ke34 (Bc Z0) H7 r)<|Yo (Le kk62 (Bc Z0) H7 r)<|Bi fun R8 H9=>Fo (Cw [0] impl_slotOf_1_c H9 r r r1) fun _=>Nx<|Wc r (fun H11=>Sr<|Qs 2 r<|Nx<|Wr<|Br<|Tr<|Er<|Br<|Jd<|Tr<|Re () [0]) fun H11=>Sk<|Bn<|Ne<|Rg<|Qs 2 r<|Nl<|Lg () [0]
   exact Wx<|Tx<|Ex<|Be<|Jg () [0]
  exact Ne<|Sr<|Qs 1 r<|Nx<|Wr<|Re () [0]

/-- loop.example/g00950/impl.slotOf -/
noncomputable def impl_slotOf (d : KeyDev) (tenant : Int) : Option Int :=
  (slices_IndexFunc_79532_at_impl_slotOf_1 d.Slots tenant).bind fun R3 =>
  some R3

theorem impl_slotOf_c {d : KeyDev} {tenant : Int} {U0 : Value} : Cn Tryz.prog 102 [.agg #[strV d.Master, U0, iv d.Wiped], iv tenant] [] [(U0, lc d.Slots)] (impl_slotOf d tenant) (fun r (_ : Unit) => iv r) fun _ _ => [] := by
  unfold impl_slotOf
  refine Ci Tryz.func102 r r ?_
  rintro w S ⟨Z0,-⟩
  exact Sr<|Fo (Bx r (Ca ⟨Op',Ob Z0,Op',⟨⟩⟩)) fun B1=>Fo (Bx r (Cp r)) fun B2=>Qs 1 r<|Nx<|Sr<|Yo (Fb kf36_1 r)<|Yo (Lb 1 kk34 r)<|Yo (Y.makeFunc r)<|Bi fun R3 H4=>Fo (Cl [0] slices_IndexFunc_79532_at_impl_slotOf_1_c H4 r r1 ⟨(Bc Z0),⟨⟩⟩) fun _=>Qs 1 r<|Nx<|Wr<|Re () []

/-- loop.example/g00950/impl.KeyOf -/
noncomputable def impl_KeyOf (d : KeyDev) (tenant : Int) : Option (List UInt8) :=
  (impl_slotOf d tenant).bind fun R2 =>
  (if (decide (R2 < (0 : Int))) = true then (some true)
  else ((impl_KeyOk d).bind fun R8 =>
  some (!R8))).bind (fun (T5 : Bool) =>
  if T5 = true then (some ([]))
  else ((idx d.Slots R2).bind fun E12 =>
  some E12.Key))

theorem impl_KeyOf_c {d : KeyDev} {tenant : Int} {U0 : Value} : Cn Tryz.prog 78 [.agg #[strV d.Master, U0, iv d.Wiped], iv tenant] [] [(U0, lc d.Slots)] (impl_KeyOf d tenant) (fun r (_ : Unit) => strV r) fun _ _ => [] := by
  unfold impl_KeyOf
  refine Ci Tryz.func78 r r ?_
  rintro w S ⟨Z0,-⟩
  refine Sr<|Fo (Bx r (Ca ⟨Op',Ob Z0,Op',⟨⟩⟩)) fun B1=>Qs 1 r<|Nx<|Sr<|Yo (Lb 0 kk36 r)<|Qs 1 r<|Bi fun R2 H3=>Fo (Cl [] impl_slotOf_c H3 r r1 ⟨(Bc Z0),⟨⟩⟩) fun _=>Qs 1 r<|Nx<|Sq<|Sq<|Jv [2,5] (fun T=>[(15, .bool T)]) r1 (Rg<|Qs 3 r<|It (fun H7=>Of 3 (beq_tf H7) r r<|Yo (Pt H7 r)<|Nl<|Bg () [0]) fun H7=>Yg (gdA (beq_ff H7)) (Lb 0 kk36 r)<|Bi fun R8 H9=>Fg (gdA (beq_ff H7)) (Cl [] impl_KeyOk_c H9 r r1 ⟨(Bc Z0),⟨⟩⟩) fun _=>Qg 1 (beq_ff H7) r r<|Yo (Pf H7 r)<|Nl<|Bg () [0]) fun T5=>Ne<|Wc r (fun H11=>Sr<|Qs 1 r<|Nx<|Wr<|Tr<|Re () []) fun H11=>?_
  exact Sn<|Sr<|Yo (Fb kf36_1 r)<|Yo (Lb 0 kk34 r)<|Qs 1 r<|Bi fun E12 H13=>Yo (Ix ke34 (Bc Z0) H13 r)<|Yo (Fe kf62_1 (Bc Z0) H13 r)<|Yo (Le kk9 (Bc Z0) H13 r)<|Qs 1 r<|Nx<|Wr<|Re () []

/-- loop.example/g00950/impl.isPlace -/
noncomputable def impl_isPlace (boot : Int) (seq : Int) : Option Bool :=
  ((impl_inRange boot (0 : Int) (1000 : Int)).bind fun R3 =>
  if R3 = true then ((impl_inRange seq (0 : Int) (999999 : Int)).bind fun R7 =>
  some R7)
  else (some false)).bind (fun (T1 : Bool) =>
  some T1)

theorem impl_isPlace_c {boot : Int} {seq : Int} : Cn Tryz.prog 103 [iv boot, iv seq] [] [] (impl_isPlace boot seq) (fun r (_ : Unit) => .bool r) fun _ _ => [] := by
  unfold impl_isPlace
  refine Ci Tryz.func103 r r ?_
  rintro w S -
  refine Sr<|Qs 1 r<|Nx<|Sq<|Jv [] (fun T=>[(4, .bool T)]) r1 (?_) fun T1=>?_
  ·exact Rg<|Qs 1 r<|Bi fun R3 H4=>Fo (Cl [] impl_inRange_c H4 r r1) fun _=>Qs 1 r<|It (fun H6=>Qg 1 (beq_tt H6) r r<|Bi fun R7 H8=>Fg (gdA (beq_tt H6)) (Cl [] impl_inRange_c H8 r r1) fun _=>Yo (Pt H6 r)<|Qs 1 r<|Nl<|Bg () []) fun H6=>Of 2 (beq_ft H6) r r<|Yo (Pf H6 r)<|Qs 1 r<|Nl<|Bg () []
  exact Ne<|Wr<|Re () []

/-- loop.example/g00950/impl.Fixed -/
noncomputable def impl_Fixed (n : Int) (width : Int) : Option (List UInt8) :=
  ((impl_inRange width (1 : Int) (7 : Int)).bind fun R3 =>
  if (!R3) = true then (some true)
  else (if (decide (n < (0 : Int))) = true then (some true)
  else (some (!(decide (ishr .i64 n (IntKind.u64.wrap (IntKind.i64.wrap ((8 : Int) * width))) = (0 : Int))))))).bind (fun (T1 : Bool) =>
  if T1 = true then (some ([]))
  else ((mkLen 1 width).bind fun E10 =>
  bindC (loopO (fun (S12 : Int × Int × List UInt8) => if (decide (S12.2.1 ≥ (0 : Int))) = true then ((idx S12.2.2 S12.2.1).bind fun E17 =>
  some (.go (ishr .i64 S12.1 (8 : Int), IntKind.i64.wrap (S12.2.1 - (1 : Int)), (S12.2.2.set S12.2.1.toNat (toU8 S12.1)))))
  else (some (.done (.go S12.2.2))))
  (n, IntKind.i64.wrap (width - (1 : Int)), (List.replicate E10 (0 : UInt8))))
  (fun (T14 : List UInt8) => some T14)))

theorem impl_Fixed_c {n : Int} {width : Int} : Cn Tryz.prog 147 [iv n, iv width] [] [] (impl_Fixed n width) (fun r (_ : Unit) => strV r) fun _ _ => [] := by
  unfold impl_Fixed
  refine Ci Tryz.func147 r r ?_
  rintro w S -
  refine Sr<|Qs 1 r<|Nx<|Sq<|Sq<|Jv [0,1] (fun T=>[(21, .bool T)]) r1 (?_) fun T1=>?_
  ·exact Rg<|Qs 1 r<|Bi fun R3 H4=>Fo (Cl [] impl_inRange_c H4 r r1) fun _=>Qs 2 r<|It (fun H6=>Of 2 (beq_tf H6) r r<|Yo (Pt H6 r)<|Qs 1 r<|Of 6 r r r<|Yo (Pt r r)<|Nl<|Bg () []) fun H6=>Qg 2 (beq_ff H6) r r<|Yo (Pf H6 r)<|Qs 1 r<|It (fun H7=>Of 6 (beq_tf H7) r r<|Yo (Pt H7 r)<|Nl<|Bg () []) fun H7=>Qg 3 (beq_ff H7) r r<|Yg (gdA (beq_ff H7)) (Y.conv ki3 ki182 r)<|Yg (gdA (beq_ff H7)) (Y.shr (wrap_u_nonneg r _) r r)<|Qg 1 (beq_ff H7) r r<|Yo (Pf H7 r)<|Nl<|Bg () []
  refine Ne<|Wc r (fun H8=>Sr<|Qs 1 r<|Nx<|Wr<|Tr<|Re () []) fun H8=>Sn<|Sr<|Qs 1 r<|Bi fun E10 H11=>Fo (Mk (0 : UInt8) H11 ke147 kz5) fun V9=>Qs 1 r<|Nx<|Sq<|Sr<|Qs 3 r<|Nx<|Jn Unit [5] [] (fun _ _=>[]) (fun T _=>[.own V9 (lc T)]) r2 r2 (?_) fun T14 X15=>?_
  ·exact Wb<|Lp Unit [5] [] (fun T _=>[(0, iv T.1), (6, iv T.2.1)]) (fun T _=>[.own V9 (lc T.2.2)]) () [0] r2 r2 fun S12 X13=>Sq<|Sr<|Qs 2 r<|Nx<|Wc r (fun H16=>Sn<|Sq<|Wb<|Sr<|Qs 3 r<|Yo (Y.conv8 ki3 ki5 r)<|Bi fun E17 H18=>Yo (Ix ke147 (Oc 0 r) H18 r)<|Fu (Se (toU8 S12.1) 0 kk5 H18 r (Cp r) r)<|Nx<|Rg<|Qs 1 r<|Yo (Y.shr (by decide) r r)<|Qs 1 r<|Nl<|Bn<|Ne<|Rg<|Qs 3 r<|Nl<|Lg () [0]) fun H16=>Wx<|Tx<|Ex<|Be<|Jg () [0]
  exact Ne<|Sr<|Qs 1 r<|Yo (Y.toStr ke147 ki5 ks9 (Oc 0 r) r)<|Qs 1 r<|Nx<|Wr<|Re () []

/-- loop.example/g00950/impl.NonceOf -/
noncomputable def impl_NonceOf (kind : Int) (n : Int) : Option (List UInt8) :=
  ((impl_inRange kind (0 : Int) (255 : Int)).bind fun R3 =>
  if (!R3) = true then (some true)
  else ((impl_inRange n (0 : Int) (562949953421311 : Int)).bind fun R7 =>
  some (!R7))).bind (fun (T1 : Bool) =>
  if T1 = true then (some ([]))
  else ((impl_Fixed n (7 : Int)).bind fun R12 =>
  (cat ([toU8 kind, (0 : UInt8), (0 : UInt8), (0 : UInt8), (0 : UInt8)]) R12).bind fun E17 =>
  some E17))

theorem impl_NonceOf_c {kind : Int} {n : Int} : Cn Tryz.prog 130 [iv kind, iv n] [] [] (impl_NonceOf kind n) (fun r (_ : Unit) => strV r) fun _ _ => [] := by
  unfold impl_NonceOf
  refine Ci Tryz.func130 r r ?_
  rintro w S -
  refine Sr<|Qs 1 r<|Nx<|Sq<|Sq<|Jv [0,1] (fun T=>[(12, .bool T)]) r1 (?_) fun T1=>?_
  ·exact Rg<|Qs 1 r<|Bi fun R3 H4=>Fo (Cl [] impl_inRange_c H4 r r1) fun _=>Qs 2 r<|It (fun H6=>Of 3 (beq_tf H6) r r<|Yo (Pt H6 r)<|Nl<|Bg () []) fun H6=>Qg 1 (beq_ff H6) r r<|Bi fun R7 H8=>Fg (gdA (beq_ff H6)) (Cl [] impl_inRange_c H8 r r1) fun _=>Qg 1 (beq_ff H6) r r<|Yo (Pf H6 r)<|Nl<|Bg () []
  refine Ne<|Wc r (fun H10=>Sr<|Qs 1 r<|Nx<|Wr<|Tr<|Re () []) fun H10=>Sn<|Sq<|Wi fun R12 H13=>Wi fun E17 H18=>Jw Unit [] [] (fun _=>[(4, strV E17)]) (fun _=>[]) r1 r1 (?_) fun X20=>?_
  ·refine Dr [] r hMix<|Aq [0] [] r<|Ay 1 [] r (Y.conv8 ki3 ki5 r)<|Aq [4] [] r<|A2 2 5 (?_)<|?_
   ·exact Xe [] r (Bs [toU8 kind, (0 : UInt8), (0 : UInt8), (0 : UInt8), (0 : UInt8)] ke147 kz5) fun B21=>A2 3 5 (Xy [] r (Y.toStr ke147 ki5 ks9 (Oc 0 r) r)<|A1 5<|Xe [] r (Cl [] impl_Fixed_c H13 r r1) fun _=>Ay 6 [] r (Y.cat H18 r r)<|Aq [7] [] r<|Az<|Bg () [])<|Xe [] r (Cl [] impl_Fixed_c H13 r r1) fun _=>A1 3<|Xy [] r (Y.toStr ke147 ki5 ks9 (Oc 0 r) r)<|Ay 6 [] r (Y.cat H18 r r)<|Aq [7] [] r<|Az<|Bg () []
   exact Xe [] r (Cl [] impl_Fixed_c H13 r r1) fun _=>A1 2<|Xe [] r (Bs [toU8 kind, (0 : UInt8), (0 : UInt8), (0 : UInt8), (0 : UInt8)] ke147 kz5) fun B23=>A1 3<|Xy [] r (Y.toStr ke147 ki5 ks9 (Oc 0 r) r)<|Ay 6 [] r (Y.cat H18 r r)<|Aq [7] [] r<|Az<|Bg () []
  exact Ne<|Wr<|Re () []

/-- loop.example/g00950/impl.rowNonce -/
noncomputable def impl_rowNonce (boot : Int) (seq : Int) : Option (List UInt8) :=
  (impl_NonceOf (3 : Int) (IntKind.i64.wrap (IntKind.i64.wrap (boot * (1000000 : Int)) + seq))).bind fun R1 =>
  some R1

theorem impl_rowNonce_c {boot : Int} {seq : Int} : Cn Tryz.prog 106 [iv boot, iv seq] [] [] (impl_rowNonce boot seq) (fun r (_ : Unit) => strV r) fun _ _ => [] := by
  unfold impl_rowNonce
  refine Ci Tryz.func106 r r ?_
  rintro w S -
  exact Sr<|Qs 1 r<|Nx<|Sr<|Qs 4 r<|Bi fun R1 H2=>Fo (Cl [] impl_NonceOf_c H2 r r1) fun _=>Qs 1 r<|Nx<|Wr<|Re () []

/-- loop.example/g00950/impl.isCha -/
noncomputable def impl_isCha (key : List UInt8) (counter : Int) (nonce : List UInt8) : Option Bool :=
  (if (decide (((key.length : Nat) : Int) = (32 : Int))) = true then ((impl_inRange counter (0 : Int) (4294967295 : Int)).bind fun R4 =>
  if R4 = true then (some (decide (((nonce.length : Nat) : Int) = (12 : Int))))
  else (some false))
  else (some false)).bind (fun (T1 : Bool) =>
  some T1)

theorem impl_isCha_c {key : List UInt8} {counter : Int} {nonce : List UInt8} : Cn Tryz.prog 128 [strV key, iv counter, strV nonce] [] [] (impl_isCha key counter nonce) (fun r (_ : Unit) => .bool r) fun _ _ => [] := by
  unfold impl_isCha
  refine Ci Tryz.func128 r r ?_
  rintro w S -
  refine Sr<|Qs 1 r<|Nx<|Sq<|Jv [] (fun T=>[(6, .bool T)]) r1 (?_) fun T1=>?_
  ·refine Rg<|Qs 1 r<|Yo (Y.slen ks9 r)<|Qs 2 r<|It (fun H3=>?_) fun H3=>?_
   ·exact Qg 1 (beq_tt H3) r r<|Bi fun R4 H5=>Fg (gdA (beq_tt H3)) (Cl [] impl_inRange_c H5 r r1) fun _=>Yo (Pt H3 r)<|Qs 1 r<|It (fun H7=>Qg 1 (beq_tt H7) r r<|Yg (gdA (beq_tt H7)) (Y.slen ks9 r)<|Qg 1 (beq_tt H7) r r<|Yo (Pt H7 r)<|Qs 1 r<|Nl<|Bg () []) fun H7=>Of 3 (beq_ft H7) r r<|Yo (Pf H7 r)<|Qs 1 r<|Nl<|Bg () []
   exact Of 2 (beq_ft H3) r r<|Yo (Pf H3 r)<|Qs 1 r<|Of 3 r r r<|Yo (Pf r r)<|Qs 1 r<|Nl<|Bg () []
  exact Ne<|Wr<|Re () []

/-- loop.example/g00950/impl.little -/
noncomputable def impl_little (s : List UInt8) (at_ : Int) : Option Int :=
  (sidx s at_).bind fun E1 =>
  (sidx s (IntKind.i64.wrap (at_ + (1 : Int)))).bind fun E3 =>
  (sidx s (IntKind.i64.wrap (at_ + (2 : Int)))).bind fun E5 =>
  (sidx s (IntKind.i64.wrap (at_ + (3 : Int)))).bind fun E7 =>
  some (ior .u32 (ior .u32 (ior .u32 (IntKind.u32.wrap ((E1.toNat : Nat) : Int)) (ishl .u32 (IntKind.u32.wrap ((E3.toNat : Nat) : Int)) (8 : Int))) (ishl .u32 (IntKind.u32.wrap ((E5.toNat : Nat) : Int)) (16 : Int))) (ishl .u32 (IntKind.u32.wrap ((E7.toNat : Nat) : Int)) (24 : Int)))

theorem impl_little_c {s : List UInt8} {at_ : Int} : Cn Tryz.prog 153 [strV s, iv at_] [] [] (impl_little s at_) (fun r (_ : Unit) => .int .u32 r) fun _ _ => [] := by
  unfold impl_little
  refine Ci Tryz.func153 r r ?_
  rintro w S -
  exact Sr<|Qs 1 r<|Nx<|Sq<|Dr [] r hMix<|Aq [0,1] [] r<|Ai fun E1 H2=>Ay 2 [] r (Y.sidx H2 ks9 r r)<|Ay 3 [] r (Y.conv ki5 ki189 r)<|Aq [4,5,6] [] r<|Ai fun E3 H4=>Ay 7 [] r (Y.sidx H4 ks9 r r)<|Ay 8 [] r (Y.conv ki5 ki189 r)<|Ay 9 [] r (Y.shl (by decide) r r)<|Aq [10,11,12,13] [] r<|Ai fun E5 H6=>Ay 14 [] r (Y.sidx H6 ks9 r r)<|Ay 15 [] r (Y.conv ki5 ki189 r)<|Ay 16 [] r (Y.shl (by decide) r r)<|Aq [17,18,19,20] [] r<|Ai fun E7 H8=>Ay 21 [] r (Y.sidx H8 ks9 r r)<|Ay 22 [] r (Y.conv ki5 ki189 r)<|Ay 23 [] r (Y.shl (by decide) r r)<|Aq [24,25] [] r<|Az<|Ne<|Wr<|Re () []

/-- loop.example/g00950/impl.firstWords -/
noncomputable def impl_firstWords (key : List UInt8) (counter : Int) (nonce : List UInt8) : Option (List Wrd) :=
  (lenIs 16 ([(Wrd.mk (1634760805 : Int)), (Wrd.mk (857760878 : Int)), (Wrd.mk (2036477234 : Int)), (Wrd.mk (1797285236 : Int)), (Wrd.mk (0 : Int)), (Wrd.mk (0 : Int)), (Wrd.mk (0 : Int)), (Wrd.mk (0 : Int)), (Wrd.mk (0 : Int)), (Wrd.mk (0 : Int)), (Wrd.mk (0 : Int)), (Wrd.mk (0 : Int)), (Wrd.mk (0 : Int)), (Wrd.mk (0 : Int)), (Wrd.mk (0 : Int)), (Wrd.mk (0 : Int))])).bind fun E3 =>
  bindC (loopO (fun (S5 : Int × List Wrd) => if (decide (S5.1 < (8 : Int))) = true then ((impl_little key (IntKind.i64.wrap ((4 : Int) * S5.1))).bind fun R10 =>
  (idx S5.2 (IntKind.i64.wrap ((4 : Int) + S5.1))).bind fun E13 =>
  some (.go (IntKind.i64.wrap (S5.1 + (1 : Int)), (S5.2.set ((IntKind.i64.wrap ((4 : Int) + S5.1)).toNat) (Wrd.mk R10)))))
  else (some (.done (.go S5.2))))
  ((0 : Int), ([(Wrd.mk (1634760805 : Int)), (Wrd.mk (857760878 : Int)), (Wrd.mk (2036477234 : Int)), (Wrd.mk (1797285236 : Int)), (Wrd.mk (0 : Int)), (Wrd.mk (0 : Int)), (Wrd.mk (0 : Int)), (Wrd.mk (0 : Int)), (Wrd.mk (0 : Int)), (Wrd.mk (0 : Int)), (Wrd.mk (0 : Int)), (Wrd.mk (0 : Int)), (Wrd.mk (0 : Int)), (Wrd.mk (0 : Int)), (Wrd.mk (0 : Int)), (Wrd.mk (0 : Int))])))
  (fun (T7 : List Wrd) => (idx T7 (12 : Int)).bind fun E15 =>
  bindC (loopO (fun (S17 : Int × List Wrd) => if (decide (S17.1 < (3 : Int))) = true then ((impl_little nonce (IntKind.i64.wrap ((4 : Int) * S17.1))).bind fun R22 =>
  (idx S17.2 (IntKind.i64.wrap ((13 : Int) + S17.1))).bind fun E25 =>
  some (.go (IntKind.i64.wrap (S17.1 + (1 : Int)), (S17.2.set ((IntKind.i64.wrap ((13 : Int) + S17.1)).toNat) (Wrd.mk R22)))))
  else (some (.done (.go S17.2))))
  ((0 : Int), (T7.set ((12 : Int).toNat) (Wrd.mk (IntKind.u32.wrap counter)))))
  (fun (T19 : List Wrd) => (lenIs 16 T19).bind fun E27 =>
  some T19))

theorem impl_firstWords_c {key : List UInt8} {counter : Int} {nonce : List UInt8} : Cn Tryz.prog 145 [strV key, iv counter, strV nonce] [] [] (impl_firstWords key counter nonce) (fun r (_ : Unit) => arrV r) fun _ _ => [] := by
  unfold impl_firstWords
  refine Ci Tryz.func145 r r ?_
  rintro w S -
  refine Sr<|Fo (Ef.allocArr (α := Wrd) (List.replicate 16 (Wrd.mk 0)) kz190 r (by decide)) fun B1=>Nx<|Sr<|Yo (Y.build_arr (cells := [.int .u32 (1634760805 : Int), .int .u32 (857760878 : Int), .int .u32 (2036477234 : Int), .int .u32 (1797285236 : Int), .int .u32 (0 : Int), .int .u32 (0 : Int), .int .u32 (0 : Int), .int .u32 (0 : Int), .int .u32 (0 : Int), .int .u32 (0 : Int), .int .u32 (0 : Int), .int .u32 (0 : Int), .int .u32 (0 : Int), .int .u32 (0 : Int), .int .u32 (0 : Int), .int .u32 (0 : Int)]) (v := arrV ([(Wrd.mk (1634760805 : Int)), (Wrd.mk (857760878 : Int)), (Wrd.mk (2036477234 : Int)), (Wrd.mk (1797285236 : Int)), (Wrd.mk (0 : Int)), (Wrd.mk (0 : Int)), (Wrd.mk (0 : Int)), (Wrd.mk (0 : Int)), (Wrd.mk (0 : Int)), (Wrd.mk (0 : Int)), (Wrd.mk (0 : Int)), (Wrd.mk (0 : Int)), (Wrd.mk (0 : Int)), (Wrd.mk (0 : Int)), (Wrd.mk (0 : Int)), (Wrd.mk (0 : Int))])) [(0, [.int .u32 (1634760805 : Int)]), (1, [.int .u32 (857760878 : Int)]), (2, [.int .u32 (2036477234 : Int)]), (3, [.int .u32 (1797285236 : Int)])] ka190 kz190 ⟨r, ⟨_, r, (Cp r)⟩, ⟨r, ⟨_, r, (Cp r)⟩, ⟨r, ⟨_, r, (Cp r)⟩, ⟨r, ⟨_, r, (Cp r)⟩, ⟨⟩⟩⟩⟩⟩ r r r)<|Fo (Ef.allocArr (α := Wrd) (List.replicate 16 (Wrd.mk 0)) kz190 r (by decide)) fun B2=>?_
  refine Bi fun E3 H4=>Fu (Ef.store_arr (α := Wrd) (is' := [.own (arrS B2 16) (lc ([(Wrd.mk (1634760805 : Int)), (Wrd.mk (857760878 : Int)), (Wrd.mk (2036477234 : Int)), (Wrd.mk (1797285236 : Int)), (Wrd.mk (0 : Int)), (Wrd.mk (0 : Int)), (Wrd.mk (0 : Int)), (Wrd.mk (0 : Int)), (Wrd.mk (0 : Int)), (Wrd.mk (0 : Int)), (Wrd.mk (0 : Int)), (Wrd.mk (0 : Int)), (Wrd.mk (0 : Int)), (Wrd.mk (0 : Int)), (Wrd.mk (0 : Int)), (Wrd.mk (0 : Int))])), .own (arrS B1 16) (lc (List.replicate 16 (Wrd.mk 0)))]) 0 kk190 r (by decide) (lenIs_eq H4) r r r r)<|Nx<|Sq<|Sr<|Qs 1 r<|Nx<|Jn Unit [1,2,6,7] [1] (fun _ _=>[]) (fun T _=>[.own (arrS B2 16) (lc T)]) r2 r2 (?_) fun T7 X8=>?_
  ·exact Wb<|Lp Unit [0,1,2,6,7] [1] (fun T _=>[(11, iv T.1)]) (fun T _=>[.own (arrS B2 16) (lc T.2)]) () [1,0] r2 r2 fun S5 X6=>Sr<|Qs 1 r<|Nx<|Sq<|Wc r (fun H9=>Sn<|Sq<|Wb<|Sr<|Qs 2 r<|Nx<|Rg<|Qs 5 r<|Bi fun R10 H11=>Fo (Cl [] impl_little_c H11 r r1) fun _=>Bi fun E13 H14=>Yo (Y.index_arr (α := Wrd) ka190 (Oc 1 r) H14 r r)<|Fu (Se (Wrd.mk R10) 1 kk189 H14 r (Cp r) r)<|Nl<|Bn<|Ne<|Rg<|Qs 2 r<|Nl<|Lg () [0,0]) fun H9=>Wx<|Tx<|Ex<|Be<|Jg () [0,0]
  refine Ne<|Sr<|Qs 1 r<|Yo (Y.conv ki3 ki189 r)<|Bi fun E15 H16=>Yo (Y.index_arr (α := Wrd) ka190 (Oc 1 r) H16 r r)<|Fu (Se (Wrd.mk (IntKind.u32.wrap counter)) 1 kk189 H16 r (Cp r) r)<|Nx<|Sq<|Sr<|Qs 1 r<|Nx<|Jn Unit [6,7] [0] (fun _ _=>[]) (fun T _=>[.own (arrS B2 16) (lc T)]) r2 r2 (?_) fun T19 X20=>?_
  ·exact Wb<|Lp Unit [2,6,7] [0] (fun T _=>[(25, iv T.1)]) (fun T _=>[.own (arrS B2 16) (lc T.2)]) () [0,0] r2 r2 fun S17 X18=>Sr<|Qs 1 r<|Nx<|Sq<|Wc r (fun H21=>Sn<|Sq<|Wb<|Sr<|Qs 2 r<|Nx<|Rg<|Qs 5 r<|Bi fun R22 H23=>Fo (Cl [] impl_little_c H23 r r1) fun _=>Bi fun E25 H26=>Yo (Y.index_arr (α := Wrd) ka190 (Oc 1 r) H26 r r)<|Fu (Se (Wrd.mk R22) 1 kk189 H26 r (Cp r) r)<|Nl<|Bn<|Ne<|Rg<|Qs 2 r<|Nl<|Lg () [0,0]) fun H21=>Wx<|Tx<|Ex<|Be<|Jg () [0,0]
  exact Ne<|Sr<|Yo (Y.load_arr (α := Wrd) kk190 r (by decide) (Oc 1 r) r)<|Bi fun E27 H28=>Fu (Ef.store_arr (α := Wrd) (is' := [.own (arrS B1 16) (lc T19), .own (arrS B2 16) (lc T19)]) 0 kk190 r (by decide) (lenIs_eq H28) r r r r)<|Nx<|Wr<|TE.leaf fun _ _ hf_ hs_ => ret_any (rs := [.cell 6 190]) (vs := [arrV T19]) (.inl r) r (RV.cell_arr (α := Wrd) (i := 0) r r kk190 r (by decide) ⟨⟩) hf_ hs_ ⟨(), r, hs_.pulls [] r⟩

/-- math/bits.RotateLeft32 -/
noncomputable def math_bits_RotateLeft32 (x : Int) (k : Int) : Option Int :=
  (nn (iand .u64 (IntKind.u64.wrap k) (31 : Int))).bind fun E1 =>
  some (ior .u32 (ishl .u32 x (iand .u64 (IntKind.u64.wrap k) (31 : Int))) (ishr .u32 x (IntKind.u64.wrap ((32 : Int) - (iand .u64 (IntKind.u64.wrap k) (31 : Int))))))

theorem math_bits_RotateLeft32_c {x : Int} {k : Int} : Cn Tryz.prog 154 [.int .u32 x, iv k] [] [] (math_bits_RotateLeft32 x k) (fun r (_ : Unit) => .int .u32 r) fun _ _ => [] := by
  unfold math_bits_RotateLeft32
  refine Ci Tryz.func154 r r ?_
  rintro w S -
  exact Sr<|Qs 1 r<|Nx<|Sr<|Qs 1 r<|Yo (Y.conv ki3 ki182 r)<|Qs 2 r<|Nx<|Sr<|Qs 2 r<|Bi fun E1 H2=>Yo (Y.shl (nn_ge H2) r r)<|Qs 3 r<|Yo (Y.shr (wrap_u_nonneg r _) r r)<|Qs 2 r<|Nx<|Wr<|Re () []

/-- loop.example/g00950/impl.quarter -/
noncomputable def impl_quarter (w_ : List Wrd) (a : Int) (b : Int) (c : Int) (d : Int) : Option (List Wrd) :=
  (idx w_ a).bind fun E1 =>
  (idx w_ b).bind fun E3 =>
  (idx (w_.set a.toNat (Wrd.mk (IntKind.u32.wrap (E1.v + E3.v)))) d).bind fun E7 =>
  (idx (w_.set a.toNat (Wrd.mk (IntKind.u32.wrap (E1.v + E3.v)))) a).bind fun E9 =>
  (math_bits_RotateLeft32 (ixor .u32 E7.v E9.v) (16 : Int)).bind fun R11 =>
  (idx ((w_.set a.toNat (Wrd.mk (IntKind.u32.wrap (E1.v + E3.v)))).set d.toNat (Wrd.mk R11)) c).bind fun E16 =>
  (idx ((w_.set a.toNat (Wrd.mk (IntKind.u32.wrap (E1.v + E3.v)))).set d.toNat (Wrd.mk R11)) d).bind fun E18 =>
  (idx (((w_.set a.toNat (Wrd.mk (IntKind.u32.wrap (E1.v + E3.v)))).set d.toNat (Wrd.mk R11)).set c.toNat (Wrd.mk (IntKind.u32.wrap (E16.v + E18.v)))) b).bind fun E22 =>
  (idx (((w_.set a.toNat (Wrd.mk (IntKind.u32.wrap (E1.v + E3.v)))).set d.toNat (Wrd.mk R11)).set c.toNat (Wrd.mk (IntKind.u32.wrap (E16.v + E18.v)))) c).bind fun E24 =>
  (math_bits_RotateLeft32 (ixor .u32 E22.v E24.v) (12 : Int)).bind fun R26 =>
  (idx ((((w_.set a.toNat (Wrd.mk (IntKind.u32.wrap (E1.v + E3.v)))).set d.toNat (Wrd.mk R11)).set c.toNat (Wrd.mk (IntKind.u32.wrap (E16.v + E18.v)))).set b.toNat (Wrd.mk R26)) a).bind fun E31 =>
  (idx ((((w_.set a.toNat (Wrd.mk (IntKind.u32.wrap (E1.v + E3.v)))).set d.toNat (Wrd.mk R11)).set c.toNat (Wrd.mk (IntKind.u32.wrap (E16.v + E18.v)))).set b.toNat (Wrd.mk R26)) b).bind fun E33 =>
  (idx (((((w_.set a.toNat (Wrd.mk (IntKind.u32.wrap (E1.v + E3.v)))).set d.toNat (Wrd.mk R11)).set c.toNat (Wrd.mk (IntKind.u32.wrap (E16.v + E18.v)))).set b.toNat (Wrd.mk R26)).set a.toNat (Wrd.mk (IntKind.u32.wrap (E31.v + E33.v)))) d).bind fun E37 =>
  (idx (((((w_.set a.toNat (Wrd.mk (IntKind.u32.wrap (E1.v + E3.v)))).set d.toNat (Wrd.mk R11)).set c.toNat (Wrd.mk (IntKind.u32.wrap (E16.v + E18.v)))).set b.toNat (Wrd.mk R26)).set a.toNat (Wrd.mk (IntKind.u32.wrap (E31.v + E33.v)))) a).bind fun E39 =>
  (math_bits_RotateLeft32 (ixor .u32 E37.v E39.v) (8 : Int)).bind fun R41 =>
  (idx ((((((w_.set a.toNat (Wrd.mk (IntKind.u32.wrap (E1.v + E3.v)))).set d.toNat (Wrd.mk R11)).set c.toNat (Wrd.mk (IntKind.u32.wrap (E16.v + E18.v)))).set b.toNat (Wrd.mk R26)).set a.toNat (Wrd.mk (IntKind.u32.wrap (E31.v + E33.v)))).set d.toNat (Wrd.mk R41)) c).bind fun E46 =>
  (idx ((((((w_.set a.toNat (Wrd.mk (IntKind.u32.wrap (E1.v + E3.v)))).set d.toNat (Wrd.mk R11)).set c.toNat (Wrd.mk (IntKind.u32.wrap (E16.v + E18.v)))).set b.toNat (Wrd.mk R26)).set a.toNat (Wrd.mk (IntKind.u32.wrap (E31.v + E33.v)))).set d.toNat (Wrd.mk R41)) d).bind fun E48 =>
  (idx (((((((w_.set a.toNat (Wrd.mk (IntKind.u32.wrap (E1.v + E3.v)))).set d.toNat (Wrd.mk R11)).set c.toNat (Wrd.mk (IntKind.u32.wrap (E16.v + E18.v)))).set b.toNat (Wrd.mk R26)).set a.toNat (Wrd.mk (IntKind.u32.wrap (E31.v + E33.v)))).set d.toNat (Wrd.mk R41)).set c.toNat (Wrd.mk (IntKind.u32.wrap (E46.v + E48.v)))) b).bind fun E52 =>
  (idx (((((((w_.set a.toNat (Wrd.mk (IntKind.u32.wrap (E1.v + E3.v)))).set d.toNat (Wrd.mk R11)).set c.toNat (Wrd.mk (IntKind.u32.wrap (E16.v + E18.v)))).set b.toNat (Wrd.mk R26)).set a.toNat (Wrd.mk (IntKind.u32.wrap (E31.v + E33.v)))).set d.toNat (Wrd.mk R41)).set c.toNat (Wrd.mk (IntKind.u32.wrap (E46.v + E48.v)))) c).bind fun E54 =>
  (math_bits_RotateLeft32 (ixor .u32 E52.v E54.v) (7 : Int)).bind fun R56 =>
  some ((((((((w_.set a.toNat (Wrd.mk (IntKind.u32.wrap (E1.v + E3.v)))).set d.toNat (Wrd.mk R11)).set c.toNat (Wrd.mk (IntKind.u32.wrap (E16.v + E18.v)))).set b.toNat (Wrd.mk R26)).set a.toNat (Wrd.mk (IntKind.u32.wrap (E31.v + E33.v)))).set d.toNat (Wrd.mk R41)).set c.toNat (Wrd.mk (IntKind.u32.wrap (E46.v + E48.v)))).set b.toNat (Wrd.mk R56))

theorem impl_quarter_c {w_ : List Wrd} {a : Int} {b : Int} {c : Int} {d : Int} {U0 : Nat} : Cn Tryz.prog 146 [pt U0, iv a, iv b, iv c, iv d] [.own (arrS U0 16) (lc w_)] [] (impl_quarter w_ a b c d) (fun _ (_ : Unit) => .tuple #[]) fun r _ => [.own (arrS U0 16) (lc r)] := by
  unfold impl_quarter
  refine Ci Tryz.func146 r r ?_
  rintro w S -
  refine Sq<|Wi fun E1 H2=>Wi fun E3 H4=>Jw Unit [0,1,2,3,4] [] (fun _=>[]) (fun _=>[.own (arrS U0 16) (lc (w_.set a.toNat (Wrd.mk (IntKind.u32.wrap (E1.v + E3.v)))))]) r1 r1 (?_) fun X6=>?_
  ·refine Dr [] r hMix<|Aq [0,1,2,5,6,7,11] [] r<|A2 3 8 (?_)<|?_
   ·refine Xy [] r (Y.index_arr (α := Wrd) ka190 (Oc 0 r) H2 r r)<|A2 4 8 (?_)<|?_
    ·exact Xy [] r (Le kk189 (Oc 0 r) H2 r)<|A1 8<|Xy [] r (Y.index_arr (α := Wrd) ka190 (Oc 0 r) H4 r r)<|A1 9<|Xy [] r (Le kk189 (Oc 0 r) H4 r)<|Aq [10] [] r<|A1 12<|Xy [] r (Y.index_arr (α := Wrd) ka190 (Oc 0 r) H2 r r)<|A1 13<|Xu [] r (Se (Wrd.mk (IntKind.u32.wrap (E1.v + E3.v))) 0 kk189 H2 r (Cp r) r)<|Az<|Bg () [0]
    exact Xy [] r (Y.index_arr (α := Wrd) ka190 (Oc 0 r) H4 r r)<|A2 4 9 (Xy [] r (Le kk189 (Oc 0 r) H2 r)<|A1 9<|Xy [] r (Le kk189 (Oc 0 r) H4 r)<|Aq [10] [] r<|A1 12<|Xy [] r (Y.index_arr (α := Wrd) ka190 (Oc 0 r) H2 r r)<|A1 13<|Xu [] r (Se (Wrd.mk (IntKind.u32.wrap (E1.v + E3.v))) 0 kk189 H2 r (Cp r) r)<|Az<|Bg () [0])<|Xy [] r (Le kk189 (Oc 0 r) H4 r)<|A1 4<|Xy [] r (Le kk189 (Oc 0 r) H2 r)<|Aq [10] [] r<|A1 12<|Xy [] r (Y.index_arr (α := Wrd) ka190 (Oc 0 r) H2 r r)<|A1 13<|Xu [] r (Se (Wrd.mk (IntKind.u32.wrap (E1.v + E3.v))) 0 kk189 H2 r (Cp r) r)<|Az<|Bg () [0]
   refine Xy [] r (Y.index_arr (α := Wrd) ka190 (Oc 0 r) H4 r r)<|A2 3 9 (?_)<|?_
   ·exact Xy [] r (Y.index_arr (α := Wrd) ka190 (Oc 0 r) H2 r r)<|A2 4 9 (Xy [] r (Le kk189 (Oc 0 r) H2 r)<|A1 9<|Xy [] r (Le kk189 (Oc 0 r) H4 r)<|Aq [10] [] r<|A1 12<|Xy [] r (Y.index_arr (α := Wrd) ka190 (Oc 0 r) H2 r r)<|A1 13<|Xu [] r (Se (Wrd.mk (IntKind.u32.wrap (E1.v + E3.v))) 0 kk189 H2 r (Cp r) r)<|Az<|Bg () [0])<|Xy [] r (Le kk189 (Oc 0 r) H4 r)<|A1 4<|Xy [] r (Le kk189 (Oc 0 r) H2 r)<|Aq [10] [] r<|A1 12<|Xy [] r (Y.index_arr (α := Wrd) ka190 (Oc 0 r) H2 r r)<|A1 13<|Xu [] r (Se (Wrd.mk (IntKind.u32.wrap (E1.v + E3.v))) 0 kk189 H2 r (Cp r) r)<|Az<|Bg () [0]
   exact Xy [] r (Le kk189 (Oc 0 r) H4 r)<|A1 3<|Xy [] r (Y.index_arr (α := Wrd) ka190 (Oc 0 r) H2 r r)<|A1 4<|Xy [] r (Le kk189 (Oc 0 r) H2 r)<|Aq [10] [] r<|A1 12<|Xy [] r (Y.index_arr (α := Wrd) ka190 (Oc 0 r) H2 r r)<|A1 13<|Xu [] r (Se (Wrd.mk (IntKind.u32.wrap (E1.v + E3.v))) 0 kk189 H2 r (Cp r) r)<|Az<|Bg () [0]
  refine Ne<|Sq<|Wi fun E7 H8=>Wi fun E9 H10=>Wi fun R11 H12=>Jw Unit [0,1,2,3,4] [] (fun _=>[]) (fun _=>[.own (arrS U0 16) (lc ((w_.set a.toNat (Wrd.mk (IntKind.u32.wrap (E1.v + E3.v)))).set d.toNat (Wrd.mk R11)))]) r1 r1 (?_) fun X15=>?_
  ·refine Dr [] r hMix<|Aq [0,1,2,3,4,7,8,9,14] [] r<|A2 5 10 (?_)<|?_
   ·refine Xy [] r (Y.index_arr (α := Wrd) ka190 (Oc 0 r) H8 r r)<|A2 6 10 (?_)<|?_
    ·exact Xy [] r (Le kk189 (Oc 0 r) H8 r)<|A1 10<|Xy [] r (Y.index_arr (α := Wrd) ka190 (Oc 0 r) H10 r r)<|A1 11<|Xy [] r (Le kk189 (Oc 0 r) H10 r)<|Aq [12] [] r<|A1 13<|Xe [] r (Cl [] math_bits_RotateLeft32_c H12 r r1) fun _=>A1 15<|Xy [] r (Y.index_arr (α := Wrd) ka190 (Oc 0 r) H8 r r)<|A1 16<|Xu [] r (Se (Wrd.mk R11) 0 kk189 H8 r (Cp r) r)<|Az<|Bg () [0]
    refine Xy [] r (Y.index_arr (α := Wrd) ka190 (Oc 0 r) H10 r r)<|A2 6 11 (?_)<|?_
    ·exact Xy [] r (Le kk189 (Oc 0 r) H8 r)<|A1 11<|Xy [] r (Le kk189 (Oc 0 r) H10 r)<|Aq [12] [] r<|A1 13<|Xe [] r (Cl [] math_bits_RotateLeft32_c H12 r r1) fun _=>A1 15<|Xy [] r (Y.index_arr (α := Wrd) ka190 (Oc 0 r) H8 r r)<|A1 16<|Xu [] r (Se (Wrd.mk R11) 0 kk189 H8 r (Cp r) r)<|Az<|Bg () [0]
    exact Xy [] r (Le kk189 (Oc 0 r) H10 r)<|A1 6<|Xy [] r (Le kk189 (Oc 0 r) H8 r)<|Aq [12] [] r<|A1 13<|Xe [] r (Cl [] math_bits_RotateLeft32_c H12 r r1) fun _=>A1 15<|Xy [] r (Y.index_arr (α := Wrd) ka190 (Oc 0 r) H8 r r)<|A1 16<|Xu [] r (Se (Wrd.mk R11) 0 kk189 H8 r (Cp r) r)<|Az<|Bg () [0]
   refine Xy [] r (Y.index_arr (α := Wrd) ka190 (Oc 0 r) H10 r r)<|A2 5 11 (?_)<|?_
   ·refine Xy [] r (Y.index_arr (α := Wrd) ka190 (Oc 0 r) H8 r r)<|A2 6 11 (?_)<|?_
    ·exact Xy [] r (Le kk189 (Oc 0 r) H8 r)<|A1 11<|Xy [] r (Le kk189 (Oc 0 r) H10 r)<|Aq [12] [] r<|A1 13<|Xe [] r (Cl [] math_bits_RotateLeft32_c H12 r r1) fun _=>A1 15<|Xy [] r (Y.index_arr (α := Wrd) ka190 (Oc 0 r) H8 r r)<|A1 16<|Xu [] r (Se (Wrd.mk R11) 0 kk189 H8 r (Cp r) r)<|Az<|Bg () [0]
    exact Xy [] r (Le kk189 (Oc 0 r) H10 r)<|A1 6<|Xy [] r (Le kk189 (Oc 0 r) H8 r)<|Aq [12] [] r<|A1 13<|Xe [] r (Cl [] math_bits_RotateLeft32_c H12 r r1) fun _=>A1 15<|Xy [] r (Y.index_arr (α := Wrd) ka190 (Oc 0 r) H8 r r)<|A1 16<|Xu [] r (Se (Wrd.mk R11) 0 kk189 H8 r (Cp r) r)<|Az<|Bg () [0]
   exact Xy [] r (Le kk189 (Oc 0 r) H10 r)<|A1 5<|Xy [] r (Y.index_arr (α := Wrd) ka190 (Oc 0 r) H8 r r)<|A1 6<|Xy [] r (Le kk189 (Oc 0 r) H8 r)<|Aq [12] [] r<|A1 13<|Xe [] r (Cl [] math_bits_RotateLeft32_c H12 r r1) fun _=>A1 15<|Xy [] r (Y.index_arr (α := Wrd) ka190 (Oc 0 r) H8 r r)<|A1 16<|Xu [] r (Se (Wrd.mk R11) 0 kk189 H8 r (Cp r) r)<|Az<|Bg () [0]
  refine Ne<|Sq<|Wi fun E16 H17=>Wi fun E18 H19=>Jw Unit [0,1,2,3,4] [] (fun _=>[]) (fun _=>[.own (arrS U0 16) (lc (((w_.set a.toNat (Wrd.mk (IntKind.u32.wrap (E1.v + E3.v)))).set d.toNat (Wrd.mk R11)).set c.toNat (Wrd.mk (IntKind.u32.wrap (E16.v + E18.v)))))]) r1 r1 (?_) fun X21=>?_
  ·refine Dr [] r hMix<|Aq [0,1,2,5,6,7,11] [] r<|A2 3 8 (?_)<|?_
   ·refine Xy [] r (Y.index_arr (α := Wrd) ka190 (Oc 0 r) H17 r r)<|A2 4 8 (?_)<|?_
    ·exact Xy [] r (Le kk189 (Oc 0 r) H17 r)<|A1 8<|Xy [] r (Y.index_arr (α := Wrd) ka190 (Oc 0 r) H19 r r)<|A1 9<|Xy [] r (Le kk189 (Oc 0 r) H19 r)<|Aq [10] [] r<|A1 12<|Xy [] r (Y.index_arr (α := Wrd) ka190 (Oc 0 r) H17 r r)<|A1 13<|Xu [] r (Se (Wrd.mk (IntKind.u32.wrap (E16.v + E18.v))) 0 kk189 H17 r (Cp r) r)<|Az<|Bg () [0]
    exact Xy [] r (Y.index_arr (α := Wrd) ka190 (Oc 0 r) H19 r r)<|A2 4 9 (Xy [] r (Le kk189 (Oc 0 r) H17 r)<|A1 9<|Xy [] r (Le kk189 (Oc 0 r) H19 r)<|Aq [10] [] r<|A1 12<|Xy [] r (Y.index_arr (α := Wrd) ka190 (Oc 0 r) H17 r r)<|A1 13<|Xu [] r (Se (Wrd.mk (IntKind.u32.wrap (E16.v + E18.v))) 0 kk189 H17 r (Cp r) r)<|Az<|Bg () [0])<|Xy [] r (Le kk189 (Oc 0 r) H19 r)<|A1 4<|Xy [] r (Le kk189 (Oc 0 r) H17 r)<|Aq [10] [] r<|A1 12<|Xy [] r (Y.index_arr (α := Wrd) ka190 (Oc 0 r) H17 r r)<|A1 13<|Xu [] r (Se (Wrd.mk (IntKind.u32.wrap (E16.v + E18.v))) 0 kk189 H17 r (Cp r) r)<|Az<|Bg () [0]
   refine Xy [] r (Y.index_arr (α := Wrd) ka190 (Oc 0 r) H19 r r)<|A2 3 9 (?_)<|?_
   ·exact Xy [] r (Y.index_arr (α := Wrd) ka190 (Oc 0 r) H17 r r)<|A2 4 9 (Xy [] r (Le kk189 (Oc 0 r) H17 r)<|A1 9<|Xy [] r (Le kk189 (Oc 0 r) H19 r)<|Aq [10] [] r<|A1 12<|Xy [] r (Y.index_arr (α := Wrd) ka190 (Oc 0 r) H17 r r)<|A1 13<|Xu [] r (Se (Wrd.mk (IntKind.u32.wrap (E16.v + E18.v))) 0 kk189 H17 r (Cp r) r)<|Az<|Bg () [0])<|Xy [] r (Le kk189 (Oc 0 r) H19 r)<|A1 4<|Xy [] r (Le kk189 (Oc 0 r) H17 r)<|Aq [10] [] r<|A1 12<|Xy [] r (Y.index_arr (α := Wrd) ka190 (Oc 0 r) H17 r r)<|A1 13<|Xu [] r (Se (Wrd.mk (IntKind.u32.wrap (E16.v + E18.v))) 0 kk189 H17 r (Cp r) r)<|Az<|Bg () [0]
   exact Xy [] r (Le kk189 (Oc 0 r) H19 r)<|A1 3<|Xy [] r (Y.index_arr (α := Wrd) ka190 (Oc 0 r) H17 r r)<|A1 4<|Xy [] r (Le kk189 (Oc 0 r) H17 r)<|Aq [10] [] r<|A1 12<|Xy [] r (Y.index_arr (α := Wrd) ka190 (Oc 0 r) H17 r r)<|A1 13<|Xu [] r (Se (Wrd.mk (IntKind.u32.wrap (E16.v + E18.v))) 0 kk189 H17 r (Cp r) r)<|Az<|Bg () [0]
  refine Ne<|Sq<|Wi fun E22 H23=>Wi fun E24 H25=>Wi fun R26 H27=>Jw Unit [0,1,2,3,4] [] (fun _=>[]) (fun _=>[.own (arrS U0 16) (lc ((((w_.set a.toNat (Wrd.mk (IntKind.u32.wrap (E1.v + E3.v)))).set d.toNat (Wrd.mk R11)).set c.toNat (Wrd.mk (IntKind.u32.wrap (E16.v + E18.v)))).set b.toNat (Wrd.mk R26)))]) r1 r1 (?_) fun X30=>?_
  ·refine Dr [] r hMix<|Aq [0,1,2,3,4,7,8,9,14] [] r<|A2 5 10 (?_)<|?_
   ·refine Xy [] r (Y.index_arr (α := Wrd) ka190 (Oc 0 r) H23 r r)<|A2 6 10 (?_)<|?_
    ·exact Xy [] r (Le kk189 (Oc 0 r) H23 r)<|A1 10<|Xy [] r (Y.index_arr (α := Wrd) ka190 (Oc 0 r) H25 r r)<|A1 11<|Xy [] r (Le kk189 (Oc 0 r) H25 r)<|Aq [12] [] r<|A1 13<|Xe [] r (Cl [] math_bits_RotateLeft32_c H27 r r1) fun _=>A1 15<|Xy [] r (Y.index_arr (α := Wrd) ka190 (Oc 0 r) H23 r r)<|A1 16<|Xu [] r (Se (Wrd.mk R26) 0 kk189 H23 r (Cp r) r)<|Az<|Bg () [0]
    refine Xy [] r (Y.index_arr (α := Wrd) ka190 (Oc 0 r) H25 r r)<|A2 6 11 (?_)<|?_
    ·exact Xy [] r (Le kk189 (Oc 0 r) H23 r)<|A1 11<|Xy [] r (Le kk189 (Oc 0 r) H25 r)<|Aq [12] [] r<|A1 13<|Xe [] r (Cl [] math_bits_RotateLeft32_c H27 r r1) fun _=>A1 15<|Xy [] r (Y.index_arr (α := Wrd) ka190 (Oc 0 r) H23 r r)<|A1 16<|Xu [] r (Se (Wrd.mk R26) 0 kk189 H23 r (Cp r) r)<|Az<|Bg () [0]
    exact Xy [] r (Le kk189 (Oc 0 r) H25 r)<|A1 6<|Xy [] r (Le kk189 (Oc 0 r) H23 r)<|Aq [12] [] r<|A1 13<|Xe [] r (Cl [] math_bits_RotateLeft32_c H27 r r1) fun _=>A1 15<|Xy [] r (Y.index_arr (α := Wrd) ka190 (Oc 0 r) H23 r r)<|A1 16<|Xu [] r (Se (Wrd.mk R26) 0 kk189 H23 r (Cp r) r)<|Az<|Bg () [0]
   refine Xy [] r (Y.index_arr (α := Wrd) ka190 (Oc 0 r) H25 r r)<|A2 5 11 (?_)<|?_
   ·refine Xy [] r (Y.index_arr (α := Wrd) ka190 (Oc 0 r) H23 r r)<|A2 6 11 (?_)<|?_
    ·exact Xy [] r (Le kk189 (Oc 0 r) H23 r)<|A1 11<|Xy [] r (Le kk189 (Oc 0 r) H25 r)<|Aq [12] [] r<|A1 13<|Xe [] r (Cl [] math_bits_RotateLeft32_c H27 r r1) fun _=>A1 15<|Xy [] r (Y.index_arr (α := Wrd) ka190 (Oc 0 r) H23 r r)<|A1 16<|Xu [] r (Se (Wrd.mk R26) 0 kk189 H23 r (Cp r) r)<|Az<|Bg () [0]
    exact Xy [] r (Le kk189 (Oc 0 r) H25 r)<|A1 6<|Xy [] r (Le kk189 (Oc 0 r) H23 r)<|Aq [12] [] r<|A1 13<|Xe [] r (Cl [] math_bits_RotateLeft32_c H27 r r1) fun _=>A1 15<|Xy [] r (Y.index_arr (α := Wrd) ka190 (Oc 0 r) H23 r r)<|A1 16<|Xu [] r (Se (Wrd.mk R26) 0 kk189 H23 r (Cp r) r)<|Az<|Bg () [0]
   exact Xy [] r (Le kk189 (Oc 0 r) H25 r)<|A1 5<|Xy [] r (Y.index_arr (α := Wrd) ka190 (Oc 0 r) H23 r r)<|A1 6<|Xy [] r (Le kk189 (Oc 0 r) H23 r)<|Aq [12] [] r<|A1 13<|Xe [] r (Cl [] math_bits_RotateLeft32_c H27 r r1) fun _=>A1 15<|Xy [] r (Y.index_arr (α := Wrd) ka190 (Oc 0 r) H23 r r)<|A1 16<|Xu [] r (Se (Wrd.mk R26) 0 kk189 H23 r (Cp r) r)<|Az<|Bg () [0]
  refine Ne<|Sq<|Wi fun E31 H32=>Wi fun E33 H34=>Jw Unit [0,1,2,3,4] [] (fun _=>[]) (fun _=>[.own (arrS U0 16) (lc (((((w_.set a.toNat (Wrd.mk (IntKind.u32.wrap (E1.v + E3.v)))).set d.toNat (Wrd.mk R11)).set c.toNat (Wrd.mk (IntKind.u32.wrap (E16.v + E18.v)))).set b.toNat (Wrd.mk R26)).set a.toNat (Wrd.mk (IntKind.u32.wrap (E31.v + E33.v)))))]) r1 r1 (?_) fun X36=>?_
  ·refine Dr [] r hMix<|Aq [0,1,2,5,6,7,11] [] r<|A2 3 8 (?_)<|?_
   ·refine Xy [] r (Y.index_arr (α := Wrd) ka190 (Oc 0 r) H32 r r)<|A2 4 8 (?_)<|?_
    ·exact Xy [] r (Le kk189 (Oc 0 r) H32 r)<|A1 8<|Xy [] r (Y.index_arr (α := Wrd) ka190 (Oc 0 r) H34 r r)<|A1 9<|Xy [] r (Le kk189 (Oc 0 r) H34 r)<|Aq [10] [] r<|A1 12<|Xy [] r (Y.index_arr (α := Wrd) ka190 (Oc 0 r) H32 r r)<|A1 13<|Xu [] r (Se (Wrd.mk (IntKind.u32.wrap (E31.v + E33.v))) 0 kk189 H32 r (Cp r) r)<|Az<|Bg () [0]
    exact Xy [] r (Y.index_arr (α := Wrd) ka190 (Oc 0 r) H34 r r)<|A2 4 9 (Xy [] r (Le kk189 (Oc 0 r) H32 r)<|A1 9<|Xy [] r (Le kk189 (Oc 0 r) H34 r)<|Aq [10] [] r<|A1 12<|Xy [] r (Y.index_arr (α := Wrd) ka190 (Oc 0 r) H32 r r)<|A1 13<|Xu [] r (Se (Wrd.mk (IntKind.u32.wrap (E31.v + E33.v))) 0 kk189 H32 r (Cp r) r)<|Az<|Bg () [0])<|Xy [] r (Le kk189 (Oc 0 r) H34 r)<|A1 4<|Xy [] r (Le kk189 (Oc 0 r) H32 r)<|Aq [10] [] r<|A1 12<|Xy [] r (Y.index_arr (α := Wrd) ka190 (Oc 0 r) H32 r r)<|A1 13<|Xu [] r (Se (Wrd.mk (IntKind.u32.wrap (E31.v + E33.v))) 0 kk189 H32 r (Cp r) r)<|Az<|Bg () [0]
   refine Xy [] r (Y.index_arr (α := Wrd) ka190 (Oc 0 r) H34 r r)<|A2 3 9 (?_)<|?_
   ·exact Xy [] r (Y.index_arr (α := Wrd) ka190 (Oc 0 r) H32 r r)<|A2 4 9 (Xy [] r (Le kk189 (Oc 0 r) H32 r)<|A1 9<|Xy [] r (Le kk189 (Oc 0 r) H34 r)<|Aq [10] [] r<|A1 12<|Xy [] r (Y.index_arr (α := Wrd) ka190 (Oc 0 r) H32 r r)<|A1 13<|Xu [] r (Se (Wrd.mk (IntKind.u32.wrap (E31.v + E33.v))) 0 kk189 H32 r (Cp r) r)<|Az<|Bg () [0])<|Xy [] r (Le kk189 (Oc 0 r) H34 r)<|A1 4<|Xy [] r (Le kk189 (Oc 0 r) H32 r)<|Aq [10] [] r<|A1 12<|Xy [] r (Y.index_arr (α := Wrd) ka190 (Oc 0 r) H32 r r)<|A1 13<|Xu [] r (Se (Wrd.mk (IntKind.u32.wrap (E31.v + E33.v))) 0 kk189 H32 r (Cp r) r)<|Az<|Bg () [0]
   exact Xy [] r (Le kk189 (Oc 0 r) H34 r)<|A1 3<|Xy [] r (Y.index_arr (α := Wrd) ka190 (Oc 0 r) H32 r r)<|A1 4<|Xy [] r (Le kk189 (Oc 0 r) H32 r)<|Aq [10] [] r<|A1 12<|Xy [] r (Y.index_arr (α := Wrd) ka190 (Oc 0 r) H32 r r)<|A1 13<|Xu [] r (Se (Wrd.mk (IntKind.u32.wrap (E31.v + E33.v))) 0 kk189 H32 r (Cp r) r)<|Az<|Bg () [0]
  refine Ne<|Sq<|Wi fun E37 H38=>Wi fun E39 H40=>Wi fun R41 H42=>Jw Unit [0,2,3,4] [] (fun _=>[]) (fun _=>[.own (arrS U0 16) (lc ((((((w_.set a.toNat (Wrd.mk (IntKind.u32.wrap (E1.v + E3.v)))).set d.toNat (Wrd.mk R11)).set c.toNat (Wrd.mk (IntKind.u32.wrap (E16.v + E18.v)))).set b.toNat (Wrd.mk R26)).set a.toNat (Wrd.mk (IntKind.u32.wrap (E31.v + E33.v)))).set d.toNat (Wrd.mk R41)))]) r1 r1 (?_) fun X45=>?_
  ·refine Dr [] r hMix<|Aq [0,1,2,3,4,7,8,9,14] [] r<|A2 5 10 (?_)<|?_
   ·refine Xy [] r (Y.index_arr (α := Wrd) ka190 (Oc 0 r) H38 r r)<|A2 6 10 (?_)<|?_
    ·exact Xy [] r (Le kk189 (Oc 0 r) H38 r)<|A1 10<|Xy [] r (Y.index_arr (α := Wrd) ka190 (Oc 0 r) H40 r r)<|A1 11<|Xy [] r (Le kk189 (Oc 0 r) H40 r)<|Aq [12] [] r<|A1 13<|Xe [] r (Cl [] math_bits_RotateLeft32_c H42 r r1) fun _=>A1 15<|Xy [] r (Y.index_arr (α := Wrd) ka190 (Oc 0 r) H38 r r)<|A1 16<|Xu [] r (Se (Wrd.mk R41) 0 kk189 H38 r (Cp r) r)<|Az<|Bg () [0]
    refine Xy [] r (Y.index_arr (α := Wrd) ka190 (Oc 0 r) H40 r r)<|A2 6 11 (?_)<|?_
    ·exact Xy [] r (Le kk189 (Oc 0 r) H38 r)<|A1 11<|Xy [] r (Le kk189 (Oc 0 r) H40 r)<|Aq [12] [] r<|A1 13<|Xe [] r (Cl [] math_bits_RotateLeft32_c H42 r r1) fun _=>A1 15<|Xy [] r (Y.index_arr (α := Wrd) ka190 (Oc 0 r) H38 r r)<|A1 16<|Xu [] r (Se (Wrd.mk R41) 0 kk189 H38 r (Cp r) r)<|Az<|Bg () [0]
    exact Xy [] r (Le kk189 (Oc 0 r) H40 r)<|A1 6<|Xy [] r (Le kk189 (Oc 0 r) H38 r)<|Aq [12] [] r<|A1 13<|Xe [] r (Cl [] math_bits_RotateLeft32_c H42 r r1) fun _=>A1 15<|Xy [] r (Y.index_arr (α := Wrd) ka190 (Oc 0 r) H38 r r)<|A1 16<|Xu [] r (Se (Wrd.mk R41) 0 kk189 H38 r (Cp r) r)<|Az<|Bg () [0]
   refine Xy [] r (Y.index_arr (α := Wrd) ka190 (Oc 0 r) H40 r r)<|A2 5 11 (?_)<|?_
   ·refine Xy [] r (Y.index_arr (α := Wrd) ka190 (Oc 0 r) H38 r r)<|A2 6 11 (?_)<|?_
    ·exact Xy [] r (Le kk189 (Oc 0 r) H38 r)<|A1 11<|Xy [] r (Le kk189 (Oc 0 r) H40 r)<|Aq [12] [] r<|A1 13<|Xe [] r (Cl [] math_bits_RotateLeft32_c H42 r r1) fun _=>A1 15<|Xy [] r (Y.index_arr (α := Wrd) ka190 (Oc 0 r) H38 r r)<|A1 16<|Xu [] r (Se (Wrd.mk R41) 0 kk189 H38 r (Cp r) r)<|Az<|Bg () [0]
    exact Xy [] r (Le kk189 (Oc 0 r) H40 r)<|A1 6<|Xy [] r (Le kk189 (Oc 0 r) H38 r)<|Aq [12] [] r<|A1 13<|Xe [] r (Cl [] math_bits_RotateLeft32_c H42 r r1) fun _=>A1 15<|Xy [] r (Y.index_arr (α := Wrd) ka190 (Oc 0 r) H38 r r)<|A1 16<|Xu [] r (Se (Wrd.mk R41) 0 kk189 H38 r (Cp r) r)<|Az<|Bg () [0]
   exact Xy [] r (Le kk189 (Oc 0 r) H40 r)<|A1 5<|Xy [] r (Y.index_arr (α := Wrd) ka190 (Oc 0 r) H38 r r)<|A1 6<|Xy [] r (Le kk189 (Oc 0 r) H38 r)<|Aq [12] [] r<|A1 13<|Xe [] r (Cl [] math_bits_RotateLeft32_c H42 r r1) fun _=>A1 15<|Xy [] r (Y.index_arr (α := Wrd) ka190 (Oc 0 r) H38 r r)<|A1 16<|Xu [] r (Se (Wrd.mk R41) 0 kk189 H38 r (Cp r) r)<|Az<|Bg () [0]
  refine Ne<|Sq<|Wi fun E46 H47=>Wi fun E48 H49=>Jw Unit [0,2,3] [] (fun _=>[]) (fun _=>[.own (arrS U0 16) (lc (((((((w_.set a.toNat (Wrd.mk (IntKind.u32.wrap (E1.v + E3.v)))).set d.toNat (Wrd.mk R11)).set c.toNat (Wrd.mk (IntKind.u32.wrap (E16.v + E18.v)))).set b.toNat (Wrd.mk R26)).set a.toNat (Wrd.mk (IntKind.u32.wrap (E31.v + E33.v)))).set d.toNat (Wrd.mk R41)).set c.toNat (Wrd.mk (IntKind.u32.wrap (E46.v + E48.v)))))]) r1 r1 (?_) fun X51=>?_
  ·refine Dr [] r hMix<|Aq [0,1,2,5,6,7,11] [] r<|A2 3 8 (?_)<|?_
   ·refine Xy [] r (Y.index_arr (α := Wrd) ka190 (Oc 0 r) H47 r r)<|A2 4 8 (?_)<|?_
    ·exact Xy [] r (Le kk189 (Oc 0 r) H47 r)<|A1 8<|Xy [] r (Y.index_arr (α := Wrd) ka190 (Oc 0 r) H49 r r)<|A1 9<|Xy [] r (Le kk189 (Oc 0 r) H49 r)<|Aq [10] [] r<|A1 12<|Xy [] r (Y.index_arr (α := Wrd) ka190 (Oc 0 r) H47 r r)<|A1 13<|Xu [] r (Se (Wrd.mk (IntKind.u32.wrap (E46.v + E48.v))) 0 kk189 H47 r (Cp r) r)<|Az<|Bg () [0]
    exact Xy [] r (Y.index_arr (α := Wrd) ka190 (Oc 0 r) H49 r r)<|A2 4 9 (Xy [] r (Le kk189 (Oc 0 r) H47 r)<|A1 9<|Xy [] r (Le kk189 (Oc 0 r) H49 r)<|Aq [10] [] r<|A1 12<|Xy [] r (Y.index_arr (α := Wrd) ka190 (Oc 0 r) H47 r r)<|A1 13<|Xu [] r (Se (Wrd.mk (IntKind.u32.wrap (E46.v + E48.v))) 0 kk189 H47 r (Cp r) r)<|Az<|Bg () [0])<|Xy [] r (Le kk189 (Oc 0 r) H49 r)<|A1 4<|Xy [] r (Le kk189 (Oc 0 r) H47 r)<|Aq [10] [] r<|A1 12<|Xy [] r (Y.index_arr (α := Wrd) ka190 (Oc 0 r) H47 r r)<|A1 13<|Xu [] r (Se (Wrd.mk (IntKind.u32.wrap (E46.v + E48.v))) 0 kk189 H47 r (Cp r) r)<|Az<|Bg () [0]
   refine Xy [] r (Y.index_arr (α := Wrd) ka190 (Oc 0 r) H49 r r)<|A2 3 9 (?_)<|?_
   ·exact Xy [] r (Y.index_arr (α := Wrd) ka190 (Oc 0 r) H47 r r)<|A2 4 9 (Xy [] r (Le kk189 (Oc 0 r) H47 r)<|A1 9<|Xy [] r (Le kk189 (Oc 0 r) H49 r)<|Aq [10] [] r<|A1 12<|Xy [] r (Y.index_arr (α := Wrd) ka190 (Oc 0 r) H47 r r)<|A1 13<|Xu [] r (Se (Wrd.mk (IntKind.u32.wrap (E46.v + E48.v))) 0 kk189 H47 r (Cp r) r)<|Az<|Bg () [0])<|Xy [] r (Le kk189 (Oc 0 r) H49 r)<|A1 4<|Xy [] r (Le kk189 (Oc 0 r) H47 r)<|Aq [10] [] r<|A1 12<|Xy [] r (Y.index_arr (α := Wrd) ka190 (Oc 0 r) H47 r r)<|A1 13<|Xu [] r (Se (Wrd.mk (IntKind.u32.wrap (E46.v + E48.v))) 0 kk189 H47 r (Cp r) r)<|Az<|Bg () [0]
   exact Xy [] r (Le kk189 (Oc 0 r) H49 r)<|A1 3<|Xy [] r (Y.index_arr (α := Wrd) ka190 (Oc 0 r) H47 r r)<|A1 4<|Xy [] r (Le kk189 (Oc 0 r) H47 r)<|Aq [10] [] r<|A1 12<|Xy [] r (Y.index_arr (α := Wrd) ka190 (Oc 0 r) H47 r r)<|A1 13<|Xu [] r (Se (Wrd.mk (IntKind.u32.wrap (E46.v + E48.v))) 0 kk189 H47 r (Cp r) r)<|Az<|Bg () [0]
  refine Ne<|Wi fun E52 H53=>Wi fun E54 H55=>Wi fun R56 H57=>Jw Unit [] [] (fun _=>[]) (fun _=>[.own (arrS U0 16) (lc ((((((((w_.set a.toNat (Wrd.mk (IntKind.u32.wrap (E1.v + E3.v)))).set d.toNat (Wrd.mk R11)).set c.toNat (Wrd.mk (IntKind.u32.wrap (E16.v + E18.v)))).set b.toNat (Wrd.mk R26)).set a.toNat (Wrd.mk (IntKind.u32.wrap (E31.v + E33.v)))).set d.toNat (Wrd.mk R41)).set c.toNat (Wrd.mk (IntKind.u32.wrap (E46.v + E48.v)))).set b.toNat (Wrd.mk R56)))]) r1 r1 (?_) fun X60=>?_
  ·refine Dr [] r hMix<|Aq [0,1,2,3,4,7,8,9,14] [] r<|A2 5 10 (?_)<|?_
   ·refine Xy [] r (Y.index_arr (α := Wrd) ka190 (Oc 0 r) H53 r r)<|A2 6 10 (?_)<|?_
    ·exact Xy [] r (Le kk189 (Oc 0 r) H53 r)<|A1 10<|Xy [] r (Y.index_arr (α := Wrd) ka190 (Oc 0 r) H55 r r)<|A1 11<|Xy [] r (Le kk189 (Oc 0 r) H55 r)<|Aq [12] [] r<|A1 13<|Xe [] r (Cl [] math_bits_RotateLeft32_c H57 r r1) fun _=>A1 15<|Xy [] r (Y.index_arr (α := Wrd) ka190 (Oc 0 r) H53 r r)<|A1 16<|Xu [] r (Se (Wrd.mk R56) 0 kk189 H53 r (Cp r) r)<|Az<|Bg () [0]
    refine Xy [] r (Y.index_arr (α := Wrd) ka190 (Oc 0 r) H55 r r)<|A2 6 11 (?_)<|?_
    ·exact Xy [] r (Le kk189 (Oc 0 r) H53 r)<|A1 11<|Xy [] r (Le kk189 (Oc 0 r) H55 r)<|Aq [12] [] r<|A1 13<|Xe [] r (Cl [] math_bits_RotateLeft32_c H57 r r1) fun _=>A1 15<|Xy [] r (Y.index_arr (α := Wrd) ka190 (Oc 0 r) H53 r r)<|A1 16<|Xu [] r (Se (Wrd.mk R56) 0 kk189 H53 r (Cp r) r)<|Az<|Bg () [0]
    exact Xy [] r (Le kk189 (Oc 0 r) H55 r)<|A1 6<|Xy [] r (Le kk189 (Oc 0 r) H53 r)<|Aq [12] [] r<|A1 13<|Xe [] r (Cl [] math_bits_RotateLeft32_c H57 r r1) fun _=>A1 15<|Xy [] r (Y.index_arr (α := Wrd) ka190 (Oc 0 r) H53 r r)<|A1 16<|Xu [] r (Se (Wrd.mk R56) 0 kk189 H53 r (Cp r) r)<|Az<|Bg () [0]
   refine Xy [] r (Y.index_arr (α := Wrd) ka190 (Oc 0 r) H55 r r)<|A2 5 11 (?_)<|?_
   ·refine Xy [] r (Y.index_arr (α := Wrd) ka190 (Oc 0 r) H53 r r)<|A2 6 11 (?_)<|?_
    ·exact Xy [] r (Le kk189 (Oc 0 r) H53 r)<|A1 11<|Xy [] r (Le kk189 (Oc 0 r) H55 r)<|Aq [12] [] r<|A1 13<|Xe [] r (Cl [] math_bits_RotateLeft32_c H57 r r1) fun _=>A1 15<|Xy [] r (Y.index_arr (α := Wrd) ka190 (Oc 0 r) H53 r r)<|A1 16<|Xu [] r (Se (Wrd.mk R56) 0 kk189 H53 r (Cp r) r)<|Az<|Bg () [0]
    exact Xy [] r (Le kk189 (Oc 0 r) H55 r)<|A1 6<|Xy [] r (Le kk189 (Oc 0 r) H53 r)<|Aq [12] [] r<|A1 13<|Xe [] r (Cl [] math_bits_RotateLeft32_c H57 r r1) fun _=>A1 15<|Xy [] r (Y.index_arr (α := Wrd) ka190 (Oc 0 r) H53 r r)<|A1 16<|Xu [] r (Se (Wrd.mk R56) 0 kk189 H53 r (Cp r) r)<|Az<|Bg () [0]
   exact Xy [] r (Le kk189 (Oc 0 r) H55 r)<|A1 5<|Xy [] r (Y.index_arr (α := Wrd) ka190 (Oc 0 r) H53 r r)<|A1 6<|Xy [] r (Le kk189 (Oc 0 r) H53 r)<|Aq [12] [] r<|A1 13<|Xe [] r (Cl [] math_bits_RotateLeft32_c H57 r r1) fun _=>A1 15<|Xy [] r (Y.index_arr (α := Wrd) ka190 (Oc 0 r) H53 r r)<|A1 16<|Xu [] r (Se (Wrd.mk R56) 0 kk189 H53 r (Cp r) r)<|Az<|Bg () [0]
  exact Re () [0]

/-- loop.example/g00950/impl.ChaBlock -/
noncomputable def impl_ChaBlock (key : List UInt8) (counter : Int) (nonce : List UInt8) : Option (List UInt8) :=
  (impl_isCha key counter nonce).bind fun R1 =>
  if (!R1) = true then (some ([]))
  else ((impl_firstWords key counter nonce).bind fun R5 =>
  (lenIs 16 R5).bind fun E9 =>
  bindC (loopO (fun (S12 : Int × List Wrd) => if (decide (S12.1 < (10 : Int))) = true then (bindC (loopO (fun (S17 : Int × List Wrd) => if (decide (S17.1 < (4 : Int))) = true then ((impl_quarter S17.2 S17.1 (IntKind.i64.wrap ((4 : Int) + S17.1)) (IntKind.i64.wrap ((8 : Int) + S17.1)) (IntKind.i64.wrap ((12 : Int) + S17.1))).bind fun R22 =>
  some (.go (IntKind.i64.wrap (S17.1 + (1 : Int)), R22)))
  else (some (.done (.go S17.2))))
  ((0 : Int), S12.2))
  (fun (T19 : List Wrd) => bindC (loopO (fun (S25 : Int × List Wrd) => if (decide (S25.1 < (4 : Int))) = true then ((impl_quarter S25.2 S25.1 (IntKind.i64.wrap ((4 : Int) + (Int.tmod (IntKind.i64.wrap (S25.1 + (1 : Int))) (4 : Int)))) (IntKind.i64.wrap ((8 : Int) + (Int.tmod (IntKind.i64.wrap (S25.1 + (2 : Int))) (4 : Int)))) (IntKind.i64.wrap ((12 : Int) + (Int.tmod (IntKind.i64.wrap (S25.1 + (3 : Int))) (4 : Int))))).bind fun R30 =>
  some (.go (IntKind.i64.wrap (S25.1 + (1 : Int)), R30)))
  else (some (.done (.go S25.2))))
  ((0 : Int), T19))
  (fun (T27 : List Wrd) => some (.go (IntKind.i64.wrap (S12.1 + (1 : Int)), T27)))))
  else (some (.done (.go S12.2))))
  ((0 : Int), R5))
  (fun (T14 : List Wrd) => (mkLen 1 (64 : Int)).bind fun E34 =>
  bindC (loopO (fun (S36 : Int × List UInt8) => if (decide (S36.1 < (16 : Int))) = true then ((lenIs 16 T14).bind fun E41 =>
  (idx T14 S36.1).bind fun E43 =>
  (idx R5 S36.1).bind fun E45 =>
  (app 1 S36.2 ([toU8 (IntKind.u32.wrap (E43.v + E45.v)), toU8 (ishr .u32 (IntKind.u32.wrap (E43.v + E45.v)) (8 : Int)), toU8 (ishr .u32 (IntKind.u32.wrap (E43.v + E45.v)) (16 : Int)), toU8 (ishr .u32 (IntKind.u32.wrap (E43.v + E45.v)) (24 : Int))])).bind fun E49 =>
  some (.go (IntKind.i64.wrap (S36.1 + (1 : Int)), E49)))
  else (some (.done (.go S36.2))))
  ((0 : Int), ([] : List UInt8)))
  (fun (T38 : List UInt8) => some T38)))

theorem impl_ChaBlock_c {key : List UInt8} {counter : Int} {nonce : List UInt8} : Cn Tryz.prog 129 [strV key, iv counter, strV nonce] [] [] (impl_ChaBlock key counter nonce) (fun r (_ : Unit) => strV r) fun _ _ => [] := by
  unfold impl_ChaBlock
  refine Ci Tryz.func129 r r ?_
  rintro w S -
  refine Sr<|Qs 1 r<|Nx<|Sq<|Sr<|Qs 3 r<|Bi fun R1 H2=>Fo (Cl [] impl_isCha_c H2 r r1) fun _=>Qs 1 r<|Nx<|Wc r (fun H4=>Sr<|Qs 1 r<|Nx<|Wr<|Tr<|Re () []) fun H4=>Sn<|Sr<|Qs 3 r<|Bi fun R5 H6=>Fo (Cl [] impl_firstWords_c H6 r r1) fun _=>Fo (Ef.allocArr (α := Wrd) (List.replicate 16 (Wrd.mk 0)) kz190 r (by decide)) fun B8=>Bi fun E9 H10=>Fu (Ef.store_arr (α := Wrd) (is' := [.own (arrS B8 16) (lc R5)]) 0 kk190 r (by decide) (lenIs_eq H10) r r r r)<|Nx<|Sr<|Yo (Y.load_arr (α := Wrd) kk190 r (by decide) (Oc 0 r) r)<|Fo (Ef.allocArr (α := Wrd) (List.replicate 16 (Wrd.mk 0)) kz190 r (by decide)) fun B11=>?_
  refine Fu (Ef.store_arr (α := Wrd) (is' := [.own (arrS B11 16) (lc R5), .own (arrS B8 16) (lc R5)]) 0 kk190 r (by decide) (lenIs_eq H10) r r r r)<|Nx<|Sq<|Sr<|Qs 1 r<|Nx<|Jn Unit [7,8] [1] (fun _ _=>[]) (fun T _=>[.own (arrS B11 16) (lc T)]) r2 r2 (?_) fun T14 X15=>?_
  ·refine Wb<|Lp Unit [7,8] [1] (fun T _=>[(24, iv T.1)]) (fun T _=>[.own (arrS B11 16) (lc T.2)]) () [1,0] r2 r2 fun S12 X13=>Sr<|Qs 1 r<|Nx<|Sq<|Wc r (fun H16=>?_) fun H16=>?_
   ·refine Sn<|Sq<|Wb<|Sq<|Sr<|Qs 1 r<|Nx<|Jn Unit [7,8,24] [0] (fun _ _=>[]) (fun T _=>[.own (arrS B11 16) (lc T)]) r2 r2 (?_) fun T19 X20=>?_
    ·exact Wb<|Lp Unit [7,8,24] [0] (fun T _=>[(26, iv T.1)]) (fun T _=>[.own (arrS B11 16) (lc T.2)]) () [0,0] r2 r2 fun S17 X18=>Sr<|Qs 1 r<|Nx<|Sq<|Wc r (fun H21=>Sn<|Sq<|Wb<|Sr<|Qs 2 r<|Nx<|Rg<|Qs 7 r<|Bi fun R22 H23=>Fo (Cl [1] impl_quarter_c H23 r r1) fun _=>Nl<|Bn<|Ne<|Rg<|Qs 2 r<|Nl<|Lg () [1,0]) fun H21=>Wx<|Tx<|Ex<|Be<|Jg () [0,0]
    refine Ne<|Sr<|Qs 1 r<|Nx<|Jn Unit [7,8,24] [0] (fun _ _=>[]) (fun T _=>[.own (arrS B11 16) (lc T)]) r2 r2 (?_) fun T27 X28=>?_
    ·exact Wb<|Lp Unit [7,8,24] [0] (fun T _=>[(38, iv T.1)]) (fun T _=>[.own (arrS B11 16) (lc T.2)]) () [0,0] r2 r2 fun S25 X26=>Sr<|Qs 1 r<|Nx<|Sq<|Wc r (fun H29=>Sn<|Sq<|Wb<|Sr<|Qs 2 r<|Nx<|Rg<|Qs 3 r<|Yo (Y.rem (by decide) r r)<|Qs 3 r<|Yo (Y.rem (by decide) r r)<|Qs 3 r<|Yo (Y.rem (by decide) r r)<|Qs 1 r<|Bi fun R30 H31=>Fo (Cl [1] impl_quarter_c H31 r r1) fun _=>Nl<|Bn<|Ne<|Rg<|Qs 2 r<|Nl<|Lg () [1,0]) fun H29=>Wx<|Tx<|Ex<|Be<|Jg () [0,0]
    exact Bn<|Ne<|Rg<|Qs 2 r<|Nl<|Lg () [0,0]
   exact Wx<|Tx<|Ex<|Be<|Jg () [0,0]
  refine Ne<|Sr<|Bi fun E34 H35=>Fo (M0 (0 : UInt8) H35 ke147 kz5) fun V33=>Qs 1 r<|Nx<|Sq<|Sr<|Yo (Y.load_arr (α := Wrd) kk190 r (by decide) (Oc 2 r) r)<|Qs 1 r<|Nx<|Jn Value [] [] (fun _ X=>[(11, X)]) (fun T X=>[.own X (lc T)]) r2 r2 (?_) fun T38 X39=>?_
  ·refine Wb<|Lp Value [7,58] [1] (fun T X=>[(11, X), (59, iv T.1)]) (fun T X=>[.own X (lc T.2)]) V33 [1,0] r2 r2 fun S36 X37=>Sr<|Qs 1 r<|Nx<|Sq<|Wc r (fun H40=>?_) fun H40=>?_
   ·refine Sn<|Sq<|Wb<|Sr<|Qs 1 r<|Bi fun E41 H42=>Bi fun E43 H44=>Yo (Y.idx_arr ka190 kk189 (lenIs_eq H42) H44 r r)<|Qs 2 r<|Nx<|Sr<|Qs 2 r<|Bi fun E45 H46=>Yo (Y.index_arr (α := Wrd) ka190 (Oc 0 r) H46 r r)<|Yo (Le kk189 (Oc 0 r) H46 r)<|Qs 2 r<|Nx<|Rg<|Qs 2 r<|Yo (Y.conv8 ki189 ki5 r)<|Qs 1 r<|Yo (Y.shr (by decide) r r)<|Yo (Y.conv8 ki189 ki5 r)<|Qs 1 r<|Yo (Y.shr (by decide) r r)<|Yo (Y.conv8 ki189 ki5 r)<|Qs 1 r<|Yo (Y.shr (by decide) r r)<|Yo (Y.conv8 ki189 ki5 r)<|Fo (Bs [toU8 (IntKind.u32.wrap (E43.v + E45.v)), toU8 (ishr .u32 (IntKind.u32.wrap (E43.v + E45.v)) (8 : Int)), toU8 (ishr .u32 (IntKind.u32.wrap (E43.v + E45.v)) (16 : Int)), toU8 (ishr .u32 (IntKind.u32.wrap (E43.v + E45.v)) (24 : Int))] ke147 kz5) fun B47=>?_
    exact Bi fun E49 H50=>Fo (Ap [2] H50 ke147 kz5 r (Oc 0 r)) fun V48=>Qs 1 r<|Nl<|Bn<|Ne<|Rg<|Qs 2 r<|Nl<|Lg V48 [2,0]
   exact Wx<|Tx<|Ex<|Be<|Jg X37 [1]
  exact Ne<|Sr<|Qs 1 r<|Yo (Y.toStr ke147 ki5 ks9 (Oc 0 r) r)<|Qs 1 r<|Nx<|Wr<|Re () []

/-- loop.example/g00950/impl.ChaStream -/
noncomputable def impl_ChaStream (key : List UInt8) (counter : Int) (nonce : List UInt8) (text : List UInt8) : Option (List UInt8) :=
  (impl_isCha key counter nonce).bind fun R1 =>
  if (!R1) = true then (some ([]))
  else ((byteRoom text).bind fun E6 =>
  (if (decide (IntKind.i64.wrap (Int.tdiv (IntKind.i64.wrap (((text.length : Nat) : Int) + (63 : Int))) (64 : Int)) > (0 : Int))) = true then (some (decide (IntKind.i64.wrap (IntKind.i64.wrap (counter + (IntKind.i64.wrap (Int.tdiv (IntKind.i64.wrap (((text.length : Nat) : Int) + (63 : Int))) (64 : Int)))) - (1 : Int)) > (4294967295 : Int))))
  else (some false)).bind (fun (T8 : Bool) =>
  if T8 = true then (some ([]))
  else (bindC (loopO (fun (S12 : Int × Int × List UInt8) => if (decide (S12.2.1 < ((S12.2.2.length : Nat) : Int))) = true then ((impl_ChaBlock key S12.1 nonce).bind fun R17 =>
  bindC (loopO (fun (S20 : Int × List UInt8) => (if (decide (S20.1 < (64 : Int))) = true then (some (decide (IntKind.i64.wrap (S12.2.1 + S20.1) < ((S20.2.length : Nat) : Int))))
  else (some false)).bind (fun (T24 : Bool) =>
  if T24 = true then ((sidx R17 S20.1).bind fun E28 =>
  (idx S20.2 (IntKind.i64.wrap (S12.2.1 + S20.1))).bind fun E30 =>
  some (.go (IntKind.i64.wrap (S20.1 + (1 : Int)), (S20.2.set ((IntKind.i64.wrap (S12.2.1 + S20.1)).toNat) (E30 ^^^ E28)))))
  else (some (.done (.go S20.2)))))
  ((0 : Int), S12.2.2))
  (fun (T22 : List UInt8) => some (.go (IntKind.i64.wrap (S12.1 + (1 : Int)), IntKind.i64.wrap (S12.2.1 + (64 : Int)), T22))))
  else (some (.done (.go S12.2.2))))
  (counter, (0 : Int), text))
  (fun (T14 : List UInt8) => some T14))))

theorem impl_ChaStream_c {key : List UInt8} {counter : Int} {nonce : List UInt8} {text : List UInt8} : Cn Tryz.prog 105 [strV key, iv counter, strV nonce, strV text] [] [] (impl_ChaStream key counter nonce text) (fun r (_ : Unit) => strV r) fun _ _ => [] := by
  unfold impl_ChaStream
  refine Ci Tryz.func105 r r ?_
  rintro w S -
  refine Sr<|Qs 1 r<|Nx<|Sq<|Sr<|Qs 3 r<|Bi fun R1 H2=>Fo (Cl [] impl_isCha_c H2 r r1) fun _=>Qs 1 r<|Nx<|Wc r (fun H4=>Sr<|Qs 1 r<|Nx<|Wr<|Tr<|Re () []) fun H4=>Sn<|Sr<|Qs 1 r<|Bi fun E6 H7=>Fo (Ef.toBytes H7 ks9 ke147 ki5 r) fun V5=>Qs 1 r<|Nx<|Sq<|Sr<|Qs 1 r<|Yo (Ln ke147 (Can.frz 0 r) r)<|Qs 1 r<|Yo (Y.quo (by decide) r r)<|Qs 1 r<|Nx<|Sq<|Jv [0,1,2,9] (fun T=>[(33, .bool T)]) r1 (Rg<|Qs 3 r<|It (fun H10=>Qg 5 (beq_tt H10) r r<|Yo (Pt H10 r)<|Nl<|Bg () [0]) fun H10=>Of 5 (beq_ft H10) r r<|Yo (Pf H10 r)<|Nl<|Bg () [0]) fun T8=>?_
  refine Ne<|Wc r (fun H11=>Sr<|Qs 1 r<|Nx<|Wr<|Tr<|Re () []) fun H11=>Sn<|Sq<|Sr<|Qs 1 r<|Nx<|Jn Unit [9] [] (fun _ _=>[]) (fun T _=>[.frz V5 5 T]) r2 r2 (?_) fun T14 X15=>?_
  ·refine Wb<|Lp Unit [0,2,9] [] (fun T _=>[(1, iv T.1), (11, iv T.2.1)]) (fun T _=>[.frz V5 5 T.2.2]) () [0] r2 r2 fun S12 X13=>Sq<|Sr<|Qs 2 r<|Yo (Ln ke147 (Can.frz 0 r) r)<|Qs 1 r<|Nx<|Wc r (fun H16=>?_) fun H16=>?_
   ·refine Sn<|Sq<|Wb<|Sr<|Qs 3 r<|Bi fun R17 H18=>Fo (Cl [] impl_ChaBlock_c H18 r r1) fun _=>Qs 1 r<|Nx<|Sr<|Qs 3 r<|Nx<|Sr<|Qs 1 r<|Nx<|Jn Unit [0,1,2,9,11] [] (fun _ _=>[]) (fun T _=>[.frz V5 5 T]) r2 r2 (?_) fun T22 X23=>?_
    ·refine Wb<|Lp Unit [0,1,2,9,11,12] [] (fun T _=>[(13, iv T.1)]) (fun T _=>[.frz V5 5 T.2]) () [0] r2 r2 fun S20 X21=>Sq<|Sq<|Jv [0,1,2,9,11,12,13] (fun T=>[(55, .bool T)]) r1 (Rg<|Qs 3 r<|It (fun H26=>Qg 4 (beq_tt H26) r r<|Yg (gdA (beq_tt H26)) (Ln ke147 (Can.frz 0 r) r)<|Qg 1 (beq_tt H26) r r<|Yo (Pt H26 r)<|Nl<|Bg () [0]) fun H26=>Of 6 (beq_ft H26) r r<|Yo (Pf H26 r)<|Nl<|Bg () [0]) fun T24=>Ne<|Wc r (fun H27=>?_) fun H27=>?_
     ·exact Sn<|Sq<|Wb<|Dr [] r hMix<|Aq [0,1,2,3,6,7] [] r<|Ai fun E28 H29=>Ay 8 [] r (Y.sidx H29 ks9 r r)<|Ai fun E30 H31=>A1 4<|Xy [] r (Ix ke147 (Can.frz 0 r) H31 r)<|A1 5<|Xy [] r (Le kk5 (Can.frz 0 r) H31 r)<|Ay 9 [] r (Y.xor8 r r)<|A1 10<|Xy [] r (Ix ke147 (Can.frz 0 r) H31 r)<|A1 11<|Xu [] r (Ef.store_frz (is' := [.frz V5 5 (S20.2.set ((IntKind.i64.wrap (S12.2.1 + S20.1)).toNat) (E30 ^^^ E28))]) (E30 ^^^ E28) 0 kk5 r (idx_get H31).2.2 r r r r r)<|Az<|Bn<|Ne<|Rg<|Qs 3 r<|Nl<|Lg () [0]
     exact Wx<|Tx<|Ex<|Be<|Jg () [0]
    exact Bn<|Ne<|Rg<|Qs 3 r<|Nl<|Lg () [0]
   exact Wx<|Tx<|Ex<|Be<|Jg () [0]
  exact Ne<|Sr<|Qs 1 r<|Yo (Y.toStr ke147 ki5 ks9 (Can.frz 0 r) r)<|Qs 1 r<|Nx<|Wr<|Re () []

/-- loop.example/g00950/impl.ReadVar -/
noncomputable def impl_ReadVar (s : List UInt8) : Option (Int × Int) :=
  bindC (loopO (fun (S1 : Int × Int) => (if (decide (S1.2 < (7 : Int))) = true then (some (decide (S1.2 < ((s.length : Nat) : Int))))
  else (some false)).bind (fun (T5 : Bool) =>
  if T5 = true then ((sidx s S1.2).bind fun E9 =>
  if (decide (((E9.toNat : Nat) : Int) ≥ (128 : Int))) = true then (some (.go (ior .i64 S1.1 (ishl .i64 (IntKind.i64.wrap (iand .u8 ((E9.toNat : Nat) : Int) (127 : Int))) (IntKind.u64.wrap (IntKind.i64.wrap ((7 : Int) * S1.2)))), IntKind.i64.wrap (S1.2 + (1 : Int)))))
  else ((if (decide (((E9.toNat : Nat) : Int) = (0 : Int))) = true then (some (decide (S1.2 > (0 : Int))))
  else (some false)).bind (fun (T12 : Bool) =>
  if T12 = true then (some (.done (.done ((0 : Int), (0 : Int)))))
  else (some (.done (.done (ior .i64 S1.1 (ishl .i64 (IntKind.i64.wrap (iand .u8 ((E9.toNat : Nat) : Int) (127 : Int))) (IntKind.u64.wrap (IntKind.i64.wrap ((7 : Int) * S1.2)))), IntKind.i64.wrap (S1.2 + (1 : Int)))))))))
  else (some (.done (.go ())))))
  ((0 : Int), (0 : Int)))
  (fun (T3 : Unit) => some ((0 : Int), (0 : Int)))

theorem impl_ReadVar_c {s : List UInt8} : Cn Tryz.prog 143 [strV s] [] [] (impl_ReadVar s) (fun r (_ : Unit) => .tuple #[iv r.1, iv r.2]) fun _ _ => [] := by
  unfold impl_ReadVar
  refine Ci Tryz.func143 r r ?_
  rintro w S -
  refine Sr<|Qs 2 r<|Nx<|Sr<|Qs 1 r<|Nx<|Sq<|Sr<|Qs 1 r<|Nx<|Ju [] (fun _=>[]) r1 (?_) fun T3=>?_
  ·refine Wb<|Lu [0] (fun T=>[(4, iv T.1), (5, iv T.2)]) r1 fun S1=>Sq<|Sq<|Jv [0,4,5] (fun T=>[(13, .bool T)]) r1 (Rg<|Qs 3 r<|It (fun H7=>Qg 2 (beq_tt H7) r r<|Yg (gdA (beq_tt H7)) (Y.slen ks9 r)<|Qg 1 (beq_tt H7) r r<|Yo (Pt H7 r)<|Nl<|Bg () []) fun H7=>Of 4 (beq_ft H7) r r<|Yo (Pf H7 r)<|Nl<|Bg () []) fun T5=>Ne<|Wc r (fun H8=>?_) fun H8=>?_
   ·refine Sn<|Sq<|Wb<|Sr<|Qs 3 r<|Bi fun E9 H10=>Yo (Y.sidx H10 ks9 r r)<|Qs 1 r<|Yo (Y.conv ki5 ki3 r)<|Qs 2 r<|Yo (Y.conv ki3 ki182 r)<|Yo (Y.shl (wrap_u_nonneg r _) r r)<|Qs 2 r<|Nx<|Sq<|Sr<|Qs 2 r<|Yo (Y.sidx H10 ks9 r r)<|Qs 1 r<|Nx<|Wc r (fun H11=>Wx<|Tx<|Be<|Ne<|Rg<|Qs 3 r<|Nl<|Lg () []) fun H11=>Sn<|Sq<|Sq<|Jv [4,5] (fun T=>[(38, .bool T)]) r1 (Rg<|Qs 2 r<|Yo (Y.sidx H10 ks9 r r)<|Qs 2 r<|It (fun H14=>Qg 2 (beq_tt H14) r r<|Yo (Pt H14 r)<|Nl<|Bg () []) fun H14=>Of 2 (beq_ft H14) r r<|Yo (Pf H14 r)<|Nl<|Bg () []) fun T12=>Ne<|Wc r (fun H15=>Sr<|Qs 2 r<|Nx<|Wr<|Tr<|Br<|Tr<|Er<|Br<|Jd<|Tr<|Re () []) fun H15=>?_
    exact Sn<|Sr<|Qs 5 r<|Nx<|Wr<|Br<|Tr<|Er<|Br<|Jd<|Tr<|Re () []
   exact Wx<|Tx<|Ex<|Be<|Jg () []
  exact Ne<|Sr<|Qs 2 r<|Nx<|Wr<|Re () []

/-- (*loop.example/g00950/impl.reader).number -/
noncomputable def impl_reader_number (r_ : Reader) : Option (Int × Reader) :=
  if r_.bad = true then (some ((0 : Int), r_))
  else ((ssub r_.text r_.at_ (r_.text.length : Int)).bind fun E2 =>
  (impl_ReadVar E2).bind fun R4 =>
  if (decide (R4.2 = (0 : Int))) = true then (some ((0 : Int), { text := r_.text, at_ := r_.at_, bad := true : Reader }))
  else (some (R4.1, { text := r_.text, at_ := IntKind.i64.wrap (r_.at_ + R4.2), bad := r_.bad : Reader })))

theorem impl_reader_number_c {r_ : Reader} {U0 : Nat} : Cn Tryz.prog 123 [pt U0] [.box U0 171 [strV r_.text, iv r_.at_, .bool r_.bad]] [] (impl_reader_number r_) (fun r (_ : Unit) => iv r.1) fun r _ => [.box U0 171 [strV r.2.text, iv r.2.at_, .bool r.2.bad]] := by
  unfold impl_reader_number
  refine Ci Tryz.func123 r r ?_
  rintro w S -
  refine Sr<|Qs 1 r<|Nx<|Sq<|Sr<|Qs 2 r<|Yo (Fb kf171_2 r)<|Yo (Lb 0 kk4 r)<|Nx<|Wc r (fun H1=>Sr<|Qs 1 r<|Nx<|Wr<|Tr<|Re () [0]) fun H1=>Sn<|Sq<|Dr [0] r hMix<|Aq [0,1] [0] r<|Ay 2 [0] r (Fb kf171_0 r)<|Ay 3 [0] r (Lb 0 kk9 r)<|Aq [4,5] [0] r<|Ay 6 [0] r (Fb kf171_1 r)<|Ay 7 [0] r (Lb 0 kk3 r)<|Ai fun E2 H3=>Ay 8 [0] r (Y.ssub_from H3 ks9 r r)<|Ai fun R4 H5=>A1 9<|Xe [0] r (Cl [] impl_ReadVar_c H5 r r1) fun _=>Aq [10,11,12,13,14] [0] r<|Az<|Ne<|Sq<|Sr<|Qs 2 r<|Nx<|Wc r (fun H7=>Sr<|Qs 2 r<|Yo (Fb kf171_2 r)<|Fu (Sb 0 kk4 r (Cp r) r)<|Nx<|Sr<|Qs 1 r<|Nx<|Wr<|Tr<|Re () [0]) fun H7=>?_
  exact Sn<|Sr<|Qs 2 r<|Yo (Fb kf171_1 r)<|Yo (Lb 0 kk3 r)<|Qs 3 r<|Yo (Fb kf171_1 r)<|Fu (Sb 0 kk3 r (Cp r) r)<|Nx<|Sr<|Qs 2 r<|Nx<|Wr<|Re () [0]

/-- (*loop.example/g00950/impl.reader).bytes -/
noncomputable def impl_reader_bytes (r_ : Reader) (n : Int) : Option (List UInt8 × Reader) :=
  (if r_.bad = true then (some true)
  else (some (decide (n > IntKind.i64.wrap (((r_.text.length : Nat) : Int) - r_.at_))))).bind (fun (T1 : Bool) =>
  if T1 = true then (some ([], { text := r_.text, at_ := r_.at_, bad := true : Reader }))
  else ((ssub r_.text (IntKind.i64.wrap (IntKind.i64.wrap (r_.at_ + n) - n)) (IntKind.i64.wrap (r_.at_ + n))).bind fun E5 =>
  some (E5, { text := r_.text, at_ := IntKind.i64.wrap (r_.at_ + n), bad := r_.bad : Reader })))

theorem impl_reader_bytes_c {r_ : Reader} {n : Int} {U0 : Nat} : Cn Tryz.prog 144 [pt U0, iv n] [.box U0 171 [strV r_.text, iv r_.at_, .bool r_.bad]] [] (impl_reader_bytes r_ n) (fun r (_ : Unit) => strV r.1) fun r _ => [.box U0 171 [strV r.2.text, iv r.2.at_, .bool r.2.bad]] := by
  unfold impl_reader_bytes
  refine Ci Tryz.func144 r r ?_
  rintro w S -
  refine Sr<|Qs 1 r<|Nx<|Sq<|Sq<|Jv [0,1] (fun T=>[(22, .bool T)]) r1 (?_) fun T1=>?_
  ·exact Dr [0] r hMix<|Aq [0,1] [0] r<|Ay 2 [0] r (Fb kf171_2 r)<|Ay 3 [0] r (Lb 0 kk4 r)<|Aq [4] [0] r<|Ia (fun H3=>Ax [5,6,7,8,9,10,11,12,13,14,15,16] [0] (beq_tf H3) r r<|Ay 17 [0] r (Pt H3 r)<|Az<|Bg () [0]) fun H3=>Ag 5 [0] (gdA (beq_ff H3)) r (Y.move r)<|Ag 6 [0] (gdA (beq_ff H3)) r (Y.move r)<|Ag 7 [0] (gdA (beq_ff H3)) r (Y.nilCheck r)<|Ag 8 [0] (gdA (beq_ff H3)) r (Fb kf171_0 r)<|Ag 9 [0] (gdA (beq_ff H3)) r (Lb 0 kk9 r)<|Ag 10 [0] (gdA (beq_ff H3)) r (Y.slen ks9 r)<|Ag 11 [0] (gdA (beq_ff H3)) r (Y.move r)<|Ag 12 [0] (gdA (beq_ff H3)) r (Y.nilCheck r)<|Ag 13 [0] (gdA (beq_ff H3)) r (Fb kf171_1 r)<|Ag 14 [0] (gdA (beq_ff H3)) r (Lb 0 kk3 r)<|Ag 15 [0] (gdA (beq_ff H3)) r (Y.sub r r)<|Ag 16 [0] (gdA (beq_ff H3)) r (Y.gtr r r)<|Ay 17 [0] r (Pf H3 r)<|Az<|Bg () [0]
  exact Ne<|Wc r (fun H4=>Sr<|Qs 2 r<|Yo (Fb kf171_2 r)<|Fu (Sb 0 kk4 r (Cp r) r)<|Nx<|Sr<|Qs 1 r<|Nx<|Wr<|Tr<|Re () [0]) fun H4=>Sn<|Sr<|Qs 2 r<|Yo (Fb kf171_1 r)<|Yo (Lb 0 kk3 r)<|Qs 3 r<|Yo (Fb kf171_1 r)<|Fu (Sb 0 kk3 r (Cp r) r)<|Nx<|Sq<|Dr [0] r hMix<|Aq [0,1] [0] r<|Ay 2 [0] r (Fb kf171_0 r)<|Ay 3 [0] r (Lb 0 kk9 r)<|Aq [4,5] [0] r<|Ay 6 [0] r (Fb kf171_1 r)<|Ay 7 [0] r (Lb 0 kk3 r)<|Aq [8,9,10,11] [0] r<|Ay 12 [0] r (Fb kf171_1 r)<|Ay 13 [0] r (Lb 0 kk3 r)<|Ai fun E5 H6=>Ay 14 [0] r (Y.ssub_both H6 ks9 r r r)<|Aq [15] [0] r<|Az<|Ne<|Wr<|Re () [0]

/-- (*loop.example/g00950/impl.reader).flag -/
noncomputable def impl_reader_flag (r_ : Reader) : Option (Bool × Reader) :=
  (impl_reader_bytes r_ (1 : Int)).bind fun R1 =>
  (if (!(decide (R1.1 = ([0])))) = true then (some (!(decide (R1.1 = ([1])))))
  else (some false)).bind (fun (T4 : Bool) =>
  bindC (if T4 = true then (some (.go true))
  else (some (.go R1.2.bad)))
  (fun (T7 : Bool) => some (decide (R1.1 = ([1])), { text := R1.2.text, at_ := R1.2.at_, bad := T7 : Reader })))

theorem impl_reader_flag_c {r_ : Reader} {U0 : Nat} : Cn Tryz.prog 124 [pt U0] [.box U0 171 [strV r_.text, iv r_.at_, .bool r_.bad]] [] (impl_reader_flag r_) (fun r (_ : Unit) => .bool r.1) fun r _ => [.box U0 171 [strV r.2.text, iv r.2.at_, .bool r.2.bad]] := by
  unfold impl_reader_flag
  refine Ci Tryz.func124 r r ?_
  rintro w S -
  exact Sr<|Qs 1 r<|Nx<|Sr<|Qs 1 r<|Bi fun R1 H2=>Fo (Cl [0] impl_reader_bytes_c H2 r r1) fun _=>Qs 1 r<|Nx<|Sq<|Sq<|Jv [0,3] (fun T=>[(11, .bool T)]) r1 (Rg<|Qs 3 r<|It (fun H6=>Qg 2 (beq_tt H6) r r<|Yo (Pt H6 r)<|Nl<|Bg () [0]) fun H6=>Of 2 (beq_ft H6) r r<|Yo (Pf H6 r)<|Nl<|Bg () [0]) fun T4=>Ne<|Jn Unit [3] [] (fun _ _=>[]) (fun T _=>[.box U0 171 [strV R1.2.text, iv R1.2.at_, .bool T]]) r2 r2 (Wc r (fun H9=>Rg<|Qs 2 r<|Yo (Fb kf171_2 r)<|Fu (Sb 0 kk4 r (Cp r) r)<|Nl<|Jg () [0]) fun H9=>Sk<|Jg () [0]) fun T7 X8=>Ne<|Sr<|Qs 3 r<|Nx<|Wr<|Re () [0]

/-- (*loop.example/g00950/impl.reader).short -/
noncomputable def impl_reader_short (r_ : Reader) : Option (List UInt8 × Reader) :=
  (impl_reader_number r_).bind fun R1 =>
  (impl_reader_bytes R1.2 R1.1).bind fun R4 =>
  some (R4.1, R4.2)

theorem impl_reader_short_c {r_ : Reader} {U0 : Nat} : Cn Tryz.prog 125 [pt U0] [.box U0 171 [strV r_.text, iv r_.at_, .bool r_.bad]] [] (impl_reader_short r_) (fun r (_ : Unit) => strV r.1) fun r _ => [.box U0 171 [strV r.2.text, iv r.2.at_, .bool r.2.bad]] := by
  unfold impl_reader_short
  refine Ci Tryz.func125 r r ?_
  rintro w S -
  exact Sr<|Qs 1 r<|Nx<|Sr<|Qs 1 r<|Bi fun R1 H2=>Fo (Cl [0] impl_reader_number_c H2 r r1) fun _=>Qs 1 r<|Nx<|Sr<|Qs 2 r<|Bi fun R4 H5=>Fo (Cl [0] impl_reader_bytes_c H5 r r1) fun _=>Qs 1 r<|Nx<|Wr<|Re () [0]

/-- (*loop.example/g00950/impl.reader).done -/
noncomputable def impl_reader_done (r_ : Reader) : Option Bool :=
  (if (!r_.bad) = true then (some (decide (r_.at_ = ((r_.text.length : Nat) : Int))))
  else (some false)).bind (fun (T1 : Bool) =>
  some T1)

theorem impl_reader_done_c {r_ : Reader} {U0 : Nat} : Cn Tryz.prog 126 [pt U0] [.box U0 171 [strV r_.text, iv r_.at_, .bool r_.bad]] [] (impl_reader_done r_) (fun r (_ : Unit) => .bool r) fun _ _ => [.box U0 171 [strV r_.text, iv r_.at_, .bool r_.bad]] := by
  unfold impl_reader_done
  refine Ci Tryz.func126 r r ?_
  rintro w S -
  refine Sr<|Qs 1 r<|Nx<|Sq<|Jv [] (fun T=>[(2, .bool T)]) r1 (?_) fun T1=>?_
  ·refine Dr [0] r hMix<|Aq [0,1] [0] r<|Ay 2 [0] r (Fb kf171_2 r)<|Ay 3 [0] r (Lb 0 kk4 r)<|Aq [4,5] [0] r<|Ia (fun H3=>?_) fun H3=>?_
   ·exact Ag 6 [0] (gdA (beq_tt H3)) r (Y.move r)<|Ag 7 [0] (gdA (beq_tt H3)) r (Y.nilCheck r)<|Ag 8 [0] (gdA (beq_tt H3)) r (Fb kf171_1 r)<|Ag 9 [0] (gdA (beq_tt H3)) r (Lb 0 kk3 r)<|Ag 10 [0] (gdA (beq_tt H3)) r (Y.move r)<|Ag 11 [0] (gdA (beq_tt H3)) r (Y.nilCheck r)<|Ag 12 [0] (gdA (beq_tt H3)) r (Fb kf171_0 r)<|Ag 13 [0] (gdA (beq_tt H3)) r (Lb 0 kk9 r)<|Ag 14 [0] (gdA (beq_tt H3)) r (Y.slen ks9 r)<|Ag 15 [0] (gdA (beq_tt H3)) r (Y.eql r r)<|Ay 16 [0] r (Pt H3 r)<|Aq [17] [0] r<|Az<|Bg () [0]
   exact Ax [6,7,8,9,10,11,12,13,14,15] [0] (beq_ft H3) r r<|Ay 16 [0] r (Pf H3 r)<|Aq [17] [0] r<|Az<|Bg () [0]
  exact Ne<|Wr<|Re () [0]

/-- loop.example/g00950/impl.BatchOk -/
noncomputable def impl_BatchOk (l : List Op) : Option Bool :=
  bindC (loopO (fun (S1 : Int) => if (decide (S1 < ((l.length : Nat) : Int))) = true then ((idx l S1).bind fun E6 =>
  ((impl_isKey E6.Key).bind fun R11 =>
  if (!R11) = true then (some true)
  else ((impl_isVal E6.Del E6.Val).bind fun R15 =>
  some (!R15))).bind (fun (T9 : Bool) =>
  if T9 = true then (some (.done (.done false)))
  else (some (.go (IntKind.i64.wrap (S1 + (1 : Int)))))))
  else (some (.done (.go ()))))
  (0 : Int))
  (fun (T3 : Unit) => (impl_inRange ((l.length : Nat) : Int) (1 : Int) (6 : Int)).bind fun R19 =>
  some R19)

theorem impl_BatchOk_c {l : List Op} {U0 : Value} : Cn Tryz.prog 127 [U0] [] [(U0, lc l)] (impl_BatchOk l) (fun r (_ : Unit) => .bool r) fun _ _ => [] := by
  unfold impl_BatchOk
  refine Ci Tryz.func127 r r ?_
  rintro w S ⟨Z0,-⟩
  refine Sr<|Qs 1 r<|Nx<|Sq<|Sr<|Qs 1 r<|Yo (Ln ke96 (Bc Z0) r)<|Qs 1 r<|Nx<|Ju [0] (fun _=>[]) r1 (?_) fun T3=>?_
  ·refine Wb<|Lu [0,5,6] (fun T=>[(7, iv T)]) r1 fun S1=>Sr<|Qs 1 r<|Nx<|Sq<|Wc r (fun H5=>?_) fun H5=>?_
   ·refine Sn<|Sq<|Wb<|Sr<|Bi fun E6 H7=>Yo (Ix ke96 (Bc Z0) H7 r)<|Yo (Le kk129 (Bc Z0) H7 r)<|Fo (Al kz129 r) fun B8=>Fu (Sb 0 kk129 r (Cp r) r)<|Nx<|Sq<|Jb Unit [0,5,6,7] [] (fun T _=>[(22, .bool T)]) (fun _ _=>[]) r2 r2 (?_) fun T9 X10=>?_
    ·exact Rg<|Yo (Fb kf129_0 r)<|Yo (Lb 0 kk9 r)<|Bi fun R11 H12=>Fo (Cl [] impl_isKey_c H12 r r1) fun _=>Qs 2 r<|It (fun H14=>Of 6 (beq_tf H14) r r<|Yo (Pt H14 r)<|Nl<|Bg () []) fun H14=>Yg (gdA (beq_ff H14)) (Fb kf129_1 r)<|Yg (gdA (beq_ff H14)) (Lb 0 kk4 r)<|Yg (gdA (beq_ff H14)) (Fb kf129_2 r)<|Yg (gdA (beq_ff H14)) (Lb 0 kk9 r)<|Bi fun R15 H16=>Fg (gdA (beq_ff H14)) (Cl [] impl_isVal_c H16 r r1) fun _=>Qg 1 (beq_ff H14) r r<|Yo (Pf H14 r)<|Nl<|Bg () []
    exact Ne<|Wc r (fun H18=>Sr<|Qs 1 r<|Nx<|Wr<|Br<|Tr<|Er<|Br<|Jd<|Tr<|Re () []) fun H18=>Sk<|Bn<|Ne<|Rg<|Qs 2 r<|Nl<|Lg () []
   exact Wx<|Tx<|Ex<|Be<|Jg () []
  exact Ne<|Sr<|Qs 1 r<|Yo (Ln ke96 (Bc Z0) r)<|Bi fun R19 H20=>Fo (Cl [] impl_inRange_c H20 r r1) fun _=>Qs 1 r<|Nx<|Wr<|Re () []

/-- loop.example/g00950/impl.ReadBatch -/
noncomputable def impl_ReadBatch (s : List UInt8) : Option (List Op × Bool) :=
  (impl_reader_number ({ text := s, at_ := (0 : Int), bad := false : Reader })).bind fun R2 =>
  bindC (loopO (fun (S5 : List UInt8 × Int × Bool × Int × List Op) => (if (decide (S5.2.2.2.1 < goMin R2.1 (6 : Int))) = true then (some (!S5.2.2.1))
  else (some false)).bind (fun (T9 : Bool) =>
  if T9 = true then ((impl_reader_flag ({ text := S5.1, at_ := S5.2.1, bad := S5.2.2.1 : Reader })).bind fun R13 =>
  (impl_reader_short R13.2).bind fun R17 =>
  bindC (if (!R13.1) = true then ((impl_reader_short R17.2).bind fun R23 =>
  some (.go (R23.2.text, R23.2.at_, R23.2.bad, R23.1)))
  else (some (.go (R17.2.text, R17.2.at_, R17.2.bad, []))))
  (fun (T20 : List UInt8 × Int × Bool × List UInt8) => (app 40 S5.2.2.2.2 ([{ Key := R17.1, Del := R13.1, Val := T20.2.2.2 : Op }])).bind fun E28 =>
  some (.go (T20.1, T20.2.1, T20.2.2.1, IntKind.i64.wrap (S5.2.2.2.1 + (1 : Int)), E28))))
  else (some (.done (.go (S5.1, S5.2.1, S5.2.2.1, S5.2.2.2.2))))))
  (R2.2.text, R2.2.at_, R2.2.bad, (0 : Int), ([] : List Op)))
  (fun (T7 : List UInt8 × Int × Bool × List Op) => ((impl_reader_done ({ text := T7.1, at_ := T7.2.1, bad := T7.2.2.1 : Reader })).bind fun R32 =>
  if (!R32) = true then (some true)
  else (if (!(decide (((T7.2.2.2.length : Nat) : Int) = R2.1))) = true then (some true)
  else ((impl_BatchOk T7.2.2.2).bind fun R37 =>
  some (!R37)))).bind (fun (T30 : Bool) =>
  if T30 = true then (some ([], false))
  else (some (T7.2.2.2, true))))

theorem impl_ReadBatch_c {s : List UInt8} : Cn Tryz.prog 104 [strV s] [] [] (impl_ReadBatch s) (fun r (X : Value) => .tuple #[X, .bool r.2]) fun r X => [.own X (lc r.1)] := by
  unfold impl_ReadBatch
  refine Ci Tryz.func104 r r ?_
  rintro w S -
  refine Sr<|Qs 2 r<|Nx<|Sr<|Qs 1 r<|Yo (Bd kp171 kz171 (Pc r (Cp r)<|Pz) r)<|Fo (Al kz171 r) fun B1=>Fu (Sb 0 kk171 r (Cp r) r)<|Nx<|Sr<|Bi fun R2 H3=>Fo (Cl [0] impl_reader_number_c H3 r r1) fun _=>Qs 1 r<|Nx<|Sr<|Qs 1 r<|Nx<|Sq<|Sr<|Qs 1 r<|Nx<|Jn Value [4,5] [] (fun _ X=>[(6, X)]) (fun T X=>[.box B1 171 [strV T.1, iv T.2.1, .bool T.2.2.1], .own X (lc T.2.2.2)]) r2 r2 (?_) fun T7 X8=>?_
  ·refine Wb<|Nw 3<|Lp Value [4,5] [] (fun T X=>[(6, X), (7, iv T.2.2.2.1)]) (fun T X=>[.box B1 171 [strV T.1, iv T.2.1, .bool T.2.2.1], .own X (lc T.2.2.2.2)]) (.slice none 0 0) [1,0] r2 r2 fun S5 X6=>Sq<|Sq<|Jv [4,5,6,7] (fun T=>[(20, .bool T)]) r1 (Rg<|Qs 2 r<|Yo (Y.min2 r r)<|Qs 2 r<|It (fun H11=>Yg (gdA (beq_tt H11)) (Fb kf171_2 r)<|Yg (gdA (beq_tt H11)) (Lb 0 kk4 r)<|Qg 1 (beq_tt H11) r r<|Yo (Pt H11 r)<|Nl<|Bg () [0,0]) fun H11=>Of 3 (beq_ft H11) r r<|Yo (Pf H11 r)<|Nl<|Bg () [0,0]) fun T9=>Ne<|Wc r (fun H12=>?_) fun H12=>?_
   ·refine Sn<|Sq<|Wb<|Sr<|Bi fun R13 H14=>Fo (Cl [0] impl_reader_flag_c H14 r r1) fun _=>Yo (Bd kp129 kz129 (Pc r (Cp r)<|Pz) r)<|Fo (Al kz129 r) fun B16=>Fu (Sb 0 kk129 r (Cp r) r)<|Nx<|Sr<|Bi fun R17 H18=>Fo (Cl [1] impl_reader_short_c H18 r r1) fun _=>Yo (Fb kf129_0 r)<|Fu (Sb 1 kk9 r (Cp r) r)<|Nx<|Sq<|Sr<|Yo (Fb kf129_1 r)<|Yo (Lb 1 kk4 r)<|Qs 1 r<|Nx<|Jn Unit [4,5,6,7,8] [2] (fun _ _=>[]) (fun T _=>[.box B1 171 [strV T.1, iv T.2.1, .bool T.2.2.1], .box B16 129 [strV R17.1, .bool R13.1, strV T.2.2.2]]) r2 r2 (Wc r (fun H22=>Rg<|Bi fun R23 H24=>Fo (Cl [0] impl_reader_short_c H24 r r1) fun _=>Yo (Fb kf129_2 r)<|Fu (Sb 1 kk9 r (Cp r) r)<|Nl<|Jg () [2,0,0]) fun H22=>Sk<|Jg () [2,0,0]) fun T20 X21=>?_
    exact Ne<|Rg<|Qs 1 r<|Yo (Lb 2 kk129 r)<|Fo (Bs [{ Key := R17.1, Del := R13.1, Val := T20.2.2.2 : Op }] ke96 kz129) fun B26=>Bi fun E28 H29=>Fo (Ap [1] H29 ke96 kz129 r (Oc 0 r)) fun V27=>Qs 1 r<|Nl<|Bn<|Ne<|Rg<|Qs 3 r<|Nl<|Lg V27 [2,0]
   exact Wx<|Tx<|Ex<|Be<|Jg X6 [0,0]
  refine Ne<|Sq<|Sq<|Jb Unit [6] [1] (fun T _=>[(48, .bool T)]) (fun _ _=>[]) r2 r2 (?_) fun T30 X31=>?_
  ·exact Rg<|Bi fun R32 H33=>Fo (Cl [0] impl_reader_done_c H33 r r1) fun _=>Qs 2 r<|It (fun H35=>Of 4 (beq_tf H35) r r<|Yo (Pt H35 r)<|Qs 1 r<|Of 3 r r r<|Yo (Pt r r)<|Nl<|Bg () [1]) fun H35=>Qg 1 (beq_ff H35) r r<|Yg (gdA (beq_ff H35)) (Ln ke96 (Oc 1 r) r)<|Qg 2 (beq_ff H35) r r<|Yo (Pf H35 r)<|Qs 1 r<|It (fun H36=>Of 3 (beq_tf H36) r r<|Yo (Pt H36 r)<|Nl<|Bg () [1]) fun H36=>Qg 1 (beq_ff H36) r r<|Bi fun R37 H38=>Fg (gdA (beq_ff H36)) (Cl [] impl_BatchOk_c H38 r r1 ⟨(Oc 1 r),⟨⟩⟩) fun _=>Qg 1 (beq_ff H36) r r<|Yo (Pf H36 r)<|Nl<|Bg () [1]
  exact Ne<|Wc r (fun H40=>Sr<|Qs 2 r<|Nx<|Wr<|Tr<|Ni 3<|Re (.slice none 0 0) [0]) fun H40=>Sn<|Sr<|Qs 3 r<|Nx<|Wr<|Re X8 [0]

/-- loop.example/g00950/impl.OpenBatch -/
noncomputable def impl_OpenBatch (key : List UInt8) (boot : Int) (seq : Int) (s : List UInt8) : Option (List Op × Bool) :=
  (if (!(decide (((key.length : Nat) : Int) = (32 : Int)))) = true then (some true)
  else ((impl_isPlace boot seq).bind fun R4 =>
  if (!R4) = true then (some true)
  else (some (decide (((s.length : Nat) : Int) > (300 : Int)))))).bind (fun (T1 : Bool) =>
  if T1 = true then (some ([], false))
  else ((impl_rowNonce boot seq).bind fun R10 =>
  (impl_ChaStream key (0 : Int) R10 s).bind fun R13 =>
  (impl_ReadBatch R13).bind fun R16 =>
  some (R16.1, R16.2)))

theorem impl_OpenBatch_c {key : List UInt8} {boot : Int} {seq : Int} {s : List UInt8} : Cn Tryz.prog 79 [strV key, iv boot, iv seq, strV s] [] [] (impl_OpenBatch key boot seq s) (fun r (X : Value) => .tuple #[X, .bool r.2]) fun r X => [.own X (lc r.1)] := by
  unfold impl_OpenBatch
  refine Ci Tryz.func79 r r ?_
  rintro w S -
  refine Sr<|Qs 2 r<|Nx<|Sq<|Sq<|Jv [0,1,2,3] (fun T=>[(23, .bool T)]) r1 (?_) fun T1=>?_
  ·exact Rg<|Qs 1 r<|Yo (Y.slen ks9 r)<|Qs 2 r<|It (fun H3=>Of 4 (beq_tf H3) r r<|Yo (Pt H3 r)<|Qs 1 r<|Of 3 r r r<|Yo (Pt r r)<|Nl<|Bg () []) fun H3=>Qg 2 (beq_ff H3) r r<|Bi fun R4 H5=>Fg (gdA (beq_ff H3)) (Cl [] impl_isPlace_c H5 r r1) fun _=>Qg 1 (beq_ff H3) r r<|Yo (Pf H3 r)<|Qs 1 r<|It (fun H7=>Of 3 (beq_tf H7) r r<|Yo (Pt H7 r)<|Nl<|Bg () []) fun H7=>Qg 1 (beq_ff H7) r r<|Yg (gdA (beq_ff H7)) (Y.slen ks9 r)<|Qg 1 (beq_ff H7) r r<|Yo (Pf H7 r)<|Nl<|Bg () []
  exact Ne<|Wc r (fun H8=>Sr<|Qs 2 r<|Nx<|Wr<|Tr<|Ni 3<|Re (.slice none 0 0) [0]) fun H8=>Sn<|Sr<|Qs 3 r<|Bi fun R10 H11=>Fo (Cl [] impl_rowNonce_c H11 r r1) fun _=>Qs 1 r<|Bi fun R13 H14=>Fo (Cl [] impl_ChaStream_c H14 r r1) fun _=>Bi fun R16 H17=>Fo (Cl [] impl_ReadBatch_c H17 r r1) fun Y18=>Qs 4 r<|Nx<|Wr<|Re Y18 [0]

/-- slices.Reverse[[]loop.example/g00950/impl.Ent,loop.example/g00950/impl.Ent] -/
noncomputable def slices_Reverse_94167 (s : List Ent) : Option (List Ent) :=
  bindC (loopO (fun (S1 : Int × Int × List Ent) => if (decide (S1.1 < S1.2.1)) = true then ((idx S1.2.2 S1.2.1).bind fun E6 =>
  (idx S1.2.2 S1.1).bind fun E8 =>
  (idx (S1.2.2.set S1.1.toNat E6) S1.2.1).bind fun E10 =>
  some (.go (IntKind.i64.wrap (S1.1 + (1 : Int)), IntKind.i64.wrap (S1.2.1 - (1 : Int)), ((S1.2.2.set S1.1.toNat E6).set S1.2.1.toNat E8))))
  else (some (.done (.go S1.2.2))))
  ((0 : Int), IntKind.i64.wrap (((s.length : Nat) : Int) - (1 : Int)), s))
  (fun (T3 : List Ent) => some T3)

theorem slices_Reverse_94167_c {s : List Ent} {U0 : Value} : Cn Tryz.prog 156 [U0] [.own U0 (lc s)] [] (slices_Reverse_94167 s) (fun _ (_ : Unit) => .tuple #[]) fun r _ => [.own U0 (lc r)] := by
  unfold slices_Reverse_94167
  refine Ci Tryz.func156 r r ?_
  rintro w S -
  refine Sr<|Qs 1 r<|Yo (Ln ke54 (Oc 0 r) r)<|Qs 3 r<|Nx<|Jn Unit [] [] (fun _ _=>[]) (fun T _=>[.own U0 (lc T)]) r2 r2 (?_) fun T3 X4=>?_
  ·refine Wb<|Lp Unit [0] [] (fun T _=>[(2, iv T.1), (3, iv T.2.1)]) (fun T _=>[.own U0 (lc T.2.2)]) () [0] r2 r2 fun S1 X2=>Sq<|Sr<|Qs 3 r<|Nx<|Wc r (fun H5=>?_) fun H5=>?_
   ·refine Sn<|Sq<|Wb<|Wi fun E6 H7=>Wi fun E8 H9=>Wi fun E10 H11=>Jw Unit [0,2,3] [] (fun _=>[]) (fun _=>[.own U0 (lc ((S1.2.2.set S1.1.toNat E6).set S1.2.1.toNat E8))]) r1 r1 (?_) fun X13=>?_
    ·refine Dr [] r hMix<|Aq [0,1,2,3,4,5,8,9] [] r<|A2 6 10 (?_)<|?_
     ·refine Xy [] r (Ix ke54 (Oc 0 r) H7 r)<|A2 7 10 (?_)<|?_
      ·exact Xy [] r (Le kk102 (Oc 0 r) H7 r)<|A1 10<|Xy [] r (Ix ke54 (Oc 0 r) H9 r)<|A1 11<|Xy [] r (Le kk102 (Oc 0 r) H9 r)<|A1 12<|Xy [] r (Ix ke54 (Oc 0 r) H9 r)<|A1 13<|Xu [] r (Se E6 0 kk102 H9 r (Cp r) r)<|A1 14<|Xy [] r (Ix ke54 (Oc 0 r) H11 r)<|A1 15<|Xu [] r (Se E8 0 kk102 H11 r (Cp r) r)<|Az<|Bg () [0]
      exact Xy [] r (Ix ke54 (Oc 0 r) H9 r)<|A2 7 11 (Xy [] r (Le kk102 (Oc 0 r) H7 r)<|A1 11<|Xy [] r (Le kk102 (Oc 0 r) H9 r)<|A1 12<|Xy [] r (Ix ke54 (Oc 0 r) H9 r)<|A1 13<|Xu [] r (Se E6 0 kk102 H9 r (Cp r) r)<|A1 14<|Xy [] r (Ix ke54 (Oc 0 r) H11 r)<|A1 15<|Xu [] r (Se E8 0 kk102 H11 r (Cp r) r)<|Az<|Bg () [0])<|Xy [] r (Le kk102 (Oc 0 r) H9 r)<|A1 7<|Xy [] r (Le kk102 (Oc 0 r) H7 r)<|A1 12<|Xy [] r (Ix ke54 (Oc 0 r) H9 r)<|A1 13<|Xu [] r (Se E6 0 kk102 H9 r (Cp r) r)<|A1 14<|Xy [] r (Ix ke54 (Oc 0 r) H11 r)<|A1 15<|Xu [] r (Se E8 0 kk102 H11 r (Cp r) r)<|Az<|Bg () [0]
     refine Xy [] r (Ix ke54 (Oc 0 r) H9 r)<|A2 6 11 (?_)<|?_
     ·exact Xy [] r (Ix ke54 (Oc 0 r) H7 r)<|A2 7 11 (Xy [] r (Le kk102 (Oc 0 r) H7 r)<|A1 11<|Xy [] r (Le kk102 (Oc 0 r) H9 r)<|A1 12<|Xy [] r (Ix ke54 (Oc 0 r) H9 r)<|A1 13<|Xu [] r (Se E6 0 kk102 H9 r (Cp r) r)<|A1 14<|Xy [] r (Ix ke54 (Oc 0 r) H11 r)<|A1 15<|Xu [] r (Se E8 0 kk102 H11 r (Cp r) r)<|Az<|Bg () [0])<|Xy [] r (Le kk102 (Oc 0 r) H9 r)<|A1 7<|Xy [] r (Le kk102 (Oc 0 r) H7 r)<|A1 12<|Xy [] r (Ix ke54 (Oc 0 r) H9 r)<|A1 13<|Xu [] r (Se E6 0 kk102 H9 r (Cp r) r)<|A1 14<|Xy [] r (Ix ke54 (Oc 0 r) H11 r)<|A1 15<|Xu [] r (Se E8 0 kk102 H11 r (Cp r) r)<|Az<|Bg () [0]
     exact Xy [] r (Le kk102 (Oc 0 r) H9 r)<|A1 6<|Xy [] r (Ix ke54 (Oc 0 r) H7 r)<|A1 7<|Xy [] r (Le kk102 (Oc 0 r) H7 r)<|A1 12<|Xy [] r (Ix ke54 (Oc 0 r) H9 r)<|A1 13<|Xu [] r (Se E6 0 kk102 H9 r (Cp r) r)<|A1 14<|Xy [] r (Ix ke54 (Oc 0 r) H11 r)<|A1 15<|Xu [] r (Se E8 0 kk102 H11 r (Cp r) r)<|Az<|Bg () [0]
    exact Bn<|Ne<|Rg<|Qs 6 r<|Nl<|Lg () [0]
   exact Wx<|Tx<|Ex<|Be<|Jg () [0]
  exact Re () [0]

/-- slices.Insert[[]loop.example/g00950/impl.Ent,loop.example/g00950/impl.Ent] -/
noncomputable def slices_Insert_94167 (s : List Ent) (i : Int) (v : List Ent) : Option (List Ent) := ins 48 s i v

theorem slices_Insert_94167_con (s : List Ent) (i : Int) (v : List Ent) (V_s0 V_v0 : Value) (r : List Ent) (hm : slices_Insert_94167 s i v = some r) :
    Con Tryz.prog 133 [V_s0, .int .i64 i, V_v0] [.own V_s0 (lc s), .own V_v0 (lc v)] [] (fun X : Value => X) (fun X => [.own X (lc r)]) := by
  refine Con.intro (args := [V_s0, .int .i64 i, V_v0]) (n := 95) (val := fun _ (X : Value) => X) (post := fun r X => [.own X (lc r)]) (m := slices_Insert_94167 s i v) Tryz.func133 rfl rfl rfl hm ?_
  intro w S _
  unfold slices_Insert_94167
  refine TW.known fun r0 hr0 => ?_
  obtain ⟨h0, h1, h2, h3, rfl⟩ := ins_eq hr0
  obtain ⟨I, rfl⟩ := Int.eq_ofNat_of_zero_le h0
  rw [Int.toNat_natCast]
  have h1n : I ≤ s.length := by omega
  clear hr0 hm
  have wr : ∀ q : Nat, q ≤ 4611686018427387904 → IntKind.i64.wrap (q : Int) = (q : Int) := fun q hq => by rw [IntKind.wrap_i64]; omega
  have wr2 : ∀ a b : Nat, a + b ≤ 4611686018427387904 → IntKind.i64.wrap ((a : Int) + (b : Int)) = ((a + b : Nat) : Int) := fun a b hq => by rw [IntKind.wrap_i64]; omega
  obtain ⟨z0, hpc⟩ : ∃ z, piece s (I : Int) ((s.length : Nat) : Int) = some z := ⟨_, if_pos ⟨by omega, by omega, by omega⟩⟩
  refine TW.seq ?_
  refine TW.region ?_
  refine TO.y (Y.assign rfl) rfl rfl rfl ?_
  refine TO.nil ?_
  refine TE.next ?_
  refine TW.seq ?_
  refine TW.region ?_
  refine TO.y (Y.move rfl) rfl rfl rfl ?_
  refine TO.y (Y.move rfl) rfl rfl rfl ?_
  refine TO.y (Y.subs hpc ke54 (Can.own 0 rfl) rfl ⟨_, rfl⟩ rfl) rfl rfl rfl ?_
  refine TO.nil ?_
  refine TE.next ?_
  refine TW.seq ?_
  refine TW.region ?_
  refine TO.y (Y.move rfl) rfl rfl rfl ?_
  refine TO.y (Y.len (l := v) ke54 (Can.own 1 rfl) rfl) rfl rfl rfl ?_
  refine TO.y (Y.assign rfl) rfl rfl rfl ?_
  refine TO.nil ?_
  refine TE.next ?_
  refine TW.seq ?_
  refine TW.seq ?_
  refine TW.region ?_
  refine TO.y (Y.move rfl) rfl rfl rfl ?_
  refine TO.y (Y.eql rfl rfl) rfl rfl rfl ?_
  refine TO.nil ?_
  refine TE.next ?_
  by_cases hm0 : v = []
  · subst hm0
    rw [show s.take I ++ ([] ++ s.drop I) = s by simp]
    refine TW.cond_t rfl (by simp) ?_
    refine TW.seq ?_
    refine TW.region ?_
    refine TO.y (Y.move rfl) rfl rfl rfl ?_
    refine TO.y (Y.assign rfl) rfl rfl rfl ?_
    refine TO.nil ?_
    refine TE.next ?_
    refine TW.ret ?_
    refine TE.then_ret ?_
    exact TE.leaf fun _ _ hf_ hs_ => ret_any (rs := [.tmp 6]) (vs := [V_s0]) (.inl rfl) rfl ⟨rfl, trivial⟩ hf_ hs_ ⟨V_s0, rfl, hs_.pulls [0] rfl⟩
  · have hm1 : 0 < v.length := List.length_pos_iff.2 hm0
    refine TW.cond_f rfl (decide_eq_false (by omega)) ?_
    refine TW.skip ?_
    refine TE.next ?_
    refine TW.seq ?_
    refine TW.region ?_
    refine TO.y (Y.move rfl) rfl rfl rfl ?_
    refine TO.y (Y.len (l := s) ke54 (Can.own 0 rfl) rfl) rfl rfl rfl ?_
    refine TO.y (Y.assign rfl) rfl rfl rfl ?_
    refine TO.nil ?_
    refine TE.next ?_
    refine TW.seq ?_
    refine TW.seq ?_
    refine TW.region ?_
    refine TO.y (Y.move rfl) rfl rfl rfl ?_
    refine TO.y (Y.move rfl) rfl rfl rfl ?_
    refine TO.y (Y.eql rfl rfl) rfl rfl rfl ?_
    refine TO.nil ?_
    refine TE.next ?_
    by_cases hin : I = s.length
    · have happ : app 48 s v = some (s ++ v) := by unfold app; rw [if_pos ⟨h2, by omega⟩]
      rw [show s.take I ++ (v ++ s.drop I) = s ++ v by rw [hin]; simp]
      refine TW.cond_t rfl (decide_eq_true (by omega)) ?_
      refine TW.seq ?_
      refine TW.region ?_
      refine TO.y (Y.move rfl) rfl rfl rfl ?_
      refine TO.y (Y.move rfl) rfl rfl rfl ?_
      refine TO.ef (Ef.appN (α := Ent) (is' := []) [0, 0] happ ke54 kz102 rfl rfl rfl rfl rfl) rfl rfl rfl (fun X => ?_)
      refine TO.y (Y.assign rfl) rfl rfl rfl ?_
      refine TO.nil ?_
      refine TE.next ?_
      refine TW.ret ?_
      refine TE.then_ret ?_
      exact TE.leaf fun _ _ hf_ hs_ => ret_any (rs := [.tmp 6]) (vs := [X]) (.inl rfl) rfl ⟨rfl, trivial⟩ hf_ hs_ ⟨X, rfl, hs_.pulls [0] rfl⟩
    · refine TW.cond_f rfl (decide_eq_false (by omega)) ?_
      refine TW.skip ?_
      refine TE.next ?_
      refine TW.openRows (α := Ent) (by omega) hm1 ?_
      intro b cap e cur b2 cap2 e2 cur2 hV hU hbb hc1 hc2 hc3 hc4 hl1 hl2 ho1 ho2
      subst hV hU
      have hsz : Enc.sz Ent = 4 := rfl
      rw [hsz] at hl1 hl2 ho1 ho2
      have e1 := wr2 s.length v.length h3
      refine TW.seq ?_
      refine TW.seq ?_
      refine TW.region ?_
      refine TO.y (Y.move rfl) rfl rfl rfl ?_
      refine TO.y (Y.move rfl) rfl rfl rfl ?_
      refine TO.y (Y.add rfl rfl) rfl rfl rfl ?_
      refine TO.y (Y.move rfl) rfl rfl rfl ?_
      refine TO.y (Y.capRaw ke54 rfl) rfl rfl rfl ?_
      refine TO.y (Y.gtr rfl rfl) rfl rfl rfl ?_
      refine TO.nil ?_
      refine TE.next ?_
      by_cases hroom : cap < s.length + v.length
      · refine TW.cond_t rfl (by rw [e1]; exact decide_eq_true (by omega)) ?_
        refine TW.seq ?_
        refine TW.region ?_
        refine TO.y (Y.move rfl) rfl rfl rfl ?_
        refine TO.y (Y.move rfl) rfl rfl rfl ?_
        refine TO.y (Y.toRaw (hi := I) ke54 (by omega) rfl rfl rfl) rfl rfl rfl ?_
        refine TO.y (Y.move rfl) rfl rfl rfl ?_
        refine TO.y (Y.move rfl) rfl rfl rfl ?_
        refine TO.y (Y.add rfl rfl) rfl rfl rfl ?_
        refine TO.y (Y.move rfl) rfl rfl rfl ?_
        refine TO.y (Y.sub rfl rfl) rfl rfl rfl ?_
        have e2 : IntKind.i64.wrap (IntKind.i64.wrap ((s.length : Int) + (v.length : Int)) - (I : Int)) = ((s.length + v.length - I : Nat) : Int) := by rw [e1, IntKind.wrap_i64]; omega
        refine TO.ef (Ef.rawGrow (N := s.length + v.length) (q := s.length + v.length - I) 0 ke54 ki3 kz102 rfl rfl rfl rfl rfl e2 (by omega) (by omega) hl1 (by omega) hroom (by omega) h2) rfl rfl rfl (fun X => ?_)
        refine TO.y (Y.assign rfl) rfl rfl rfl ?_
        refine TO.nil ?_
        refine TE.next ?_
        obtain ⟨⟨⟨g, gc⟩, ge, zs⟩, hz1, hz2, hz3⟩ := X
        dsimp only at hz1 hz2 hz3 ⊢
        obtain ⟨q1, q2, q3, q4, q5, q6⟩ := insA (G := gc) (zs := zs) h1n hc1 hc3 hl1 hl2 hz1 hz2
        have m1 : 0 + I * 4 + v.length * 4 ≤ gc * 4 := by omega
        have m2 : 0 + (I + v.length) * 4 + (s.length - I) * 4 ≤ gc * 4 := by omega
        have m3 : 0 + v.length * 4 ≤ cap2 * 4 := by omega
        have m4 : 0 + I * 4 + (s.length - I) * 4 ≤ cap * 4 := by omega
        refine TW.seq ?_
        refine TW.region ?_
        refine TO.y (Y.move rfl) rfl rfl rfl ?_
        refine TO.y (Y.move rfl) rfl rfl rfl ?_
        refine TO.y (Y.fromRaw (lo := I) ke54 (by omega) (by omega) rfl rfl rfl) rfl rfl rfl ?_
        refine TO.y (Y.move rfl) rfl rfl rfl ?_
        refine TO.ef (Ef.rawCopy (sl := v.length) 0 2 ke54 rfl rfl rfl rfl (by omega) (by rw [q3]; exact m1) (Nat.le_trans m3 hl2) (by rw [List.drop_zero]; exact ho2) rfl) rfl rfl rfl (fun _ => ?_)
        refine TO.nil ?_
        refine TE.next ?_
        refine TW.seq ?_
        refine TW.draw (isH := []) hMix ?_
        refine TA.y 0 [] rfl (Y.move rfl) rfl rfl rfl (by kernel_rfl) rfl ?_
        refine TA.y 1 [] rfl (Y.move rfl) rfl rfl rfl (by kernel_rfl) rfl ?_
        refine TA.y 2 [] rfl (Y.move rfl) rfl rfl rfl (by kernel_rfl) rfl ?_
        refine TA.y 3 [] rfl (Y.add rfl rfl) rfl rfl rfl (by kernel_rfl) rfl ?_
        refine TA.y 4 [] rfl (Y.fromRaw (lo := I + v.length) ke54 (by omega) (by omega) (wr2 I v.length (by omega)) rfl rfl) rfl rfl rfl (by kernel_rfl) rfl ?_
        refine TA.y 5 [] rfl (Y.move rfl) rfl rfl rfl (by kernel_rfl) rfl ?_
        refine TA.y 6 [] rfl (Y.move rfl) rfl rfl rfl (by kernel_rfl) rfl ?_
        refine TA.y 7 [] rfl (Y.fromRaw (lo := I) ke54 (by omega) (by omega) rfl rfl rfl) rfl rfl rfl (by kernel_rfl) rfl ?_
        refine TA.one 8 (by kernel_rfl) ?_
        refine TX.ef [] rfl (Ef.rawCopy (sl := s.length - I) 0 1 ke54 rfl rfl rfl rfl (by omega) (by rw [q4]; exact m2) (Nat.le_trans m4 hl1) (ins_one ho1 h1n) rfl) rfl rfl rfl (fun _ => rfl) (fun _ => ?_)
        refine TA.nil (by kernel_rfl) ?_
        refine TE.next ?_
        refine TW.seq ?_
        refine TW.region ?_
        refine TO.y (Y.move rfl) rfl rfl rfl ?_
        refine TO.y (Y.assign rfl) rfl rfl rfl ?_
        refine TO.nil ?_
        refine TE.next ?_
        refine TW.ret ?_
        refine TE.then_ret ?_
        refine TE.ghost (Gh.fold (α := Ent) (l := s) (k := v) (i := I) [0, 2, 2, 0, 0] rfl h1n hz2 hz3 (Nat.le_of_eq q5.symm) q6) (fun _ => ?_)
        exact TE.leaf fun _ _ hf_ hs_ => ret_any (rs := [.tmp 6]) (vs := [.slice (some ⟨g, 0, none⟩) (s.length + v.length) gc]) (.inl rfl) rfl ⟨rfl, trivial⟩ hf_ hs_ ⟨(.slice (some ⟨g, 0, none⟩) (s.length + v.length) gc), rfl, hs_.pulls [0] rfl⟩
      · refine TW.cond_f rfl (by rw [e1]; exact decide_eq_false (by omega)) ?_
        refine TW.skip ?_
        refine TE.next ?_
        refine TW.seq ?_
        refine TW.region ?_
        refine TO.y (Y.move rfl) rfl rfl rfl ?_
        refine TO.y (Y.move rfl) rfl rfl rfl ?_
        refine TO.y (Y.move rfl) rfl rfl rfl ?_
        refine TO.y (Y.add rfl rfl) rfl rfl rfl ?_
        refine TO.y (Y.toRaw (hi := s.length + v.length) ke54 (by omega) e1 rfl rfl) rfl rfl rfl ?_
        refine TO.y (Y.assign rfl) rfl rfl rfl ?_
        refine TO.nil ?_
        refine TE.next ?_
        obtain ⟨q1, q2, q3, q4, q5⟩ := insB h1n (by omega) hc3 hl1 hl2
        have m1 : 0 + I * 4 + v.length * 4 ≤ cap * 4 := by omega
        have m2 : 0 + (I + v.length) * 4 + (s.length - I) * 4 ≤ cap * 4 := by omega
        have m3 : 0 + v.length * 4 ≤ cap2 * 4 := by omega
        have m4 : 0 + I * 4 + (s.length - I) * 4 ≤ cap * 4 := by omega
        have hne : cur ≠ [] := by intro e; rw [e] at hl1; simp at hl1; omega
        refine TW.seq ?_
        refine TW.seq ?_
        refine TW.region ?_
        refine TO.y (Y.move rfl) rfl rfl rfl ?_
        refine TO.y (Y.move rfl) rfl rfl rfl ?_
        refine TO.y (Y.move rfl) rfl rfl rfl ?_
        refine TO.y (Y.move rfl) rfl rfl rfl ?_
        refine TO.y (Y.add rfl rfl) rfl rfl rfl ?_
        refine TO.y (Y.fromRaw (lo := I + v.length) ke54 (by omega) (by omega) (wr2 I v.length (by omega)) rfl rfl) rfl rfl rfl ?_
        refine TO.ef (Ef.overlaps (tr := 4) 1 0 Tryz.func148 (by kernel_rfl) (by kernel_rfl) (by kernel_rfl) (by kernel_rfl) ke54 rfl rfl (Ne.symm hbb) rfl rfl hne) rfl rfl rfl (fun _ => ?_)
        refine TO.y (Y.not rfl) rfl rfl rfl ?_
        refine TO.nil ?_
        refine TE.next ?_
        refine TW.cond_true rfl ?_
        refine TW.seq ?_
        refine TW.draw (isH := []) hMix ?_
        refine TA.y 0 [] rfl (Y.move rfl) rfl rfl rfl (by kernel_rfl) rfl ?_
        refine TA.y 1 [] rfl (Y.move rfl) rfl rfl rfl (by kernel_rfl) rfl ?_
        refine TA.y 2 [] rfl (Y.move rfl) rfl rfl rfl (by kernel_rfl) rfl ?_
        refine TA.y 3 [] rfl (Y.add rfl rfl) rfl rfl rfl (by kernel_rfl) rfl ?_
        refine TA.y 4 [] rfl (Y.fromRaw (lo := I + v.length) ke54 (by omega) (by omega) (wr2 I v.length (by omega)) rfl rfl) rfl rfl rfl (by kernel_rfl) rfl ?_
        refine TA.y 5 [] rfl (Y.move rfl) rfl rfl rfl (by kernel_rfl) rfl ?_
        refine TA.y 6 [] rfl (Y.move rfl) rfl rfl rfl (by kernel_rfl) rfl ?_
        refine TA.y 7 [] rfl (Y.fromRaw (lo := I) ke54 (by omega) (by omega) rfl rfl rfl) rfl rfl rfl (by kernel_rfl) rfl ?_
        refine TA.one 8 (by kernel_rfl) ?_
        refine TX.ef [] rfl (Ef.rawCopy (sl := s.length - I) 0 0 ke54 rfl rfl rfl rfl (by omega) (Nat.le_trans m2 hl1) (Nat.le_trans m4 hl1) (ins_one ho1 h1n) rfl) rfl rfl rfl (fun _ => rfl) (fun _ => ?_)
        refine TA.nil (by kernel_rfl) ?_
        refine TE.next ?_
        refine TW.seq ?_
        refine TW.region ?_
        refine TO.y (Y.move rfl) rfl rfl rfl ?_
        refine TO.y (Y.move rfl) rfl rfl rfl ?_
        refine TO.y (Y.fromRaw (lo := I) ke54 (by omega) (by omega) rfl rfl rfl) rfl rfl rfl ?_
        refine TO.y (Y.move rfl) rfl rfl rfl ?_
        refine TO.ef (Ef.rawCopy (sl := v.length) 0 1 ke54 rfl rfl rfl rfl (by omega) (by rw [q3]; exact Nat.le_trans m1 hl1) (Nat.le_trans m3 hl2) (by rw [List.drop_zero]; exact ho2) rfl) rfl rfl rfl (fun _ => ?_)
        refine TO.nil ?_
        refine TE.next ?_
        refine TW.seq ?_
        refine TW.region ?_
        refine TO.y (Y.move rfl) rfl rfl rfl ?_
        refine TO.y (Y.assign rfl) rfl rfl rfl ?_
        refine TO.nil ?_
        refine TE.next ?_
        refine TW.ret ?_
        refine TE.then_ret ?_
        refine TE.ghost (Gh.fold (α := Ent) (l := s) (k := v) (i := I) [0, 1, 1, 0] rfl h1n (by omega) hc2 (by rw [q4]; exact hl1) q5) (fun _ => ?_)
        exact TE.leaf fun _ _ hf_ hs_ => ret_any (rs := [.tmp 6]) (vs := [.slice (some ⟨b, 0, none⟩) (s.length + v.length) cap]) (.inl rfl) rfl ⟨rfl, trivial⟩ hf_ hs_ ⟨(.slice (some ⟨b, 0, none⟩) (s.length + v.length) cap), rfl, hs_.pulls [0] rfl⟩
theorem slices_Insert_94167_c {s : List Ent} {i : Int} {v : List Ent} {V_s0 V_v0 : Value} : Cn Tryz.prog 133 [V_s0, iv i, V_v0] [.own V_s0 (lc s), .own V_v0 (lc v)] [] (slices_Insert_94167 s i v) (fun _ (X : Value) => X) fun r X => [.own X (lc r)] := ⟨by kernel_rfl, fun _ h => slices_Insert_94167_con s i v _ _ _ h⟩

/-- slices.BinarySearchFunc[[]loop.example/g00950/impl.Ent,loop.example/g00950/impl.Ent,loop.example/g00950/impl.Ent] -/
noncomputable def slices_BinarySearchFunc_39542_at_impl_compareEnts (x : List Ent) (target : Ent) : Option (Int × Bool) :=
  bindC (loopO (fun (S2 : Int × Int) => if (decide (S2.1 < S2.2)) = true then ((idx x (IntKind.i64.wrap (ishr .u64 (IntKind.u64.wrap (IntKind.i64.wrap (S2.1 + S2.2))) (1 : Int)))).bind fun E7 =>
  (impl_compareEnts E7 target).bind fun R9 =>
  bindC (if (decide (R9 < (0 : Int))) = true then (some (.go (IntKind.i64.wrap (IntKind.i64.wrap (ishr .u64 (IntKind.u64.wrap (IntKind.i64.wrap (S2.1 + S2.2))) (1 : Int)) + (1 : Int)), S2.2)))
  else (some (.go (S2.1, IntKind.i64.wrap (ishr .u64 (IntKind.u64.wrap (IntKind.i64.wrap (S2.1 + S2.2))) (1 : Int))))))
  (fun (T12 : Int × Int) => some (.go (T12.1, T12.2))))
  else (some (.done (.go S2.1))))
  ((0 : Int), ((x.length : Nat) : Int)))
  (fun (T4 : Int) => (if (decide (T4 < ((x.length : Nat) : Int))) = true then ((idx x T4).bind fun E18 =>
  (impl_compareEnts E18 target).bind fun R20 =>
  some (decide (R20 = (0 : Int))))
  else (some false)).bind (fun (T15 : Bool) =>
  some (T4, T15)))

theorem slices_BinarySearchFunc_39542_at_impl_compareEnts_c {x : List Ent} {target : Ent} {U0 : Value} : Cn Tryz.prog 132 [U0, .agg #[strV target.Key, iv target.Seq, .bool target.Del, strV target.Val], .func (.func 120) #[] #[]] [] [(U0, lc x)] (slices_BinarySearchFunc_39542_at_impl_compareEnts x target) (fun r (_ : Unit) => .tuple #[iv r.1, .bool r.2]) fun _ _ => [] := by
  unfold slices_BinarySearchFunc_39542_at_impl_compareEnts
  refine Ci Tryz.func132 r r ?_
  rintro w S ⟨Z0,-⟩
  refine Sr<|Fo (Bx r (Cp r)) fun B1=>Qs 2 r<|Nx<|Sr<|Qs 1 r<|Yo (Ln ke54 (Bc Z0) r)<|Qs 1 r<|Nx<|Sr<|Qs 3 r<|Nx<|Sq<|Ju [0,2,4,8] (fun T=>[(9, iv T)]) r1 (?_) fun T4=>?_
  ·refine Wb<|Lu [0,2,4,8] (fun T=>[(9, iv T.1), (10, iv T.2)]) r1 fun S2=>Sq<|Sr<|Qs 3 r<|Nx<|Wc r (fun H6=>?_) fun H6=>?_
   ·exact Sn<|Wb<|Sr<|Qs 3 r<|Yo (Y.conv ki3 ki182 r)<|Yo (Y.shr (by decide) r r)<|Yo (Y.conv ki182 ki3 r)<|Qs 1 r<|Nx<|Sq<|Dr [0] r hMix<|Aq [0,1,2] [0] r<|Ai fun E7 H8=>Ay 3 [0] r (Ix ke54 (Bc Z0) H8 r)<|Ay 4 [0] r (Le kk102 (Bc Z0) H8 r)<|Ay 5 [0] r (Lb 0 kk102 r)<|Ai fun R9 H10=>A1 6<|Xe [0] r (Cw [] impl_compareEnts_c H10 r r r1) fun _=>Aq [7] [0] r<|Az<|Ne<|Ju [0,2,4,8] (fun T=>[(9, iv T.1), (10, iv T.2)]) r1 (Wc r (fun H14=>Rg<|Qs 3 r<|Nl<|Jg () [0]) fun H14=>Rg<|Qs 2 r<|Nl<|Jg () [0]) fun T12=>Bn<|Lg () [0]
   exact Wx<|Tx<|Ex<|Be<|Jg () [0]
  refine Ne<|Sq<|Jb Unit [] [] (fun T _=>[(6, iv T4), (7, .bool T)]) (fun _ _=>[]) r2 r2 (?_) fun T15 X16=>?_
  ·refine Dr [0] r hMix<|Aq [0,1,2,3,4] [0] r<|Ia (fun H17=>?_) fun H17=>?_
   ·exact Ag 5 [0] (gdA (beq_tt H17)) r (Y.move r)<|Ag 6 [0] (gdA (beq_tt H17)) r (Y.move r)<|Ag 7 [0] (gdA (beq_tt H17)) r (Y.move r)<|Ai fun E18 H19=>Ag 8 [0] (gdA (beq_tt H17)) r (Ix ke54 (Bc Z0) H19 r)<|Ag 9 [0] (gdA (beq_tt H17)) r (Le kk102 (Bc Z0) H19 r)<|Ag 10 [0] (gdA (beq_tt H17)) r (Lb 0 kk102 r)<|Ai fun R20 H21=>A1 11<|Xeg [0] (gdA (beq_tt H17)) r (Cw [] impl_compareEnts_c H21 r r r1) fun _=>Ag 12 [0] (gdA (beq_tt H17)) r (Y.eql r r)<|Ay 13 [0] r (Pt H17 r)<|Aq [14,15] [0] r<|Az<|Bg () []
   exact Ax [5,6,7,8,9,10,11,12] [0] (beq_ft H17) r r<|Ay 13 [0] r (Pf H17 r)<|Aq [14,15] [0] r<|Az<|Bg () []
  exact Ne<|Wr<|Re () []

/-- loop.example/g00950/impl.put -/
noncomputable def impl_put (l : List Ent) (e : Ent) : Option (List Ent × Bool) :=
  (slices_BinarySearchFunc_39542_at_impl_compareEnts l e).bind fun R2 =>
  if R2.2 = true then (some (l, false))
  else ((slices_Insert_94167 l R2.1 ([e])).bind fun R7 =>
  some (R7, true))

theorem impl_put_c {l : List Ent} {e : Ent} {U0 : Value} : Cn Tryz.prog 109 [U0, .agg #[strV e.Key, iv e.Seq, .bool e.Del, strV e.Val]] [.own U0 (lc l)] [] (impl_put l e) (fun r (X : Value) => .tuple #[X, .bool r.2]) fun r X => [.own X (lc r.1)] := by
  unfold impl_put
  refine Ci Tryz.func109 r r ?_
  rintro w S -
  exact Sr<|Fo (Bx r (Cp r)) fun B1=>Qs 2 r<|Nx<|Sr<|Qs 1 r<|Yo (Lb 0 kk102 r)<|Bi fun R2 H3=>Fo (Cl [] slices_BinarySearchFunc_39542_at_impl_compareEnts_c H3 r r1 ⟨(Oc 1 r),⟨⟩⟩) fun _=>Qs 5 r<|Nx<|Sq<|Sr<|Qs 1 r<|Nx<|Wc r (fun H5=>Sr<|Qs 3 r<|Nx<|Wr<|Tr<|Re U0 [1]) fun H5=>Sn<|Sr<|Qs 2 r<|Yo (Lb 0 kk102 r)<|Fo (Bs [e] ke54 kz102) fun B6=>Bi fun R7 H8=>Fo (Cl [2, 0] slices_Insert_94167_c H8 r r1) fun Y9=>Qs 2 r<|Nx<|Wr<|Re Y9 [0]

/-- (*loop.example/g00950/impl.Eng).engPut$1 -/
noncomputable def impl_Eng_engPut_1 (x : Op) (c0_ : Op) : Option Bool :=
  some (decide (x.Key = c0_.Key))

theorem impl_Eng_engPut_1_c {x : Op} {c0_ : Op} {U0 : Nat} : Cn Tryz.prog 108 [.agg #[strV x.Key, .bool x.Del, strV x.Val], pt U0] [.box U0 129 [strV c0_.Key, .bool c0_.Del, strV c0_.Val]] [] (impl_Eng_engPut_1 x c0_) (fun r (_ : Unit) => .bool r) fun _ _ => [.box U0 129 [strV c0_.Key, .bool c0_.Del, strV c0_.Val]] := by
  unfold impl_Eng_engPut_1
  refine Ci Tryz.func108 r r ?_
  rintro w S -
  exact Sr<|Fo (Bx r (Cp r)) fun B1=>Qs 1 r<|Nx<|Sr<|Yo (Fb kf129_0 r)<|Yo (Lb 0 kk9 r)<|Yo (Fb kf129_0 r)<|Yo (Lb 1 kk9 r)<|Qs 2 r<|Nx<|Wr<|Re () [1]

end Go.Proofs.YtkheimgjallpkaaGreat
