/-
  The functions that a law reaches, each as a pure function, with the proof that the program computes it, and the step from a pure law to the given statement. Conditions: none.
-/
import Derived.Test.YtmigafjpdoeicaaGreatQ5
set_option linter.unusedVariables false
set_option maxRecDepth 100000
set_option maxHeartbeats 4000000
namespace Go.Proofs.YtmigafjpdoeicaaGreat
open Go Sl
noncomputable def spec_l21Do (m : Model) (c : Call) : Option (Model × Reply) :=
  ((spec_l1In c.Kind (1 : Int) (4 : Int)).bind fun R7 =>
  if R7 = true then (some true)
  else ((spec_l1In c.Kind (12 : Int) (14 : Int)).bind fun R11 =>
  some R11)).bind (fun (T5 : Bool) =>
  if T5 = true then ((spec_l21Owner m c).bind fun R15 =>
  some (R15.1, R15.2))
  else ((spec_l1In c.Kind (5 : Int) (11 : Int)).bind fun R20 =>
  if (!R20) = true then ((spec_l21Code (1 : Int)).bind fun R24 =>
  some (m, R24))
  else ((spec_ReadToken m.Secret c.Token).bind fun R27 =>
  (spec_l21At m.Tens R27.1).bind fun R30 =>
  (if (!R27.2.2) = true then (some true)
  else (if (decide (R30 < (0 : Int))) = true then (some true)
  else ((idx m.Tens R30).bind fun E37 =>
  some (!(decide (E37.Epoch = R27.2.1)))))).bind (fun (T33 : Bool) =>
  if T33 = true then ((spec_l21Code (2 : Int)).bind fun R41 =>
  some (m, R41))
  else ((spec_l21Tenant m R30 c).bind fun R44 =>
  some (R44.1, R44.2))))))
theorem spec_l21Do_c {m : Model} {c : Call} {U0 U1 U2 U3 U4 : Value} : Cn Tryz.prog 29 [.agg #[strV m.Secret, iv m.Shares.Size, U0, U1, U2, U3], .agg #[iv c.Kind, strV c.Token, iv c.Tenant, iv c.N, strV c.Key, strV c.To, U4]] [.own U0 (lc m.Shares.List), .own U1 (lc m.Tens), .own U2 (lc m.Base), .own U3 (lc m.Rows)] [(U4, lc c.Ops)] (spec_l21Do m c) (fun r (X : Value × Value × Value × Value × Value) => .tuple #[.agg #[strV r.1.Secret, iv r.1.Shares.Size, X.1, X.2.1, X.2.2.1, X.2.2.2.1], .agg #[iv r.2.Code, iv r.2.N, strV r.2.Text, X.2.2.2.2]]) fun r X => [.own X.1 (lc r.1.Shares.List), .own X.2.1 (lc r.1.Tens), .own X.2.2.1 (lc r.1.Base), .own X.2.2.2.1 (lc r.1.Rows), .own X.2.2.2.2 (lc r.2.List)] := by
  unfold spec_l21Do
  refine Ci Tryz.func29 r r ?_
  rintro w S ⟨Z0,-⟩
  refine Sr<|Fo (Bx r (Ca ⟨Op',Op',Ow' 0,Ow' 1,Ow' 2,Ow' 3,⟨⟩⟩)) fun B1=>Fo (Bx r (Ca ⟨Op',Op',Op',Op',Op',Op',Ob Z0,⟨⟩⟩)) fun B2=>Fo (Al kz36 r) fun B3=>Fo (Al kz41 r) fun B4=>Nx<|Sq<|Sq<|Jv [2,3,4,5] (fun T=>[(21, .bool T)]) r1 (?_) fun T5=>?_
  ·exact Rg<|Yo (Fb kf46_0 r)<|Yo (Lb 2 kk3 r)<|Bi fun R7 H8=>Fo (Cl [] spec_l1In_c H8 r r1) fun _=>Qs 1 r<|It (fun H10=>Of 3 (beq_tf H10) r r<|Yo (Pt H10 r)<|Nl<|Bg () [0,0,0,0,0,0,0,0]) fun H10=>Yg (gdA (beq_ff H10)) (Fb kf46_0 r)<|Yg (gdA (beq_ff H10)) (Lb 2 kk3 r)<|Bi fun R11 H12=>Fg (gdA (beq_ff H10)) (Cl [] spec_l1In_c H12 r r1) fun _=>Yo (Pf H10 r)<|Nl<|Bg () [0,0,0,0,0,0,0,0]
  refine Ne<|Wc r (fun H14=>?_) fun H14=>?_
  ·exact Sr<|Yo (Lb 3 kk36 r)<|Yo (Lb 2 kk46 r)<|Bi fun R15 H16=>Fo (Cl [4, 4, 4, 4] spec_l21Owner_c H16 r r1 ⟨(Bc Z0),⟨⟩⟩) fun Y17=>Qs 3 r<|Fo (Al kz36 r) fun B18=>Fo (Al kz41 r) fun B19=>Fu (Sb 1 kk36 r (Ca ⟨Op',Op',Ow' 2,Ow' 3,Ow' 4,Ow' 5,⟨⟩⟩) r)<|Fu (Sb 0 kk41 r (Ca ⟨Op',Op',Op',Ow' 6,⟨⟩⟩) r)<|Nx<|Sq<|Dr [0,0,0,0,0,0,0,2,2] r hMix<|Ay 0 [0,0,0,0,0,0,0,2,2] r (Lb 1 kk36 r)<|Ay 1 [0,0,0,0,0,0,0,2,2] r (Lb 0 kk41 r)<|A1 2<|Xu [0,0,0,0,0,0,0,2,2] r (Sb 8 kk36 r (Ca ⟨Op',Op',Ow' 2,Ow' 3,Ow' 4,Ow' 5,⟨⟩⟩) r)<|A1 3<|Xu [0,0,0,0,0,0,0,2,2] r (Sb 7 kk41 r (Ca ⟨Op',Op',Op',Ow' 6,⟨⟩⟩) r)<|Az<|Ne<|Wr<|Tr<|TE.leaf fun _ _ hf_ hs_ => ret_any (rs := [.cell 4 36, .cell 5 41]) (vs := [.agg #[strV R15.1.Secret, iv R15.1.Shares.Size, Y17.1, Y17.2.1, Y17.2.2.1, Y17.2.2.2.1], .agg #[iv R15.2.Code, iv R15.2.N, strV R15.2.Text, Y17.2.2.2.2]]) (.inl r) r (RV.cell 8 r r kk36 r (RV.cell 7 r r kk41 r ⟨⟩)) hf_ hs_ ⟨(Y17.1, Y17.2.1, Y17.2.2.1, Y17.2.2.2.1, Y17.2.2.2.2), r, hs_.pulls [2, 2, 2, 2, 2] r⟩
  refine Sn<|Sq<|Sr<|Yo (Fb kf46_0 r)<|Yo (Lb 2 kk3 r)<|Bi fun R20 H21=>Fo (Cl [] spec_l1In_c H21 r r1) fun _=>Qs 1 r<|Nx<|Wc r (fun H23=>?_) fun H23=>?_
  ·exact Sq<|Dr [2,2,2,2,2,2] r hMix<|Ay 0 [2,2,2,2,2,2] r (Lb 1 kk36 r)<|Ai fun R24 H25=>A1 1<|Xe [3,3,3,3,3,3] r (Cl [] spec_l21Code_c H25 r r1) fun Y26=>A1 2<|Xu [3,3,3,3,3,3] r (Sb 2 kk36 r (Ca ⟨Op',Op',Ow' 5,Ow' 6,Ow' 7,Ow' 8,⟨⟩⟩) r)<|A1 3<|Xu [3,3,3,3,3,3] r (Sb 1 kk41 r (Ca ⟨Op',Op',Op',Ow' 0,⟨⟩⟩) r)<|Az<|Ne<|Wr<|Tr<|TE.leaf fun _ _ hf_ hs_ => ret_any (rs := [.cell 4 36, .cell 5 41]) (vs := [.agg #[strV m.Secret, iv m.Shares.Size, U0, U1, U2, U3], .agg #[iv R24.Code, iv R24.N, strV R24.Text, Y26]]) (.inl r) r (RV.cell 2 r r kk36 r (RV.cell 1 r r kk41 r ⟨⟩)) hf_ hs_ ⟨(U0, U1, U2, U3, Y26), r, hs_.pulls [5, 5, 5, 5, 0] r⟩
  refine Sn<|Sr<|Yo (Fb kf36_0 r)<|Yo (Lb 3 kk9 r)<|Yo (Fb kf46_1 r)<|Yo (Lb 2 kk9 r)<|Bi fun R27 H28=>Fo (Cl [] spec_ReadToken_c H28 r r1) fun _=>Qs 7 r<|Nx<|Sr<|Yo (Fb kf36_2 r)<|Yo (Lb 3 kk33 r)<|Qs 1 r<|Bi fun R30 H31=>Fo (Cl [] spec_l21At_c H31 r r1 ⟨(Oc 5 r),⟨⟩⟩) fun _=>Qs 1 r<|Nx<|Sq<|Sq<|Jv [2,3,4,5,11] (fun T=>[(64, .bool T)]) r1 (?_) fun T33=>?_
  ·exact Rg<|Qs 3 r<|It (fun H35=>Of 2 (beq_tf H35) r r<|Yo (Pt H35 r)<|Qs 1 r<|Of 8 r r r<|Yo (Pt r r)<|Nl<|Bg () [0,0,0,0,0,0,0,0]) fun H35=>Qg 2 (beq_ff H35) r r<|Yo (Pf H35 r)<|Qs 1 r<|It (fun H36=>Of 8 (beq_tf H36) r r<|Yo (Pt H36 r)<|Nl<|Bg () [0,0,0,0,0,0,0,0]) fun H36=>Yg (gdA (beq_ff H36)) (Fb kf36_2 r)<|Yg (gdA (beq_ff H36)) (Lb 3 kk33 r)<|Qg 1 (beq_ff H36) r r<|Bi fun E37 H38=>Yg (gdA (beq_ff H36)) (Ix ke33 (Oc 5 r) H38 r)<|TO.fact (ptr_of (Can.own 5 r) H38) fun H39=>Yg (gdA (beq_ff H36)) (Fp kf90_1 H39 r)<|Yg (gdA (beq_ff H36)) (Le kk3 (Oc 5 r) H38 r)<|Qg 2 (beq_ff H36) r r<|Yo (Pf H36 r)<|Nl<|Bg () [0,0,0,0,0,0,0,0]
  refine Ne<|Wc r (fun H40=>?_) fun H40=>?_
  ·exact Sq<|Dr [2,2,2,2,2,2] r hMix<|Ay 0 [2,2,2,2,2,2] r (Lb 1 kk36 r)<|Ai fun R41 H42=>A1 1<|Xe [3,3,3,3,3,3] r (Cl [] spec_l21Code_c H42 r r1) fun Y43=>A1 2<|Xu [3,3,3,3,3,3] r (Sb 2 kk36 r (Ca ⟨Op',Op',Ow' 5,Ow' 6,Ow' 7,Ow' 8,⟨⟩⟩) r)<|A1 3<|Xu [3,3,3,3,3,3] r (Sb 1 kk41 r (Ca ⟨Op',Op',Op',Ow' 0,⟨⟩⟩) r)<|Az<|Ne<|Wr<|Tr<|TE.leaf fun _ _ hf_ hs_ => ret_any (rs := [.cell 4 36, .cell 5 41]) (vs := [.agg #[strV m.Secret, iv m.Shares.Size, U0, U1, U2, U3], .agg #[iv R41.Code, iv R41.N, strV R41.Text, Y43]]) (.inl r) r (RV.cell 2 r r kk36 r (RV.cell 1 r r kk41 r ⟨⟩)) hf_ hs_ ⟨(U0, U1, U2, U3, Y43), r, hs_.pulls [5, 5, 5, 5, 0] r⟩
  exact Sn<|Sr<|Yo (Lb 3 kk36 r)<|Qs 1 r<|Yo (Lb 2 kk46 r)<|Bi fun R44 H45=>Fo (Cl [4, 4, 4, 4] spec_l21Tenant_c H45 r r1 ⟨(Bc Z0),⟨⟩⟩) fun Y46=>Qs 3 r<|Fo (Al kz36 r) fun B47=>Fo (Al kz41 r) fun B48=>Fu (Sb 1 kk36 r (Ca ⟨Op',Op',Ow' 2,Ow' 3,Ow' 4,Ow' 5,⟨⟩⟩) r)<|Fu (Sb 0 kk41 r (Ca ⟨Op',Op',Op',Ow' 6,⟨⟩⟩) r)<|Nx<|Sq<|Dr [0,0,0,0,0,0,0,2,2] r hMix<|Ay 0 [0,0,0,0,0,0,0,2,2] r (Lb 1 kk36 r)<|Ay 1 [0,0,0,0,0,0,0,2,2] r (Lb 0 kk41 r)<|A1 2<|Xu [0,0,0,0,0,0,0,2,2] r (Sb 8 kk36 r (Ca ⟨Op',Op',Ow' 2,Ow' 3,Ow' 4,Ow' 5,⟨⟩⟩) r)<|A1 3<|Xu [0,0,0,0,0,0,0,2,2] r (Sb 7 kk41 r (Ca ⟨Op',Op',Op',Ow' 6,⟨⟩⟩) r)<|Az<|Ne<|Wr<|TE.leaf fun _ _ hf_ hs_ => ret_any (rs := [.cell 4 36, .cell 5 41]) (vs := [.agg #[strV R44.1.Secret, iv R44.1.Shares.Size, Y46.1, Y46.2.1, Y46.2.2.1, Y46.2.2.2.1], .agg #[iv R44.2.Code, iv R44.2.N, strV R44.2.Text, Y46.2.2.2.2]]) (.inl r) r (RV.cell 8 r r kk36 r (RV.cell 7 r r kk41 r ⟨⟩)) hf_ hs_ ⟨(Y46.1, Y46.2.1, Y46.2.2.1, Y46.2.2.2.1, Y46.2.2.2.2), r, hs_.pulls [2, 2, 2, 2, 2] r⟩
noncomputable def spec_ModelPlay (secret : List UInt8) (size : Int) (l : List Call) : Option (List Reply) :=
  (spec_ModelNew secret size).bind fun R2 =>
  (if (!R2.2) = true then (some true)
  else (some (decide (((l.length : Nat) : Int) > (120 : Int))))).bind (fun (T6 : Bool) =>
  if T6 = true then (some ([] : List Reply))
  else (bindC (loopO (fun (S10 : List UInt8 × Int × Int × List Reply × List Share × List MTen × List MTen × List MRow) => if (decide (S10.2.2.1 < ((l.length : Nat) : Int))) = true then ((idx l S10.2.2.1).bind fun E15 =>
  (spec_l21Do ({ Secret := S10.1, Shares := { Size := S10.2.1, List := S10.2.2.2.2.1 : Shares }, Tens := S10.2.2.2.2.2.1, Base := S10.2.2.2.2.2.2.1, Rows := S10.2.2.2.2.2.2.2 : Model }) E15).bind fun R18 =>
  (app 56 S10.2.2.2.1 ([R18.2])).bind fun E34 =>
  some (.go (R18.1.Secret, R18.1.Shares.Size, IntKind.i64.wrap (S10.2.2.1 + (1 : Int)), E34, R18.1.Shares.List, R18.1.Tens, R18.1.Base, R18.1.Rows)))
  else (some (.done (.go S10.2.2.2.1))))
  (R2.1.Secret, R2.1.Shares.Size, (0 : Int), ([] : List Reply), R2.1.Shares.List, R2.1.Tens, R2.1.Base, R2.1.Rows))
  (fun (T12 : List Reply) => some T12)))
theorem spec_ModelPlay_c {secret : List UInt8} {size : Int} {l : List Call} {U0 : Value} : Cn Tryz.prog 9 [strV secret, iv size, U0] [] [(U0, lc l)] (spec_ModelPlay secret size l) (fun _ (X : Value) => X) fun r X => [.own X (lc r)] := by
  unfold spec_ModelPlay
  refine Ci Tryz.func9 r r ?_
  rintro w S ⟨Z0,-⟩
  refine Sr<|Qs 1 r<|Nx<|Sr<|Fo (Bk [] ke28 kz41 r (Qz)) fun B1=>Kt (Ha [0] ([] : List Reply) r Cz)<|Qs 1 r<|Nx<|Sr<|Qs 2 r<|Bi fun R2 H3=>Fo (Cl [] spec_ModelNew_c H3 r r1) fun Y4=>Qs 3 r<|Fo (Al kz36 r) fun B5=>Fu (Sb 0 kk36 r (Ca ⟨Op',Op',Ow' 1,Ow' 2,Ow' 3,Ow' 4,⟨⟩⟩) r)<|Qs 1 r<|Nx<|Sq<|Sq<|Jv [2,7,8] (fun T=>[(26, .bool T)]) r1 (Rg<|Qs 3 r<|It (fun H8=>Of 3 (beq_tf H8) r r<|Yo (Pt H8 r)<|Nl<|Bg () [0,0,0,0,0,0]) fun H8=>Qg 1 (beq_ff H8) r r<|Yg (gdA (beq_ff H8)) (Ln ke24 (Bc Z0) r)<|Qg 1 (beq_ff H8) r r<|Yo (Pf H8 r)<|Nl<|Bg () [0,0,0,0,0,0]) fun T6=>?_
  refine Ne<|Wc r (fun H9=>Sr<|Qs 2 r<|Nx<|Wr<|Tr<|Re (.slice (some ⟨B1, 0, none⟩) 0 0) [5]) fun H9=>Sn<|Sq<|Sr<|Qs 1 r<|Nx<|Jn Value [] [] (fun _ X=>[(7, X)]) (fun T X=>[.own X (lc T)]) r2 r2 (?_) fun T12 X13=>?_
  ·refine Wb<|Lp (Value × Value × Value × Value × Value) [2,8] [] (fun T X=>[(7, X.1), (10, iv T.2.2.1)]) (fun T X=>[.box B5 36 [strV T.1, iv T.2.1, X.2.1, X.2.2.1, X.2.2.2.1, X.2.2.2.2], .own X.1 (lc T.2.2.2.1), .own X.2.1 (lc T.2.2.2.2.1), .own X.2.2.1 (lc T.2.2.2.2.2.1), .own X.2.2.2.1 (lc T.2.2.2.2.2.2.1), .own X.2.2.2.2 (lc T.2.2.2.2.2.2.2)]) (.slice (some ⟨B1, 0, none⟩) 0 0, Y4.1, Y4.2.1, Y4.2.2.1, Y4.2.2.2) [0,4,0,0,0,0] r2 r2 fun S10 X11=>Sq<|Sr<|Qs 2 r<|Yo (Ln ke24 (Bc Z0) r)<|Qs 1 r<|Nx<|Wc r (fun H14=>?_) fun H14=>?_
   ·refine Sn<|Sq<|Wb<|Sq<|Wi fun E15 H16=>Wi fun R18 H19=>Jw (Nat × Nat × Value × Value × Value × Value × Value) [2,7,8,10] [0,0] (fun X=>[(11, pt X.1), (12, pt X.2.1)]) (fun X=>[.box X.1 36 [strV R18.1.Secret, iv R18.1.Shares.Size, X.2.2.1, X.2.2.2.1, X.2.2.2.2.1, X.2.2.2.2.2.1], .box X.2.1 41 [iv R18.2.Code, iv R18.2.N, strV R18.2.Text, X.2.2.2.2.2.2], .own X.2.2.1 (lc R18.1.Shares.List), .own X.2.2.2.1 (lc R18.1.Tens), .own X.2.2.2.2.1 (lc R18.1.Base), .own X.2.2.2.2.2.1 (lc R18.1.Rows), .own X.2.2.2.2.2.2 (lc R18.2.List)]) r1 r1 (?_) fun X27=>?_
    ·refine Dr [0,0] r hMix<|Ay 0 [0,0] r (Lb 0 kk36 r)<|Aq [1,2] [0,0] r<|Ay 3 [0,0] r (Ix ke24 (Bc Z0) H16 r)<|?_
     have Q28 : Base w S (elv w U0 (S10.2.2.1.toNat * 7 + 6)) (lc E15.Ops):=Base.el Z0 (idx_get H16).2.2 r r
     refine Ay 4 [0,0] r (Lz kk46 Z0 H16 r)<|A3 5 9 10 (?_) (?_)<|?_
     ·refine Xe [5,5] r (Cl [2, 2, 2, 2] spec_l21Do_c H19 r r1 ⟨(Bc Q28),⟨⟩⟩) fun Y29=>Aq [6,7,8] [5,5] r<|A2 9 10 (?_)<|?_
      ·exact Xe [6,6] r (Al kz36 r) fun B32=>A1 10<|Xe [7,7] r (Al kz41 r) fun B34=>A1 11<|Xu [7,7] r (Sb 1 kk36 r (Ca ⟨Op',Op',Ow' 2,Ow' 3,Ow' 4,Ow' 5,⟨⟩⟩) r)<|A1 12<|Xu [7,7] r (Sb 0 kk41 r (Ca ⟨Op',Op',Op',Ow' 6,⟨⟩⟩) r)<|Az<|Bg (B32, B34, Y29.1, Y29.2.1, Y29.2.2.1, Y29.2.2.2.1, Y29.2.2.2.2) [7,7,1,0,0,0,0,0,0]
      exact Xe [6,6] r (Al kz41 r) fun B33=>A1 9<|Xe [7,7] r (Al kz36 r) fun B34=>A1 11<|Xu [7,7] r (Sb 0 kk36 r (Ca ⟨Op',Op',Ow' 2,Ow' 3,Ow' 4,Ow' 5,⟨⟩⟩) r)<|A1 12<|Xu [7,7] r (Sb 1 kk41 r (Ca ⟨Op',Op',Op',Ow' 6,⟨⟩⟩) r)<|Az<|Bg (B34, B33, Y29.1, Y29.2.1, Y29.2.2.1, Y29.2.2.2.1, Y29.2.2.2.2) [7,7,0,0,0,0,0,0,0]
     ·refine Xe [1,1] r (Al kz36 r) fun B30=>A2 5 10 (?_)<|?_
      ·exact Xe [6,6] r (Cl [3, 3, 3, 3] spec_l21Do_c H19 r r1 ⟨(Bc Q28),⟨⟩⟩) fun Y32=>Aq [6,7,8] [6,6] r<|A1 10<|Xe [7,7] r (Al kz41 r) fun B34=>A1 11<|Xu [7,7] r (Sb 6 kk36 r (Ca ⟨Op',Op',Ow' 1,Ow' 2,Ow' 3,Ow' 4,⟨⟩⟩) r)<|A1 12<|Xu [7,7] r (Sb 0 kk41 r (Ca ⟨Op',Op',Op',Ow' 5,⟨⟩⟩) r)<|Az<|Bg (B30, B34, Y32.1, Y32.2.1, Y32.2.2.1, Y32.2.2.2.1, Y32.2.2.2.2) [7,7,6,0,0,0,0,0,0]
      exact Xe [2,2] r (Al kz41 r) fun B33=>A1 5<|Xe [7,7] r (Cl [4, 4, 4, 4] spec_l21Do_c H19 r r1 ⟨(Bc Q28),⟨⟩⟩) fun Y34=>Aq [6,7,8] [7,7] r<|A1 11<|Xu [7,7] r (Sb 6 kk36 r (Ca ⟨Op',Op',Ow' 0,Ow' 1,Ow' 2,Ow' 3,⟨⟩⟩) r)<|A1 12<|Xu [7,7] r (Sb 5 kk41 r (Ca ⟨Op',Op',Op',Ow' 4,⟨⟩⟩) r)<|Az<|Bg (B30, B33, Y34.1, Y34.2.1, Y34.2.2.1, Y34.2.2.2.1, Y34.2.2.2.2) [7,7,6,5,0,0,0,0,0]
     refine Xe [1,1] r (Al kz41 r) fun B31=>A2 5 9 (?_)<|?_
     ·exact Xe [6,6] r (Cl [3, 3, 3, 3] spec_l21Do_c H19 r r1 ⟨(Bc Q28),⟨⟩⟩) fun Y32=>Aq [6,7,8] [6,6] r<|A1 9<|Xe [7,7] r (Al kz36 r) fun B34=>A1 11<|Xu [7,7] r (Sb 0 kk36 r (Ca ⟨Op',Op',Ow' 1,Ow' 2,Ow' 3,Ow' 4,⟨⟩⟩) r)<|A1 12<|Xu [7,7] r (Sb 6 kk41 r (Ca ⟨Op',Op',Op',Ow' 5,⟨⟩⟩) r)<|Az<|Bg (B34, B31, Y32.1, Y32.2.1, Y32.2.2.1, Y32.2.2.2.1, Y32.2.2.2.2) [7,7,0,5,0,0,0,0,0]
     exact Xe [2,2] r (Al kz36 r) fun B33=>A1 5<|Xe [7,7] r (Cl [4, 4, 4, 4] spec_l21Do_c H19 r r1 ⟨(Bc Q28),⟨⟩⟩) fun Y34=>Aq [6,7,8] [7,7] r<|A1 11<|Xu [7,7] r (Sb 5 kk36 r (Ca ⟨Op',Op',Ow' 0,Ow' 1,Ow' 2,Ow' 3,⟨⟩⟩) r)<|A1 12<|Xu [7,7] r (Sb 6 kk41 r (Ca ⟨Op',Op',Op',Ow' 4,⟨⟩⟩) r)<|Az<|Bg (B33, B31, Y34.1, Y34.2.1, Y34.2.2.1, Y34.2.2.2.1, Y34.2.2.2.2) [7,7,5,5,0,0,0,0,0]
    exact Ne<|Sr<|Yo (Lb 2 kk36 r)<|Fu (Sb 0 kk36 r (Ca ⟨Op',Op',Ow' 4,Ow' 5,Ow' 6,Ow' 7,⟨⟩⟩) r)<|Nx<|Rg<|Qs 1 r<|Yo (Lb 3 kk41 r)<|Fo (Bk [ic R18.2.Code, ic R18.2.N, .str R18.2.Text, .raw X27.2.2.2.2.2.2] ke28 kz41 r (Qc (Ca ⟨Op',Op',Op',Ow' 8,⟨⟩⟩)<|Qz)) fun B32=>Kt (Ha [0, 8] ([R18.2] : List Reply) r (Ck (Ck (Ck (Cf Cz)))))<|Bi fun E34 H35=>Fo (Aw [2, 0] H35 ke28 kz41 r) fun V33=>Qs 1 r<|Nl<|Bn<|Ne<|Rg<|Qs 3 r<|Nl<|Lg (V33, X27.2.2.1, X27.2.2.2.1, X27.2.2.2.2.1, X27.2.2.2.2.2.1) [1,0,2,2,2,2]
   exact Wx<|Tx<|Ex<|Be<|Jg X11.1 [1]
  exact Ne<|Sr<|Qs 2 r<|Nx<|Wr<|Re X13 [0]
noncomputable def laws_szOp (a : Op) (left : Int) : Option Int :=
  if (decide (IntKind.i64.wrap (left - ((a.Key.length : Nat) : Int)) < (0 : Int))) = true then (some (-1 : Int))
  else (if (decide (IntKind.i64.wrap (IntKind.i64.wrap (left - ((a.Key.length : Nat) : Int)) - ((a.Val.length : Nat) : Int)) < (0 : Int))) = true then (some (-1 : Int))
  else (some (IntKind.i64.wrap (IntKind.i64.wrap (left - ((a.Key.length : Nat) : Int)) - ((a.Val.length : Nat) : Int)))))
theorem laws_szOp_c {a : Op} {left : Int} : Cn Tryz.prog 101 [.agg #[strV a.Key, .bool a.Del, strV a.Val], iv left] [] [] (laws_szOp a left) (fun r (_ : Unit) => iv r) fun _ _ => [] := by
  unfold laws_szOp
  refine Ci Tryz.func101 r r ?_
  rintro w S -
  exact Sr<|Fo (Bx r (Cp r)) fun B1=>Qs 1 r<|Nx<|Sr<|Qs 1 r<|Yo (Fb kf137_0 r)<|Yo (Lb 0 kk9 r)<|Yo (Y.slen ks9 r)<|Qs 2 r<|Nx<|Sq<|Sr<|Qs 2 r<|Nx<|Wc r (fun H2=>Sr<|Qs 1 r<|Nx<|Wr<|Tr<|Re () []) fun H2=>Sn<|Sr<|Qs 1 r<|Yo (Fb kf137_2 r)<|Yo (Lb 0 kk9 r)<|Yo (Y.slen ks9 r)<|Qs 2 r<|Nx<|Sq<|Sr<|Qs 2 r<|Nx<|Wc r (fun H3=>Sr<|Qs 1 r<|Nx<|Wr<|Tr<|Re () []) fun H3=>Sn<|Sr<|Qs 2 r<|Nx<|Wr<|Re () []
noncomputable def laws_szOpS (a : List Op) (left : Int) : Option Int :=
  if (decide (IntKind.i64.wrap (left - ((a.length : Nat) : Int)) < (0 : Int))) = true then (some (-1 : Int))
  else (bindC (loopO (fun (S2 : Int × Int) => if (decide (S2.2 < ((a.length : Nat) : Int))) = true then ((idx a S2.2).bind fun E7 =>
  (laws_szOp E7 S2.1).bind fun R9 =>
  if (decide (R9 < (0 : Int))) = true then (some (.done (.done (-1 : Int))))
  else (some (.go (R9, IntKind.i64.wrap (S2.2 + (1 : Int))))))
  else (some (.done (.go S2.1))))
  (IntKind.i64.wrap (left - ((a.length : Nat) : Int)), (0 : Int)))
  (fun (T4 : Int) => some T4))
theorem laws_szOpS_c {a : List Op} {left : Int} {U0 : Value} : Cn Tryz.prog 59 [U0, iv left] [] [(U0, lc a)] (laws_szOpS a left) (fun r (_ : Unit) => iv r) fun _ _ => [] := by
  unfold laws_szOpS
  refine Ci Tryz.func59 r r ?_
  rintro w S ⟨Z0,-⟩
  refine Sr<|Qs 1 r<|Nx<|Sr<|Qs 2 r<|Yo (Ln ke68 (Bc Z0) r)<|Qs 2 r<|Nx<|Sq<|Sr<|Qs 2 r<|Nx<|Wc r (fun H1=>Sr<|Qs 1 r<|Nx<|Wr<|Tr<|Re () []) fun H1=>Sn<|Sq<|Sr<|Qs 1 r<|Nx<|Ju [] (fun T=>[(1, iv T)]) r1 (?_) fun T4=>?_
  ·refine Wb<|Lu [0] (fun T=>[(1, iv T.1), (5, iv T.2)]) r1 fun S2=>Sq<|Sr<|Qs 2 r<|Yo (Ln ke68 (Bc Z0) r)<|Qs 1 r<|Nx<|Wc r (fun H6=>?_) fun H6=>?_
   ·exact Sn<|Sq<|Wb<|Sr<|Qs 2 r<|Bi fun E7 H8=>Yo (Ix ke68 (Bc Z0) H8 r)<|Yo (Le kk137 (Bc Z0) H8 r)<|Qs 1 r<|Bi fun R9 H10=>Fo (Cl [] laws_szOp_c H10 r r1) fun _=>Qs 1 r<|Nx<|Sr<|Qs 2 r<|Nx<|Wc r (fun H12=>Sr<|Qs 1 r<|Nx<|Wr<|Br<|Tr<|Er<|Br<|Jd<|Tr<|Re () []) fun H12=>Sk<|Bn<|Ne<|Rg<|Qs 3 r<|Nl<|Lg () []
   exact Wx<|Tx<|Ex<|Be<|Jg () []
  exact Ne<|Sr<|Qs 2 r<|Nx<|Wr<|Re () []
noncomputable def laws_szCall (a : Call) (left : Int) : Option Int :=
  if (decide (IntKind.i64.wrap (left - ((a.Token.length : Nat) : Int)) < (0 : Int))) = true then (some (-1 : Int))
  else (if (decide (IntKind.i64.wrap (IntKind.i64.wrap (left - ((a.Token.length : Nat) : Int)) - ((a.Key.length : Nat) : Int)) < (0 : Int))) = true then (some (-1 : Int))
  else (if (decide (IntKind.i64.wrap (IntKind.i64.wrap (IntKind.i64.wrap (left - ((a.Token.length : Nat) : Int)) - ((a.Key.length : Nat) : Int)) - ((a.To.length : Nat) : Int)) < (0 : Int))) = true then (some (-1 : Int))
  else ((laws_szOpS a.Ops (IntKind.i64.wrap (IntKind.i64.wrap (IntKind.i64.wrap (left - ((a.Token.length : Nat) : Int)) - ((a.Key.length : Nat) : Int)) - ((a.To.length : Nat) : Int)))).bind fun R5 =>
  if (decide (R5 < (0 : Int))) = true then (some (-1 : Int))
  else (some R5))))
theorem laws_szCall_c {a : Call} {left : Int} {U0 : Value} : Cn Tryz.prog 33 [.agg #[iv a.Kind, strV a.Token, iv a.Tenant, iv a.N, strV a.Key, strV a.To, U0], iv left] [] [(U0, lc a.Ops)] (laws_szCall a left) (fun r (_ : Unit) => iv r) fun _ _ => [] := by
  unfold laws_szCall
  refine Ci Tryz.func33 r r ?_
  rintro w S ⟨Z0,-⟩
  refine Sr<|Fo (Bx r (Ca ⟨Op',Op',Op',Op',Op',Op',Ob Z0,⟨⟩⟩)) fun B1=>Qs 1 r<|Nx<|Sr<|Qs 1 r<|Yo (Fb kf70_1 r)<|Yo (Lb 0 kk9 r)<|Yo (Y.slen ks9 r)<|Qs 2 r<|Nx<|Sq<|Sr<|Qs 2 r<|Nx<|Wc r (fun H2=>Sr<|Qs 1 r<|Nx<|Wr<|Tr<|Re () []) fun H2=>Sn<|Sr<|Qs 1 r<|Yo (Fb kf70_4 r)<|Yo (Lb 0 kk9 r)<|Yo (Y.slen ks9 r)<|Qs 2 r<|Nx<|Sq<|Sr<|Qs 2 r<|Nx<|Wc r (fun H3=>Sr<|Qs 1 r<|Nx<|Wr<|Tr<|Re () []) fun H3=>Sn<|Sr<|Qs 1 r<|Yo (Fb kf70_5 r)<|Yo (Lb 0 kk9 r)<|Yo (Y.slen ks9 r)<|Qs 2 r<|Nx<|Sq<|Sr<|Qs 2 r<|Nx<|Wc r (fun H4=>Sr<|Qs 1 r<|Nx<|Wr<|Tr<|Re () []) fun H4=>?_
  exact Sn<|Sr<|Yo (Fb kf70_6 r)<|Yo (Lb 0 kk68 r)<|Qs 1 r<|Bi fun R5 H6=>Fo (Cl [] laws_szOpS_c H6 r r1 ⟨(Bc Z0),⟨⟩⟩) fun _=>Qs 1 r<|Nx<|Sq<|Sr<|Qs 2 r<|Nx<|Wc r (fun H8=>Sr<|Qs 1 r<|Nx<|Wr<|Tr<|Re () []) fun H8=>Sn<|Sr<|Qs 2 r<|Nx<|Wr<|Re () []
noncomputable def laws_szCallS (a : List Call) (left : Int) : Option Int :=
  if (decide (IntKind.i64.wrap (left - ((a.length : Nat) : Int)) < (0 : Int))) = true then (some (-1 : Int))
  else (bindC (loopO (fun (S2 : Int × Int) => if (decide (S2.2 < ((a.length : Nat) : Int))) = true then ((idx a S2.2).bind fun E7 =>
  (laws_szCall E7 S2.1).bind fun R10 =>
  if (decide (R10 < (0 : Int))) = true then (some (.done (.done (-1 : Int))))
  else (some (.go (R10, IntKind.i64.wrap (S2.2 + (1 : Int))))))
  else (some (.done (.go S2.1))))
  (IntKind.i64.wrap (left - ((a.length : Nat) : Int)), (0 : Int)))
  (fun (T4 : Int) => some T4))
theorem laws_szCallS_c {a : List Call} {left : Int} {U0 : Value} : Cn Tryz.prog 13 [U0, iv left] [] [(U0, lc a)] (laws_szCallS a left) (fun r (_ : Unit) => iv r) fun _ _ => [] := by
  unfold laws_szCallS
  refine Ci Tryz.func13 r r ?_
  rintro w S ⟨Z0,-⟩
  refine Sr<|Qs 1 r<|Nx<|Sr<|Qs 2 r<|Yo (Ln ke48 (Bc Z0) r)<|Qs 2 r<|Nx<|Sq<|Sr<|Qs 2 r<|Nx<|Wc r (fun H1=>Sr<|Qs 1 r<|Nx<|Wr<|Tr<|Re () []) fun H1=>Sn<|Sq<|Sr<|Qs 1 r<|Nx<|Ju [] (fun T=>[(1, iv T)]) r1 (?_) fun T4=>?_
  ·refine Wb<|Lu [0] (fun T=>[(1, iv T.1), (5, iv T.2)]) r1 fun S2=>Sq<|Sr<|Qs 2 r<|Yo (Ln ke48 (Bc Z0) r)<|Qs 1 r<|Nx<|Wc r (fun H6=>?_) fun H6=>?_
   ·refine Sn<|Sq<|Wb<|Sr<|Qs 2 r<|Bi fun E7 H8=>Yo (Ix ke48 (Bc Z0) H8 r)<|?_
    have Q9 : Base w S (elv w U0 (S2.2.toNat * 7 + 6)) (lc E7.Ops):=Base.el Z0 (idx_get H8).2.2 r r
    exact Yo (Lz kk70 Z0 H8 r)<|Qs 1 r<|Bi fun R10 H11=>Fo (Cl [] laws_szCall_c H11 r r1 ⟨(Bc Q9),⟨⟩⟩) fun _=>Qs 1 r<|Nx<|Sr<|Qs 2 r<|Nx<|Wc r (fun H13=>Sr<|Qs 1 r<|Nx<|Wr<|Br<|Tr<|Er<|Br<|Jd<|Tr<|Re () []) fun H13=>Sk<|Bn<|Ne<|Rg<|Qs 3 r<|Nl<|Lg () []
   exact Wx<|Tx<|Ex<|Be<|Jg () []
  exact Ne<|Sr<|Qs 2 r<|Nx<|Wr<|Re () []
noncomputable def laws_toOp (a : Op) : Option Op :=
  some a
theorem laws_toOp_c {a : Op} : Cn Tryz.prog 102 [.agg #[strV a.Key, .bool a.Del, strV a.Val]] [] [] (laws_toOp a) (fun r (_ : Unit) => .agg #[strV r.Key, .bool r.Del, strV r.Val]) fun _ _ => [] := by
  unfold laws_toOp
  refine Ci Tryz.func102 r r ?_
  rintro w S -
  exact Sr<|Fo (Bx r (Cp r)) fun B1=>Fo (Al kz98 r) fun B2=>Nx<|Sr<|Fo (Al kz98 r) fun B3=>Nx<|Sr<|Yo (Fb kf137_0 r)<|Yo (Lb 2 kk9 r)<|Yo (Fb kf98_0 r)<|Fu (Sb 0 kk9 r (Cp r) r)<|Nx<|Sr<|Yo (Fb kf137_1 r)<|Yo (Lb 2 kk4 r)<|Yo (Fb kf98_1 r)<|Fu (Sb 0 kk4 r (Cp r) r)<|Nx<|Sr<|Yo (Fb kf137_2 r)<|Yo (Lb 2 kk9 r)<|Yo (Fb kf98_2 r)<|Fu (Sb 0 kk9 r (Cp r) r)<|Nx<|Sr<|Yo (Lb 0 kk98 r)<|Fu (Sb 1 kk98 r (Cp r) r)<|Nx<|Wr<|TE.leaf fun _ _ hf_ hs_ => ret_any (rs := [.cell 2 98]) (vs := [.agg #[strV a.Key, .bool a.Del, strV a.Val]]) (.inl r) r (RV.cell 1 r r kk98 r ⟨⟩) hf_ hs_ ⟨(), r, hs_.pulls [] r⟩
noncomputable def laws_toOpS (a : List Op) : Option (List Op) :=
  (mkLen 40 ((a.length : Nat) : Int)).bind fun E2 =>
  bindC (loopO (fun (S4 : Int × List Op) => if (decide (S4.1 < ((a.length : Nat) : Int))) = true then ((idx a S4.1).bind fun E9 =>
  (laws_toOp E9).bind fun R11 =>
  (idx S4.2 S4.1).bind fun E14 =>
  some (.go (IntKind.i64.wrap (S4.1 + (1 : Int)), (S4.2.set S4.1.toNat R11))))
  else (some (.done (.go S4.2))))
  ((0 : Int), (List.replicate E2 ({ Key := [], Del := false, Val := [] : Op } : Op))))
  (fun (T6 : List Op) => some T6)
theorem laws_toOpS_c {a : List Op} {U0 : Value} : Cn Tryz.prog 60 [U0] [] [(U0, lc a)] (laws_toOpS a) (fun _ (X : Value) => X) fun r X => [.own X (lc r)] := by
  unfold laws_toOpS
  refine Ci Tryz.func60 r r ?_
  rintro w S ⟨Z0,-⟩
  refine Sr<|Qs 1 r<|Nx<|Sr<|Qs 1 r<|Yo (Ln ke68 (Bc Z0) r)<|Bi fun E2 H3=>Fo (Mk ({ Key := [], Del := false, Val := [] : Op } : Op) H3 ke44 kz98) fun V1=>Qs 1 r<|Nx<|Sq<|Sr<|Qs 1 r<|Nx<|Jn Unit [3] [] (fun _ _=>[]) (fun T _=>[.own V1 (lc T)]) r2 r2 (?_) fun T6 X7=>?_
  ·refine Wb<|Lp Unit [0,3] [] (fun T _=>[(4, iv T.1)]) (fun T _=>[.own V1 (lc T.2)]) () [0] r2 r2 fun S4 X5=>Sq<|Sr<|Qs 2 r<|Yo (Ln ke68 (Bc Z0) r)<|Qs 1 r<|Nx<|Wc r (fun H8=>?_) fun H8=>?_
   ·exact Sn<|Sq<|Wb<|Rg<|Qs 4 r<|Bi fun E9 H10=>Yo (Ix ke68 (Bc Z0) H10 r)<|Yo (Le kk137 (Bc Z0) H10 r)<|Bi fun R11 H12=>Fo (Cl [] laws_toOp_c H12 r r1) fun _=>Bi fun E14 H15=>Yo (Ix ke44 (Oc 0 r) H15 r)<|Fu (Se R11 0 kk98 H15 r (Cp r) r)<|Nl<|Bn<|Ne<|Rg<|Qs 3 r<|Nl<|Lg () [0]
   exact Wx<|Tx<|Ex<|Be<|Jg () [0]
  exact Ne<|Sr<|Qs 2 r<|Nx<|Wr<|Re V1 [0]
noncomputable def laws_toCall (a : Call) : Option Call :=
  (laws_toOpS a.Ops).bind fun R4 =>
  some ({ Kind := a.Kind, Token := a.Token, Tenant := a.Tenant, N := a.N, Key := a.Key, To := a.To, Ops := R4 : Call })
theorem laws_toCall_c {a : Call} {U0 : Value} : Cn Tryz.prog 34 [.agg #[iv a.Kind, strV a.Token, iv a.Tenant, iv a.N, strV a.Key, strV a.To, U0]] [] [(U0, lc a.Ops)] (laws_toCall a) (fun r (X : Value) => .agg #[iv r.Kind, strV r.Token, iv r.Tenant, iv r.N, strV r.Key, strV r.To, X]) fun r X => [.own X (lc r.Ops)] := by
  unfold laws_toCall
  refine Ci Tryz.func34 r r ?_
  rintro w S ⟨Z0,-⟩
  refine Sr<|Fo (Bx r (Ca ⟨Op',Op',Op',Op',Op',Op',Ob Z0,⟨⟩⟩)) fun B1=>Fo (Al kz46 r) fun B2=>Nx<|Sr<|Fo (Al kz46 r) fun B3=>Nx<|Sr<|Yo (Fb kf70_0 r)<|Yo (Lb 2 kk3 r)<|Yo (Fb kf46_0 r)<|Fu (Sb 0 kk3 r (Cp r) r)<|Nx<|Sr<|Yo (Fb kf70_1 r)<|Yo (Lb 2 kk9 r)<|Yo (Fb kf46_1 r)<|Fu (Sb 0 kk9 r (Cp r) r)<|Nx<|Sr<|Yo (Fb kf70_2 r)<|Yo (Lb 2 kk3 r)<|Yo (Fb kf46_2 r)<|Fu (Sb 0 kk3 r (Cp r) r)<|Nx<|Sr<|Yo (Fb kf70_3 r)<|Yo (Lb 2 kk3 r)<|Yo (Fb kf46_3 r)<|Fu (Sb 0 kk3 r (Cp r) r)<|Nx<|Sr<|Yo (Fb kf70_4 r)<|Yo (Lb 2 kk9 r)<|Yo (Fb kf46_4 r)<|Fu (Sb 0 kk9 r (Cp r) r)<|Nx<|Sr<|Yo (Fb kf70_5 r)<|Yo (Lb 2 kk9 r)<|Yo (Fb kf46_5 r)<|Fu (Sb 0 kk9 r (Cp r) r)<|Nx<|Sr<|Yo (Fb kf70_6 r)<|Yo (Lb 2 kk68 r)<|Bi fun R4 H5=>?_
  exact Fo (Cl [] laws_toOpS_c H5 r r1 ⟨(Bc Z0),⟨⟩⟩) fun Y6=>Yo (Fb kf46_6 r)<|Fu (Sb 1 kk44 r (Co 0) r)<|Nx<|Sr<|Yo (Lb 1 kk46 r)<|Fu (Sb 2 kk46 r (Ca ⟨Op',Op',Op',Op',Op',Op',Ow' 0,⟨⟩⟩) r)<|Nx<|Wr<|TE.leaf fun _ _ hf_ hs_ => ret_any (rs := [.cell 2 46]) (vs := [.agg #[iv a.Kind, strV a.Token, iv a.Tenant, iv a.N, strV a.Key, strV a.To, Y6]]) (.inl r) r (RV.cell 2 r r kk46 r ⟨⟩) hf_ hs_ ⟨Y6, r, hs_.pulls [0] r⟩
noncomputable def laws_toCallS (a : List Call) : Option (List Call) :=
  (mkLen 96 ((a.length : Nat) : Int)).bind fun E2 =>
  bindC (loopO (fun (S4 : Int × List Call) => if (decide (S4.1 < ((a.length : Nat) : Int))) = true then ((idx a S4.1).bind fun E9 =>
  (laws_toCall E9).bind fun R12 =>
  (idx S4.2 S4.1).bind fun E15 =>
  some (.go (IntKind.i64.wrap (S4.1 + (1 : Int)), (S4.2.set S4.1.toNat R12))))
  else (some (.done (.go S4.2))))
  ((0 : Int), (List.replicate E2 ({ Kind := (0 : Int), Token := [], Tenant := (0 : Int), N := (0 : Int), Key := [], To := [], Ops := [] : Call } : Call))))
  (fun (T6 : List Call) => some T6)
theorem laws_toCallS_c {a : List Call} {U0 : Value} : Cn Tryz.prog 14 [U0] [] [(U0, lc a)] (laws_toCallS a) (fun _ (X : Value) => X) fun r X => [.own X (lc r)] := by
  unfold laws_toCallS
  refine Ci Tryz.func14 r r ?_
  rintro w S ⟨Z0,-⟩
  refine Sr<|Qs 1 r<|Nx<|Sr<|Qs 1 r<|Yo (Ln ke48 (Bc Z0) r)<|Bi fun E2 H3=>Fo (Ef.makeN (α := Call) (z := ({ Kind := (0 : Int), Token := [], Tenant := (0 : Int), N := (0 : Int), Key := [], To := [], Ops := [] : Call } : Call)) (zs := [iv (0 : Int), strV ([]), iv (0 : Int), iv (0 : Int), strV ([]), strV ([]), .slice none 0 0]) H3 ke24 kz46 r r r r r) fun V1=>Qs 1 r<|Nx<|Sq<|Sr<|Qs 1 r<|Nx<|Jn Unit [3] [] (fun _ _=>[]) (fun T _=>[.own V1 (lc T)]) r2 r2 (?_) fun T6 X7=>?_
  ·refine Wb<|Lp Unit [0,3] [] (fun T _=>[(4, iv T.1)]) (fun T _=>[.own V1 (lc T.2)]) () [0] r2 r2 fun S4 X5=>Sq<|Sr<|Qs 2 r<|Yo (Ln ke48 (Bc Z0) r)<|Qs 1 r<|Nx<|Wc r (fun H8=>?_) fun H8=>?_
   ·refine Sn<|Sq<|Wb<|Rg<|Qs 4 r<|Bi fun E9 H10=>Yo (Ix ke48 (Bc Z0) H10 r)<|?_
    have Q11 : Base w S (elv w U0 (S4.1.toNat * 7 + 6)) (lc E9.Ops):=Base.el Z0 (idx_get H10).2.2 r r
    exact Yo (Lz kk70 Z0 H10 r)<|Bi fun R12 H13=>Fo (Cl [] laws_toCall_c H13 r r1 ⟨(Bc Q11),⟨⟩⟩) fun Y14=>Bi fun E15 H16=>Yo (Ix ke24 (Oc 1 r) H16 r)<|TO.fact (ptr_of (Can.own 1 r) H16) fun H17=>Gt (X := Value) (Ho 1 [1] H16 r r1) fun X18=>Fu (Sh 0 [ic R12.Kind, .str R12.Token, ic R12.Tenant, ic R12.N, .str R12.Key, .str R12.To, .raw Y14] kk46 H16 r (Ca ⟨Op',Op',Op',Op',Op',Op',Ow' 2,⟨⟩⟩) r)<|Nl<|Bn<|Ne<|Rg<|Qs 3 r<|Nl<|Ke (Hc [0, 1] R12 H16 r (Ck (Ck (Ck (Ck (Ck (Ck (Cf Cz))))))))<|Lg () [0]
   exact Wx<|Tx<|Ex<|Be<|Jg () [0]
  exact Ne<|Sr<|Qs 2 r<|Nx<|Wr<|Re V1 [0]
noncomputable def laws_eqKV (a : KV) (b : KV) : Option Bool :=
  if (!(decide (a.Key = b.Key))) = true then (some false)
  else (if (!(decide (a.Val = b.Val))) = true then (some false)
  else (some true))
theorem laws_eqKV_c {a : KV} {b : KV} : Cn Tryz.prog 103 [.agg #[strV a.Key, strV a.Val], .agg #[strV b.Key, strV b.Val]] [] [] (laws_eqKV a b) (fun r (_ : Unit) => .bool r) fun _ _ => [] := by
  unfold laws_eqKV
  refine Ci Tryz.func103 r r ?_
  rintro w S -
  exact Sr<|Fo (Bx r (Cp r)) fun B1=>Fo (Bx r (Cp r)) fun B2=>Qs 1 r<|Nx<|Sq<|Sr<|Yo (Fb kf100_0 r)<|Yo (Lb 1 kk9 r)<|Yo (Fb kf100_0 r)<|Yo (Lb 0 kk9 r)<|Qs 1 r<|Nx<|Wc r (fun H3=>Sr<|Qs 1 r<|Nx<|Wr<|Tr<|Re () []) fun H3=>Sn<|Sq<|Sr<|Yo (Fb kf100_1 r)<|Yo (Lb 1 kk9 r)<|Yo (Fb kf100_1 r)<|Yo (Lb 0 kk9 r)<|Qs 1 r<|Nx<|Wc r (fun H4=>Sr<|Qs 1 r<|Nx<|Wr<|Tr<|Re () []) fun H4=>Sn<|Sr<|Qs 1 r<|Nx<|Wr<|Re () []
noncomputable def laws_eqKVS (a : List KV) (b : List KV) : Option Bool :=
  if (!(decide (((a.length : Nat) : Int) = ((b.length : Nat) : Int)))) = true then (some false)
  else (bindC (loopO (fun (S2 : Int) => if (decide (S2 < ((a.length : Nat) : Int))) = true then ((idx a S2).bind fun E7 =>
  (idx b S2).bind fun E9 =>
  (laws_eqKV E7 E9).bind fun R11 =>
  if (!R11) = true then (some (.done (.done false)))
  else (some (.go (IntKind.i64.wrap (S2 + (1 : Int))))))
  else (some (.done (.go ()))))
  (0 : Int))
  (fun (T4 : Unit) => some true))
theorem laws_eqKVS_c {a : List KV} {b : List KV} {U0 U1 : Value} : Cn Tryz.prog 61 [U0, U1] [] [(U0, lc a), (U1, lc b)] (laws_eqKVS a b) (fun r (_ : Unit) => .bool r) fun _ _ => [] := by
  unfold laws_eqKVS
  refine Ci Tryz.func61 r r ?_
  rintro w S ⟨Z0,Z1,-⟩
  refine Sr<|Qs 1 r<|Nx<|Sq<|Sr<|Qs 1 r<|Yo (Ln ke39 (Bc Z0) r)<|Qs 1 r<|Yo (Ln ke39 (Bc Z1) r)<|Qs 1 r<|Nx<|Wc r (fun H1=>Sr<|Qs 1 r<|Nx<|Wr<|Tr<|Re () []) fun H1=>Sn<|Sq<|Sr<|Qs 1 r<|Nx<|Ju [] (fun _=>[]) r1 (?_) fun T4=>?_
  ·refine Wb<|Lu [0,1] (fun T=>[(5, iv T)]) r1 fun S2=>Sq<|Sr<|Qs 2 r<|Yo (Ln ke39 (Bc Z0) r)<|Qs 1 r<|Nx<|Wc r (fun H6=>?_) fun H6=>?_
   ·exact Sn<|Sq<|Wb<|Sq<|Dr [] r hMix<|Aq [0,1] [] r<|Ai fun E7 H8=>Ay 2 [] r (Ix ke39 (Bc Z0) H8 r)<|Ay 3 [] r (Le kk100 (Bc Z0) H8 r)<|Aq [4,5] [] r<|Ai fun E9 H10=>Ay 6 [] r (Ix ke39 (Bc Z1) H10 r)<|Ay 7 [] r (Le kk100 (Bc Z1) H10 r)<|Ai fun R11 H12=>A1 8<|Xe [] r (Cl [] laws_eqKV_c H12 r r1) fun _=>Aq [9] [] r<|Az<|Ne<|Wc r (fun H14=>Sr<|Qs 1 r<|Nx<|Wr<|Br<|Tr<|Er<|Br<|Jd<|Tr<|Re () []) fun H14=>Sk<|Bn<|Ne<|Rg<|Qs 3 r<|Nl<|Lg () []
   exact Wx<|Tx<|Ex<|Be<|Jg () []
  exact Ne<|Sr<|Qs 1 r<|Nx<|Wr<|Re () []
noncomputable def laws_eqReply (a : Reply) (b : Reply) : Option Bool :=
  if (!(decide (a.Code = b.Code))) = true then (some false)
  else (if (!(decide (a.N = b.N))) = true then (some false)
  else (if (!(decide (a.Text = b.Text))) = true then (some false)
  else ((laws_eqKVS a.List b.List).bind fun R6 =>
  if (!R6) = true then (some false)
  else (some true))))
theorem laws_eqReply_c {a : Reply} {b : Reply} {U0 U1 : Value} : Cn Tryz.prog 35 [.agg #[iv a.Code, iv a.N, strV a.Text, U0], .agg #[iv b.Code, iv b.N, strV b.Text, U1]] [] [(U0, lc a.List), (U1, lc b.List)] (laws_eqReply a b) (fun r (_ : Unit) => .bool r) fun _ _ => [] := by
  unfold laws_eqReply
  refine Ci Tryz.func35 r r ?_
  rintro w S ⟨Z0,Z1,-⟩
  refine Sr<|Fo (Bx r (Ca ⟨Op',Op',Op',Ob Z0,⟨⟩⟩)) fun B1=>Fo (Bx r (Ca ⟨Op',Op',Op',Ob Z1,⟨⟩⟩)) fun B2=>Qs 1 r<|Nx<|Sq<|Sr<|Yo (Fb kf41_0 r)<|Yo (Lb 1 kk3 r)<|Yo (Fb kf41_0 r)<|Yo (Lb 0 kk3 r)<|Qs 1 r<|Nx<|Wc r (fun H3=>Sr<|Qs 1 r<|Nx<|Wr<|Tr<|Re () []) fun H3=>Sn<|Sq<|Sr<|Yo (Fb kf41_1 r)<|Yo (Lb 1 kk3 r)<|Yo (Fb kf41_1 r)<|Yo (Lb 0 kk3 r)<|Qs 1 r<|Nx<|Wc r (fun H4=>Sr<|Qs 1 r<|Nx<|Wr<|Tr<|Re () []) fun H4=>Sn<|Sq<|Sr<|Yo (Fb kf41_2 r)<|Yo (Lb 1 kk9 r)<|Yo (Fb kf41_2 r)<|Yo (Lb 0 kk9 r)<|Qs 1 r<|Nx<|Wc r (fun H5=>Sr<|Qs 1 r<|Nx<|Wr<|Tr<|Re () []) fun H5=>?_
  exact Sn<|Sq<|Sr<|Yo (Fb kf41_3 r)<|Yo (Lb 1 kk39 r)<|Yo (Fb kf41_3 r)<|Yo (Lb 0 kk39 r)<|Bi fun R6 H7=>Fo (Cl [] laws_eqKVS_c H7 r r1 ⟨(Bc Z0),(Bc Z1),⟨⟩⟩) fun _=>Qs 1 r<|Nx<|Wc r (fun H9=>Sr<|Qs 1 r<|Nx<|Wr<|Tr<|Re () []) fun H9=>Sn<|Sr<|Qs 1 r<|Nx<|Wr<|Re () []
noncomputable def laws_eqReplyS (a : List Reply) (b : List Reply) : Option Bool :=
  if (!(decide (((a.length : Nat) : Int) = ((b.length : Nat) : Int)))) = true then (some false)
  else (bindC (loopO (fun (S2 : Int) => if (decide (S2 < ((a.length : Nat) : Int))) = true then ((idx a S2).bind fun E7 =>
  (idx b S2).bind fun E10 =>
  (laws_eqReply E7 E10).bind fun R13 =>
  if (!R13) = true then (some (.done (.done false)))
  else (some (.go (IntKind.i64.wrap (S2 + (1 : Int))))))
  else (some (.done (.go ()))))
  (0 : Int))
  (fun (T4 : Unit) => some true))
theorem laws_eqReplyS_c {a : List Reply} {b : List Reply} {U0 U1 : Value} : Cn Tryz.prog 15 [U0, U1] [] [(U0, lc a), (U1, lc b)] (laws_eqReplyS a b) (fun r (_ : Unit) => .bool r) fun _ _ => [] := by
  unfold laws_eqReplyS
  refine Ci Tryz.func15 r r ?_
  rintro w S ⟨Z0,Z1,-⟩
  refine Sr<|Qs 1 r<|Nx<|Sq<|Sr<|Qs 1 r<|Yo (Ln ke28 (Bc Z0) r)<|Qs 1 r<|Yo (Ln ke28 (Bc Z1) r)<|Qs 1 r<|Nx<|Wc r (fun H1=>Sr<|Qs 1 r<|Nx<|Wr<|Tr<|Re () []) fun H1=>Sn<|Sq<|Sr<|Qs 1 r<|Nx<|Ju [] (fun _=>[]) r1 (?_) fun T4=>?_
  ·refine Wb<|Lu [0,1] (fun T=>[(5, iv T)]) r1 fun S2=>Sq<|Sr<|Qs 2 r<|Yo (Ln ke28 (Bc Z0) r)<|Qs 1 r<|Nx<|Wc r (fun H6=>?_) fun H6=>?_
   ·refine Sn<|Sq<|Wb<|Sq<|Dr [] r hMix<|Aq [0,1] [] r<|Ai fun E7 H8=>Ay 2 [] r (Ix ke28 (Bc Z0) H8 r)<|?_
    have Q9 : Base w S (elv w U0 (S2.toNat * 4 + 3)) (lc E7.List):=Base.el Z0 (idx_get H8).2.2 r r
    refine Ay 3 [] r (Lz kk41 Z0 H8 r)<|Aq [4,5] [] r<|Ai fun E10 H11=>Ay 6 [] r (Ix ke28 (Bc Z1) H11 r)<|?_
    have Q12 : Base w S (elv w U1 (S2.toNat * 4 + 3)) (lc E10.List):=Base.el Z1 (idx_get H11).2.2 r r
    exact Ay 7 [] r (Lz kk41 Z1 H11 r)<|Ai fun R13 H14=>A1 8<|Xe [] r (Cl [] laws_eqReply_c H14 r r1 ⟨(Bc Q9),(Bc Q12),⟨⟩⟩) fun _=>Aq [9] [] r<|Az<|Ne<|Wc r (fun H16=>Sr<|Qs 1 r<|Nx<|Wr<|Br<|Tr<|Er<|Br<|Jd<|Tr<|Re () []) fun H16=>Sk<|Bn<|Ne<|Rg<|Qs 3 r<|Nl<|Lg () []
   exact Wx<|Tx<|Ex<|Be<|Jg () []
  exact Ne<|Sr<|Qs 1 r<|Nx<|Wr<|Re () []
noncomputable def laws_eqOp (a : Op) (b : Op) : Option Bool :=
  if (!(decide (a.Key = b.Key))) = true then (some false)
  else (if (!(decide (a.Del = b.Del))) = true then (some false)
  else (if (!(decide (a.Val = b.Val))) = true then (some false)
  else (some true)))
theorem laws_eqOp_c {a : Op} {b : Op} : Cn Tryz.prog 104 [.agg #[strV a.Key, .bool a.Del, strV a.Val], .agg #[strV b.Key, .bool b.Del, strV b.Val]] [] [] (laws_eqOp a b) (fun r (_ : Unit) => .bool r) fun _ _ => [] := by
  unfold laws_eqOp
  refine Ci Tryz.func104 r r ?_
  rintro w S -
  exact Sr<|Fo (Bx r (Cp r)) fun B1=>Fo (Bx r (Cp r)) fun B2=>Qs 1 r<|Nx<|Sq<|Sr<|Yo (Fb kf98_0 r)<|Yo (Lb 1 kk9 r)<|Yo (Fb kf98_0 r)<|Yo (Lb 0 kk9 r)<|Qs 1 r<|Nx<|Wc r (fun H3=>Sr<|Qs 1 r<|Nx<|Wr<|Tr<|Re () []) fun H3=>Sn<|Sq<|Sr<|Yo (Fb kf98_1 r)<|Yo (Lb 1 kk4 r)<|Yo (Fb kf98_1 r)<|Yo (Lb 0 kk4 r)<|Yo (Y.neb kb4 r r)<|Nx<|Wc r (fun H4=>Sr<|Qs 1 r<|Nx<|Wr<|Tr<|Re () []) fun H4=>Sn<|Sq<|Sr<|Yo (Fb kf98_2 r)<|Yo (Lb 1 kk9 r)<|Yo (Fb kf98_2 r)<|Yo (Lb 0 kk9 r)<|Qs 1 r<|Nx<|Wc r (fun H5=>Sr<|Qs 1 r<|Nx<|Wr<|Tr<|Re () []) fun H5=>Sn<|Sr<|Qs 1 r<|Nx<|Wr<|Re () []
noncomputable def laws_eqOpS (a : List Op) (b : List Op) : Option Bool :=
  if (!(decide (((a.length : Nat) : Int) = ((b.length : Nat) : Int)))) = true then (some false)
  else (bindC (loopO (fun (S2 : Int) => if (decide (S2 < ((a.length : Nat) : Int))) = true then ((idx a S2).bind fun E7 =>
  (idx b S2).bind fun E9 =>
  (laws_eqOp E7 E9).bind fun R11 =>
  if (!R11) = true then (some (.done (.done false)))
  else (some (.go (IntKind.i64.wrap (S2 + (1 : Int))))))
  else (some (.done (.go ()))))
  (0 : Int))
  (fun (T4 : Unit) => some true))
theorem laws_eqOpS_c {a : List Op} {b : List Op} {U0 U1 : Value} : Cn Tryz.prog 62 [U0, U1] [] [(U0, lc a), (U1, lc b)] (laws_eqOpS a b) (fun r (_ : Unit) => .bool r) fun _ _ => [] := by
  unfold laws_eqOpS
  refine Ci Tryz.func62 r r ?_
  rintro w S ⟨Z0,Z1,-⟩
  refine Sr<|Qs 1 r<|Nx<|Sq<|Sr<|Qs 1 r<|Yo (Ln ke44 (Bc Z0) r)<|Qs 1 r<|Yo (Ln ke44 (Bc Z1) r)<|Qs 1 r<|Nx<|Wc r (fun H1=>Sr<|Qs 1 r<|Nx<|Wr<|Tr<|Re () []) fun H1=>Sn<|Sq<|Sr<|Qs 1 r<|Nx<|Ju [] (fun _=>[]) r1 (?_) fun T4=>?_
  ·refine Wb<|Lu [0,1] (fun T=>[(5, iv T)]) r1 fun S2=>Sq<|Sr<|Qs 2 r<|Yo (Ln ke44 (Bc Z0) r)<|Qs 1 r<|Nx<|Wc r (fun H6=>?_) fun H6=>?_
   ·exact Sn<|Sq<|Wb<|Sq<|Dr [] r hMix<|Aq [0,1] [] r<|Ai fun E7 H8=>Ay 2 [] r (Ix ke44 (Bc Z0) H8 r)<|Ay 3 [] r (Le kk98 (Bc Z0) H8 r)<|Aq [4,5] [] r<|Ai fun E9 H10=>Ay 6 [] r (Ix ke44 (Bc Z1) H10 r)<|Ay 7 [] r (Le kk98 (Bc Z1) H10 r)<|Ai fun R11 H12=>A1 8<|Xe [] r (Cl [] laws_eqOp_c H12 r r1) fun _=>Aq [9] [] r<|Az<|Ne<|Wc r (fun H14=>Sr<|Qs 1 r<|Nx<|Wr<|Br<|Tr<|Er<|Br<|Jd<|Tr<|Re () []) fun H14=>Sk<|Bn<|Ne<|Rg<|Qs 3 r<|Nl<|Lg () []
   exact Wx<|Tx<|Ex<|Be<|Jg () []
  exact Ne<|Sr<|Qs 1 r<|Nx<|Wr<|Re () []
noncomputable def laws_eqCall (a : Call) (b : Call) : Option Bool :=
  if (!(decide (a.Kind = b.Kind))) = true then (some false)
  else (if (!(decide (a.Token = b.Token))) = true then (some false)
  else (if (!(decide (a.Tenant = b.Tenant))) = true then (some false)
  else (if (!(decide (a.N = b.N))) = true then (some false)
  else (if (!(decide (a.Key = b.Key))) = true then (some false)
  else (if (!(decide (a.To = b.To))) = true then (some false)
  else ((laws_eqOpS a.Ops b.Ops).bind fun R9 =>
  if (!R9) = true then (some false)
  else (some true)))))))
theorem laws_eqCall_c {a : Call} {b : Call} {U0 U1 : Value} : Cn Tryz.prog 36 [.agg #[iv a.Kind, strV a.Token, iv a.Tenant, iv a.N, strV a.Key, strV a.To, U0], .agg #[iv b.Kind, strV b.Token, iv b.Tenant, iv b.N, strV b.Key, strV b.To, U1]] [] [(U0, lc a.Ops), (U1, lc b.Ops)] (laws_eqCall a b) (fun r (_ : Unit) => .bool r) fun _ _ => [] := by
  unfold laws_eqCall
  refine Ci Tryz.func36 r r ?_
  rintro w S ⟨Z0,Z1,-⟩
  refine Sr<|Fo (Bx r (Ca ⟨Op',Op',Op',Op',Op',Op',Ob Z0,⟨⟩⟩)) fun B1=>Fo (Bx r (Ca ⟨Op',Op',Op',Op',Op',Op',Ob Z1,⟨⟩⟩)) fun B2=>Qs 1 r<|Nx<|Sq<|Sr<|Yo (Fb kf46_0 r)<|Yo (Lb 1 kk3 r)<|Yo (Fb kf46_0 r)<|Yo (Lb 0 kk3 r)<|Qs 1 r<|Nx<|Wc r (fun H3=>Sr<|Qs 1 r<|Nx<|Wr<|Tr<|Re () []) fun H3=>Sn<|Sq<|Sr<|Yo (Fb kf46_1 r)<|Yo (Lb 1 kk9 r)<|Yo (Fb kf46_1 r)<|Yo (Lb 0 kk9 r)<|Qs 1 r<|Nx<|Wc r (fun H4=>Sr<|Qs 1 r<|Nx<|Wr<|Tr<|Re () []) fun H4=>Sn<|Sq<|Sr<|Yo (Fb kf46_2 r)<|Yo (Lb 1 kk3 r)<|Yo (Fb kf46_2 r)<|Yo (Lb 0 kk3 r)<|Qs 1 r<|Nx<|Wc r (fun H5=>Sr<|Qs 1 r<|Nx<|Wr<|Tr<|Re () []) fun H5=>?_
  refine Sn<|Sq<|Sr<|Yo (Fb kf46_3 r)<|Yo (Lb 1 kk3 r)<|Yo (Fb kf46_3 r)<|Yo (Lb 0 kk3 r)<|Qs 1 r<|Nx<|Wc r (fun H6=>Sr<|Qs 1 r<|Nx<|Wr<|Tr<|Re () []) fun H6=>Sn<|Sq<|Sr<|Yo (Fb kf46_4 r)<|Yo (Lb 1 kk9 r)<|Yo (Fb kf46_4 r)<|Yo (Lb 0 kk9 r)<|Qs 1 r<|Nx<|Wc r (fun H7=>Sr<|Qs 1 r<|Nx<|Wr<|Tr<|Re () []) fun H7=>Sn<|Sq<|Sr<|Yo (Fb kf46_5 r)<|Yo (Lb 1 kk9 r)<|Yo (Fb kf46_5 r)<|Yo (Lb 0 kk9 r)<|Qs 1 r<|Nx<|Wc r (fun H8=>Sr<|Qs 1 r<|Nx<|Wr<|Tr<|Re () []) fun H8=>Sn<|Sq<|Sr<|Yo (Fb kf46_6 r)<|Yo (Lb 1 kk44 r)<|Yo (Fb kf46_6 r)<|Yo (Lb 0 kk44 r)<|Bi fun R9 H10=>?_
  exact Fo (Cl [] laws_eqOpS_c H10 r r1 ⟨(Bc Z0),(Bc Z1),⟨⟩⟩) fun _=>Qs 1 r<|Nx<|Wc r (fun H12=>Sr<|Qs 1 r<|Nx<|Wr<|Tr<|Re () []) fun H12=>Sn<|Sr<|Qs 1 r<|Nx<|Wr<|Re () []
noncomputable def laws_eqCallS (a : List Call) (b : List Call) : Option Bool :=
  if (!(decide (((a.length : Nat) : Int) = ((b.length : Nat) : Int)))) = true then (some false)
  else (bindC (loopO (fun (S2 : Int) => if (decide (S2 < ((a.length : Nat) : Int))) = true then ((idx a S2).bind fun E7 =>
  (idx b S2).bind fun E10 =>
  (laws_eqCall E7 E10).bind fun R13 =>
  if (!R13) = true then (some (.done (.done false)))
  else (some (.go (IntKind.i64.wrap (S2 + (1 : Int))))))
  else (some (.done (.go ()))))
  (0 : Int))
  (fun (T4 : Unit) => some true))
theorem laws_eqCallS_c {a : List Call} {b : List Call} {U0 U1 : Value} : Cn Tryz.prog 16 [U0, U1] [] [(U0, lc a), (U1, lc b)] (laws_eqCallS a b) (fun r (_ : Unit) => .bool r) fun _ _ => [] := by
  unfold laws_eqCallS
  refine Ci Tryz.func16 r r ?_
  rintro w S ⟨Z0,Z1,-⟩
  refine Sr<|Qs 1 r<|Nx<|Sq<|Sr<|Qs 1 r<|Yo (Ln ke24 (Bc Z0) r)<|Qs 1 r<|Yo (Ln ke24 (Bc Z1) r)<|Qs 1 r<|Nx<|Wc r (fun H1=>Sr<|Qs 1 r<|Nx<|Wr<|Tr<|Re () []) fun H1=>Sn<|Sq<|Sr<|Qs 1 r<|Nx<|Ju [] (fun _=>[]) r1 (?_) fun T4=>?_
  ·refine Wb<|Lu [0,1] (fun T=>[(5, iv T)]) r1 fun S2=>Sq<|Sr<|Qs 2 r<|Yo (Ln ke24 (Bc Z0) r)<|Qs 1 r<|Nx<|Wc r (fun H6=>?_) fun H6=>?_
   ·refine Sn<|Sq<|Wb<|Sq<|Dr [] r hMix<|Aq [0,1] [] r<|Ai fun E7 H8=>Ay 2 [] r (Ix ke24 (Bc Z0) H8 r)<|?_
    have Q9 : Base w S (elv w U0 (S2.toNat * 7 + 6)) (lc E7.Ops):=Base.el Z0 (idx_get H8).2.2 r r
    refine Ay 3 [] r (Lz kk46 Z0 H8 r)<|Aq [4,5] [] r<|Ai fun E10 H11=>Ay 6 [] r (Ix ke24 (Bc Z1) H11 r)<|?_
    have Q12 : Base w S (elv w U1 (S2.toNat * 7 + 6)) (lc E10.Ops):=Base.el Z1 (idx_get H11).2.2 r r
    exact Ay 7 [] r (Lz kk46 Z1 H11 r)<|Ai fun R13 H14=>A1 8<|Xe [] r (Cl [] laws_eqCall_c H14 r r1 ⟨(Bc Q9),(Bc Q12),⟨⟩⟩) fun _=>Aq [9] [] r<|Az<|Ne<|Wc r (fun H16=>Sr<|Qs 1 r<|Nx<|Wr<|Br<|Tr<|Er<|Br<|Jd<|Tr<|Re () []) fun H16=>Sk<|Bn<|Ne<|Rg<|Qs 3 r<|Nl<|Lg () []
   exact Wx<|Tx<|Ex<|Be<|Jg () []
  exact Ne<|Sr<|Qs 1 r<|Nx<|Wr<|Re () []
noncomputable def laws_markText (k : Int) : Option (List UInt8) :=
  if (decide (k ≤ (0 : Int))) = true then (some ([109, 48]))
  else (bindC (loopO (fun (S2 : Int × List UInt8) => if (decide (S2.1 > (0 : Int))) = true then ((cat ([toU8 (IntKind.i64.wrap ((48 : Int) + (Int.tmod S2.1 (10 : Int))))]) S2.2).bind fun E8 =>
  some (.go (IntKind.i64.wrap (Int.tdiv S2.1 (10 : Int)), E8)))
  else (some (.done (.go S2.2))))
  (k, []))
  (fun (T4 : List UInt8) => (cat ([109]) T4).bind fun E10 =>
  some E10))
theorem laws_markText_c {k : Int} : Cn Tryz.prog 37 [iv k] [] [] (laws_markText k) (fun r (_ : Unit) => strV r) fun _ _ => [] := by
  unfold laws_markText
  refine Ci Tryz.func37 r r ?_
  rintro w S -
  refine Sr<|Qs 1 r<|Nx<|Sq<|Sr<|Qs 2 r<|Nx<|Wc r (fun H1=>Sr<|Qs 1 r<|Nx<|Wr<|Tr<|Re () []) fun H1=>Sn<|Sr<|Qs 1 r<|Nx<|Sq<|Ju [] (fun T=>[(3, strV T)]) r1 (?_) fun T4=>?_
  ·refine Wb<|Lu [] (fun T=>[(0, iv T.1), (3, strV T.2)]) r1 fun S2=>Sq<|Sr<|Qs 2 r<|Nx<|Wc r (fun H6=>?_) fun H6=>?_
   ·exact Sn<|Wb<|Sr<|Qs 1 r<|Yo (Y.rem (by decide) r r)<|Qs 1 r<|Yo (Y.conv8 ki3 ki5 r)<|Fo (Bs [toU8 (IntKind.i64.wrap ((48 : Int) + (Int.tmod S2.1 (10 : Int))))] ke22 kz5) fun B7=>Yo (Y.toStr ke22 ki5 ks9 (Oc 0 r) r)<|Qs 1 r<|Bi fun E8 H9=>Yo (Y.cat H9 r r)<|Qs 1 r<|Nx<|Rg<|Qs 1 r<|Yo (Y.quo (by decide) r r)<|Qs 1 r<|Nl<|Bn<|Lg () []
   exact Wx<|Tx<|Ex<|Be<|Jg () []
  exact Ne<|Sr<|Qs 1 r<|Bi fun E10 H11=>Yo (Y.cat H11 r r)<|Qs 1 r<|Nx<|Wr<|Re () []
noncomputable def laws_markOpS (a : List Op) (k : Int) : Option (Int × List Op) :=
  bindC (loopO (fun (S1 : Int × Int × List Op) => if (decide (S1.2.1 < ((S1.2.2.length : Nat) : Int))) = true then ((laws_markText S1.1).bind fun R6 =>
  (idx S1.2.2 S1.2.1).bind fun E9 =>
  (laws_markText (IntKind.i64.wrap (IntKind.i64.wrap (S1.1 + (1 : Int)) + (1 : Int)))).bind fun R11 =>
  some (.go (IntKind.i64.wrap (IntKind.i64.wrap (IntKind.i64.wrap (S1.1 + (1 : Int)) + (1 : Int)) + (1 : Int)), IntKind.i64.wrap (S1.2.1 + (1 : Int)), (S1.2.2.set S1.2.1.toNat ({ Key := R6, Del := (decide (Int.tmod (IntKind.i64.wrap (S1.1 + (1 : Int))) (3 : Int) = (0 : Int))), Val := R11 : Op })))))
  else (some (.done (.go (S1.1, S1.2.2)))))
  (k, (0 : Int), a))
  (fun (T3 : Int × List Op) => some (T3.1, T3.2))
theorem laws_markOpS_c {a : List Op} {k : Int} {U0 : Value} : Cn Tryz.prog 38 [U0, iv k] [.own U0 (lc a)] [] (laws_markOpS a k) (fun r (_ : Unit) => iv r.1) fun r _ => [.own U0 (lc r.2)] := by
  unfold laws_markOpS
  refine Ci Tryz.func38 r r ?_
  rintro w S -
  refine Sr<|Qs 1 r<|Nx<|Sq<|Sr<|Qs 1 r<|Nx<|Jn Unit [] [] (fun T _=>[(1, iv T.1)]) (fun T _=>[.own U0 (lc T.2)]) r2 r2 (?_) fun T3 X4=>?_
  ·refine Wb<|Lp Unit [0] [] (fun T _=>[(1, iv T.1), (5, iv T.2.1)]) (fun T _=>[.own U0 (lc T.2.2)]) () [0] r2 r2 fun S1 X2=>Sq<|Sr<|Qs 2 r<|Yo (Ln ke44 (Oc 0 r) r)<|Qs 1 r<|Nx<|Wc r (fun H5=>?_) fun H5=>?_
   ·refine Sn<|Sq<|Wb<|Sr<|Qs 3 r<|Bi fun R6 H7=>Fo (Cl [] laws_markText_c H7 r r1) fun _=>Bi fun E9 H10=>Yo (Ix ke44 (Oc 0 r) H10 r)<|Yo (Fe kf98_0 (Oc 0 r) H10 r)<|Fu (Se ({ Key := R6, Del := E9.Del, Val := E9.Val : Op }) 0 kk9 H10 r (Cp r) r)<|Nx<|Sr<|Qs 3 r<|Nx<|Sr<|Qs 3 r<|Yo (Y.rem (by decide) r r)<|Qs 1 r<|Yo (Ix ke44 (Oc 0 r) (idx_set H10) r)<|Yo (Fe kf98_1 (Oc 0 r) (idx_set H10) r)<|Fu (Ef.store_el (us := [.bool (decide (Int.tmod (IntKind.i64.wrap (S1.1 + (1 : Int))) (3 : Int) = (0 : Int)))]) (is' := [.own U0 (lc (S1.2.2.set S1.2.1.toNat ({ Key := R6, Del := decide (Int.tmod (IntKind.i64.wrap (S1.1 + (1 : Int))) (3 : Int) = (0 : Int)), Val := E9.Val : Op })))]) ({ Key := R6, Del := decide (Int.tmod (IntKind.i64.wrap (S1.1 + (1 : Int))) (3 : Int) = (0 : Int)), Val := E9.Val : Op }) 0 kk4 r r (idx_get (idx_set H10)).2.2 r r (Cp r) r r r (by rw [List.set_set]; rfl))<|Nx<|Sr<|Qs 3 r<|Nx<|Sr<|Qs 3 r<|Bi fun R11 H12=>?_
    exact Fo (Cl [] laws_markText_c H12 r r1) fun _=>Yo (Ix ke44 (Oc 0 r) (idx_set H10) r)<|Yo (Fe kf98_2 (Oc 0 r) (idx_set H10) r)<|Fu (Ef.store_el (us := [strV R11]) (is' := [.own U0 (lc (S1.2.2.set S1.2.1.toNat ({ Key := R6, Del := (decide (Int.tmod (IntKind.i64.wrap (S1.1 + (1 : Int))) (3 : Int) = (0 : Int))), Val := R11 : Op })))]) ({ Key := R6, Del := (decide (Int.tmod (IntKind.i64.wrap (S1.1 + (1 : Int))) (3 : Int) = (0 : Int))), Val := R11 : Op }) 0 kk9 r r (idx_get (idx_set H10)).2.2 r r (Cp r) r r r (by rw [List.set_set]; rfl))<|Nx<|Rg<|Qs 3 r<|Nl<|Bn<|Ne<|Rg<|Qs 3 r<|Nl<|Lg () [0]
   exact Wx<|Tx<|Ex<|Be<|Jg () [0]
  exact Ne<|Sr<|Qs 2 r<|Nx<|Wr<|Re () [0]
noncomputable def laws_markCallS (a : List Call) (k : Int) : Option (Int × List Call) :=
  bindC (loopO (fun (S1 : Int × Int × List Call) => if (decide (S1.2.1 < ((S1.2.2.length : Nat) : Int))) = true then ((idx S1.2.2 S1.2.1).bind fun E6 =>
  (laws_markText (IntKind.i64.wrap (S1.1 + (1 : Int)))).bind fun R10 =>
  (laws_markText (IntKind.i64.wrap (IntKind.i64.wrap (IntKind.i64.wrap (IntKind.i64.wrap (S1.1 + (1 : Int)) + (1 : Int)) + (1 : Int)) + (1 : Int)))).bind fun R13 =>
  (laws_markText (IntKind.i64.wrap (IntKind.i64.wrap (IntKind.i64.wrap (IntKind.i64.wrap (IntKind.i64.wrap (S1.1 + (1 : Int)) + (1 : Int)) + (1 : Int)) + (1 : Int)) + (1 : Int)))).bind fun R16 =>
  (laws_markOpS E6.Ops (IntKind.i64.wrap (IntKind.i64.wrap (IntKind.i64.wrap (IntKind.i64.wrap (IntKind.i64.wrap (IntKind.i64.wrap (S1.1 + (1 : Int)) + (1 : Int)) + (1 : Int)) + (1 : Int)) + (1 : Int)) + (1 : Int)))).bind fun R19 =>
  some (.go (R19.1, IntKind.i64.wrap (S1.2.1 + (1 : Int)), (S1.2.2.set S1.2.1.toNat ({ Kind := S1.1, Token := R10, Tenant := IntKind.i64.wrap (IntKind.i64.wrap (S1.1 + (1 : Int)) + (1 : Int)), N := IntKind.i64.wrap (IntKind.i64.wrap (IntKind.i64.wrap (S1.1 + (1 : Int)) + (1 : Int)) + (1 : Int)), Key := R13, To := R16, Ops := R19.2 : Call })))))
  else (some (.done (.go (S1.1, S1.2.2)))))
  (k, (0 : Int), a))
  (fun (T3 : Int × List Call) => some (T3.1, T3.2))
theorem laws_markCallS_c {a : List Call} {k : Int} {U0 : Value} : Cn Tryz.prog 17 [U0, iv k] [.own U0 (lc a)] [] (laws_markCallS a k) (fun r (_ : Unit) => iv r.1) fun r _ => [.own U0 (lc r.2)] := by
  unfold laws_markCallS
  refine Ci Tryz.func17 r r ?_
  rintro w S -
  refine Sr<|Qs 1 r<|Nx<|Sq<|Sr<|Qs 1 r<|Nx<|Jn Unit [] [] (fun T _=>[(1, iv T.1)]) (fun T _=>[.own U0 (lc T.2)]) r2 r2 (?_) fun T3 X4=>?_
  ·refine Wb<|Lp Unit [0] [] (fun T _=>[(1, iv T.1), (5, iv T.2.1)]) (fun T _=>[.own U0 (lc T.2.2)]) () [0] r2 r2 fun S1 X2=>Sq<|Sr<|Qs 2 r<|Yo (Ln ke24 (Oc 0 r) r)<|Qs 1 r<|Nx<|Wc r (fun H5=>?_) fun H5=>?_
   ·refine Sn<|Sq<|Wb<|Sr<|Qs 3 r<|Bi fun E6 H7=>Yo (Ix ke24 (Oc 0 r) H7 r)<|TO.fact (ptr_of (Can.own 0 r) H7) fun H8=>Yo (Fp kf46_0 H8 r)<|Gt (X := Value) (Ho 1 [0] H7 r r1) fun X9=>Fu (Sh 0 [ic S1.1] kk3 H7 r (Cp r) r)<|Nx<|Sr<|Qs 3 r<|Nx<|Sr<|Qs 3 r<|Bi fun R10 H11=>Fo (Cl [] laws_markText_c H11 r r1) fun _=>Yo (Ix ke24 (Oc 0 r) H7 r)<|Yo (Fp kf46_1 H8 r)<|Fu (Sh 0 [.str R10] kk9 H7 r (Cp r) r)<|Nx<|Sr<|Qs 3 r<|Nx<|Sr<|Qs 3 r<|Yo (Ix ke24 (Oc 0 r) H7 r)<|Yo (Fp kf46_2 H8 r)<|Fu (Sh 0 [ic (IntKind.i64.wrap (IntKind.i64.wrap (S1.1 + (1 : Int)) + (1 : Int)))] kk3 H7 r (Cp r) r)<|Nx<|Sr<|Qs 3 r<|Nx<|Sr<|Qs 3 r<|Yo (Ix ke24 (Oc 0 r) H7 r)<|Yo (Fp kf46_3 H8 r)<|Fu (Sh 0 [ic (IntKind.i64.wrap (IntKind.i64.wrap (IntKind.i64.wrap (S1.1 + (1 : Int)) + (1 : Int)) + (1 : Int)))] kk3 H7 r (Cp r) r)<|Nx<|Sr<|Qs 3 r<|Nx<|Sr<|Qs 3 r<|Bi fun R13 H14=>?_
    exact Fo (Cl [] laws_markText_c H14 r r1) fun _=>Yo (Ix ke24 (Oc 0 r) H7 r)<|Yo (Fp kf46_4 H8 r)<|Fu (Sh 0 [.str R13] kk9 H7 r (Cp r) r)<|Nx<|Sr<|Qs 3 r<|Nx<|Sr<|Qs 3 r<|Bi fun R16 H17=>Fo (Cl [] laws_markText_c H17 r r1) fun _=>Yo (Ix ke24 (Oc 0 r) H7 r)<|Yo (Fp kf46_5 H8 r)<|Fu (Sh 0 [.str R16] kk9 H7 r (Cp r) r)<|Nx<|Sr<|Qs 3 r<|Nx<|Rg<|Qs 2 r<|Yo (Ix ke24 (Oc 0 r) H7 r)<|Yo (Fp kf46_6 H8 r)<|Yo (Lh 0 kk44 H7 r)<|Qs 1 r<|Bi fun R19 H20=>Fo (Cl [1] laws_markOpS_c H20 r r1) fun _=>Qs 1 r<|Nl<|Bn<|Ne<|Rg<|Qs 3 r<|Nl<|Ke (Hc [1, 0] ({ Kind := S1.1, Token := R10, Tenant := IntKind.i64.wrap (IntKind.i64.wrap (S1.1 + (1 : Int)) + (1 : Int)), N := IntKind.i64.wrap (IntKind.i64.wrap (IntKind.i64.wrap (S1.1 + (1 : Int)) + (1 : Int)) + (1 : Int)), Key := R13, To := R16, Ops := R19.2 : Call }) H7 r (Ck (Ck (Ck (Ck (Ck (Ck (Cf Cz))))))))<|Lg () [0]
   exact Wx<|Tx<|Ex<|Be<|Jg () [0]
  exact Ne<|Sr<|Qs 2 r<|Nx<|Wr<|Re () [0]
noncomputable def laws_markKVS (a : List KV) (k : Int) : Option (Int × List KV) :=
  bindC (loopO (fun (S1 : Int × Int × List KV) => if (decide (S1.2.1 < ((S1.2.2.length : Nat) : Int))) = true then ((laws_markText S1.1).bind fun R6 =>
  (idx S1.2.2 S1.2.1).bind fun E9 =>
  (laws_markText (IntKind.i64.wrap (S1.1 + (1 : Int)))).bind fun R11 =>
  some (.go (IntKind.i64.wrap (IntKind.i64.wrap (S1.1 + (1 : Int)) + (1 : Int)), IntKind.i64.wrap (S1.2.1 + (1 : Int)), (S1.2.2.set S1.2.1.toNat ({ Key := R6, Val := R11 : KV })))))
  else (some (.done (.go (S1.1, S1.2.2)))))
  (k, (0 : Int), a))
  (fun (T3 : Int × List KV) => some (T3.1, T3.2))
theorem laws_markKVS_c {a : List KV} {k : Int} {U0 : Value} : Cn Tryz.prog 39 [U0, iv k] [.own U0 (lc a)] [] (laws_markKVS a k) (fun r (_ : Unit) => iv r.1) fun r _ => [.own U0 (lc r.2)] := by
  unfold laws_markKVS
  refine Ci Tryz.func39 r r ?_
  rintro w S -
  refine Sr<|Qs 1 r<|Nx<|Sq<|Sr<|Qs 1 r<|Nx<|Jn Unit [] [] (fun T _=>[(1, iv T.1)]) (fun T _=>[.own U0 (lc T.2)]) r2 r2 (?_) fun T3 X4=>?_
  ·refine Wb<|Lp Unit [0] [] (fun T _=>[(1, iv T.1), (5, iv T.2.1)]) (fun T _=>[.own U0 (lc T.2.2)]) () [0] r2 r2 fun S1 X2=>Sq<|Sr<|Qs 2 r<|Yo (Ln ke39 (Oc 0 r) r)<|Qs 1 r<|Nx<|Wc r (fun H5=>?_) fun H5=>?_
   ·exact Sn<|Sq<|Wb<|Sr<|Qs 3 r<|Bi fun R6 H7=>Fo (Cl [] laws_markText_c H7 r r1) fun _=>Bi fun E9 H10=>Yo (Ix ke39 (Oc 0 r) H10 r)<|Yo (Fe kf100_0 (Oc 0 r) H10 r)<|Fu (Se ({ Key := R6, Val := E9.Val : KV }) 0 kk9 H10 r (Cp r) r)<|Nx<|Sr<|Qs 3 r<|Nx<|Sr<|Qs 3 r<|Bi fun R11 H12=>Fo (Cl [] laws_markText_c H12 r r1) fun _=>Yo (Ix ke39 (Oc 0 r) (idx_set H10) r)<|Yo (Fe kf100_1 (Oc 0 r) (idx_set H10) r)<|Fu (Ef.store_el (us := [strV R11]) (is' := [.own U0 (lc (S1.2.2.set S1.2.1.toNat ({ Key := R6, Val := R11 : KV })))]) ({ Key := R6, Val := R11 : KV }) 0 kk9 r r (idx_get (idx_set H10)).2.2 r r (Cp r) r r r (by rw [List.set_set]; rfl))<|Nx<|Rg<|Qs 3 r<|Nl<|Bn<|Ne<|Rg<|Qs 3 r<|Nl<|Lg () [0]
   exact Wx<|Tx<|Ex<|Be<|Jg () [0]
  exact Ne<|Sr<|Qs 2 r<|Nx<|Wr<|Re () [0]
noncomputable def laws_markReplyS (a : List Reply) (k : Int) : Option (Int × List Reply) :=
  bindC (loopO (fun (S1 : Int × Int × List Reply) => if (decide (S1.2.1 < ((S1.2.2.length : Nat) : Int))) = true then ((idx S1.2.2 S1.2.1).bind fun E6 =>
  (laws_markText (IntKind.i64.wrap (IntKind.i64.wrap (S1.1 + (1 : Int)) + (1 : Int)))).bind fun R10 =>
  (laws_markKVS E6.List (IntKind.i64.wrap (IntKind.i64.wrap (IntKind.i64.wrap (S1.1 + (1 : Int)) + (1 : Int)) + (1 : Int)))).bind fun R13 =>
  some (.go (R13.1, IntKind.i64.wrap (S1.2.1 + (1 : Int)), (S1.2.2.set S1.2.1.toNat ({ Code := S1.1, N := IntKind.i64.wrap (S1.1 + (1 : Int)), Text := R10, List := R13.2 : Reply })))))
  else (some (.done (.go (S1.1, S1.2.2)))))
  (k, (0 : Int), a))
  (fun (T3 : Int × List Reply) => some (T3.1, T3.2))
theorem laws_markReplyS_c {a : List Reply} {k : Int} {U0 : Value} : Cn Tryz.prog 18 [U0, iv k] [.own U0 (lc a)] [] (laws_markReplyS a k) (fun r (_ : Unit) => iv r.1) fun r _ => [.own U0 (lc r.2)] := by
  unfold laws_markReplyS
  refine Ci Tryz.func18 r r ?_
  rintro w S -
  refine Sr<|Qs 1 r<|Nx<|Sq<|Sr<|Qs 1 r<|Nx<|Jn Unit [] [] (fun T _=>[(1, iv T.1)]) (fun T _=>[.own U0 (lc T.2)]) r2 r2 (?_) fun T3 X4=>?_
  ·refine Wb<|Lp Unit [0] [] (fun T _=>[(1, iv T.1), (5, iv T.2.1)]) (fun T _=>[.own U0 (lc T.2.2)]) () [0] r2 r2 fun S1 X2=>Sq<|Sr<|Qs 2 r<|Yo (Ln ke28 (Oc 0 r) r)<|Qs 1 r<|Nx<|Wc r (fun H5=>?_) fun H5=>?_
   ·refine Sn<|Sq<|Wb<|Sr<|Qs 3 r<|Bi fun E6 H7=>Yo (Ix ke28 (Oc 0 r) H7 r)<|TO.fact (ptr_of (Can.own 0 r) H7) fun H8=>Yo (Fp kf41_0 H8 r)<|Gt (X := Value) (Ho 1 [0] H7 r r1) fun X9=>Fu (Sh 0 [ic S1.1] kk3 H7 r (Cp r) r)<|Nx<|Sr<|Qs 3 r<|Nx<|Sr<|Qs 3 r<|Yo (Ix ke28 (Oc 0 r) H7 r)<|Yo (Fp kf41_1 H8 r)<|Fu (Sh 0 [ic (IntKind.i64.wrap (S1.1 + (1 : Int)))] kk3 H7 r (Cp r) r)<|Nx<|Sr<|Qs 3 r<|Nx<|Sr<|Qs 3 r<|Bi fun R10 H11=>Fo (Cl [] laws_markText_c H11 r r1) fun _=>Yo (Ix ke28 (Oc 0 r) H7 r)<|Yo (Fp kf41_2 H8 r)<|Fu (Sh 0 [.str R10] kk9 H7 r (Cp r) r)<|Nx<|Sr<|Qs 3 r<|Nx<|Rg<|Qs 2 r<|Yo (Ix ke28 (Oc 0 r) H7 r)<|Yo (Fp kf41_3 H8 r)<|Yo (Lh 0 kk39 H7 r)<|Qs 1 r<|Bi fun R13 H14=>?_
    exact Fo (Cl [1] laws_markKVS_c H14 r r1) fun _=>Qs 1 r<|Nl<|Bn<|Ne<|Rg<|Qs 3 r<|Nl<|Ke (Hc [1, 0] ({ Code := S1.1, N := IntKind.i64.wrap (S1.1 + (1 : Int)), Text := R10, List := R13.2 : Reply }) H7 r (Ck (Ck (Ck (Cf Cz)))))<|Lg () [0]
   exact Wx<|Tx<|Ex<|Be<|Jg () [0]
  exact Ne<|Sr<|Qs 2 r<|Nx<|Wr<|Re () [0]
noncomputable def laws_heldKVS (a : List KV) (k : Int) : Option Int :=
  bindC (loopO (fun (S1 : Int × Int) => if (decide (S1.2 < ((a.length : Nat) : Int))) = true then ((idx a S1.2).bind fun E6 =>
  (laws_markText S1.1).bind fun R8 =>
  if (!(decide (E6.Key = R8))) = true then (some (.done (.done (-1 : Int))))
  else ((laws_markText (IntKind.i64.wrap (S1.1 + (1 : Int)))).bind fun R12 =>
  if (!(decide (E6.Val = R12))) = true then (some (.done (.done (-1 : Int))))
  else (some (.go (IntKind.i64.wrap (IntKind.i64.wrap (S1.1 + (1 : Int)) + (1 : Int)), IntKind.i64.wrap (S1.2 + (1 : Int)))))))
  else (some (.done (.go S1.1))))
  (k, (0 : Int)))
  (fun (T3 : Int) => some T3)
theorem laws_heldKVS_c {a : List KV} {k : Int} {U0 : Value} : Cn Tryz.prog 40 [U0, iv k] [] [(U0, lc a)] (laws_heldKVS a k) (fun r (_ : Unit) => iv r) fun _ _ => [] := by
  unfold laws_heldKVS
  refine Ci Tryz.func40 r r ?_
  rintro w S ⟨Z0,-⟩
  refine Sr<|Qs 1 r<|Nx<|Sq<|Sr<|Qs 1 r<|Nx<|Ju [] (fun T=>[(1, iv T)]) r1 (?_) fun T3=>?_
  ·refine Wb<|Lu [0] (fun T=>[(1, iv T.1), (5, iv T.2)]) r1 fun S1=>Sq<|Sr<|Qs 2 r<|Yo (Ln ke39 (Bc Z0) r)<|Qs 1 r<|Nx<|Wc r (fun H5=>?_) fun H5=>?_
   ·refine Sn<|Sq<|Wb<|Sq<|Sq<|Dr [] r hMix<|Aq [0,1] [] r<|Ai fun E6 H7=>Ay 2 [] r (Ix ke39 (Bc Z0) H7 r)<|Ay 3 [] r (Fe kf100_0 (Bc Z0) H7 r)<|Ay 4 [] r (Le kk9 (Bc Z0) H7 r)<|Aq [5] [] r<|Ai fun R8 H9=>A1 6<|Xe [] r (Cl [] laws_markText_c H9 r r1) fun _=>Aq [7] [] r<|Az<|Ne<|Wc r (fun H11=>Sr<|Qs 1 r<|Nx<|Wr<|Tr<|Br<|Tr<|Er<|Br<|Jd<|Tr<|Re () []) fun H11=>Sn<|Sr<|Qs 3 r<|Nx<|Sq<|Sq<|Dr [] r hMix<|Aq [0,1] [] r<|Ay 2 [] r (Ix ke39 (Bc Z0) H7 r)<|Ay 3 [] r (Fe kf100_1 (Bc Z0) H7 r)<|Ay 4 [] r (Le kk9 (Bc Z0) H7 r)<|Aq [5] [] r<|Ai fun R12 H13=>?_
    exact A1 6<|Xe [] r (Cl [] laws_markText_c H13 r r1) fun _=>Aq [7] [] r<|Az<|Ne<|Wc r (fun H15=>Sr<|Qs 1 r<|Nx<|Wr<|Tr<|Br<|Tr<|Er<|Br<|Jd<|Tr<|Re () []) fun H15=>Sn<|Rg<|Qs 3 r<|Nl<|Bn<|Ne<|Rg<|Qs 3 r<|Nl<|Lg () []
   exact Wx<|Tx<|Ex<|Be<|Jg () []
  exact Ne<|Sr<|Qs 2 r<|Nx<|Wr<|Re () []
noncomputable def laws_heldReplyS (a : List Reply) (k : Int) : Option Int :=
  bindC (loopO (fun (S1 : Int × Int) => if (decide (S1.2 < ((a.length : Nat) : Int))) = true then ((idx a S1.2).bind fun E6 =>
  if (!(decide (E6.Code = S1.1))) = true then (some (.done (.done (-1 : Int))))
  else (if (!(decide (E6.N = IntKind.i64.wrap (S1.1 + (1 : Int))))) = true then (some (.done (.done (-1 : Int))))
  else ((laws_markText (IntKind.i64.wrap (IntKind.i64.wrap (S1.1 + (1 : Int)) + (1 : Int)))).bind fun R10 =>
  if (!(decide (E6.Text = R10))) = true then (some (.done (.done (-1 : Int))))
  else ((laws_heldKVS E6.List (IntKind.i64.wrap (IntKind.i64.wrap (IntKind.i64.wrap (S1.1 + (1 : Int)) + (1 : Int)) + (1 : Int)))).bind fun R15 =>
  if (decide (R15 < (0 : Int))) = true then (some (.done (.done (-1 : Int))))
  else (some (.go (R15, IntKind.i64.wrap (S1.2 + (1 : Int)))))))))
  else (some (.done (.go S1.1))))
  (k, (0 : Int)))
  (fun (T3 : Int) => some T3)
theorem laws_heldReplyS_c {a : List Reply} {k : Int} {U0 : Value} : Cn Tryz.prog 19 [U0, iv k] [] [(U0, lc a)] (laws_heldReplyS a k) (fun r (_ : Unit) => iv r) fun _ _ => [] := by
  unfold laws_heldReplyS
  refine Ci Tryz.func19 r r ?_
  rintro w S ⟨Z0,-⟩
  refine Sr<|Qs 1 r<|Nx<|Sq<|Sr<|Qs 1 r<|Nx<|Ju [] (fun T=>[(1, iv T)]) r1 (?_) fun T3=>?_
  ·refine Wb<|Lu [0] (fun T=>[(1, iv T.1), (5, iv T.2)]) r1 fun S1=>Sq<|Sr<|Qs 2 r<|Yo (Ln ke28 (Bc Z0) r)<|Qs 1 r<|Nx<|Wc r (fun H5=>?_) fun H5=>?_
   ·refine Sn<|Sq<|Wb<|Sq<|Sr<|Qs 2 r<|Bi fun E6 H7=>Yo (Ix ke28 (Bc Z0) H7 r)<|Yo (Fe kf41_0 (Bc Z0) H7 r)<|Yo (Le kk3 (Bc Z0) H7 r)<|Qs 2 r<|Nx<|Wc r (fun H8=>Sr<|Qs 1 r<|Nx<|Wr<|Tr<|Br<|Tr<|Er<|Br<|Jd<|Tr<|Re () []) fun H8=>Sn<|Sr<|Qs 3 r<|Nx<|Sq<|Sr<|Qs 2 r<|Yo (Ix ke28 (Bc Z0) H7 r)<|Yo (Fe kf41_1 (Bc Z0) H7 r)<|Yo (Le kk3 (Bc Z0) H7 r)<|Qs 2 r<|Nx<|Wc r (fun H9=>Sr<|Qs 1 r<|Nx<|Wr<|Tr<|Br<|Tr<|Er<|Br<|Jd<|Tr<|Re () []) fun H9=>Sn<|Sr<|Qs 3 r<|Nx<|Sq<|Sq<|Dr [] r hMix<|Aq [0,1] [] r<|Ay 2 [] r (Ix ke28 (Bc Z0) H7 r)<|Ay 3 [] r (Fe kf41_2 (Bc Z0) H7 r)<|Ay 4 [] r (Le kk9 (Bc Z0) H7 r)<|Aq [5] [] r<|Ai fun R10 H11=>?_
    refine A1 6<|Xe [] r (Cl [] laws_markText_c H11 r r1) fun _=>Aq [7] [] r<|Az<|Ne<|Wc r (fun H13=>Sr<|Qs 1 r<|Nx<|Wr<|Tr<|Br<|Tr<|Er<|Br<|Jd<|Tr<|Re () []) fun H13=>Sn<|Sr<|Qs 3 r<|Nx<|Sr<|Qs 2 r<|Yo (Ix ke28 (Bc Z0) H7 r)<|Yo (Fe kf41_3 (Bc Z0) H7 r)<|?_
    have Q14 : Base w S (elv w U0 (S1.2.toNat * 4 + 3)) (lc E6.List):=Base.el Z0 (idx_get H7).2.2 r r
    exact Yo (Lz kk39 Z0 H7 r)<|Qs 1 r<|Bi fun R15 H16=>Fo (Cl [] laws_heldKVS_c H16 r r1 ⟨(Bc Q14),⟨⟩⟩) fun _=>Qs 1 r<|Nx<|Sr<|Qs 2 r<|Nx<|Wc r (fun H18=>Sr<|Qs 1 r<|Nx<|Wr<|Br<|Tr<|Er<|Br<|Jd<|Tr<|Re () []) fun H18=>Sk<|Bn<|Ne<|Rg<|Qs 3 r<|Nl<|Lg () []
   exact Wx<|Tx<|Ex<|Be<|Jg () []
  exact Ne<|Sr<|Qs 2 r<|Nx<|Wr<|Re () []
noncomputable def laws_FnExactModelPlay (aSecret : List UInt8) (aSize : Int) (aL : List Call) : Option Bool :=
  if (decide (((aSecret.length : Nat) : Int) > (1048576 : Int))) = true then (some true)
  else ((laws_szCallS aL (1048576 : Int)).bind fun R2 =>
  if (decide (R2 < (0 : Int))) = true then (some true)
  else ((laws_toCallS aL).bind fun R6 =>
  (spec_ModelPlay aSecret aSize R6).bind fun R9 =>
  (impl_ModelPlay aSecret aSize R6).bind fun R13 =>
  (laws_eqReplyS R13 R9).bind fun R16 =>
  if (!R16) = true then (some false)
  else ((laws_eqCallS R6 R6).bind fun R21 =>
  if (!R21) = true then (some false)
  else ((laws_markCallS R6 (1 : Int)).bind fun R25 =>
  (if (decide (R25.1 < (0 : Int))) = true then (some true)
  else (some (!R16))).bind (fun (T28 : Bool) =>
  if T28 = true then (some false)
  else ((laws_markReplyS R13 (1 : Int)).bind fun R33 =>
  (laws_heldReplyS R33.2 (1 : Int)).bind fun R36 =>
  if (decide (R36 < (0 : Int))) = true then (some false)
  else (if (!(decide (R36 = R33.1))) = true then (some false)
  else (if (!R16) = true then (some false)
  else (if (decide (R36 < (0 : Int))) = true then (some false)
  else (if (!(decide (R36 = R33.1))) = true then (some false)
  else (some true)))))))))))
theorem laws_FnExactModelPlay_c {aSecret : List UInt8} {aSize : Int} {aL : List Call} {U0 : Value} : Cn Tryz.prog 4 [strV aSecret, iv aSize, U0] [] [(U0, lc aL)] (laws_FnExactModelPlay aSecret aSize aL) (fun r (_ : Unit) => .bool r) fun _ _ => [] := by
  unfold laws_FnExactModelPlay
  refine Ci Tryz.func4 r r ?_
  rintro w S ⟨Z0,-⟩
  refine Sr<|Qs 1 r<|Nx<|Sq<|Sr<|Qs 1 r<|Yo (Y.slen ks9 r)<|Qs 1 r<|Nx<|Wc r (fun H1=>Sr<|Qs 1 r<|Nx<|Wr<|Tr<|Re () []) fun H1=>Sn<|Sr<|Qs 1 r<|Nx<|Sr<|Qs 2 r<|Bi fun R2 H3=>Fo (Cl [] laws_szCallS_c H3 r r1 ⟨(Bc Z0),⟨⟩⟩) fun _=>Qs 1 r<|Nx<|Sq<|Sr<|Qs 2 r<|Nx<|Wc r (fun H5=>Sr<|Qs 1 r<|Nx<|Wr<|Tr<|Re () []) fun H5=>Sn<|Sr<|Qs 3 r<|Bi fun R6 H7=>Fo (Cl [] laws_toCallS_c H7 r r1 ⟨(Bc Z0),⟨⟩⟩) fun Y8=>Bi fun R9 H10=>Fo (Cl [] spec_ModelPlay_c H10 r r1 ⟨(Oc 0 r),⟨⟩⟩) fun Y11=>Qs 1 r<|Nx<|Sr<|Qs 1 r<|Fo (Cl [] laws_toCallS_c H7 r r1 ⟨(Bc Z0),⟨⟩⟩) fun Y12=>?_
  refine Qs 1 r<|Nx<|Sr<|Qs 3 r<|Bi fun R13 H14=>Fo (Cl [] impl_ModelPlay_c H14 r r1 ⟨(Oc 0 r),⟨⟩⟩) fun Y15=>Qs 1 r<|Nx<|Sq<|Sr<|Qs 2 r<|Bi fun R16 H17=>Fo (Cl [] laws_eqReplyS_c H17 r r1 ⟨(Oc 0 r),(Oc 2 r),⟨⟩⟩) fun _=>Qs 1 r<|Nx<|Wc r (fun H19=>Sr<|Qs 1 r<|Nx<|Wr<|Tr<|Re () []) fun H19=>Sn<|Sq<|Sr<|Qs 2 r<|Fo (Cl [] laws_toCallS_c H7 r r1 ⟨(Bc Z0),⟨⟩⟩) fun Y20=>Bi fun R21 H22=>Fo (Cl [] laws_eqCallS_c H22 r r1 ⟨(Oc 2 r),(Oc 0 r),⟨⟩⟩) fun _=>Qs 1 r<|Nx<|Wc r (fun H24=>Sr<|Qs 1 r<|Nx<|Wr<|Tr<|Re () []) fun H24=>Sn<|Sr<|Qs 1 r<|Nx<|Sr<|Qs 2 r<|Bi fun R25 H26=>?_
  refine Fo (Cl [2] laws_markCallS_c H26 r r1) fun _=>Qs 1 r<|Nx<|Sq<|Sq<|Jb Unit [0,1,2,8,10] [3,2] (fun T _=>[(53, .bool T)]) (fun _ _=>[]) r2 r2 (Rg<|Qs 3 r<|It (fun H30=>Of 4 (beq_tf H30) r r<|Yo (Pt H30 r)<|Nl<|Bg () [3,2]) fun H30=>Qg 2 (beq_ff H30) r r<|Fg (gdA (beq_ff H30)) (Cl [] laws_eqReplyS_c H17 r r1 ⟨(Oc 2 r),(Oc 3 r),⟨⟩⟩) fun _=>Qg 1 (beq_ff H30) r r<|Yo (Pf H30 r)<|Nl<|Bg () [3,2]) fun T28 X29=>Ne<|Wc r (fun H32=>Sr<|Qs 1 r<|Nx<|Wr<|Tr<|Re () []) fun H32=>Sn<|Sr<|Qs 1 r<|Nx<|Sr<|Qs 2 r<|Bi fun R33 H34=>Fo (Cl [1] laws_markReplyS_c H34 r r1) fun _=>?_
  refine Qs 1 r<|Nx<|Sr<|Qs 1 r<|Nx<|Sr<|Qs 2 r<|Bi fun R36 H37=>Fo (Cl [] laws_heldReplyS_c H37 r r1 ⟨(Oc 0 r),⟨⟩⟩) fun _=>Qs 1 r<|Nx<|Sq<|Sr<|Qs 2 r<|Nx<|Wc r (fun H39=>Sr<|Qs 1 r<|Nx<|Wr<|Tr<|Re () []) fun H39=>Sn<|Sq<|Sr<|Qs 3 r<|Nx<|Wc r (fun H40=>Sr<|Qs 1 r<|Nx<|Wr<|Tr<|Re () []) fun H40=>Sn<|Sr<|Qs 3 r<|Fo (Cl [] laws_toCallS_c H7 r r1 ⟨(Bc Z0),⟨⟩⟩) fun Y41=>Fo (Cl [] impl_ModelPlay_c H14 r r1 ⟨(Oc 0 r),⟨⟩⟩) fun Y42=>Qs 1 r<|Nx<|Sq<|Sr<|Qs 2 r<|Fo (Cl [] laws_eqReplyS_c H17 r r1 ⟨(Oc 0 r),(Oc 3 r),⟨⟩⟩) fun _=>?_
  exact Qs 1 r<|Nx<|Wc r (fun H44=>Sr<|Qs 1 r<|Nx<|Wr<|Tr<|Re () []) fun H44=>Sn<|Sr<|Qs 1 r<|Nx<|Sr<|Qs 2 r<|Fo (Cl [] laws_heldReplyS_c H37 r r1 ⟨(Oc 2 r),⟨⟩⟩) fun _=>Qs 1 r<|Nx<|Sq<|Sr<|Qs 2 r<|Nx<|Wc r (fun H46=>Sr<|Qs 1 r<|Nx<|Wr<|Tr<|Re () []) fun H46=>Sn<|Sq<|Sr<|Qs 3 r<|Nx<|Wc r (fun H47=>Sr<|Qs 1 r<|Nx<|Wr<|Tr<|Re () []) fun H47=>Sn<|Sr<|Qs 1 r<|Nx<|Wr<|Re () []
end Go.Proofs.YtmigafjpdoeicaaGreat
