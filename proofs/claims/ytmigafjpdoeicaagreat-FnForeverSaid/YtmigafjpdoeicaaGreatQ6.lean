/-
  The functions that a law reaches, each as a pure function, with the proof that the program computes it, and the step from a pure law to the given statement. Conditions: none.
-/
import Derived.Test.YtmigafjpdoeicaaGreatQ5
set_option linter.unusedVariables false
set_option maxRecDepth 100000
set_option maxHeartbeats 4000000
namespace Go.Proofs.YtmigafjpdoeicaaGreat
open Go Sl
noncomputable def spec_l21Do (m : Model) (c : Call) : Option (Model × Reply) :=
  ((spec_l1In c.Kind (1 : Int) (4 : Int)).bind fun R7 =>
  if R7 = true then (some true)
  else ((spec_l1In c.Kind (12 : Int) (14 : Int)).bind fun R11 =>
  some R11)).bind (fun (T5 : Bool) =>
  if T5 = true then ((spec_l21Owner m c).bind fun R15 =>
  some (R15.1, R15.2))
  else ((spec_l1In c.Kind (5 : Int) (11 : Int)).bind fun R20 =>
  if (!R20) = true then ((spec_l21Code (1 : Int)).bind fun R24 =>
  some (m, R24))
  else ((spec_ReadToken m.Secret c.Token).bind fun R27 =>
  (spec_l21At m.Tens R27.1).bind fun R30 =>
  (if (!R27.2.2) = true then (some true)
  else (if (decide (R30 < (0 : Int))) = true then (some true)
  else ((idx m.Tens R30).bind fun E37 =>
  some (!(decide (E37.Epoch = R27.2.1)))))).bind (fun (T33 : Bool) =>
  if T33 = true then ((spec_l21Code (2 : Int)).bind fun R41 =>
  some (m, R41))
  else ((spec_l21Tenant m R30 c).bind fun R44 =>
  some (R44.1, R44.2))))))
theorem spec_l21Do_c {m : Model} {c : Call} {U0 U1 U2 U3 U4 : Value} : Cn Tryz.prog 29 [.agg #[strV m.Secret, iv m.Shares.Size, U0, U1, U2, U3], .agg #[iv c.Kind, strV c.Token, iv c.Tenant, iv c.N, strV c.Key, strV c.To, U4]] [.own U0 (lc m.Shares.List), .own U1 (lc m.Tens), .own U2 (lc m.Base), .own U3 (lc m.Rows)] [(U4, lc c.Ops)] (spec_l21Do m c) (fun r (X : Value × Value × Value × Value × Value) => .tuple #[.agg #[strV r.1.Secret, iv r.1.Shares.Size, X.1, X.2.1, X.2.2.1, X.2.2.2.1], .agg #[iv r.2.Code, iv r.2.N, strV r.2.Text, X.2.2.2.2]]) fun r X => [.own X.1 (lc r.1.Shares.List), .own X.2.1 (lc r.1.Tens), .own X.2.2.1 (lc r.1.Base), .own X.2.2.2.1 (lc r.1.Rows), .own X.2.2.2.2 (lc r.2.List)] := by
  unfold spec_l21Do
  refine Ci Tryz.func29 r r ?_
  rintro w S ⟨Z0,-⟩
  refine Sr<|Fo (Bx r (Ca ⟨Op',Op',Ow' 0,Ow' 1,Ow' 2,Ow' 3,⟨⟩⟩)) fun B1=>Fo (Bx r (Ca ⟨Op',Op',Op',Op',Op',Op',Ob Z0,⟨⟩⟩)) fun B2=>Fo (Al kz36 r) fun B3=>Fo (Al kz41 r) fun B4=>Nx<|Sq<|Sq<|Jv [2,3,4,5] (fun T=>[(21, .bool T)]) r1 (?_) fun T5=>?_
  ·exact Rg<|Yo (Fb kf46_0 r)<|Yo (Lb 2 kk3 r)<|Bi fun R7 H8=>Fo (Cl [] spec_l1In_c H8 r r1) fun _=>Qs 1 r<|It (fun H10=>Of 3 (beq_tf H10) r r<|Yo (Pt H10 r)<|Nl<|Bg () [0,0,0,0,0,0,0,0]) fun H10=>Yg (gdA (beq_ff H10)) (Fb kf46_0 r)<|Yg (gdA (beq_ff H10)) (Lb 2 kk3 r)<|Bi fun R11 H12=>Fg (gdA (beq_ff H10)) (Cl [] spec_l1In_c H12 r r1) fun _=>Yo (Pf H10 r)<|Nl<|Bg () [0,0,0,0,0,0,0,0]
  refine Ne<|Wc r (fun H14=>?_) fun H14=>?_
  ·exact Sr<|Yo (Lb 3 kk36 r)<|Yo (Lb 2 kk46 r)<|Bi fun R15 H16=>Fo (Cl [4, 4, 4, 4] spec_l21Owner_c H16 r r1 ⟨(Bc Z0),⟨⟩⟩) fun Y17=>Qs 3 r<|Fo (Al kz36 r) fun B18=>Fo (Al kz41 r) fun B19=>Fu (Sb 1 kk36 r (Ca ⟨Op',Op',Ow' 2,Ow' 3,Ow' 4,Ow' 5,⟨⟩⟩) r)<|Fu (Sb 0 kk41 r (Ca ⟨Op',Op',Op',Ow' 6,⟨⟩⟩) r)<|Nx<|Sq<|Dr [0,0,0,0,0,0,0,2,2] r hMix<|Ay 0 [0,0,0,0,0,0,0,2,2] r (Lb 1 kk36 r)<|Ay 1 [0,0,0,0,0,0,0,2,2] r (Lb 0 kk41 r)<|A1 2<|Xu [0,0,0,0,0,0,0,2,2] r (Sb 8 kk36 r (Ca ⟨Op',Op',Ow' 2,Ow' 3,Ow' 4,Ow' 5,⟨⟩⟩) r)<|A1 3<|Xu [0,0,0,0,0,0,0,2,2] r (Sb 7 kk41 r (Ca ⟨Op',Op',Op',Ow' 6,⟨⟩⟩) r)<|Az<|Ne<|Wr<|Tr<|TE.leaf fun _ _ hf_ hs_ => ret_any (rs := [.cell 4 36, .cell 5 41]) (vs := [.agg #[strV R15.1.Secret, iv R15.1.Shares.Size, Y17.1, Y17.2.1, Y17.2.2.1, Y17.2.2.2.1], .agg #[iv R15.2.Code, iv R15.2.N, strV R15.2.Text, Y17.2.2.2.2]]) (.inl r) r (RV.cell 8 r r kk36 r (RV.cell 7 r r kk41 r ⟨⟩)) hf_ hs_ ⟨(Y17.1, Y17.2.1, Y17.2.2.1, Y17.2.2.2.1, Y17.2.2.2.2), r, hs_.pulls [2, 2, 2, 2, 2] r⟩
  refine Sn<|Sq<|Sr<|Yo (Fb kf46_0 r)<|Yo (Lb 2 kk3 r)<|Bi fun R20 H21=>Fo (Cl [] spec_l1In_c H21 r r1) fun _=>Qs 1 r<|Nx<|Wc r (fun H23=>?_) fun H23=>?_
  ·exact Sq<|Dr [2,2,2,2,2,2] r hMix<|Ay 0 [2,2,2,2,2,2] r (Lb 1 kk36 r)<|Ai fun R24 H25=>A1 1<|Xe [3,3,3,3,3,3] r (Cl [] spec_l21Code_c H25 r r1) fun Y26=>A1 2<|Xu [3,3,3,3,3,3] r (Sb 2 kk36 r (Ca ⟨Op',Op',Ow' 5,Ow' 6,Ow' 7,Ow' 8,⟨⟩⟩) r)<|A1 3<|Xu [3,3,3,3,3,3] r (Sb 1 kk41 r (Ca ⟨Op',Op',Op',Ow' 0,⟨⟩⟩) r)<|Az<|Ne<|Wr<|Tr<|TE.leaf fun _ _ hf_ hs_ => ret_any (rs := [.cell 4 36, .cell 5 41]) (vs := [.agg #[strV m.Secret, iv m.Shares.Size, U0, U1, U2, U3], .agg #[iv R24.Code, iv R24.N, strV R24.Text, Y26]]) (.inl r) r (RV.cell 2 r r kk36 r (RV.cell 1 r r kk41 r ⟨⟩)) hf_ hs_ ⟨(U0, U1, U2, U3, Y26), r, hs_.pulls [5, 5, 5, 5, 0] r⟩
  refine Sn<|Sr<|Yo (Fb kf36_0 r)<|Yo (Lb 3 kk9 r)<|Yo (Fb kf46_1 r)<|Yo (Lb 2 kk9 r)<|Bi fun R27 H28=>Fo (Cl [] spec_ReadToken_c H28 r r1) fun _=>Qs 7 r<|Nx<|Sr<|Yo (Fb kf36_2 r)<|Yo (Lb 3 kk33 r)<|Qs 1 r<|Bi fun R30 H31=>Fo (Cl [] spec_l21At_c H31 r r1 ⟨(Oc 5 r),⟨⟩⟩) fun _=>Qs 1 r<|Nx<|Sq<|Sq<|Jv [2,3,4,5,11] (fun T=>[(64, .bool T)]) r1 (?_) fun T33=>?_
  ·exact Rg<|Qs 3 r<|It (fun H35=>Of 2 (beq_tf H35) r r<|Yo (Pt H35 r)<|Qs 1 r<|Of 8 r r r<|Yo (Pt r r)<|Nl<|Bg () [0,0,0,0,0,0,0,0]) fun H35=>Qg 2 (beq_ff H35) r r<|Yo (Pf H35 r)<|Qs 1 r<|It (fun H36=>Of 8 (beq_tf H36) r r<|Yo (Pt H36 r)<|Nl<|Bg () [0,0,0,0,0,0,0,0]) fun H36=>Yg (gdA (beq_ff H36)) (Fb kf36_2 r)<|Yg (gdA (beq_ff H36)) (Lb 3 kk33 r)<|Qg 1 (beq_ff H36) r r<|Bi fun E37 H38=>Yg (gdA (beq_ff H36)) (Ix ke33 (Oc 5 r) H38 r)<|TO.fact (ptr_of (Can.own 5 r) H38) fun H39=>Yg (gdA (beq_ff H36)) (Fp kf90_1 H39 r)<|Yg (gdA (beq_ff H36)) (Le kk3 (Oc 5 r) H38 r)<|Qg 2 (beq_ff H36) r r<|Yo (Pf H36 r)<|Nl<|Bg () [0,0,0,0,0,0,0,0]
  refine Ne<|Wc r (fun H40=>?_) fun H40=>?_
  ·exact Sq<|Dr [2,2,2,2,2,2] r hMix<|Ay 0 [2,2,2,2,2,2] r (Lb 1 kk36 r)<|Ai fun R41 H42=>A1 1<|Xe [3,3,3,3,3,3] r (Cl [] spec_l21Code_c H42 r r1) fun Y43=>A1 2<|Xu [3,3,3,3,3,3] r (Sb 2 kk36 r (Ca ⟨Op',Op',Ow' 5,Ow' 6,Ow' 7,Ow' 8,⟨⟩⟩) r)<|A1 3<|Xu [3,3,3,3,3,3] r (Sb 1 kk41 r (Ca ⟨Op',Op',Op',Ow' 0,⟨⟩⟩) r)<|Az<|Ne<|Wr<|Tr<|TE.leaf fun _ _ hf_ hs_ => ret_any (rs := [.cell 4 36, .cell 5 41]) (vs := [.agg #[strV m.Secret, iv m.Shares.Size, U0, U1, U2, U3], .agg #[iv R41.Code, iv R41.N, strV R41.Text, Y43]]) (.inl r) r (RV.cell 2 r r kk36 r (RV.cell 1 r r kk41 r ⟨⟩)) hf_ hs_ ⟨(U0, U1, U2, U3, Y43), r, hs_.pulls [5, 5, 5, 5, 0] r⟩
  exact Sn<|Sr<|Yo (Lb 3 kk36 r)<|Qs 1 r<|Yo (Lb 2 kk46 r)<|Bi fun R44 H45=>Fo (Cl [4, 4, 4, 4] spec_l21Tenant_c H45 r r1 ⟨(Bc Z0),⟨⟩⟩) fun Y46=>Qs 3 r<|Fo (Al kz36 r) fun B47=>Fo (Al kz41 r) fun B48=>Fu (Sb 1 kk36 r (Ca ⟨Op',Op',Ow' 2,Ow' 3,Ow' 4,Ow' 5,⟨⟩⟩) r)<|Fu (Sb 0 kk41 r (Ca ⟨Op',Op',Op',Ow' 6,⟨⟩⟩) r)<|Nx<|Sq<|Dr [0,0,0,0,0,0,0,2,2] r hMix<|Ay 0 [0,0,0,0,0,0,0,2,2] r (Lb 1 kk36 r)<|Ay 1 [0,0,0,0,0,0,0,2,2] r (Lb 0 kk41 r)<|A1 2<|Xu [0,0,0,0,0,0,0,2,2] r (Sb 8 kk36 r (Ca ⟨Op',Op',Ow' 2,Ow' 3,Ow' 4,Ow' 5,⟨⟩⟩) r)<|A1 3<|Xu [0,0,0,0,0,0,0,2,2] r (Sb 7 kk41 r (Ca ⟨Op',Op',Op',Ow' 6,⟨⟩⟩) r)<|Az<|Ne<|Wr<|TE.leaf fun _ _ hf_ hs_ => ret_any (rs := [.cell 4 36, .cell 5 41]) (vs := [.agg #[strV R44.1.Secret, iv R44.1.Shares.Size, Y46.1, Y46.2.1, Y46.2.2.1, Y46.2.2.2.1], .agg #[iv R44.2.Code, iv R44.2.N, strV R44.2.Text, Y46.2.2.2.2]]) (.inl r) r (RV.cell 8 r r kk36 r (RV.cell 7 r r kk41 r ⟨⟩)) hf_ hs_ ⟨(Y46.1, Y46.2.1, Y46.2.2.1, Y46.2.2.2.1, Y46.2.2.2.2), r, hs_.pulls [2, 2, 2, 2, 2] r⟩
noncomputable def spec_ModelPlay (secret : List UInt8) (size : Int) (l : List Call) : Option (List Reply) :=
  (spec_ModelNew secret size).bind fun R2 =>
  (if (!R2.2) = true then (some true)
  else (some (decide (((l.length : Nat) : Int) > (120 : Int))))).bind (fun (T6 : Bool) =>
  if T6 = true then (some ([] : List Reply))
  else (bindC (loopO (fun (S10 : List UInt8 × Int × Int × List Reply × List Share × List MTen × List MTen × List MRow) => if (decide (S10.2.2.1 < ((l.length : Nat) : Int))) = true then ((idx l S10.2.2.1).bind fun E15 =>
  (spec_l21Do ({ Secret := S10.1, Shares := { Size := S10.2.1, List := S10.2.2.2.2.1 : Shares }, Tens := S10.2.2.2.2.2.1, Base := S10.2.2.2.2.2.2.1, Rows := S10.2.2.2.2.2.2.2 : Model }) E15).bind fun R18 =>
  (app 56 S10.2.2.2.1 ([R18.2])).bind fun E34 =>
  some (.go (R18.1.Secret, R18.1.Shares.Size, IntKind.i64.wrap (S10.2.2.1 + (1 : Int)), E34, R18.1.Shares.List, R18.1.Tens, R18.1.Base, R18.1.Rows)))
  else (some (.done (.go S10.2.2.2.1))))
  (R2.1.Secret, R2.1.Shares.Size, (0 : Int), ([] : List Reply), R2.1.Shares.List, R2.1.Tens, R2.1.Base, R2.1.Rows))
  (fun (T12 : List Reply) => some T12)))
theorem spec_ModelPlay_c {secret : List UInt8} {size : Int} {l : List Call} {U0 : Value} : Cn Tryz.prog 9 [strV secret, iv size, U0] [] [(U0, lc l)] (spec_ModelPlay secret size l) (fun _ (X : Value) => X) fun r X => [.own X (lc r)] := by
  unfold spec_ModelPlay
  refine Ci Tryz.func9 r r ?_
  rintro w S ⟨Z0,-⟩
  refine Sr<|Qs 1 r<|Nx<|Sr<|Fo (Bk [] ke28 kz41 r (Qz)) fun B1=>Kt (Ha [0] ([] : List Reply) r Cz)<|Qs 1 r<|Nx<|Sr<|Qs 2 r<|Bi fun R2 H3=>Fo (Cl [] spec_ModelNew_c H3 r r1) fun Y4=>Qs 3 r<|Fo (Al kz36 r) fun B5=>Fu (Sb 0 kk36 r (Ca ⟨Op',Op',Ow' 1,Ow' 2,Ow' 3,Ow' 4,⟨⟩⟩) r)<|Qs 1 r<|Nx<|Sq<|Sq<|Jv [2,7,8] (fun T=>[(26, .bool T)]) r1 (Rg<|Qs 3 r<|It (fun H8=>Of 3 (beq_tf H8) r r<|Yo (Pt H8 r)<|Nl<|Bg () [0,0,0,0,0,0]) fun H8=>Qg 1 (beq_ff H8) r r<|Yg (gdA (beq_ff H8)) (Ln ke24 (Bc Z0) r)<|Qg 1 (beq_ff H8) r r<|Yo (Pf H8 r)<|Nl<|Bg () [0,0,0,0,0,0]) fun T6=>?_
  refine Ne<|Wc r (fun H9=>Sr<|Qs 2 r<|Nx<|Wr<|Tr<|Re (.slice (some ⟨B1, 0, none⟩) 0 0) [5]) fun H9=>Sn<|Sq<|Sr<|Qs 1 r<|Nx<|Jn Value [] [] (fun _ X=>[(7, X)]) (fun T X=>[.own X (lc T)]) r2 r2 (?_) fun T12 X13=>?_
  ·refine Wb<|Lp (Value × Value × Value × Value × Value) [2,8] [] (fun T X=>[(7, X.1), (10, iv T.2.2.1)]) (fun T X=>[.box B5 36 [strV T.1, iv T.2.1, X.2.1, X.2.2.1, X.2.2.2.1, X.2.2.2.2], .own X.1 (lc T.2.2.2.1), .own X.2.1 (lc T.2.2.2.2.1), .own X.2.2.1 (lc T.2.2.2.2.2.1), .own X.2.2.2.1 (lc T.2.2.2.2.2.2.1), .own X.2.2.2.2 (lc T.2.2.2.2.2.2.2)]) (.slice (some ⟨B1, 0, none⟩) 0 0, Y4.1, Y4.2.1, Y4.2.2.1, Y4.2.2.2) [0,4,0,0,0,0] r2 r2 fun S10 X11=>Sq<|Sr<|Qs 2 r<|Yo (Ln ke24 (Bc Z0) r)<|Qs 1 r<|Nx<|Wc r (fun H14=>?_) fun H14=>?_
   ·refine Sn<|Sq<|Wb<|Sq<|Wi fun E15 H16=>Wi fun R18 H19=>Jw (Nat × Nat × Value × Value × Value × Value × Value) [2,7,8,10] [0,0] (fun X=>[(11, pt X.1), (12, pt X.2.1)]) (fun X=>[.box X.1 36 [strV R18.1.Secret, iv R18.1.Shares.Size, X.2.2.1, X.2.2.2.1, X.2.2.2.2.1, X.2.2.2.2.2.1], .box X.2.1 41 [iv R18.2.Code, iv R18.2.N, strV R18.2.Text, X.2.2.2.2.2.2], .own X.2.2.1 (lc R18.1.Shares.List), .own X.2.2.2.1 (lc R18.1.Tens), .own X.2.2.2.2.1 (lc R18.1.Base), .own X.2.2.2.2.2.1 (lc R18.1.Rows), .own X.2.2.2.2.2.2 (lc R18.2.List)]) r1 r1 (?_) fun X27=>?_
    ·refine Dr [0,0] r hMix<|Ay 0 [0,0] r (Lb 0 kk36 r)<|Aq [1,2] [0,0] r<|Ay 3 [0,0] r (Ix ke24 (Bc Z0) H16 r)<|?_
     have Q28 : Base w S (elv w U0 (S10.2.2.1.toNat * 7 + 6)) (lc E15.Ops):=Base.el Z0 (idx_get H16).2.2 r r
     refine Ay 4 [0,0] r (Lz kk46 Z0 H16 r)<|A3 5 9 10 (?_) (?_)<|?_
     ·refine Xe [5,5] r (Cl [2, 2, 2, 2] spec_l21Do_c H19 r r1 ⟨(Bc Q28),⟨⟩⟩) fun Y29=>Aq [6,7,8] [5,5] r<|A2 9 10 (?_)<|?_
      ·exact Xe [6,6] r (Al kz36 r) fun B32=>A1 10<|Xe [7,7] r (Al kz41 r) fun B34=>A1 11<|Xu [7,7] r (Sb 1 kk36 r (Ca ⟨Op',Op',Ow' 2,Ow' 3,Ow' 4,Ow' 5,⟨⟩⟩) r)<|A1 12<|Xu [7,7] r (Sb 0 kk41 r (Ca ⟨Op',Op',Op',Ow' 6,⟨⟩⟩) r)<|Az<|Bg (B32, B34, Y29.1, Y29.2.1, Y29.2.2.1, Y29.2.2.2.1, Y29.2.2.2.2) [7,7,1,0,0,0,0,0,0]
      exact Xe [6,6] r (Al kz41 r) fun B33=>A1 9<|Xe [7,7] r (Al kz36 r) fun B34=>A1 11<|Xu [7,7] r (Sb 0 kk36 r (Ca ⟨Op',Op',Ow' 2,Ow' 3,Ow' 4,Ow' 5,⟨⟩⟩) r)<|A1 12<|Xu [7,7] r (Sb 1 kk41 r (Ca ⟨Op',Op',Op',Ow' 6,⟨⟩⟩) r)<|Az<|Bg (B34, B33, Y29.1, Y29.2.1, Y29.2.2.1, Y29.2.2.2.1, Y29.2.2.2.2) [7,7,0,0,0,0,0,0,0]
     ·refine Xe [1,1] r (Al kz36 r) fun B30=>A2 5 10 (?_)<|?_
      ·exact Xe [6,6] r (Cl [3, 3, 3, 3] spec_l21Do_c H19 r r1 ⟨(Bc Q28),⟨⟩⟩) fun Y32=>Aq [6,7,8] [6,6] r<|A1 10<|Xe [7,7] r (Al kz41 r) fun B34=>A1 11<|Xu [7,7] r (Sb 6 kk36 r (Ca ⟨Op',Op',Ow' 1,Ow' 2,Ow' 3,Ow' 4,⟨⟩⟩) r)<|A1 12<|Xu [7,7] r (Sb 0 kk41 r (Ca ⟨Op',Op',Op',Ow' 5,⟨⟩⟩) r)<|Az<|Bg (B30, B34, Y32.1, Y32.2.1, Y32.2.2.1, Y32.2.2.2.1, Y32.2.2.2.2) [7,7,6,0,0,0,0,0,0]
      exact Xe [2,2] r (Al kz41 r) fun B33=>A1 5<|Xe [7,7] r (Cl [4, 4, 4, 4] spec_l21Do_c H19 r r1 ⟨(Bc Q28),⟨⟩⟩) fun Y34=>Aq [6,7,8] [7,7] r<|A1 11<|Xu [7,7] r (Sb 6 kk36 r (Ca ⟨Op',Op',Ow' 0,Ow' 1,Ow' 2,Ow' 3,⟨⟩⟩) r)<|A1 12<|Xu [7,7] r (Sb 5 kk41 r (Ca ⟨Op',Op',Op',Ow' 4,⟨⟩⟩) r)<|Az<|Bg (B30, B33, Y34.1, Y34.2.1, Y34.2.2.1, Y34.2.2.2.1, Y34.2.2.2.2) [7,7,6,5,0,0,0,0,0]
     refine Xe [1,1] r (Al kz41 r) fun B31=>A2 5 9 (?_)<|?_
     ·exact Xe [6,6] r (Cl [3, 3, 3, 3] spec_l21Do_c H19 r r1 ⟨(Bc Q28),⟨⟩⟩) fun Y32=>Aq [6,7,8] [6,6] r<|A1 9<|Xe [7,7] r (Al kz36 r) fun B34=>A1 11<|Xu [7,7] r (Sb 0 kk36 r (Ca ⟨Op',Op',Ow' 1,Ow' 2,Ow' 3,Ow' 4,⟨⟩⟩) r)<|A1 12<|Xu [7,7] r (Sb 6 kk41 r (Ca ⟨Op',Op',Op',Ow' 5,⟨⟩⟩) r)<|Az<|Bg (B34, B31, Y32.1, Y32.2.1, Y32.2.2.1, Y32.2.2.2.1, Y32.2.2.2.2) [7,7,0,5,0,0,0,0,0]
     exact Xe [2,2] r (Al kz36 r) fun B33=>A1 5<|Xe [7,7] r (Cl [4, 4, 4, 4] spec_l21Do_c H19 r r1 ⟨(Bc Q28),⟨⟩⟩) fun Y34=>Aq [6,7,8] [7,7] r<|A1 11<|Xu [7,7] r (Sb 5 kk36 r (Ca ⟨Op',Op',Ow' 0,Ow' 1,Ow' 2,Ow' 3,⟨⟩⟩) r)<|A1 12<|Xu [7,7] r (Sb 6 kk41 r (Ca ⟨Op',Op',Op',Ow' 4,⟨⟩⟩) r)<|Az<|Bg (B33, B31, Y34.1, Y34.2.1, Y34.2.2.1, Y34.2.2.2.1, Y34.2.2.2.2) [7,7,5,5,0,0,0,0,0]
    exact Ne<|Sr<|Yo (Lb 2 kk36 r)<|Fu (Sb 0 kk36 r (Ca ⟨Op',Op',Ow' 4,Ow' 5,Ow' 6,Ow' 7,⟨⟩⟩) r)<|Nx<|Rg<|Qs 1 r<|Yo (Lb 3 kk41 r)<|Fo (Bk [ic R18.2.Code, ic R18.2.N, .str R18.2.Text, .raw X27.2.2.2.2.2.2] ke28 kz41 r (Qc (Ca ⟨Op',Op',Op',Ow' 8,⟨⟩⟩)<|Qz)) fun B32=>Kt (Ha [0, 8] ([R18.2] : List Reply) r (Ck (Ck (Ck (Cf Cz)))))<|Bi fun E34 H35=>Fo (Aw [2, 0] H35 ke28 kz41 r) fun V33=>Qs 1 r<|Nl<|Bn<|Ne<|Rg<|Qs 3 r<|Nl<|Lg (V33, X27.2.2.1, X27.2.2.2.1, X27.2.2.2.2.1, X27.2.2.2.2.2.1) [1,0,2,2,2,2]
   exact Wx<|Tx<|Ex<|Be<|Jg X11.1 [1]
  exact Ne<|Sr<|Qs 2 r<|Nx<|Wr<|Re X13 [0]
noncomputable def impl_copyModel (m : Model) : Option Model :=
  (impl_copyShares m.Shares).bind fun R3 =>
  (impl_copyTens m.Tens).bind fun R7 =>
  (impl_copyTens m.Base).bind fun R11 =>
  bindC (loopO (fun (S21 : Int × List MRow) => if (decide (S21.1 < ((m.Rows.length : Nat) : Int))) = true then ((idx m.Rows S21.1).bind fun E26 =>
  (slices_Clone_6733 E26.Ops).bind fun R30 =>
  (app 40 S21.2 ([{ Tenant := E26.Tenant, Ops := R30, Synced := E26.Synced : MRow }])).bind fun E35 =>
  some (.go (IntKind.i64.wrap (S21.1 + (1 : Int)), E35)))
  else (some (.done (.go S21.2))))
  ((0 : Int), ([] : List MRow)))
  (fun (T23 : List MRow) => some ({ Secret := m.Secret, Shares := R3, Tens := R7, Base := R11, Rows := T23 : Model }))
theorem impl_copyModel_c {m : Model} {U0 U1 U2 U3 : Value} : Cn Tryz.prog 31 [.agg #[strV m.Secret, iv m.Shares.Size, U0, U1, U2, U3]] [] [(U0, lc m.Shares.List), (U1, lc m.Tens), (U2, lc m.Base), (U3, lc m.Rows)] (impl_copyModel m) (fun r (X : Value × Value × Value × Value) => .agg #[strV r.Secret, iv r.Shares.Size, X.1, X.2.1, X.2.2.1, X.2.2.2]) fun r X => [.own X.1 (lc r.Shares.List), .own X.2.1 (lc r.Tens), .own X.2.2.1 (lc r.Base), .own X.2.2.2 (lc r.Rows)] := by
  unfold impl_copyModel
  refine Ci Tryz.func31 r r ?_
  rintro w S ⟨Z0,Z1,Z2,Z3,-⟩
  refine Sr<|Fo (Bx r (Ca ⟨Op',Op',Ob Z0,Ob Z1,Ob Z2,Ob Z3,⟨⟩⟩)) fun B1=>Fo (Al kz36 r) fun B2=>Nx<|Sq<|Wi fun R3 H4=>Wi fun R7 H8=>Wi fun R11 H12=>Jw (Nat × Value × Value × Value) [1,2] [1,0] (fun X=>[(3, pt X.1)]) (fun X=>[.box X.1 36 [strV m.Secret, iv R3.Size, X.2.1, X.2.2.1, X.2.2.2, .slice none 0 0], .own X.2.1 (lc R3.List), .own X.2.2.1 (lc R7), .own X.2.2.2 (lc R11)]) r1 r1 (?_) fun X18=>?_
  ·refine Dr [0,0] r hMix<|Ay 0 [0,0] r (Fb kf36_0 r)<|Ay 1 [0,0] r (Lb 1 kk9 r)<|Ay 2 [0,0] r (Fb kf36_1 r)<|Ay 3 [0,0] r (Lb 1 kk32 r)<|Ay 5 [0,0] r (Fb kf36_2 r)<|Ay 6 [0,0] r (Lb 1 kk33 r)<|Ay 8 [0,0] r (Fb kf36_3 r)<|Ay 9 [0,0] r (Lb 1 kk33 r)<|A2 4 12 (?_)<|?_
   ·refine Xe [1,1] r (Cl [] impl_copyShares_c H4 r r1 ⟨(Bc Z0),⟨⟩⟩) fun Y19=>A2 7 12 (?_)<|?_
    ·refine Xe [2,2] r (Cl [] impl_copyTens_c H8 r r1 ⟨(Bc Z1),⟨⟩⟩) fun Y21=>A2 10 12 (?_)<|?_
     ·exact Xe [3,3] r (Cl [] impl_copyTens_c H12 r r1 ⟨(Bc Z2),⟨⟩⟩) fun Y23=>A2 11 12 (Xy [3,3] r (Bd kp36 kz36 (Pc r (Cp r)<|Pc r (Ca ⟨Op',Ow' 2,⟨⟩⟩)<|Pc r (Co 1)<|Pc r (Co 0)<|Pz) r)<|A1 12<|Xe [4,4] r (Al kz36 r) fun B26=>A1 13<|Xu [4,4] r (Sb 0 kk36 r (Ca ⟨Op',Op',Ow' 3,Ow' 2,Ow' 1,Op',⟨⟩⟩) r)<|Az<|Bg (B26, Y19, Y21, Y23) [5,4,0,2,1,0])<|Xe [4,4] r (Al kz36 r) fun B25=>A1 11<|Xy [4,4] r (Bd kp36 kz36 (Pc r (Cp r)<|Pc r (Ca ⟨Op',Ow' 3,⟨⟩⟩)<|Pc r (Co 2)<|Pc r (Co 1)<|Pz) r)<|A1 13<|Xu [4,4] r (Sb 0 kk36 r (Ca ⟨Op',Op',Ow' 3,Ow' 2,Ow' 1,Op',⟨⟩⟩) r)<|Az<|Bg (B25, Y19, Y21, Y23) [5,4,0,2,1,0]
     exact Xe [3,3] r (Al kz36 r) fun B24=>A1 10<|Xe [4,4] r (Cl [] impl_copyTens_c H12 r r1 ⟨(Bc Z2),⟨⟩⟩) fun Y25=>A1 11<|Xy [4,4] r (Bd kp36 kz36 (Pc r (Cp r)<|Pc r (Ca ⟨Op',Ow' 3,⟨⟩⟩)<|Pc r (Co 2)<|Pc r (Co 0)<|Pz) r)<|A1 13<|Xu [4,4] r (Sb 1 kk36 r (Ca ⟨Op',Op',Ow' 3,Ow' 2,Ow' 0,Op',⟨⟩⟩) r)<|Az<|Bg (B24, Y19, Y21, Y25) [5,4,1,2,1,0]
    exact Xe [2,2] r (Al kz36 r) fun B22=>A1 7<|Xe [3,3] r (Cl [] impl_copyTens_c H8 r r1 ⟨(Bc Z1),⟨⟩⟩) fun Y23=>A1 10<|Xe [4,4] r (Cl [] impl_copyTens_c H12 r r1 ⟨(Bc Z2),⟨⟩⟩) fun Y24=>A1 11<|Xy [4,4] r (Bd kp36 kz36 (Pc r (Cp r)<|Pc r (Ca ⟨Op',Ow' 3,⟨⟩⟩)<|Pc r (Co 1)<|Pc r (Co 0)<|Pz) r)<|A1 13<|Xu [4,4] r (Sb 2 kk36 r (Ca ⟨Op',Op',Ow' 3,Ow' 1,Ow' 0,Op',⟨⟩⟩) r)<|Az<|Bg (B22, Y19, Y23, Y24) [5,4,2,2,1,0]
   exact Xe [1,1] r (Al kz36 r) fun B20=>A1 4<|Xe [2,2] r (Cl [] impl_copyShares_c H4 r r1 ⟨(Bc Z0),⟨⟩⟩) fun Y21=>A1 7<|Xe [3,3] r (Cl [] impl_copyTens_c H8 r r1 ⟨(Bc Z1),⟨⟩⟩) fun Y22=>A1 10<|Xe [4,4] r (Cl [] impl_copyTens_c H12 r r1 ⟨(Bc Z2),⟨⟩⟩) fun Y23=>A1 11<|Xy [4,4] r (Bd kp36 kz36 (Pc r (Cp r)<|Pc r (Ca ⟨Op',Ow' 2,⟨⟩⟩)<|Pc r (Co 1)<|Pc r (Co 0)<|Pz) r)<|A1 13<|Xu [4,4] r (Sb 3 kk36 r (Ca ⟨Op',Op',Ow' 2,Ow' 1,Ow' 0,Op',⟨⟩⟩) r)<|Az<|Bg (B20, Y21, Y22, Y23) [5,4,3,2,1,0]
  refine Ne<|Sq<|Sr<|Yo (Fb kf36_4 r)<|Yo (Lb 0 kk34 r)<|Yo (Ln ke34 (Bc Z3) r)<|Qs 1 r<|Nx<|Jn Value [2,3] [1,2,2,2] (fun _ _=>[]) (fun T X=>[.box X18.1 36 [strV m.Secret, iv R3.Size, X18.2.1, X18.2.2.1, X18.2.2.2, X], .own X (lc T)]) r2 r2 (?_) fun T23 X24=>?_
  ·refine Wb<|Nw 3<|Lp Value [2,3,19,20] [2,3,3,3] (fun T _=>[(21, iv T.1)]) (fun T X=>[.box X18.1 36 [strV m.Secret, iv R3.Size, X18.2.1, X18.2.2.1, X18.2.2.2, X], .own X (lc T.2)]) (.slice none 0 0) [2,3,3,3,2,0] r2 r2 fun S21 X22=>Sr<|Qs 1 r<|Nx<|Sq<|Wc r (fun H25=>?_) fun H25=>?_
   ·refine Sn<|Sq<|Wb<|Sr<|Bi fun E26 H27=>Yo (Ix ke34 (Bc Z3) H27 r)<|?_
    have Q28 : Base w S (elv w U3 (S21.1.toNat * 3 + 1)) (lc E26.Ops):=Base.el Z3 (idx_get H27).2.2 r r
    refine Yo (Lz kk95 Z3 H27 r)<|Fo (Al kz95 r) fun B29=>Fu (Sb 0 kk95 r (Ca ⟨Op',Ob Q28,Op',⟨⟩⟩) r)<|Nx<|Sr<|Yo (Fb kf95_1 r)<|Yo (Lb 0 kk44 r)<|Bi fun R30 H31=>Fo (Cl [] slices_Clone_6733_c H31 r r1 ⟨(Bc Q28),⟨⟩⟩) fun Y32=>Yo (Fb kf95_1 r)<|Fu (Sb 1 kk44 r (Co 0) r)<|Nx<|Rg<|Yo (Fb kf36_4 r)<|Yo (Lb 6 kk34 r)<|Yo (Lb 1 kk95 r)<|Fo (Bk [ic E26.Tenant, .raw Y32, .bool E26.Synced] ke34 kz95 r (Qc (Ca ⟨Op',Ow' 0,Op',⟨⟩⟩)<|Qz)) fun B33=>Kt (Ha [0, 0] ([{ Tenant := E26.Tenant, Ops := R30, Synced := E26.Synced : MRow }] : List MRow) r (Ck (Cf (Ck Cz))))<|Bi fun E35 H36=>?_
    exact Fo (Aw [7, 0] H36 ke34 kz95 r) fun V34=>Yo (Fb kf36_4 r)<|Fu (Sb 6 kk34 r (Co 0) r)<|Nl<|Bn<|Ne<|Rg<|Qs 2 r<|Nl<|Lg V34 [2,2,2,2,2,0]
   exact Wx<|Tx<|Ex<|Be<|Jg X22 [0,0,0,0,0,0]
  exact Ne<|Sr<|Yo (Lb 4 kk36 r)<|Fu (Sb 0 kk36 r (Ca ⟨Op',Op',Ow' 1,Ow' 2,Ow' 3,Ow' 5,⟨⟩⟩) r)<|Nx<|Wr<|TE.leaf fun _ _ hf_ hs_ => ret_any (rs := [.cell 2 36]) (vs := [.agg #[strV m.Secret, iv R3.Size, X18.2.1, X18.2.2.1, X18.2.2.2, X24]]) (.inl r) r (RV.cell 0 r r kk36 r ⟨⟩) hf_ hs_ ⟨(X18.2.1, X18.2.2.1, X18.2.2.2, X24), r, hs_.pulls [1, 1, 1, 2] r⟩
noncomputable def impl_ModelDo (m : Model) (c : Call) : Option (Model × Reply) :=
  (impl_copyModel m).bind fun R5 =>
  (impl_Model_perform R5 c).bind fun R9 =>
  some (R9.2, R9.1)
theorem impl_ModelDo_c {m : Model} {c : Call} {U0 U1 U2 U3 U4 : Value} : Cn Tryz.prog 11 [.agg #[strV m.Secret, iv m.Shares.Size, U0, U1, U2, U3], .agg #[iv c.Kind, strV c.Token, iv c.Tenant, iv c.N, strV c.Key, strV c.To, U4]] [] [(U0, lc m.Shares.List), (U1, lc m.Tens), (U2, lc m.Base), (U3, lc m.Rows), (U4, lc c.Ops)] (impl_ModelDo m c) (fun r (X : Value × Value × Value × Value × Value) => .tuple #[.agg #[strV r.1.Secret, iv r.1.Shares.Size, X.1, X.2.1, X.2.2.1, X.2.2.2.1], .agg #[iv r.2.Code, iv r.2.N, strV r.2.Text, X.2.2.2.2]]) fun r X => [.own X.1 (lc r.1.Shares.List), .own X.2.1 (lc r.1.Tens), .own X.2.2.1 (lc r.1.Base), .own X.2.2.2.1 (lc r.1.Rows), .own X.2.2.2.2 (lc r.2.List)] := by
  unfold impl_ModelDo
  refine Ci Tryz.func11 r r ?_
  rintro w S ⟨Z0,Z1,Z2,Z3,Z4,-⟩
  refine Sr<|Fo (Bx r (Ca ⟨Op',Op',Ob Z0,Ob Z1,Ob Z2,Ob Z3,⟨⟩⟩)) fun B1=>Fo (Bx r (Ca ⟨Op',Op',Op',Op',Op',Op',Ob Z4,⟨⟩⟩)) fun B2=>Fo (Al kz36 r) fun B3=>Fo (Al kz41 r) fun B4=>Nx<|Sr<|Yo (Lb 3 kk36 r)<|Bi fun R5 H6=>Fo (Cl [] impl_copyModel_c H6 r r1 ⟨(Bc Z0),(Bc Z1),(Bc Z2),(Bc Z3),⟨⟩⟩) fun Y7=>Fo (Al kz36 r) fun B8=>Fu (Sb 0 kk36 r (Ca ⟨Op',Op',Ow' 1,Ow' 2,Ow' 3,Ow' 4,⟨⟩⟩) r)<|Nx<|Sr<|Yo (Lb 7 kk46 r)<|Bi fun R9 H10=>Fo (Cl [0, 0, 0, 0, 0] impl_Model_perform_c H10 r r1 ⟨(Bc Z4),⟨⟩⟩) fun Y11=>?_
  exact Fo (Al kz41 r) fun B12=>Fu (Sb 0 kk41 r (Ca ⟨Op',Op',Op',Ow' 6,⟨⟩⟩) r)<|Nx<|Sq<|Dr [0,0,0,0,0,0,0,2,2] r hMix<|Ay 0 [0,0,0,0,0,0,0,2,2] r (Lb 1 kk36 r)<|Ay 1 [0,0,0,0,0,0,0,2,2] r (Lb 0 kk41 r)<|A1 2<|Xu [0,0,0,0,0,0,0,2,2] r (Sb 8 kk36 r (Ca ⟨Op',Op',Ow' 2,Ow' 3,Ow' 4,Ow' 5,⟨⟩⟩) r)<|A1 3<|Xu [0,0,0,0,0,0,0,2,2] r (Sb 7 kk41 r (Ca ⟨Op',Op',Op',Ow' 6,⟨⟩⟩) r)<|Az<|Ne<|Wr<|TE.leaf fun _ _ hf_ hs_ => ret_any (rs := [.cell 4 36, .cell 5 41]) (vs := [.agg #[strV R9.2.Secret, iv R9.2.Shares.Size, Y11.2.1, Y11.2.2.1, Y11.2.2.2.1, Y11.2.2.2.2], .agg #[iv R9.1.Code, iv R9.1.N, strV R9.1.Text, Y11.1]]) (.inl r) r (RV.cell 8 r r kk36 r (RV.cell 7 r r kk41 r ⟨⟩)) hf_ hs_ ⟨(Y11.2.1, Y11.2.2.1, Y11.2.2.2.1, Y11.2.2.2.2, Y11.1), r, hs_.pulls [2, 2, 2, 2, 2] r⟩
noncomputable def laws_sameMap (a : List KV) (b : List KV) : Option Bool :=
  if (!(decide (((a.length : Nat) : Int) = ((b.length : Nat) : Int)))) = true then (some false)
  else (bindC (loopO (fun (S2 : Int) => if (decide (S2 < ((a.length : Nat) : Int))) = true then ((idx a S2).bind fun E7 =>
  (idx b S2).bind fun E9 =>
  if (!(decide (E7.Key = E9.Key) && (decide (E7.Val = E9.Val) && true))) = true then (some (.done (.done false)))
  else (some (.go (IntKind.i64.wrap (S2 + (1 : Int))))))
  else (some (.done (.go ()))))
  (0 : Int))
  (fun (T4 : Unit) => some true))
theorem laws_sameMap_c {a : List KV} {b : List KV} {U0 U1 : Value} : Cn Tryz.prog 32 [U0, U1] [] [(U0, lc a), (U1, lc b)] (laws_sameMap a b) (fun r (_ : Unit) => .bool r) fun _ _ => [] := by
  unfold laws_sameMap
  refine Ci Tryz.func32 r r ?_
  rintro w S ⟨Z0,Z1,-⟩
  refine Sr<|Qs 1 r<|Nx<|Sq<|Sr<|Qs 1 r<|Yo (Ln ke39 (Bc Z0) r)<|Qs 1 r<|Yo (Ln ke39 (Bc Z1) r)<|Qs 1 r<|Nx<|Wc r (fun H1=>Sr<|Qs 1 r<|Nx<|Wr<|Tr<|Re () []) fun H1=>Sn<|Sq<|Sr<|Qs 1 r<|Nx<|Ju [] (fun _=>[]) r1 (?_) fun T4=>?_
  ·refine Wb<|Lu [0,1] (fun T=>[(5, iv T)]) r1 fun S2=>Sq<|Sr<|Qs 2 r<|Yo (Ln ke39 (Bc Z0) r)<|Qs 1 r<|Nx<|Wc r (fun H6=>?_) fun H6=>?_
   ·exact Sn<|Sq<|Wb<|Sq<|Dr [] r hMix<|Aq [0,1] [] r<|Ai fun E7 H8=>Ay 2 [] r (Ix ke39 (Bc Z0) H8 r)<|Ay 3 [] r (Le kk100 (Bc Z0) H8 r)<|Aq [4,5] [] r<|Ai fun E9 H10=>Ay 6 [] r (Ix ke39 (Bc Z1) H10 r)<|Ay 7 [] r (Le kk100 (Bc Z1) H10 r)<|Ay 8 [] r (Y.neqA keq100 (EqA.str (EqA.str EqA.nil)) r r)<|Az<|Ne<|Wc r (fun H11=>Sr<|Qs 1 r<|Nx<|Wr<|Br<|Tr<|Er<|Br<|Jd<|Tr<|Re () []) fun H11=>Sk<|Bn<|Ne<|Rg<|Qs 3 r<|Nl<|Lg () []
   exact Wx<|Tx<|Ex<|Be<|Jg () []
  exact Ne<|Sr<|Qs 1 r<|Nx<|Wr<|Re () []
noncomputable def laws_sameReplies (a : List Reply) (b : List Reply) : Option Bool :=
  if (!(decide (((a.length : Nat) : Int) = ((b.length : Nat) : Int)))) = true then (some false)
  else (bindC (loopO (fun (S2 : Int) => if (decide (S2 < ((a.length : Nat) : Int))) = true then (((idx a S2).bind fun E9 =>
  (idx b S2).bind fun E11 =>
  if (!(decide (E9.Code = E11.Code))) = true then (some true)
  else (if (!(decide (E9.N = E11.N))) = true then (some true)
  else (if (!(decide (E9.Text = E11.Text))) = true then (some true)
  else ((laws_sameMap E9.List E11.List).bind fun R18 =>
  some (!R18))))).bind (fun (T7 : Bool) =>
  if T7 = true then (some (.done (.done false)))
  else (some (.go (IntKind.i64.wrap (S2 + (1 : Int)))))))
  else (some (.done (.go ()))))
  (0 : Int))
  (fun (T4 : Unit) => some true))
theorem laws_sameReplies_c {a : List Reply} {b : List Reply} {U0 U1 : Value} : Cn Tryz.prog 12 [U0, U1] [] [(U0, lc a), (U1, lc b)] (laws_sameReplies a b) (fun r (_ : Unit) => .bool r) fun _ _ => [] := by
  unfold laws_sameReplies
  refine Ci Tryz.func12 r r ?_
  rintro w S ⟨Z0,Z1,-⟩
  refine Sr<|Qs 1 r<|Nx<|Sq<|Sr<|Qs 1 r<|Yo (Ln ke28 (Bc Z0) r)<|Qs 1 r<|Yo (Ln ke28 (Bc Z1) r)<|Qs 1 r<|Nx<|Wc r (fun H1=>Sr<|Qs 1 r<|Nx<|Wr<|Tr<|Re () []) fun H1=>Sn<|Sq<|Sr<|Qs 1 r<|Nx<|Ju [] (fun _=>[]) r1 (?_) fun T4=>?_
  ·refine Wb<|Lu [0,1] (fun T=>[(5, iv T)]) r1 fun S2=>Sq<|Sr<|Qs 2 r<|Yo (Ln ke28 (Bc Z0) r)<|Qs 1 r<|Nx<|Wc r (fun H6=>?_) fun H6=>?_
   ·refine Sn<|Sq<|Wb<|Sq<|Jv [0,1,5] (fun T=>[(67, .bool T)]) r1 (?_) fun T7=>?_
    ·refine Dr [] r hMix<|Aq [0,1] [] r<|Ai fun E9 H10=>Ay 2 [] r (Ix ke28 (Bc Z0) H10 r)<|Ay 3 [] r (Fe kf41_0 (Bc Z0) H10 r)<|Ay 4 [] r (Le kk3 (Bc Z0) H10 r)<|Aq [5,6] [] r<|Ai fun E11 H12=>Ay 7 [] r (Ix ke28 (Bc Z1) H12 r)<|Ay 8 [] r (Fe kf41_0 (Bc Z1) H12 r)<|Ay 9 [] r (Le kk3 (Bc Z1) H12 r)<|Aq [10,11] [] r<|Ia (fun H13=>Ax [12,13,14,15,16,17,18,19,20,21,22] [] (beq_tf H13) r r<|Ay 23 [] r (Pt H13 r)<|Aq [24] [] r<|Ax [25,26,27,28,29,30,31,32,33,34,35] [] r r r<|Ay 36 [] r (Pt r r)<|Aq [37] [] r<|Ax [38,39,40,41,42,43,44,45,46,47,48,49] [] r r r<|Ay 50 [] r (Pt r r)<|Az<|Bg () []) fun H13=>?_
     refine Ag 12 [] (gdA (beq_ff H13)) r (Y.move r)<|Ag 13 [] (gdA (beq_ff H13)) r (Y.move r)<|Ag 14 [] (gdA (beq_ff H13)) r (Ix ke28 (Bc Z0) H10 r)<|Ag 15 [] (gdA (beq_ff H13)) r (Fe kf41_1 (Bc Z0) H10 r)<|Ag 16 [] (gdA (beq_ff H13)) r (Le kk3 (Bc Z0) H10 r)<|Ag 17 [] (gdA (beq_ff H13)) r (Y.move r)<|Ag 18 [] (gdA (beq_ff H13)) r (Y.move r)<|Ag 19 [] (gdA (beq_ff H13)) r (Ix ke28 (Bc Z1) H12 r)<|Ag 20 [] (gdA (beq_ff H13)) r (Fe kf41_1 (Bc Z1) H12 r)<|Ag 21 [] (gdA (beq_ff H13)) r (Le kk3 (Bc Z1) H12 r)<|Ag 22 [] (gdA (beq_ff H13)) r (Y.neq r r)<|Ay 23 [] r (Pf H13 r)<|Aq [24] [] r<|Ia (fun H14=>Ax [25,26,27,28,29,30,31,32,33,34,35] [] (beq_tf H14) r r<|Ay 36 [] r (Pt H14 r)<|Aq [37] [] r<|Ax [38,39,40,41,42,43,44,45,46,47,48,49] [] r r r<|Ay 50 [] r (Pt r r)<|Az<|Bg () []) fun H14=>?_
     refine Ag 25 [] (gdA (beq_ff H14)) r (Y.move r)<|Ag 26 [] (gdA (beq_ff H14)) r (Y.move r)<|Ag 27 [] (gdA (beq_ff H14)) r (Ix ke28 (Bc Z0) H10 r)<|Ag 28 [] (gdA (beq_ff H14)) r (Fe kf41_2 (Bc Z0) H10 r)<|Ag 29 [] (gdA (beq_ff H14)) r (Le kk9 (Bc Z0) H10 r)<|Ag 30 [] (gdA (beq_ff H14)) r (Y.move r)<|Ag 31 [] (gdA (beq_ff H14)) r (Y.move r)<|Ag 32 [] (gdA (beq_ff H14)) r (Ix ke28 (Bc Z1) H12 r)<|Ag 33 [] (gdA (beq_ff H14)) r (Fe kf41_2 (Bc Z1) H12 r)<|Ag 34 [] (gdA (beq_ff H14)) r (Le kk9 (Bc Z1) H12 r)<|Ag 35 [] (gdA (beq_ff H14)) r (Y.sneq r r)<|Ay 36 [] r (Pf H14 r)<|Aq [37] [] r<|Ia (fun H15=>Ax [38,39,40,41,42,43,44,45,46,47,48,49] [] (beq_tf H15) r r<|Ay 50 [] r (Pt H15 r)<|Az<|Bg () []) fun H15=>?_
     refine Ag 38 [] (gdA (beq_ff H15)) r (Y.move r)<|Ag 39 [] (gdA (beq_ff H15)) r (Y.move r)<|Ag 40 [] (gdA (beq_ff H15)) r (Ix ke28 (Bc Z0) H10 r)<|Ag 41 [] (gdA (beq_ff H15)) r (Fe kf41_3 (Bc Z0) H10 r)<|?_
     have Q16 : Base w S (elv w U0 (S2.toNat * 4 + 3)) (lc E9.List):=Base.el Z0 (idx_get H10).2.2 r r
     refine Ag 42 [] (gdA (beq_ff H15)) r (Lz kk39 Z0 H10 r)<|Ag 43 [] (gdA (beq_ff H15)) r (Y.move r)<|Ag 44 [] (gdA (beq_ff H15)) r (Y.move r)<|Ag 45 [] (gdA (beq_ff H15)) r (Ix ke28 (Bc Z1) H12 r)<|Ag 46 [] (gdA (beq_ff H15)) r (Fe kf41_3 (Bc Z1) H12 r)<|?_
     have Q17 : Base w S (elv w U1 (S2.toNat * 4 + 3)) (lc E11.List):=Base.el Z1 (idx_get H12).2.2 r r
     exact Ag 47 [] (gdA (beq_ff H15)) r (Lz kk39 Z1 H12 r)<|Ai fun R18 H19=>A1 48<|Xeg [] (gdA (beq_ff H15)) r (Cl [] laws_sameMap_c H19 r r1 ⟨(Bc Q16),(Bc Q17),⟨⟩⟩) fun _=>Ag 49 [] (gdA (beq_ff H15)) r (Y.not r)<|Ay 50 [] r (Pf H15 r)<|Az<|Bg () []
    exact Ne<|Wc r (fun H21=>Sr<|Qs 1 r<|Nx<|Wr<|Br<|Tr<|Er<|Br<|Jd<|Tr<|Re () []) fun H21=>Sk<|Bn<|Ne<|Rg<|Qs 3 r<|Nl<|Lg () []
   exact Wx<|Tx<|Ex<|Be<|Jg () []
  exact Ne<|Sr<|Qs 1 r<|Nx<|Wr<|Re () []
noncomputable def laws_FnForever (code : List UInt8) : Option Bool :=
  (laws_big code).bind fun R1 =>
  if R1 = true then (some true)
  else ((spec_DrawModelPlay code).bind fun R5 =>
  (laws_at code (0 : Int)).bind fun R8 =>
  (nz (IntKind.i64.wrap (((R5.2.2.length : Nat) : Int) + (1 : Int)))).bind fun E11 =>
  (impl_ModelPlay R5.1 R5.2.1 R5.2.2).bind fun R13 =>
  (piece R5.2.2 (0 : Int) (Int.tmod R8 (IntKind.i64.wrap (((R5.2.2.length : Nat) : Int) + (1 : Int))))).bind fun E16 =>
  (impl_ModelPlay R5.1 R5.2.1 E16).bind fun R18 =>
  (spec_ModelPlay R5.1 R5.2.1 R5.2.2).bind fun R21 =>
  if (!(decide (((R13.length : Nat) : Int) = ((R21.length : Nat) : Int)))) = true then (some false)
  else (if (decide (((R13.length : Nat) : Int) = (0 : Int))) = true then ((if (decide (((R18.length : Nat) : Int) = (0 : Int))) = true then (some true)
  else (some (decide (((R5.2.2.length : Nat) : Int) > (120 : Int))))).bind (fun (T26 : Bool) =>
  some T26))
  else ((impl_ModelNew R5.1 R5.2.1).bind fun R29 =>
  bindC (loopO (fun (S33 : List UInt8 × Int × Int × List Share × List MTen × List MTen × List MRow) => if (decide (S33.2.2.1 < ((R5.2.2.length : Nat) : Int))) = true then ((idx R5.2.2 S33.2.2.1).bind fun E38 =>
  (impl_ModelDo ({ Secret := S33.1, Shares := { Size := S33.2.1, List := S33.2.2.2.1 : Shares }, Tens := S33.2.2.2.2.1, Base := S33.2.2.2.2.2.1, Rows := S33.2.2.2.2.2.2 : Model }) E38).bind fun R46 =>
  ((idx R13 S33.2.2.1).bind fun E60 =>
  if (!(decide (R46.2.Code = E60.Code))) = true then (some true)
  else (some (!(decide (R46.2.N = E60.N))))).bind (fun (T58 : Bool) =>
  if T58 = true then (some (.done (.done false)))
  else (some (.go (R46.1.Secret, R46.1.Shares.Size, IntKind.i64.wrap (S33.2.2.1 + (1 : Int)), R46.1.Shares.List, R46.1.Tens, R46.1.Base, R46.1.Rows)))))
  else (some (.done (.go ()))))
  (R29.1.Secret, R29.1.Shares.Size, (0 : Int), R29.1.Shares.List, R29.1.Tens, R29.1.Base, R29.1.Rows))
  (fun (T35 : Unit) => (if R29.2 = true then (if (decide (((R13.length : Nat) : Int) = ((R5.2.2.length : Nat) : Int))) = true then ((piece R13 (0 : Int) (Int.tmod R8 (IntKind.i64.wrap (((R5.2.2.length : Nat) : Int) + (1 : Int))))).bind fun E68 =>
  (laws_sameReplies E68 R18).bind fun R70 =>
  some R70)
  else (some false))
  else (some false)).bind (fun (T64 : Bool) =>
  some T64)))))
theorem laws_FnForever_c {code : List UInt8} {U0 : Value} : Cn Tryz.prog 3 [U0] [] [(U0, lc code)] (laws_FnForever code) (fun r (_ : Unit) => .bool r) fun _ _ => [] := by
  unfold laws_FnForever
  refine Ci Tryz.func3 r r ?_
  rintro w S ⟨Z0,-⟩
  refine Sr<|Qs 1 r<|Nx<|Sq<|Sr<|Qs 1 r<|Bi fun R1 H2=>Fo (Cl [] laws_big_c H2 r r1 ⟨(Bc Z0),⟨⟩⟩) fun _=>Nx<|Wc r (fun H4=>Sr<|Qs 1 r<|Nx<|Wr<|Tr<|Re () []) fun H4=>Sn<|Sr<|Qs 1 r<|Bi fun R5 H6=>Fo (Cl [] spec_DrawModelPlay_c H6 r r1 ⟨(Bc Z0),⟨⟩⟩) fun Y7=>Qs 7 r<|Nx<|Sr<|Qs 1 r<|Bi fun R8 H9=>Fo (Cl [] laws_at_c H9 r r1 ⟨(Bc Z0),⟨⟩⟩) fun _=>Qs 1 r<|Yo (Ln ke24 (Oc 0 r) r)<|Qs 1 r<|Bi fun E11 H12=>Yo (Y.rem (nz_ne H12) r r)<|Qs 1 r<|Nx<|Sr<|Qs 3 r<|Bi fun R13 H14=>Fo (Cl [] impl_ModelPlay_c H14 r r1 ⟨(Oc 0 r),⟨⟩⟩) fun Y15=>?_
  refine Qs 1 r<|Nx<|Sr<|Qs 4 r<|Bi fun E16 H17=>Yo (Y.subs H17 ke24 (Oc 1 r) r r ⟨_, r⟩)<|Bi fun R18 H19=>Fo (Cl [] impl_ModelPlay_c H19 r r1 ⟨(Can.sub H17 rfl (Oc 1 r)),⟨⟩⟩) fun Y20=>Qs 1 r<|Nx<|Sq<|Sr<|Qs 1 r<|Yo (Ln ke28 (Oc 1 r) r)<|Qs 3 r<|Bi fun R21 H22=>Fo (Cl [] spec_ModelPlay_c H22 r r1 ⟨(Oc 2 r),⟨⟩⟩) fun Y23=>Yo (Ln ke28 (Oc 0 r) r)<|Qs 1 r<|Nx<|Wc r (fun H24=>Sr<|Qs 1 r<|Nx<|Wr<|Tr<|Re () []) fun H24=>Sn<|Sq<|Sr<|Qs 1 r<|Yo (Ln ke28 (Oc 2 r) r)<|Qs 1 r<|Nx<|Wc r (fun H25=>?_) fun H25=>?_
  ·exact Sq<|Jb Unit [] [] (fun T _=>[(2, .bool T)]) (fun _ _=>[]) r2 r2 (Rg<|Qs 1 r<|Yo (Ln ke28 (Oc 1 r) r)<|Qs 2 r<|It (fun H28=>Of 3 (beq_tf H28) r r<|Yo (Pt H28 r)<|Qs 1 r<|Nl<|Bg () []) fun H28=>Qg 1 (beq_ff H28) r r<|Yg (gdA (beq_ff H28)) (Ln ke24 (Oc 3 r) r)<|Qg 1 (beq_ff H28) r r<|Yo (Pf H28 r)<|Qs 1 r<|Nl<|Bg () []) fun T26 X27=>Ne<|Wr<|Tr<|Re () []
  refine Sn<|Sr<|Qs 2 r<|Bi fun R29 H30=>Fo (Cl [] impl_ModelNew_c H30 r r1) fun Y31=>Qs 3 r<|Fo (Al kz36 r) fun B32=>Fu (Sb 0 kk36 r (Ca ⟨Op',Op',Ow' 1,Ow' 2,Ow' 3,Ow' 4,⟨⟩⟩) r)<|Qs 1 r<|Nx<|Sq<|Sr<|Qs 1 r<|Nx<|Jn Unit [5,6,7,8,10] [8,7,6] (fun _ _=>[]) (fun _ _=>[]) r2 r2 (?_) fun T35 X36=>?_
  ·refine Wb<|Lp (Value × Value × Value × Value) [5,6,7,8,9,10] [8,7,6] (fun T _=>[(11, iv T.2.2.1)]) (fun T X=>[.box B32 36 [strV T.1, iv T.2.1, X.1, X.2.1, X.2.2.1, X.2.2.2], .own X.1 (lc T.2.2.2.1), .own X.2.1 (lc T.2.2.2.2.1), .own X.2.2.1 (lc T.2.2.2.2.2.1), .own X.2.2.2 (lc T.2.2.2.2.2.2)]) (Y31.1, Y31.2.1, Y31.2.2.1, Y31.2.2.2) [8,7,6,0,0,0,0,0] r2 r2 fun S33 X34=>Sq<|Sr<|Qs 2 r<|Yo (Ln ke24 (Oc 0 r) r)<|Qs 1 r<|Nx<|Wc r (fun H37=>?_) fun H37=>?_
   ·refine Sn<|Sq<|Wb<|Sq<|Wi fun E38 H39=>Wi fun R46 H47=>Jw (Nat × Nat × Value × Value × Value × Value × Value) [5,6,7,8,9,10,11] [3,0,0,0,0,0,0,0] (fun X=>[(12, pt X.1), (13, pt X.2.1)]) (fun X=>[.box X.1 36 [strV R46.1.Secret, iv R46.1.Shares.Size, X.2.2.1, X.2.2.2.1, X.2.2.2.2.1, X.2.2.2.2.2.1], .box X.2.1 41 [iv R46.2.Code, iv R46.2.N, strV R46.2.Text, X.2.2.2.2.2.2], .own X.2.2.1 (lc R46.1.Shares.List), .own X.2.2.2.1 (lc R46.1.Tens), .own X.2.2.2.2.1 (lc R46.1.Base), .own X.2.2.2.2.2.1 (lc R46.1.Rows), .own X.2.2.2.2.2.2 (lc R46.2.List)]) r1 r1 (?_) fun X55=>?_
    ·refine Dr [1,1,1,1,1,1,1] r hMix<|Ay 0 [1,1,1,1,1,1,1] r (Lb 2 kk36 r)<|Aq [1,2] [1,1,1,1,1,1,1] r<|A3 3 9 10 (?_) (?_)<|?_
     ·refine Xy [1,1,1,1,1,1,1] r (Ix ke24 (Oc 0 r) H39 r)<|Ga (X := Value) (Ho 1 [0] H39 r r1) fun X59=>A3 4 9 10 (?_) (?_)<|?_
      ·refine Xy [2,2,2,2,2,2,2] r (Lh 0 kk46 H39 r)<|A3 5 9 10 (?_) (?_)<|?_
       ·refine Xe [7,7,7,7,7,7,7] r (Cl [] impl_ModelDo_c H47 r r1 ⟨(Oc 5 r),(Oc 6 r),(Oc 7 r),(Oc 8 r),(Oc 1 r),⟨⟩⟩) fun Y62=>Aq [6,7,8] [7,7,7,7,7,7,7] r<|A2 9 10 (?_)<|?_
        ·exact Xe [8,8,8,8,8,8,8] r (Al kz36 r) fun B65=>A1 10<|Xe [9,9,9,9,9,9,9] r (Al kz41 r) fun B67=>A1 11<|Xu [9,9,9,9,9,9,9] r (Sb 1 kk36 r (Ca ⟨Op',Op',Ow' 2,Ow' 3,Ow' 4,Ow' 5,⟨⟩⟩) r)<|A1 12<|Xu [9,9,9,9,9,9,9] r (Sb 0 kk41 r (Ca ⟨Op',Op',Op',Ow' 6,⟨⟩⟩) r)<|Az<|Ke (Hs [7, 7] H39 r (Ck (Ck (Ck (Ck (Ck (Ck (Cf Cz))))))))<|Bg (B65, B67, Y62.1, Y62.2.1, Y62.2.2.1, Y62.2.2.2.1, Y62.2.2.2.2) [10,0,7,7,7,7,7,7,1,0,0,0,0,0,0]
        exact Xe [8,8,8,8,8,8,8] r (Al kz41 r) fun B66=>A1 9<|Xe [9,9,9,9,9,9,9] r (Al kz36 r) fun B67=>A1 11<|Xu [9,9,9,9,9,9,9] r (Sb 0 kk36 r (Ca ⟨Op',Op',Ow' 2,Ow' 3,Ow' 4,Ow' 5,⟨⟩⟩) r)<|A1 12<|Xu [9,9,9,9,9,9,9] r (Sb 1 kk41 r (Ca ⟨Op',Op',Op',Ow' 6,⟨⟩⟩) r)<|Az<|Ke (Hs [7, 7] H39 r (Ck (Ck (Ck (Ck (Ck (Ck (Cf Cz))))))))<|Bg (B67, B66, Y62.1, Y62.2.1, Y62.2.2.1, Y62.2.2.2.1, Y62.2.2.2.2) [10,0,7,7,7,7,7,7,0,0,0,0,0,0,0]
       ·refine Xe [3,3,3,3,3,3,3] r (Al kz36 r) fun B63=>A2 5 10 (?_)<|?_
        ·exact Xe [8,8,8,8,8,8,8] r (Cl [] impl_ModelDo_c H47 r r1 ⟨(Oc 6 r),(Oc 7 r),(Oc 8 r),(Oc 9 r),(Oc 2 r),⟨⟩⟩) fun Y65=>Aq [6,7,8] [8,8,8,8,8,8,8] r<|A1 10<|Xe [9,9,9,9,9,9,9] r (Al kz41 r) fun B67=>A1 11<|Xu [9,9,9,9,9,9,9] r (Sb 6 kk36 r (Ca ⟨Op',Op',Ow' 1,Ow' 2,Ow' 3,Ow' 4,⟨⟩⟩) r)<|A1 12<|Xu [9,9,9,9,9,9,9] r (Sb 0 kk41 r (Ca ⟨Op',Op',Op',Ow' 5,⟨⟩⟩) r)<|Az<|Ke (Hs [7, 7] H39 r (Ck (Ck (Ck (Ck (Ck (Ck (Cf Cz))))))))<|Bg (B63, B67, Y65.1, Y65.2.1, Y65.2.2.1, Y65.2.2.2.1, Y65.2.2.2.2) [10,0,7,7,7,7,7,7,6,0,0,0,0,0,0]
        exact Xe [4,4,4,4,4,4,4] r (Al kz41 r) fun B66=>A1 5<|Xe [9,9,9,9,9,9,9] r (Cl [] impl_ModelDo_c H47 r r1 ⟨(Oc 7 r),(Oc 8 r),(Oc 9 r),(Oc 10 r),(Oc 3 r),⟨⟩⟩) fun Y67=>Aq [6,7,8] [9,9,9,9,9,9,9] r<|A1 11<|Xu [9,9,9,9,9,9,9] r (Sb 6 kk36 r (Ca ⟨Op',Op',Ow' 0,Ow' 1,Ow' 2,Ow' 3,⟨⟩⟩) r)<|A1 12<|Xu [9,9,9,9,9,9,9] r (Sb 5 kk41 r (Ca ⟨Op',Op',Op',Ow' 4,⟨⟩⟩) r)<|Az<|Ke (Hs [7, 7] H39 r (Ck (Ck (Ck (Ck (Ck (Ck (Cf Cz))))))))<|Bg (B63, B66, Y67.1, Y67.2.1, Y67.2.2.1, Y67.2.2.2.1, Y67.2.2.2.2) [10,0,7,7,7,7,7,7,6,5,0,0,0,0,0]
       refine Xe [3,3,3,3,3,3,3] r (Al kz41 r) fun B64=>A2 5 9 (?_)<|?_
       ·exact Xe [8,8,8,8,8,8,8] r (Cl [] impl_ModelDo_c H47 r r1 ⟨(Oc 6 r),(Oc 7 r),(Oc 8 r),(Oc 9 r),(Oc 2 r),⟨⟩⟩) fun Y65=>Aq [6,7,8] [8,8,8,8,8,8,8] r<|A1 9<|Xe [9,9,9,9,9,9,9] r (Al kz36 r) fun B67=>A1 11<|Xu [9,9,9,9,9,9,9] r (Sb 0 kk36 r (Ca ⟨Op',Op',Ow' 1,Ow' 2,Ow' 3,Ow' 4,⟨⟩⟩) r)<|A1 12<|Xu [9,9,9,9,9,9,9] r (Sb 6 kk41 r (Ca ⟨Op',Op',Op',Ow' 5,⟨⟩⟩) r)<|Az<|Ke (Hs [7, 7] H39 r (Ck (Ck (Ck (Ck (Ck (Ck (Cf Cz))))))))<|Bg (B67, B64, Y65.1, Y65.2.1, Y65.2.2.1, Y65.2.2.2.1, Y65.2.2.2.2) [10,0,7,7,7,7,7,7,0,5,0,0,0,0,0]
       exact Xe [4,4,4,4,4,4,4] r (Al kz36 r) fun B66=>A1 5<|Xe [9,9,9,9,9,9,9] r (Cl [] impl_ModelDo_c H47 r r1 ⟨(Oc 7 r),(Oc 8 r),(Oc 9 r),(Oc 10 r),(Oc 3 r),⟨⟩⟩) fun Y67=>Aq [6,7,8] [9,9,9,9,9,9,9] r<|A1 11<|Xu [9,9,9,9,9,9,9] r (Sb 5 kk36 r (Ca ⟨Op',Op',Ow' 0,Ow' 1,Ow' 2,Ow' 3,⟨⟩⟩) r)<|A1 12<|Xu [9,9,9,9,9,9,9] r (Sb 6 kk41 r (Ca ⟨Op',Op',Op',Ow' 4,⟨⟩⟩) r)<|Az<|Ke (Hs [7, 7] H39 r (Ck (Ck (Ck (Ck (Ck (Ck (Cf Cz))))))))<|Bg (B66, B64, Y67.1, Y67.2.1, Y67.2.2.1, Y67.2.2.2.1, Y67.2.2.2.2) [10,0,7,7,7,7,7,7,5,5,0,0,0,0,0]
      ·refine Xe [3,3,3,3,3,3,3] r (Al kz36 r) fun B60=>A2 4 10 (?_)<|?_
       ·refine Xy [3,3,3,3,3,3,3] r (Lh 1 kk46 H39 r)<|A2 5 10 (?_)<|?_
        ·exact Xe [8,8,8,8,8,8,8] r (Cl [] impl_ModelDo_c H47 r r1 ⟨(Oc 6 r),(Oc 7 r),(Oc 8 r),(Oc 9 r),(Oc 2 r),⟨⟩⟩) fun Y63=>Aq [6,7,8] [8,8,8,8,8,8,8] r<|A1 10<|Xe [9,9,9,9,9,9,9] r (Al kz41 r) fun B65=>A1 11<|Xu [9,9,9,9,9,9,9] r (Sb 6 kk36 r (Ca ⟨Op',Op',Ow' 1,Ow' 2,Ow' 3,Ow' 4,⟨⟩⟩) r)<|A1 12<|Xu [9,9,9,9,9,9,9] r (Sb 0 kk41 r (Ca ⟨Op',Op',Op',Ow' 5,⟨⟩⟩) r)<|Az<|Ke (Hs [7, 7] H39 r (Ck (Ck (Ck (Ck (Ck (Ck (Cf Cz))))))))<|Bg (B60, B65, Y63.1, Y63.2.1, Y63.2.2.1, Y63.2.2.2.1, Y63.2.2.2.2) [10,0,7,7,7,7,7,7,6,0,0,0,0,0,0]
        exact Xe [4,4,4,4,4,4,4] r (Al kz41 r) fun B64=>A1 5<|Xe [9,9,9,9,9,9,9] r (Cl [] impl_ModelDo_c H47 r r1 ⟨(Oc 7 r),(Oc 8 r),(Oc 9 r),(Oc 10 r),(Oc 3 r),⟨⟩⟩) fun Y65=>Aq [6,7,8] [9,9,9,9,9,9,9] r<|A1 11<|Xu [9,9,9,9,9,9,9] r (Sb 6 kk36 r (Ca ⟨Op',Op',Ow' 0,Ow' 1,Ow' 2,Ow' 3,⟨⟩⟩) r)<|A1 12<|Xu [9,9,9,9,9,9,9] r (Sb 5 kk41 r (Ca ⟨Op',Op',Op',Ow' 4,⟨⟩⟩) r)<|Az<|Ke (Hs [7, 7] H39 r (Ck (Ck (Ck (Ck (Ck (Ck (Cf Cz))))))))<|Bg (B60, B64, Y65.1, Y65.2.1, Y65.2.2.1, Y65.2.2.2.1, Y65.2.2.2.2) [10,0,7,7,7,7,7,7,6,5,0,0,0,0,0]
       exact Xe [4,4,4,4,4,4,4] r (Al kz41 r) fun B62=>A1 4<|Xy [4,4,4,4,4,4,4] r (Lh 2 kk46 H39 r)<|A1 5<|Xe [9,9,9,9,9,9,9] r (Cl [] impl_ModelDo_c H47 r r1 ⟨(Oc 7 r),(Oc 8 r),(Oc 9 r),(Oc 10 r),(Oc 3 r),⟨⟩⟩) fun Y63=>Aq [6,7,8] [9,9,9,9,9,9,9] r<|A1 11<|Xu [9,9,9,9,9,9,9] r (Sb 6 kk36 r (Ca ⟨Op',Op',Ow' 0,Ow' 1,Ow' 2,Ow' 3,⟨⟩⟩) r)<|A1 12<|Xu [9,9,9,9,9,9,9] r (Sb 5 kk41 r (Ca ⟨Op',Op',Op',Ow' 4,⟨⟩⟩) r)<|Az<|Ke (Hs [7, 7] H39 r (Ck (Ck (Ck (Ck (Ck (Ck (Cf Cz))))))))<|Bg (B60, B62, Y63.1, Y63.2.1, Y63.2.2.1, Y63.2.2.2.1, Y63.2.2.2.2) [10,0,7,7,7,7,7,7,6,5,0,0,0,0,0]
      refine Xe [3,3,3,3,3,3,3] r (Al kz41 r) fun B61=>A2 4 9 (?_)<|?_
      ·refine Xy [3,3,3,3,3,3,3] r (Lh 1 kk46 H39 r)<|A2 5 9 (?_)<|?_
       ·exact Xe [8,8,8,8,8,8,8] r (Cl [] impl_ModelDo_c H47 r r1 ⟨(Oc 6 r),(Oc 7 r),(Oc 8 r),(Oc 9 r),(Oc 2 r),⟨⟩⟩) fun Y63=>Aq [6,7,8] [8,8,8,8,8,8,8] r<|A1 9<|Xe [9,9,9,9,9,9,9] r (Al kz36 r) fun B65=>A1 11<|Xu [9,9,9,9,9,9,9] r (Sb 0 kk36 r (Ca ⟨Op',Op',Ow' 1,Ow' 2,Ow' 3,Ow' 4,⟨⟩⟩) r)<|A1 12<|Xu [9,9,9,9,9,9,9] r (Sb 6 kk41 r (Ca ⟨Op',Op',Op',Ow' 5,⟨⟩⟩) r)<|Az<|Ke (Hs [7, 7] H39 r (Ck (Ck (Ck (Ck (Ck (Ck (Cf Cz))))))))<|Bg (B65, B61, Y63.1, Y63.2.1, Y63.2.2.1, Y63.2.2.2.1, Y63.2.2.2.2) [10,0,7,7,7,7,7,7,0,5,0,0,0,0,0]
       exact Xe [4,4,4,4,4,4,4] r (Al kz36 r) fun B64=>A1 5<|Xe [9,9,9,9,9,9,9] r (Cl [] impl_ModelDo_c H47 r r1 ⟨(Oc 7 r),(Oc 8 r),(Oc 9 r),(Oc 10 r),(Oc 3 r),⟨⟩⟩) fun Y65=>Aq [6,7,8] [9,9,9,9,9,9,9] r<|A1 11<|Xu [9,9,9,9,9,9,9] r (Sb 5 kk36 r (Ca ⟨Op',Op',Ow' 0,Ow' 1,Ow' 2,Ow' 3,⟨⟩⟩) r)<|A1 12<|Xu [9,9,9,9,9,9,9] r (Sb 6 kk41 r (Ca ⟨Op',Op',Op',Ow' 4,⟨⟩⟩) r)<|Az<|Ke (Hs [7, 7] H39 r (Ck (Ck (Ck (Ck (Ck (Ck (Cf Cz))))))))<|Bg (B64, B61, Y65.1, Y65.2.1, Y65.2.2.1, Y65.2.2.2.1, Y65.2.2.2.2) [10,0,7,7,7,7,7,7,5,5,0,0,0,0,0]
      exact Xe [4,4,4,4,4,4,4] r (Al kz36 r) fun B62=>A1 4<|Xy [4,4,4,4,4,4,4] r (Lh 2 kk46 H39 r)<|A1 5<|Xe [9,9,9,9,9,9,9] r (Cl [] impl_ModelDo_c H47 r r1 ⟨(Oc 7 r),(Oc 8 r),(Oc 9 r),(Oc 10 r),(Oc 3 r),⟨⟩⟩) fun Y63=>Aq [6,7,8] [9,9,9,9,9,9,9] r<|A1 11<|Xu [9,9,9,9,9,9,9] r (Sb 5 kk36 r (Ca ⟨Op',Op',Ow' 0,Ow' 1,Ow' 2,Ow' 3,⟨⟩⟩) r)<|A1 12<|Xu [9,9,9,9,9,9,9] r (Sb 6 kk41 r (Ca ⟨Op',Op',Op',Ow' 4,⟨⟩⟩) r)<|Az<|Ke (Hs [7, 7] H39 r (Ck (Ck (Ck (Ck (Ck (Ck (Cf Cz))))))))<|Bg (B62, B61, Y63.1, Y63.2.1, Y63.2.2.1, Y63.2.2.2.1, Y63.2.2.2.2) [10,0,7,7,7,7,7,7,5,5,0,0,0,0,0]
     ·refine Xe [2,2,2,2,2,2,2] r (Al kz36 r) fun B56=>A2 3 10 (?_)<|?_
      ·refine Xy [2,2,2,2,2,2,2] r (Ix ke24 (Oc 1 r) H39 r)<|Ga (X := Value) (Ho 1 [1] H39 r r1) fun X60=>A2 4 10 (?_)<|?_
       ·refine Xy [3,3,3,3,3,3,3] r (Lh 0 kk46 H39 r)<|A2 5 10 (?_)<|?_
        ·exact Xe [8,8,8,8,8,8,8] r (Cl [] impl_ModelDo_c H47 r r1 ⟨(Oc 6 r),(Oc 7 r),(Oc 8 r),(Oc 9 r),(Oc 1 r),⟨⟩⟩) fun Y62=>Aq [6,7,8] [8,8,8,8,8,8,8] r<|A1 10<|Xe [9,9,9,9,9,9,9] r (Al kz41 r) fun B64=>A1 11<|Xu [9,9,9,9,9,9,9] r (Sb 8 kk36 r (Ca ⟨Op',Op',Ow' 1,Ow' 2,Ow' 3,Ow' 4,⟨⟩⟩) r)<|A1 12<|Xu [9,9,9,9,9,9,9] r (Sb 0 kk41 r (Ca ⟨Op',Op',Op',Ow' 5,⟨⟩⟩) r)<|Az<|Ke (Hs [6, 6] H39 r (Ck (Ck (Ck (Ck (Ck (Ck (Cf Cz))))))))<|Bg (B56, B64, Y62.1, Y62.2.1, Y62.2.2.1, Y62.2.2.2.1, Y62.2.2.2.2) [10,0,7,7,7,7,7,7,6,0,0,0,0,0,0]
        exact Xe [4,4,4,4,4,4,4] r (Al kz41 r) fun B63=>A1 5<|Xe [9,9,9,9,9,9,9] r (Cl [] impl_ModelDo_c H47 r r1 ⟨(Oc 7 r),(Oc 8 r),(Oc 9 r),(Oc 10 r),(Oc 2 r),⟨⟩⟩) fun Y64=>Aq [6,7,8] [9,9,9,9,9,9,9] r<|A1 11<|Xu [9,9,9,9,9,9,9] r (Sb 8 kk36 r (Ca ⟨Op',Op',Ow' 0,Ow' 1,Ow' 2,Ow' 3,⟨⟩⟩) r)<|A1 12<|Xu [9,9,9,9,9,9,9] r (Sb 5 kk41 r (Ca ⟨Op',Op',Op',Ow' 4,⟨⟩⟩) r)<|Az<|Ke (Hs [6, 6] H39 r (Ck (Ck (Ck (Ck (Ck (Ck (Cf Cz))))))))<|Bg (B56, B63, Y64.1, Y64.2.1, Y64.2.2.1, Y64.2.2.2.1, Y64.2.2.2.2) [10,0,7,7,7,7,7,7,6,5,0,0,0,0,0]
       exact Xe [4,4,4,4,4,4,4] r (Al kz41 r) fun B61=>A1 4<|Xy [4,4,4,4,4,4,4] r (Lh 1 kk46 H39 r)<|A1 5<|Xe [9,9,9,9,9,9,9] r (Cl [] impl_ModelDo_c H47 r r1 ⟨(Oc 7 r),(Oc 8 r),(Oc 9 r),(Oc 10 r),(Oc 2 r),⟨⟩⟩) fun Y62=>Aq [6,7,8] [9,9,9,9,9,9,9] r<|A1 11<|Xu [9,9,9,9,9,9,9] r (Sb 8 kk36 r (Ca ⟨Op',Op',Ow' 0,Ow' 1,Ow' 2,Ow' 3,⟨⟩⟩) r)<|A1 12<|Xu [9,9,9,9,9,9,9] r (Sb 5 kk41 r (Ca ⟨Op',Op',Op',Ow' 4,⟨⟩⟩) r)<|Az<|Ke (Hs [6, 6] H39 r (Ck (Ck (Ck (Ck (Ck (Ck (Cf Cz))))))))<|Bg (B56, B61, Y62.1, Y62.2.1, Y62.2.2.1, Y62.2.2.2.1, Y62.2.2.2.2) [10,0,7,7,7,7,7,7,6,5,0,0,0,0,0]
      exact Xe [3,3,3,3,3,3,3] r (Al kz41 r) fun B58=>A1 3<|Xy [3,3,3,3,3,3,3] r (Ix ke24 (Oc 2 r) H39 r)<|Ga (X := Value) (Ho 1 [2] H39 r r1) fun X60=>A1 4<|Xy [4,4,4,4,4,4,4] r (Lh 0 kk46 H39 r)<|A1 5<|Xe [9,9,9,9,9,9,9] r (Cl [] impl_ModelDo_c H47 r r1 ⟨(Oc 7 r),(Oc 8 r),(Oc 9 r),(Oc 10 r),(Oc 1 r),⟨⟩⟩) fun Y61=>Aq [6,7,8] [9,9,9,9,9,9,9] r<|A1 11<|Xu [9,9,9,9,9,9,9] r (Sb 8 kk36 r (Ca ⟨Op',Op',Ow' 0,Ow' 1,Ow' 2,Ow' 3,⟨⟩⟩) r)<|A1 12<|Xu [9,9,9,9,9,9,9] r (Sb 7 kk41 r (Ca ⟨Op',Op',Op',Ow' 4,⟨⟩⟩) r)<|Az<|Ke (Hs [5, 5] H39 r (Ck (Ck (Ck (Ck (Ck (Ck (Cf Cz))))))))<|Bg (B56, B58, Y61.1, Y61.2.1, Y61.2.2.1, Y61.2.2.2.1, Y61.2.2.2.2) [10,0,7,7,7,7,7,7,6,5,0,0,0,0,0]
     refine Xe [2,2,2,2,2,2,2] r (Al kz41 r) fun B57=>A2 3 9 (?_)<|?_
     ·refine Xy [2,2,2,2,2,2,2] r (Ix ke24 (Oc 1 r) H39 r)<|Ga (X := Value) (Ho 1 [1] H39 r r1) fun X60=>A2 4 9 (?_)<|?_
      ·refine Xy [3,3,3,3,3,3,3] r (Lh 0 kk46 H39 r)<|A2 5 9 (?_)<|?_
       ·exact Xe [8,8,8,8,8,8,8] r (Cl [] impl_ModelDo_c H47 r r1 ⟨(Oc 6 r),(Oc 7 r),(Oc 8 r),(Oc 9 r),(Oc 1 r),⟨⟩⟩) fun Y62=>Aq [6,7,8] [8,8,8,8,8,8,8] r<|A1 9<|Xe [9,9,9,9,9,9,9] r (Al kz36 r) fun B64=>A1 11<|Xu [9,9,9,9,9,9,9] r (Sb 0 kk36 r (Ca ⟨Op',Op',Ow' 1,Ow' 2,Ow' 3,Ow' 4,⟨⟩⟩) r)<|A1 12<|Xu [9,9,9,9,9,9,9] r (Sb 8 kk41 r (Ca ⟨Op',Op',Op',Ow' 5,⟨⟩⟩) r)<|Az<|Ke (Hs [6, 6] H39 r (Ck (Ck (Ck (Ck (Ck (Ck (Cf Cz))))))))<|Bg (B64, B57, Y62.1, Y62.2.1, Y62.2.2.1, Y62.2.2.2.1, Y62.2.2.2.2) [10,0,7,7,7,7,7,7,0,5,0,0,0,0,0]
       exact Xe [4,4,4,4,4,4,4] r (Al kz36 r) fun B63=>A1 5<|Xe [9,9,9,9,9,9,9] r (Cl [] impl_ModelDo_c H47 r r1 ⟨(Oc 7 r),(Oc 8 r),(Oc 9 r),(Oc 10 r),(Oc 2 r),⟨⟩⟩) fun Y64=>Aq [6,7,8] [9,9,9,9,9,9,9] r<|A1 11<|Xu [9,9,9,9,9,9,9] r (Sb 5 kk36 r (Ca ⟨Op',Op',Ow' 0,Ow' 1,Ow' 2,Ow' 3,⟨⟩⟩) r)<|A1 12<|Xu [9,9,9,9,9,9,9] r (Sb 8 kk41 r (Ca ⟨Op',Op',Op',Ow' 4,⟨⟩⟩) r)<|Az<|Ke (Hs [6, 6] H39 r (Ck (Ck (Ck (Ck (Ck (Ck (Cf Cz))))))))<|Bg (B63, B57, Y64.1, Y64.2.1, Y64.2.2.1, Y64.2.2.2.1, Y64.2.2.2.2) [10,0,7,7,7,7,7,7,5,5,0,0,0,0,0]
      exact Xe [4,4,4,4,4,4,4] r (Al kz36 r) fun B61=>A1 4<|Xy [4,4,4,4,4,4,4] r (Lh 1 kk46 H39 r)<|A1 5<|Xe [9,9,9,9,9,9,9] r (Cl [] impl_ModelDo_c H47 r r1 ⟨(Oc 7 r),(Oc 8 r),(Oc 9 r),(Oc 10 r),(Oc 2 r),⟨⟩⟩) fun Y62=>Aq [6,7,8] [9,9,9,9,9,9,9] r<|A1 11<|Xu [9,9,9,9,9,9,9] r (Sb 5 kk36 r (Ca ⟨Op',Op',Ow' 0,Ow' 1,Ow' 2,Ow' 3,⟨⟩⟩) r)<|A1 12<|Xu [9,9,9,9,9,9,9] r (Sb 8 kk41 r (Ca ⟨Op',Op',Op',Ow' 4,⟨⟩⟩) r)<|Az<|Ke (Hs [6, 6] H39 r (Ck (Ck (Ck (Ck (Ck (Ck (Cf Cz))))))))<|Bg (B61, B57, Y62.1, Y62.2.1, Y62.2.2.1, Y62.2.2.2.1, Y62.2.2.2.2) [10,0,7,7,7,7,7,7,5,5,0,0,0,0,0]
     exact Xe [3,3,3,3,3,3,3] r (Al kz36 r) fun B58=>A1 3<|Xy [3,3,3,3,3,3,3] r (Ix ke24 (Oc 2 r) H39 r)<|Ga (X := Value) (Ho 1 [2] H39 r r1) fun X60=>A1 4<|Xy [4,4,4,4,4,4,4] r (Lh 0 kk46 H39 r)<|A1 5<|Xe [9,9,9,9,9,9,9] r (Cl [] impl_ModelDo_c H47 r r1 ⟨(Oc 7 r),(Oc 8 r),(Oc 9 r),(Oc 10 r),(Oc 1 r),⟨⟩⟩) fun Y61=>Aq [6,7,8] [9,9,9,9,9,9,9] r<|A1 11<|Xu [9,9,9,9,9,9,9] r (Sb 7 kk36 r (Ca ⟨Op',Op',Ow' 0,Ow' 1,Ow' 2,Ow' 3,⟨⟩⟩) r)<|A1 12<|Xu [9,9,9,9,9,9,9] r (Sb 8 kk41 r (Ca ⟨Op',Op',Op',Ow' 4,⟨⟩⟩) r)<|Az<|Ke (Hs [5, 5] H39 r (Ck (Ck (Ck (Ck (Ck (Ck (Cf Cz))))))))<|Bg (B58, B57, Y61.1, Y61.2.1, Y61.2.2.1, Y61.2.2.2.1, Y61.2.2.2.2) [10,0,7,7,7,7,7,7,5,5,0,0,0,0,0]
    refine Ne<|Sq<|Sq<|Jb Unit [5,6,7,8,9,10,11,12] [0,7,0,0,0,0,0,0,0,1,1,1,1] (fun T _=>[(95, .bool T)]) (fun _ _=>[]) r2 r2 (?_) fun T58 X59=>?_
    ·refine Dr [0,0,0,0,0,0,0,0,0,0,0,0,0,0,0] r hMix<|Ay 0 [0,0,0,0,0,0,0,0,0,0,0,0,0,0,0] r (Fb kf41_0 r)<|Ay 1 [0,0,0,0,0,0,0,0,0,0,0,0,0,0,0] r (Lb 9 kk3 r)<|Aq [2,3] [0,0,0,0,0,0,0,0,0,0,0,0,0,0,0] r<|Ai fun E60 H61=>Ay 4 [0,0,0,0,0,0,0,0,0,0,0,0,0,0,0] r (Ix ke28 (Oc 2 r) H61 r)<|Ay 5 [0,0,0,0,0,0,0,0,0,0,0,0,0,0,0] r (Fe kf41_0 (Oc 2 r) H61 r)<|Ay 6 [0,0,0,0,0,0,0,0,0,0,0,0,0,0,0] r (Le kk3 (Oc 2 r) H61 r)<|Aq [7,8] [0,0,0,0,0,0,0,0,0,0,0,0,0,0,0] r<|Ia (fun H62=>Ax [9,10,11,12,13,14,15,16] [0,0,0,0,0,0,0,0,0,0,0,0,0,0,0] (beq_tf H62) r r<|Ay 17 [0,0,0,0,0,0,0,0,0,0,0,0,0,0,0] r (Pt H62 r)<|Az<|Bg () [0,7,0,0,0,0,0,0,0,1,1,1,1]) fun H62=>?_
     exact Ag 9 [0,0,0,0,0,0,0,0,0,0,0,0,0,0,0] (gdA (beq_ff H62)) r (Fb kf41_1 r)<|Ag 10 [0,0,0,0,0,0,0,0,0,0,0,0,0,0,0] (gdA (beq_ff H62)) r (Lb 9 kk3 r)<|Ag 11 [0,0,0,0,0,0,0,0,0,0,0,0,0,0,0] (gdA (beq_ff H62)) r (Y.move r)<|Ag 12 [0,0,0,0,0,0,0,0,0,0,0,0,0,0,0] (gdA (beq_ff H62)) r (Y.move r)<|Ag 13 [0,0,0,0,0,0,0,0,0,0,0,0,0,0,0] (gdA (beq_ff H62)) r (Ix ke28 (Oc 2 r) H61 r)<|Ag 14 [0,0,0,0,0,0,0,0,0,0,0,0,0,0,0] (gdA (beq_ff H62)) r (Fe kf41_1 (Oc 2 r) H61 r)<|Ag 15 [0,0,0,0,0,0,0,0,0,0,0,0,0,0,0] (gdA (beq_ff H62)) r (Le kk3 (Oc 2 r) H61 r)<|Ag 16 [0,0,0,0,0,0,0,0,0,0,0,0,0,0,0] (gdA (beq_ff H62)) r (Y.neq r r)<|Ay 17 [0,0,0,0,0,0,0,0,0,0,0,0,0,0,0] r (Pf H62 r)<|Az<|Bg () [0,7,0,0,0,0,0,0,0,1,1,1,1]
    exact Ne<|Wc r (fun H63=>Sr<|Qs 1 r<|Nx<|Wr<|Tr<|Br<|Tr<|Er<|Br<|Jd<|Tr<|Re () []) fun H63=>Sn<|Rg<|Yo (Lb 1 kk36 r)<|Fu (Sb 0 kk36 r (Ca ⟨Op',Op',Ow' 9,Ow' 10,Ow' 11,Ow' 12,⟨⟩⟩) r)<|Nl<|Bn<|Ne<|Rg<|Qs 3 r<|Nl<|Lg (X55.2.2.1, X55.2.2.2.1, X55.2.2.2.2.1, X55.2.2.2.2.2.1) [2,2,2,0,5,5,5,5]
   exact Wx<|Tx<|Ex<|Be<|Jg () [0,0,0]
  refine Ne<|Sq<|Jb Unit [] [] (fun T _=>[(2, .bool T)]) (fun _ _=>[]) r2 r2 (?_) fun T64 X65=>?_
  ·refine Rg<|Qs 2 r<|It (fun H66=>?_) fun H66=>?_
   ·refine Qg 1 (beq_tt H66) r r<|Yg (gdA (beq_tt H66)) (Ln ke28 (Oc 1 r) r)<|Qg 1 (beq_tt H66) r r<|Yg (gdA (beq_tt H66)) (Ln ke24 (Oc 0 r) r)<|Qg 1 (beq_tt H66) r r<|Yo (Pt H66 r)<|Qs 1 r<|It (fun H67=>?_) fun H67=>?_
    ·exact Qg 2 (beq_tt H67) r r<|Bi fun E68 H69=>Yg (gdA (beq_tt H67)) (Y.subs H69 ke28 (Oc 1 r) r r ⟨_, r⟩)<|Qg 1 (beq_tt H67) r r<|Bi fun R70 H71=>Fg (gdA (beq_tt H67)) (Cl [] laws_sameReplies_c H71 r r1 ⟨(Can.sub H69 rfl (Oc 1 r)),(Oc 2 r),⟨⟩⟩) fun _=>Yo (Pt H67 r)<|Qs 1 r<|Nl<|Bg () []
    exact Of 5 (beq_ft H67) r r<|Yo (Pf H67 r)<|Qs 1 r<|Nl<|Bg () []
   exact Of 5 (beq_ft H66) r r<|Yo (Pf H66 r)<|Qs 1 r<|Of 5 r r r<|Yo (Pf r r)<|Qs 1 r<|Nl<|Bg () []
  exact Ne<|Wr<|Re () []
end Go.Proofs.YtmigafjpdoeicaaGreat
